/-
  A region that draws its order and stores into blocks of the call's own: one walk in the text's order serves every order. The blocks are told as a function of which operations have come up. No condition of its own.
-/
import Derived.Test.YtlhchjjegaflhaaSlice
set_option linter.unusedVariables false
set_option linter.unusedSimpArgs false
namespace Go.Proofs.Ytlhchjjegaflhaa
open Go.RowKit
section
variable {P : Program} {ops : Array Oper} {w0 : World} {F : Array Bool → List Blk}
/-- What has come up is closed under what had to come up before. -/
structure Closed (ops : Array Oper) (L : Array Bool) : Prop where
  size : L.size = ops.size
  out : ∀ (j : Nat) (o : Oper), ops[j]? = some o → L.getD j false = true → ∀ e ∈ o.after, Region.binds Region.Mode.any e = true → L.getD e.on false = true

def famUpon (P : Program) (C : World → Prop) (v : Value) : Result Next → Prop
  | .ok (.value u) w' => u = v ∧ C w'
  | .ok .skip w' => v = undef ∧ C w'
  | .ok (.enter f args) w' => Calls P f args w' (fun e w'' => e = .returned v ∧ C w'')
  | _ => False
/-- Operation number i yields v in state a, whatever has come up before it, and moves the blocks on. -/
def YF (P : Program) (ops : Array Oper) (w0 : World) (F : Array Bool → List Blk) (i : Nat) (o : Oper) (v : Value) (a : Act) : Prop :=
  (Region.wanted o (yielded ops a.tmps) = true ∧ ∀ L w, L.getD i true = false → Closed ops L → Mem w0 w (F L) → famUpon P (fun w' => Mem w0 w' (F (L.setIfInBounds i true))) v ((execOp a.eval o).run P w)) ∨
  (Region.wanted o (yielded ops a.tmps) = false ∧ v = undef ∧ ∀ L, F (L.setIfInBounds i true) = F L)
def fOp (P : Program) (ops : Array Oper) (w0 : World) (F : Array Bool → List Blk) (i : Nat) (K : Act → Prop) (a : Act) : Prop :=
  match ops[i]? with
  | none => K a
  | some o => ∃ v, YF P ops w0 F i o v a ∧ K (a.put o.dst v)
theorem fOp_mono {i : Nat} {a : Act} {K K' : Act → Prop} (h : ∀ a, K a → K' a) (hh : fOp P ops w0 F i K a) : fOp P ops w0 F i K' a := by
  unfold fOp at *
  cases ho : ops[i]? with
  | none => simp only [ho] at hh ⊢; exact h _ hh
  | some o => simp only [ho] at hh ⊢; obtain ⟨v, h1, h2⟩ := hh; exact ⟨v, h1, h _ h2⟩
/-- Whatever order is picked from here on. -/
def wpAnyF (P : Program) (ops : Array Oper) (w0 : World) (F : Array Bool → List Blk) (Q : Array Bool → Act → Prop) : Nat → Array Bool → Act → Prop
  | 0, L, a => Region.ready Region.Mode.any ops L = [] ∧ Q L a
  | fuel + 1, L, a => (Region.ready Region.Mode.any ops L = [] → Q L a) ∧ ∀ i ∈ Region.ready Region.Mode.any ops L, fOp P ops w0 F i (wpAnyF P ops w0 F Q fuel (L.setIfInBounds i true)) a
theorem ready_some {L : Array Bool} {i : Nat} (h : i ∈ Region.ready Region.Mode.any ops L) : L.getD i true = false ∧ ∃ o, ops[i]? = some o := by
  obtain ⟨h1, o, h2, _⟩ := mem_ready.1 h
  exact ⟨h1, o, h2⟩
theorem Closed.step {L : Array Bool} (h : Closed ops L) {i : Nat} (hi : i ∈ Region.ready Region.Mode.any ops L) : Closed ops (L.setIfInBounds i true) := by
  obtain ⟨h1, o, h2, hall⟩ := mem_ready.1 hi
  have up : ∀ k, L.getD k false = true → (L.setIfInBounds i true).getD k false = true := fun k hk => by
    by_cases hik : i = k
    · subst hik
      have : i < L.size := by
        rcases Nat.lt_or_ge i L.size with h | h
        · exact h
        · simp [Array.getElem?_eq_none h] at hk
      simp [Array.getElem?_setIfInBounds, this]
    · rw [getD_set_ne false hik]; exact hk
  refine ⟨by simpa using h.size, fun j oj hj hd e he hb => ?_⟩
  by_cases hij : i = j
  · subst hij
    rw [h2] at hj
    cases hj
    exact up _ (hall e he hb)
  · rw [getD_set_ne false hij] at hd
    exact up _ (h.out j oj hj hd e he hb)
theorem Closed.start : Closed ops (Array.replicate ops.size false) := ⟨by simp, fun j o ho hd => by
  rcases Nat.lt_or_ge j ops.size with h | h
  · simp [h] at hd
  · simp [Array.getElem?_eq_none (xs := Array.replicate ops.size false) (i := j) (by simpa using h)] at hd⟩
theorem wpAny_of_fam {Q : Array Bool → Act → Prop} {Q' : Exit → Act → World → Prop} (hQ : ∀ L a w, Mem w0 w (F L) → Q L a → Q' .normal a w) : ∀ (fuel : Nat) (L : Array Bool) (a : Act) (w : World), Closed ops L → Mem w0 w (F L) →
    wpAnyF P ops w0 F Q fuel L a → wpAny P Region.Mode.any ops Q' fuel L a w
  | 0, _, _, _, _, hw, h => ⟨h.1, hQ _ _ _ hw h.2⟩
  | fuel + 1, L, a, w, hcl, hw, h => ⟨fun h0 => hQ _ _ _ hw (h.1 h0), fun i hi => by
      obtain ⟨hL, o, ho⟩ := ready_some hi
      have hcl' := hcl.step hi
      have h1 := h.2 i hi
      unfold fOp at h1
      unfold wpOp
      simp only [ho] at h1 ⊢
      obtain ⟨v, hy, hK⟩ := h1
      rcases hy with ⟨hwn, hv⟩ | ⟨hwn, rfl, hF⟩
      · rw [if_pos hwn]
        refine .inl ?_
        have h2 := hv L w hL hcl hw
        unfold Oper.wp
        generalize (execOp a.eval o).run P w = r at h2
        cases r with
        | ok n w' =>
          cases n <;> simp only [famUpon] at h2 <;> simp only [Oper.upon]
          case value u => obtain ⟨rfl, h3⟩ := h2; exact wpAny_of_fam hQ fuel _ _ _ hcl' h3 hK
          case skip => obtain ⟨rfl, h3⟩ := h2; exact wpAny_of_fam hQ fuel _ _ _ hcl' h3 hK
          case enter f args => exact h2.mono fun e w'' ⟨he, h3⟩ => by subst he; exact wpAny_of_fam hQ fuel _ _ _ hcl' h3 hK
        | halt x w' => simp only [famUpon] at h2
      · rw [if_neg (by simp [hwn])]
        exact wpAny_of_fam hQ fuel _ _ _ hcl' (by rw [hF]; exact hw) hK⟩
theorem YF.of_same {i : Nat} {o : Oper} {v : Value} {a a' : Act} (hy : YF P ops w0 F i o v a) (he : execOp a'.eval o = execOp a.eval o) (hw : Region.wanted o (yielded ops a'.tmps) = Region.wanted o (yielded ops a.tmps)) : YF P ops w0 F i o v a' := by
  unfold YF at *
  rw [he, hw]
  exact hy
theorem fOp_put {i j : Nat} {oi oj : Oper} {v : Value} (hj : ops[j]? = some oj) (hap : oi.apart ops oj = true) (hsi : ∀ cs b, oi.op ≠ .select cs b) (hsj : ∀ cs b, oj.op ≠ .select cs b) {K : Act → Prop} {a : Act}
    (hy : YF P ops w0 F i oi v a) (h : fOp P ops w0 F j K (a.put oi.dst v)) : fOp P ops w0 F j (fun a' => YF P ops w0 F i oi v a' ∧ K (a'.put oi.dst v)) a := by
  obtain ⟨h1, h2, h3⟩ := Oper.apart_spec hap
  unfold fOp at *
  simp only [hj] at *
  obtain ⟨u, hu, hn⟩ := h
  refine ⟨u, hu.of_same (execOp_put oj hsj a oi.dst v h1).symm (wanted_put oj a oi.dst v h1).symm, hy.of_same (execOp_put oi hsi a oj.dst u h3) (wanted_put oi a oj.dst u h3), ?_⟩
  rw [← Act.put_comm a v u h2]
  exact hn
theorem wpAnyF_first {Q : Array Bool → Act → Prop} {i : Nat} {oi : Oper} {v : Value} (hi : ops[i]? = some oi) (hsel : ∀ (j : Nat) (o : Oper) cs b, ops[j]? = some o → o.op ≠ .select cs b) :
    ∀ (fuel : Nat) (L : Array Bool) (a : Act), (∀ j oj, ops[j]? = some oj → j ≠ i → L.getD j true = false → (∀ e ∈ oj.after, Region.binds Region.Mode.any e = true → e.on ≠ i) → oi.apart ops oj = true) →
      i ∈ Region.ready Region.Mode.any ops L → YF P ops w0 F i oi v a → wpAnyF P ops w0 F Q fuel (L.setIfInBounds i true) (a.put oi.dst v) → wpAnyF P ops w0 F Q (fuel + 1) L a := by
  intro fuel
  induction fuel with
  | zero =>
    intro L a _ hr hy H
    refine ⟨fun h => (by rw [h] at hr; cases hr), fun j hj => ?_⟩
    by_cases hji : j = i
    · subst hji; unfold fOp; simp only [hi]; exact ⟨v, hy, H⟩
    · have := ready_mono hj hji
      rw [H.1] at this
      cases this
  | succ fuel ih =>
    intro L a hfree hr hy H
    refine ⟨fun h => (by rw [h] at hr; cases hr), fun j hj => ?_⟩
    by_cases hji : j = i
    · subst hji; unfold fOp; simp only [hi]; exact ⟨v, hy, H⟩
    · obtain ⟨hjun, oj, hoj, hall⟩ := mem_ready.1 hj
      have hnot : ∀ e ∈ oj.after, Region.binds Region.Mode.any e = true → e.on ≠ i := fun e he hb heq => by
        have g1 := hall e he hb
        have g0 := (mem_ready.1 hr).1
        rw [heq] at g1
        rcases Nat.lt_or_ge i L.size with h' | h'
        · simp [h'] at g0 g1; rw [g0] at g1; cases g1
        · simp [Array.getElem?_eq_none h'] at g1
      have h2 := fOp_put hoj (hfree j oj hoj hji hjun hnot) (fun cs b => hsel i oi cs b hi) (fun cs b => hsel j oj cs b hoj) hy (H.2 j (ready_mono hj hji))
      have hfree' : ∀ k ok, ops[k]? = some ok → k ≠ i → (L.setIfInBounds j true).getD k true = false → (∀ e ∈ ok.after, Region.binds Region.Mode.any e = true → e.on ≠ i) → oi.apart ops ok = true := fun k ok hk hki hun hno => by
        refine hfree k ok hk hki ?_ hno
        by_cases hjk : j = k
        · subst hjk; exact hjun
        · rw [getD_set_ne true hjk] at hun; exact hun
      refine fOp_mono (fun a' h3 => ih (L.setIfInBounds j true) a' hfree' (ready_mono hr (Ne.symm hji)) h3.1 ?_) h2
      rw [Array.setIfInBounds_comm _ _ hji]
      exact h3.2
/-- The walk in the text's order. -/
def wpF (P : Program) (ops : Array Oper) (w0 : World) (F : Array Bool → List Blk) (Q : Act → Prop) : Nat → List Oper → Act → Prop
  | _, [], a => Q a
  | k, o :: rest, a => ∃ v, YF P ops w0 F k o v a ∧ wpF P ops w0 F Q (k + 1) rest (a.put o.dst v)
def fin (n : Nat) : Nat → Array Bool
  | 0 => Array.replicate n false
  | k + 1 => (fin n k).setIfInBounds k true
theorem wpAnyF_lex {Q : Array Bool → Act → Prop} (hs : Region.noSelect ops = true) : ∀ (l : List Oper) (k : Nat) (a : Act), (∀ j, l[j]? = ops[k + j]?) →
    Region.lexFrom Region.Mode.any ops l.length k (fin ops.size k) = true → wpF P ops w0 F (Q (fin ops.size (k + l.length))) k l a → wpAnyF P ops w0 F Q l.length (fin ops.size k) a
  | [], k, a, _, hB, h => ⟨by simpa [Region.lexFrom] using hB, by simpa [wpF] using h⟩
  | o :: l, k, a, hl, hB, h => by
    have h0 : ops[k]? = some o := by simpa using (hl 0).symm
    simp only [List.length_cons, Region.lexFrom, Bool.and_eq_true] at hB
    obtain ⟨⟨hr, hf⟩, hB'⟩ := hB
    obtain ⟨v, hy, hK⟩ := h
    refine wpAnyF_first h0 (Region.noSelect_spec hs) l.length _ a (Region.free_spec h0 hf) (by simpa using hr) hy ?_
    refine wpAnyF_lex hs l (k + 1) _ (fun j => by have := hl (j + 1); simpa [Nat.add_assoc, Nat.add_comm 1 j] using this) hB' ?_
    rw [show k + 1 + l.length = k + (o :: l).length from by simp; omega]
    exact hK
theorem wp_region_fam {id : Nat} {Q : Exit → Act → World → Prop} {a : Act} {w : World} {l : List Oper} (hm : Mem w0 w (F (fin l.length 0))) (hx : P.follows .mixedOrders = true) (hB : Region.lexB .any l.toArray = true)
    (h : wpF P l.toArray w0 F (fun a' => ∀ w', Mem w0 w' (F (fin l.length l.length)) → Q .normal a' w') 0 l a) : (Code.region id l.toArray true).wp P Q a w := by
  simp only [Region.lexB, Bool.and_eq_true] at hB
  refine wp_region_any hx (wpAny_of_fam (w0 := w0) (F := F) (Q := fun L a' => ∀ w', Mem w0 w' (F L) → Q .normal a' w') (fun L a w' hw' h => h w' hw') _ _ _ _ Closed.start hm.drew ?_)
  have := wpAnyF_lex (P := P) (w0 := w0) (F := F) (Q := fun L a' => ∀ w', Mem w0 w' (F L) → Q .normal a' w') hB.1 l 0 a (by simp) hB.2 (by simpa using h)
  exact this
theorem fin_get (n : Nat) : ∀ k j, j < k → j < n → (fin n k).getD j true = true
  | 0, j, h, _ => by omega
  | k + 1, j, h, hn => by
    unfold fin
    by_cases hj : k = j
    · subst hj
      have hs : ∀ k, (fin n k).size = n := fun k => by induction k <;> simp_all [fin]
      simp [Array.getElem?_setIfInBounds, hs, hn]
    · rw [getD_set_ne true hj]; exact fin_get n k j (by omega) hn
theorem fin_zero (n j : Nat) (h : j < n) : (fin n 0).getD j true = false := by simp [fin, h]
/-! the stores of a region: each into a block of its own -/
def modB : List Blk → Nat → List Value → List Blk
  | [], _, _ => []
  | b :: σ, 0, c => ⟨b.n, c, b.t⟩ :: σ
  | b :: σ, i + 1, c => b :: modB σ i c
def fam (σ : List Blk) : List (Nat × Nat × List Value) → Array Bool → List Blk
  | [], _ => σ
  | s :: r, L => if L.getD s.1 true = true then modB (fam σ r L) s.2.1 s.2.2 else fam σ r L
def famEnd (σ : List Blk) : List (Nat × Nat × List Value) → List Blk
  | [] => σ
  | s :: r => modB (famEnd σ r) s.2.1 s.2.2
theorem ex_any {p : Prop} (h : p) : ∃ _ : Value, p := ⟨undef, h⟩
theorem set_iv (l : List Int) (i : Nat) (x : Int) : (l.map iv).set i (iv x) = (l.set i x).map iv := by rw [List.map_set]
theorem Mem.sig {w0 w : World} {σ : List Blk} (hm : Mem w0 w σ) : ∃ τ, τ = σ ∧ Mem w0 w τ := ⟨σ, rfl, hm⟩
theorem modB_get : ∀ (σ : List Blk) (i j : Nat) (c : List Value), i ≠ j → (modB σ i c)[j]? = σ[j]?
  | [], _, _, _, _ => rfl
  | b :: σ, 0, 0, c, h => absurd rfl h
  | b :: σ, 0, j + 1, c, _ => by simp [modB]
  | b :: σ, i + 1, 0, c, _ => by simp [modB]
  | b :: σ, i + 1, j + 1, c, h => by simpa [modB] using modB_get σ i j c (by omega)
theorem modB_set : ∀ (σ : List Blk) (i n : Nat) (c c' : List Value) (t : TypeId), σ[i]? = some ⟨n, c, t⟩ → σ.set i ⟨n, c', t⟩ = modB σ i c'
  | [], i, _, _, _, _, h => by simp at h
  | b :: σ, 0, n, c, c', t, h => by simp at h; subst h; rfl
  | b :: σ, i + 1, n, c, c', t, h => by simpa [modB] using modB_set σ i n c c' t (by simpa using h)
theorem modB_comm : ∀ (σ : List Blk) (i j : Nat) (c d : List Value), i ≠ j → modB (modB σ i c) j d = modB (modB σ j d) i c
  | [], _, _, _, _, _ => rfl
  | b :: σ, 0, 0, c, d, h => absurd rfl h
  | b :: σ, 0, j + 1, c, d, _ => rfl
  | b :: σ, i + 1, 0, c, d, _ => rfl
  | b :: σ, i + 1, j + 1, c, d, h => by simp only [modB]; rw [modB_comm σ i j c d (by omega)]
theorem fam_get (σ : List Blk) (j : Nat) (L : Array Bool) : ∀ (st : List (Nat × Nat × List Value)), (st.all fun s => s.2.1 != j) = true → (fam σ st L)[j]? = σ[j]?
  | [], _ => rfl
  | s :: r, h => by
    simp only [List.all_cons, Bool.and_eq_true, bne_iff_ne, ne_eq] at h
    unfold fam
    split
    · rw [modB_get _ _ _ _ h.1, fam_get σ j L r h.2]
    · exact fam_get σ j L r h.2
theorem fam_other (σ : List Blk) (k : Nat) (L : Array Bool) : ∀ (st : List (Nat × Nat × List Value)), (st.all fun s => s.1 != k) = true → fam σ st (L.setIfInBounds k true) = fam σ st L
  | [], _ => rfl
  | s :: r, h => by
    simp only [List.all_cons, Bool.and_eq_true, bne_iff_ne, ne_eq] at h
    unfold fam
    rw [fam_other σ k L r h.2, getD_set_ne true (Ne.symm h.1)]
theorem fam_get2 (σ : List Blk) (j : Nat) (L : Array Bool) : ∀ (st : List (Nat × Nat × List Value)), (∀ s ∈ st, s.2.1 ≠ j ∨ L.getD s.1 true = false) → (fam σ st L)[j]? = σ[j]?
  | [], _ => rfl
  | s :: r, h => by
    unfold fam
    split
    · rename_i hs
      have h1 := h s (by simp)
      rw [hs] at h1
      rw [modB_get _ _ _ _ (by simpa using h1), fam_get2 σ j L r (fun x hx => h x (by simp [hx]))]
    · exact fam_get2 σ j L r (fun x hx => h x (by simp [hx]))
/-- The store number s waits for number k. -/
def waits (ops : Array Oper) (s k : Nat) : Bool := match ops[s]? with
  | some o => o.after.toList.any fun e => e.on == k && Region.binds Region.Mode.any e
  | none => false
theorem waits_spec {L : Array Bool} (hc : Closed ops L) {s k : Nat} (h : waits ops s k = true) (hk : L.getD k true = false) : L.getD s true = false := by
  unfold waits at h
  cases ho : ops[s]? with
  | none => simp [ho] at h
  | some o =>
    simp only [ho, List.any_eq_true, Bool.and_eq_true, beq_iff_eq] at h
    obtain ⟨q, hq, h1, h2⟩ := h
    have hs : s < L.size := by rw [hc.size]; exact (Array.getElem?_eq_some_iff.1 ho).1
    cases hd : L.getD s true with
    | false => rfl
    | true =>
      have hd' : L.getD s false = true := by simpa [hs] using hd
      have := hc.out s o ho hd' q (by simpa using hq) h2
      rw [h1] at this
      have hkl : k < L.size := by
        rcases Nat.lt_or_ge k L.size with h | h
        · exact h
        · simp [Array.getElem?_eq_none h] at hk
      simp [hkl] at this hk
      rw [hk] at this
      cases this
theorem fam_load (σ : List Blk) (j k : Nat) {L : Array Bool} (st : List (Nat × Nat × List Value)) (hc : Closed ops L) (hk : L.getD k true = false) (h : (st.all fun s => s.2.1 != j || waits ops s.1 k) = true) : (fam σ st L)[j]? = σ[j]? :=
  fam_get2 σ j L st fun s hs => by
    have := List.all_eq_true.1 h s hs
    simp only [Bool.or_eq_true, bne_iff_ne, ne_eq] at this
    exact this.imp id fun h => waits_spec hc h hk
/-- A store comes up: its block is as the family tells it behind. -/
theorem fam_store (σ : List Blk) (k i n : Nat) (c c' : List Value) (t : TypeId) (L : Array Bool) (hk : L.getD k true = false) (hc : σ[i]? = some ⟨n, c, t⟩) : ∀ (st : List (Nat × Nat × List Value)), (st.find? fun s => s.1 == k) = some (k, i, c') →
    (st.filter fun s => s.1 == k).length = 1 → (st.filter fun s => s.2.1 == i).length = 1 → (fam σ st L)[i]? = some ⟨n, c, t⟩ ∧ (fam σ st L).set i ⟨n, c', t⟩ = fam σ st (L.setIfInBounds k true)
  | [], h, _, _ => by simp at h
  | s :: r, h, h1, h2 => by
    have hks : k < L.size := by
      rcases Nat.lt_or_ge k L.size with h | h
      · exact h
      · simp [Array.getElem?_eq_none h] at hk
    by_cases hs : s.1 = k
    · have e : s = (k, i, c') := by simpa [List.find?_cons, hs] using h
      subst e
      have hr1 : (r.all fun s => s.1 != k) = true := by
        have h1' : (r.filter fun s => s.1 == k) = [] := by simpa using h1
        rw [List.all_eq_true]
        intro x hx
        have := List.filter_eq_nil_iff.1 h1' x hx
        simpa using this
      have hr2 : (r.all fun s => s.2.1 != i) = true := by
        have h2' : (r.filter fun s => s.2.1 == i) = [] := by simpa using h2
        rw [List.all_eq_true]
        intro x hx
        have := List.filter_eq_nil_iff.1 h2' x hx
        simpa using this
      have e1 : fam σ ((k, i, c') :: r) L = fam σ r L := by rw [fam, if_neg (by simp only [hk]; simp)]
      have e2 : fam σ ((k, i, c') :: r) (L.setIfInBounds k true) = modB (fam σ r L) i c' := by
        rw [fam, if_pos (by simp [Array.getElem?_setIfInBounds, hks]), fam_other σ k L r hr1]
      rw [e1, e2]
      have g := (fam_get σ i L r hr2).trans hc
      exact ⟨g, modB_set _ _ _ _ _ _ g⟩
    · have hne : (s.1 == k) = false := by simpa using hs
      have hf : (r.find? fun s => s.1 == k) = some (k, i, c') := by simpa [List.find?_cons, hne] using h
      have h1' : (r.filter fun s => s.1 == k).length = 1 := by simpa [List.filter_cons, hne] using h1
      have hmem : (k, i, c') ∈ r := List.mem_of_find?_eq_some hf
      have hsi : s.2.1 ≠ i := by
        intro hsi
        have : (r.filter fun s => s.2.1 == i) = [] := by simpa [List.filter_cons, hsi] using h2
        have := List.filter_eq_nil_iff.1 this _ hmem
        simp at this
      have h2' : (r.filter fun s => s.2.1 == i).length = 1 := by simpa [List.filter_cons, hsi] using h2
      obtain ⟨g1, g2⟩ := fam_store σ k i n c c' t L hk hc r hf h1' h2'
      unfold fam
      rw [getD_set_ne true (Ne.symm hs)]
      split
      · refine ⟨by rw [modB_get _ _ _ _ hsi]; exact g1, ?_⟩
        have g3 : (modB (fam σ r L) s.2.1 s.2.2)[i]? = some ⟨n, c, t⟩ := by rw [modB_get _ _ _ _ hsi]; exact g1
        rw [modB_set _ _ _ _ _ _ g3, modB_comm _ _ _ _ _ hsi, ← modB_set _ _ _ _ _ _ g1, g2]
      · exact ⟨g1, g2⟩
theorem fam_zero (σ : List Blk) (n : Nat) : ∀ (st : List (Nat × Nat × List Value)), (st.all fun s => decide (s.1 < n)) = true → fam σ st (fin n 0) = σ
  | [], _ => rfl
  | s :: r, h => by
    simp only [List.all_cons, Bool.and_eq_true, decide_eq_true_eq] at h
    unfold fam
    rw [fin_zero n _ h.1, if_neg (by simp), fam_zero σ n r h.2]
theorem fam_fin (σ : List Blk) (n : Nat) : ∀ (st : List (Nat × Nat × List Value)), (st.all fun s => decide (s.1 < n)) = true → fam σ st (fin n n) = famEnd σ st
  | [], _ => rfl
  | s :: r, h => by
    simp only [List.all_cons, Bool.and_eq_true, decide_eq_true_eq] at h
    unfold fam famEnd
    rw [fin_get n n _ h.1 h.1, if_pos rfl, fam_fin σ n r h.2]
end
section
variable {P : Program} {o : Oper} {a : Act} {w0 w : World} {σ : List Blk} {n i : Nat} {c : List Value} {t : TypeId}
theorem wp_of_store {T : TypeId} {x y : Operand} {off : Nat} {v : Value} [hT : CellSize P T] (hm : Mem w0 w σ) (ho : o.op = .store T x y) (hx : ev a x = some (.pointer (some ⟨n, off, none⟩))) (hy : ev a y = some v) (h1 : v.oneCell' = true)
    (hh : σ[i]? = some ⟨n, c, t⟩) (hl : off < c.length) : famUpon P (fun w' => Mem w0 w' (σ.set i ⟨n, c.set off v, t⟩)) undef ((execOp a.eval o).run P w) := by
  replace hx := ev_eval hx
  replace hy := ev_eval hy
  have hcell : ∃ u, w.cell? ⟨n, off, none⟩ = some u := ⟨_, (hm.cell (.of hh) off).trans (List.getElem?_eq_getElem hl)⟩
  obtain ⟨u, hcu⟩ := hcell
  have hfz := hm.frozen (.of hh) off
  have hr : (Instr.storeAt T (.pointer (some ⟨n, off, none⟩)) v).run P w = .ok () (w.setCell ⟨n, off, none⟩ v) := by
    have hsz : v.cells = #[v] := by cases v <;> simp_all [Value.cells, Value.oneCell']
    have hi := hT.size
    cases hq : P.info? T with
    | none => simp [hq] at hi
    | some i =>
      have hi' : i.size = 1 := by simpa [hq] using hi
      simp only [Instr.storeAt, Instr.sureAddr, Sem.run_bind, Sem.run_pure, Result.andThen_ok, storeVar, sizeOf, typeInfo, hsz]
      simp [hq, hi', storeCells, run_store, h1, Addr.add, hcu, hfz, go_sem]
  unfold execOp
  simp only [ho, hx, hy, Sem.run_bind, hr, Result.andThen_ok, Sem.run_pure, famUpon]
  exact ⟨by first | rfl | trivial, hm.set (.of hh) (.of_set hh)⟩
theorem wp_of_storeR {T : TypeId} {x y : Operand} {off s : Nat} {D : List Value} [hT : IsRow P T s] (hm : Mem w0 w σ) (ho : o.op = .store T x y) (hx : ev a x = some (.pointer (some ⟨n, off, none⟩))) (hy : ev a y = some (.agg D.toArray))
    (hh : σ[i]? = some ⟨n, c, t⟩) (hD : D.length = s) (h1 : D.all (·.oneCell') = true) (hl : off + s ≤ c.length) : famUpon P (fun w' => Mem w0 w' (σ.set i ⟨n, splice c off D, t⟩)) undef ((execOp a.eval o).run P w) := by
  have hr := run_storeAt_mid (P := P) w n off T D.toArray (fun j hj => by
    have hj' : j < D.length := by simpa using hj
    rw [hm.cell (.of hh), List.getElem?_eq_getElem (by omega)]
    exact ⟨rfl, hm.frozen (.of hh) _⟩) (by simpa [hD] using hT.size) (by simpa using h1)
  unfold execOp
  simp only [ho, ev_eval hx, ev_eval hy, Sem.run_bind, hr, Result.andThen_ok, Sem.run_pure, famUpon]
  exact ⟨by first | rfl | trivial, hm.sets (.of hh) (.of_set hh)⟩
end
section
variable {P : Program} {ops : Array Oper} {rest : List Oper} {o : Oper} {a : Act} {w0 w : World} {σ : List Blk} {Q : Act → Prop} {n i k : Nat} {c : List Value} {t : TypeId} {st : List (Nat × Nat × List Value)}
/-- A world in the midst of the region, number k not yet come up. -/
structure FW (w0 : World) (F : Array Bool → List Blk) (k : Nat) where
  L : Array Bool
  w : World
  off : L.getD k true = false
  h : Mem w0 w (F L)
theorem mf_start {id : Nat} {Q : Exit → Act → World → Prop} {l : List Oper} (hm : Mem w0 w σ) (hx : P.follows .mixedOrders = true) (hB : Region.lexB .any l.toArray = true) (hs : (st.all fun s => decide (s.1 < l.length)) = true)
    (h : (∀ k, k < l.length → Nonempty (FW w0 (fam σ st) k)) → wpF P l.toArray w0 (fam σ st) (fun a' => ∀ w', Mem w0 w' (famEnd σ st) → Q .normal a' w') 0 l a) : (Code.region id l.toArray true).wp P Q a w := by
  have h0 : Mem w0 w (fam σ st (fin l.length 0)) := by rw [fam_zero σ _ st hs]; exact hm
  refine wp_region_fam h0 hx hB ?_
  rw [fam_fin σ _ st hs]
  exact h fun k hk => ⟨⟨_, w, fin_zero _ _ hk, h0⟩⟩
theorem mf_start1 {id : Nat} {Q : Exit → Act → World → Prop} {l : List Oper} (k1 i1 : Nat) (hm : Mem w0 w σ) (hx : P.follows .mixedOrders = true) (hB : Region.lexB .any l.toArray = true) (hs : decide (k1 < l.length) = true)
    (h : ∃ c1, (∀ k, k < l.length → Nonempty (FW w0 (fam σ [(k1, i1, c1)]) k)) → wpF P l.toArray w0 (fam σ [(k1, i1, c1)]) (fun a' => ∀ w', Mem w0 w' (famEnd σ [(k1, i1, c1)]) → Q .normal a' w') 0 l a) : (Code.region id l.toArray true).wp P Q a w :=
  h.elim fun c1 h => mf_start hm hx hB (by simp at hs ⊢; exact hs) h
theorem mf_start2 {id : Nat} {Q : Exit → Act → World → Prop} {l : List Oper} (k1 i1 k2 i2 : Nat) (hm : Mem w0 w σ) (hx : P.follows .mixedOrders = true) (hB : Region.lexB .any l.toArray = true) (hs : (decide (k1 < l.length) && decide (k2 < l.length)) = true)
    (h : ∃ c1, ∃ c2, (∀ k, k < l.length → Nonempty (FW w0 (fam σ [(k1, i1, c1), (k2, i2, c2)]) k)) → wpF P l.toArray w0 (fam σ [(k1, i1, c1), (k2, i2, c2)]) (fun a' => ∀ w', Mem w0 w' (famEnd σ [(k1, i1, c1), (k2, i2, c2)]) → Q .normal a' w') 0 l a) : (Code.region id l.toArray true).wp P Q a w :=
  h.elim fun c1 h => h.elim fun c2 h => mf_start hm hx hB (by simp at hs ⊢; exact hs) h
theorem wpF_nil (h : Q a) : wpF P ops w0 (fam σ st) Q k [] a := h
theorem wpF_step (hk : (st.all fun s => s.1 != k) = true) (hn : Nonempty (FW w0 (fam σ st) k)) (h : Nonempty (FW w0 (fam σ st) k) → ∀ K : Act → Prop, (∀ a, wpF P ops w0 (fam σ st) Q (k + 1) rest a → K a) →
    if Region.wanted o (yielded ops a.tmps) = true then (∃ v, (∀ p : FW w0 (fam σ st) k, o.quietAt P a (fun w'' => Below p.w.heap.size p.w w'') p.w v) ∧ K (a.put o.dst v)) else K (a.put o.dst undef)) : wpF P ops w0 (fam σ st) Q k (o :: rest) a := by
  have h1 := h hn (fun a => wpF P ops w0 (fam σ st) Q (k + 1) rest a) (fun _ h => h)
  by_cases hw : Region.wanted o (yielded ops a.tmps) = true
  · rw [if_pos hw] at h1
    obtain ⟨v, hv, hK⟩ := h1
    refine ⟨v, .inl ⟨hw, fun L w hL hcl hm => ?_⟩, hK⟩
    have h2 := hv ⟨L, w, hL, hm⟩
    rw [fam_other σ k L st hk]
    unfold Oper.quietAt at h2
    generalize (execOp a.eval o).run P w = r at h2
    cases r with
    | ok q w' =>
      cases q <;> simp only [Oper.quietUpon] at h2 <;> simp only [famUpon]
      case value u => obtain ⟨rfl, e⟩ := h2; exact ⟨e, hm⟩
      case skip => obtain ⟨rfl, e⟩ := h2; exact ⟨e, hm⟩
      case enter f args => obtain ⟨rfl, e⟩ := h2; exact e.mono fun e w'' ⟨h1, h2⟩ => ⟨h1, hm.next h2⟩
    | halt x w' => simp only [Oper.quietUpon] at h2
  · rw [if_neg hw] at h1
    exact ⟨undef, .inr ⟨by simpa using hw, rfl, fun L => fam_other σ k L st hk⟩, h1⟩
/-! loads and stores -/
section
variable {d : Option Tmp} {T ty : TypeId} {x y : Operand} {ps : String} {af : Array Edge} {gd : Option (Nat × Bool)} {F : Array Bool → List Blk}
theorem gfl (h : wpF P ops w0 F Q k (⟨d, .load T x, ty, ps, af, gd⟩ :: rest) a) : wpF P ops w0 F Q k (⟨d, .load T x, ty, ps, af, gd⟩ :: rest) a := h
theorem gfs (h : wpF P ops w0 F Q k (⟨d, .store T x y, ty, ps, af, gd⟩ :: rest) a) : wpF P ops w0 F Q k (⟨d, .store T x y, ty, ps, af, gd⟩ :: rest) a := h
end
theorem fl {T : TypeId} {x : Operand} {off : Nat} {v : Value} [IsCell P T] [hA : At σ n c t i] (ho : o.op = .load T x) (hw : Region.wanted o (yielded ops a.tmps) = true) (hx : ev a x = some (.pointer (some ⟨n, off, none⟩)))
    (h : wpF P ops w0 (fam σ st) Q (k + 1) rest (a.put o.dst v)) (hk : (st.all fun s => s.1 != k) = true := by rfl) (hi : (st.all fun s => s.2.1 != i || waits ops s.1 k) = true := by rfl) (hv : c[off]? = some v := by first | rfl | assumption | (simp; done)) : wpF P ops w0 (fam σ st) Q k (o :: rest) a := by
  refine ⟨v, .inl ⟨hw, fun L w hL hcl hm => ?_⟩, h⟩
  rw [fam_other σ k L st hk]
  have hg := (fam_load σ i k st hcl hL hi).trans hA.out
  have hr := run_loadAt_cell (P := P) (T := T) (w := w) (ad := ⟨n, off, none⟩) (v := v) ((hm.cell (.of hg) off).trans hv)
  unfold execOp
  simp only [ho, ev_eval hx, Sem.run_bind, hr, Result.andThen_ok, Sem.run_pure, famUpon]
  exact ⟨by first | rfl | trivial, hm⟩
theorem flr {T : TypeId} {x : Operand} {off s : Nat} [hT : IsRow P T s] [hA : At σ n c t i] (ho : o.op = .load T x) (hw : Region.wanted o (yielded ops a.tmps) = true) (hx : ev a x = some (.pointer (some ⟨n, off, none⟩)))
    (h : wpF P ops w0 (fam σ st) Q (k + 1) rest (a.put o.dst (.agg ((c.drop off).take s).toArray))) (hk : (st.all fun s => s.1 != k) = true := by rfl) (hi : (st.all fun s => s.2.1 != i || waits ops s.1 k) = true := by rfl) (hl : off + s ≤ c.length := by first | decide | (simp; done) | (simp; omega) | omega) : wpF P ops w0 (fam σ st) Q k (o :: rest) a := by
  obtain ⟨d, hu, hd⟩ := hT.out
  have hlen : ((c.drop off).take s).length = s := by simp; omega
  refine ⟨_, .inl ⟨hw, fun L w hL hcl hm => ?_⟩, h⟩
  rw [fam_other σ k L st hk]
  have hg := (fam_load σ i k st hcl hL hi).trans hA.out
  have hr := run_loadAt_mid w n off T ((c.drop off).take s) d (hm.range hg off s) hu hd (by rw [hlen]; exact hT.size)
  unfold execOp
  simp only [ho, ev_eval hx, Sem.run_bind, hr, Result.andThen_ok, Sem.run_pure, famUpon]
  exact ⟨by first | rfl | trivial, hm⟩
theorem fs {T : TypeId} {x y : Operand} {off : Nat} {v : Value} [hT : CellSize P T] [hA : At σ n c t i] (ho : o.op = .store T x y) (hw : Region.wanted o (yielded ops a.tmps) = true) (hx : ev a x = some (.pointer (some ⟨n, off, none⟩))) (hy : ev a y = some v) (h1 : v.oneCell' = true)
    (h : wpF P ops w0 (fam σ st) Q (k + 1) rest (a.put o.dst undef)) (hf : (st.find? fun s => s.1 == k) = some (k, i, c.set off v) := by rfl) (hk : (st.filter fun s => s.1 == k).length = 1 := by rfl) (hi : (st.filter fun s => s.2.1 == i).length = 1 := by rfl)
    (hl : off < c.length := by first | decide | (simp; done) | (simp; omega) | omega) : wpF P ops w0 (fam σ st) Q k (o :: rest) a := by
  refine ⟨undef, .inl ⟨hw, fun L w hL hcl hm => ?_⟩, h⟩
  obtain ⟨g1, g2⟩ := fam_store σ k i n c _ t L hL hA.out st hf hk hi
  rw [← g2]
  have hq := wp_of_store (P := P) (o := o) (a := a) hm ho hx hy h1 g1 hl
  exact hq
theorem flw {T : TypeId} {x : Operand} {s : Nat} [hT : IsRow P T s] [hA : At σ n c t i] (ho : o.op = .load T x) (hw : Region.wanted o (yielded ops a.tmps) = true) (hx : ev a x = some (.pointer (some ⟨n, 0, none⟩)))
    (h : wpF P ops w0 (fam σ st) Q (k + 1) rest (a.put o.dst (.agg c.toArray))) (hk : (st.all fun s => s.1 != k) = true := by rfl) (hi : (st.all fun s => s.2.1 != i || waits ops s.1 k) = true := by rfl) (hl : c.length = s := by first | rfl | assumption | (simp; done) | (simp; omega)) : wpF P ops w0 (fam σ st) Q k (o :: rest) a :=
  flr ho hw hx (by rw [List.drop_zero, List.take_of_length_le (by omega)]; exact h) hk hi (by omega)
theorem fsw {T : TypeId} {x y : Operand} {s : Nat} {D : List Value} [hT : IsRow P T s] [hA : At σ n c t i] (ho : o.op = .store T x y) (hw : Region.wanted o (yielded ops a.tmps) = true) (hx : ev a x = some (.pointer (some ⟨n, 0, none⟩))) (hy : ev a y = some (.agg D.toArray))
    (h : wpF P ops w0 (fam σ st) Q (k + 1) rest (a.put o.dst undef)) (hD : D.length = s := by first | rfl | assumption | (simp; done) | (simp; omega)) (h1 : D.all (·.oneCell') = true := by first | rfl | exact oneCell_map _ | (simp [Value.oneCell']; done)) (hf : (st.find? fun s => s.1 == k) = some (k, i, D) := by rfl) (hk : (st.filter fun s => s.1 == k).length = 1 := by rfl) (hi : (st.filter fun s => s.2.1 == i).length = 1 := by rfl)
    (hl : c.length = s := by first | rfl | assumption | (simp; done) | (simp; omega)) : wpF P ops w0 (fam σ st) Q k (o :: rest) a := by
  refine ⟨undef, .inl ⟨hw, fun L w hL hcl hm => ?_⟩, h⟩
  obtain ⟨g1, g2⟩ := fam_store σ k i n c _ t L hL hA.out st hf hk hi
  rw [← g2]
  have := wp_of_storeR (P := P) (a := a) hm ho hx hy g1 hD h1 (by omega)
  rwa [splice_all (by omega)] at this
theorem fsr {T : TypeId} {x y : Operand} {off s : Nat} {D : List Value} [hT : IsRow P T s] [hA : At σ n c t i] (ho : o.op = .store T x y) (hw : Region.wanted o (yielded ops a.tmps) = true) (hx : ev a x = some (.pointer (some ⟨n, off, none⟩))) (hy : ev a y = some (.agg D.toArray))
    (h : wpF P ops w0 (fam σ st) Q (k + 1) rest (a.put o.dst undef)) (hD : D.length = s := by first | rfl | (simp; done) | (simp; omega)) (h1 : D.all (·.oneCell') = true := by first | rfl | exact oneCell_map _ | (simp [Value.oneCell']; done)) (hf : (st.find? fun s => s.1 == k) = some (k, i, splice c off D) := by rfl) (hk : (st.filter fun s => s.1 == k).length = 1 := by rfl) (hi : (st.filter fun s => s.2.1 == i).length = 1 := by rfl)
    (hl : off + s ≤ c.length := by first | decide | (simp; done) | (simp; omega) | omega) : wpF P ops w0 (fam σ st) Q k (o :: rest) a := by
  refine ⟨undef, .inl ⟨hw, fun L w hL hcl hm => ?_⟩, h⟩
  obtain ⟨g1, g2⟩ := fam_store σ k i n c _ t L hL hA.out st hf hk hi
  rw [← g2]
  exact wp_of_storeR hm ho hx hy g1 hD h1 hl
end
end Go.Proofs.Ytlhchjjegaflhaa

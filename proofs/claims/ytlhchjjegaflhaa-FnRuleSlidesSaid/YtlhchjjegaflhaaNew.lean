/-
  A region that draws its order, one operation of which makes a block of the call's own (a variable, or a callee that returns a slice): one walk in the text's order serves every order. No condition of its own.
-/
import Derived.Test.YtlhchjjegaflhaaCmp
import Derived.Test.YtlhchjjegaflhaaDel
set_option linter.unusedVariables false
set_option linter.unusedSimpArgs false
namespace Go.Proofs.Ytlhchjjegaflhaa
open Go.RowKit
def makeUpon {π : Type} (P : Program) (w0 : World) (σ : List Blk) (val : π → Value) (blk : π → Blk) : Result Next → Prop
  | .ok (.value u) w' => ∃ p, u = val p ∧ Mem w0 w' (blk p :: σ)
  | .ok (.enter f args) w' => Calls P f args w' (fun e w'' => ∃ p, e = .returned (val p) ∧ Mem w0 w'' (blk p :: σ))
  | _ => False
section
variable {π : Type} {P : Program} {ops : Array Oper} {w0 : World} {σ : List Blk} {kA kS dA : Nat} {val : π → Value} {blk0 blk1 : π → Blk}
/-- The blocks, when those of L have come up. -/
def FN (σ : List Blk) (kA kS : Nat) (blk0 blk1 : π → Blk) (p : π) (L : Array Bool) : List Blk :=
  if L.getD kA true = true then (if L.getD kS true = true then blk1 p else blk0 p) :: σ else σ
def real (kA dA : Nat) (val : π → Value) (p : π) (L : Array Bool) (a : Act) : Act := if L.getD kA true = true then a.put (some dA) (val p) else a
def dN (kA kS i : Nat) (o : Oper) : Option Tmp := if i = kA ∨ i = kS then none else o.dst
/-- It waits for what is made. -/
def late (ops : Array Oper) (kA kS i : Nat) : Bool := waits ops i kA && (waits ops i kS || decide (ops.size ≤ kS))
structure NI (π : Type) where
  P : Program
  ops : Array Oper
  w0 : World
  σ : List Blk
  kA : Nat
  kS : Nat
  dA : Nat
  val : π → Value
  blk0 : π → Blk
  blk1 : π → Blk
def RN (N : NI π) (i : Nat) (o : Oper) (v : Value) (a : Act) : Prop :=
  if i = N.kA then Region.wanted o (yielded N.ops a.tmps) = true ∧ ∀ w, Mem N.w0 w N.σ → makeUpon N.P N.w0 N.σ N.val N.blk0 ((execOp a.eval o).run N.P w)
  else if i = N.kS then ∀ p, Region.wanted o (yielded N.ops (a.put (some N.dA) (N.val p)).tmps) = true ∧ ∀ w, Mem N.w0 w (N.blk0 p :: N.σ) → famUpon N.P (fun w' => Mem N.w0 w' (N.blk1 p :: N.σ)) undef ((execOp (a.put (some N.dA) (N.val p)).eval o).run N.P w)
  else if late N.ops N.kA N.kS i = true then ∀ p, Region.wanted o (yielded N.ops (a.put (some N.dA) (N.val p)).tmps) = true ∧ ∀ w, Mem N.w0 w (N.blk1 p :: N.σ) → o.quietAt N.P (a.put (some N.dA) (N.val p)) (fun w'' => Mem N.w0 w'' (N.blk1 p :: N.σ)) w v
  else (Region.wanted o (yielded N.ops a.tmps) = true ∧ ∀ w, Mem N.w0 w N.σ → o.quietAt N.P a (fun w'' => Below w.heap.size w w'') w v) ∨ (Region.wanted o (yielded N.ops a.tmps) = false ∧ v = undef)
variable {N : NI π}
theorem RN_put {i : Nat} {o : Oper} {v u : Value} {a : Act} {dst : Option Tmp} (hs : ∀ cs b, o.op ≠ .select cs b) (h : ∀ d, dst = some d → d ∉ o.looksAt N.ops) (hd : dst ≠ some N.dA) :
    RN N i o v (a.put dst u) ↔ RN N i o v a := by
  have hc : ∀ p, (a.put dst u).put (some N.dA) (N.val p) = (a.put (some N.dA) (N.val p)).put dst u := fun p => Act.put_comm a u _ (fun d hd1 hd2 => hd (by rw [hd1]; exact hd2.symm))
  unfold RN
  simp only [hc]
  unfold Oper.quietAt
  simp only [execOp_put o hs _ dst u h, wanted_put o _ dst u h]
def fN (N : NI π) (i : Nat) (K : Act → Prop) (a : Act) : Prop :=
  match N.ops[i]? with
  | none => K a
  | some o => ∃ v, RN N i o v a ∧ K (a.put (dN N.kA N.kS i o) v)
def wpAnyN (N : NI π) (Q : Array Bool → Act → Prop) : Nat → Array Bool → Act → Prop
  | 0, L, a => Region.ready Region.Mode.any N.ops L = [] ∧ Q L a
  | fuel + 1, L, a => (Region.ready Region.Mode.any N.ops L = [] → Q L a) ∧ ∀ i ∈ Region.ready Region.Mode.any N.ops L, fN N i (wpAnyN N Q fuel (L.setIfInBounds i true)) a
/-- What the rule asks of the region's text. -/
structure TextN (N : NI π) : Prop where
  noSel : ∀ (j : Nat) (o : Oper) cs b, N.ops[j]? = some o → o.op ≠ .select cs b
  ne : N.kA ≠ N.kS
  oA : ∃ o, N.ops[N.kA]? = some o ∧ o.dst = some N.dA
  oS : ∀ o, N.ops[N.kS]? = some o → o.dst = none ∧ waits N.ops N.kS N.kA = true
  same : N.ops.size ≤ N.kS → ∀ p, N.blk0 p = N.blk1 p
  apart : ∀ j o, N.ops[j]? = some o → j ≠ N.kA → o.dst ≠ some N.dA ∧ (j ≠ N.kS → late N.ops N.kA N.kS j = false → N.dA ∉ o.looksAt N.ops)
theorem dN_some {i : Nat} {o : Oper} {d : Tmp} (h : dN kA kS i o = some d) : o.dst = some d := by
  unfold dN at h
  split at h
  · cases h
  · exact h
theorem dN_ne (ht : TextN N) {i : Nat} {o : Oper} (ho : N.ops[i]? = some o) : dN N.kA N.kS i o ≠ some N.dA := by
  intro h
  by_cases hi : i = N.kA
  · rw [dN, if_pos (.inl hi)] at h; cases h
  · exact (ht.apart i o ho hi).1 (dN_some h)
theorem wpAnyN_first (ht : TextN N) {Q : Array Bool → Act → Prop} {i : Nat} {oi : Oper} {v : Value} (hi : N.ops[i]? = some oi) :
    ∀ (fuel : Nat) (L : Array Bool) (a : Act), (∀ j oj, N.ops[j]? = some oj → j ≠ i → L.getD j true = false → (∀ e ∈ oj.after, Region.binds Region.Mode.any e = true → e.on ≠ i) → oi.apart N.ops oj = true) →
      i ∈ Region.ready Region.Mode.any N.ops L → RN N i oi v a → wpAnyN N Q fuel (L.setIfInBounds i true) (a.put (dN N.kA N.kS i oi) v) → wpAnyN N Q (fuel + 1) L a := by
  intro fuel
  induction fuel with
  | zero =>
    intro L a _ hr hy H
    refine ⟨fun h => (by rw [h] at hr; cases hr), fun j hj => ?_⟩
    by_cases hji : j = i
    · subst hji; unfold fN; simp only [hi]; exact ⟨v, hy, H⟩
    · have := ready_mono hj hji
      rw [H.1] at this
      cases this
  | succ fuel ih =>
    intro L a hfree hr hy H
    refine ⟨fun h => (by rw [h] at hr; cases hr), fun j hj => ?_⟩
    by_cases hji : j = i
    · subst hji; unfold fN; simp only [hi]; exact ⟨v, hy, H⟩
    · obtain ⟨hjun, oj, hoj, hall⟩ := mem_ready.1 hj
      have hnot : ∀ e ∈ oj.after, Region.binds Region.Mode.any e = true → e.on ≠ i := fun e he hb heq => by
        have g1 := hall e he hb
        have g0 := (mem_ready.1 hr).1
        rw [heq] at g1
        rcases Nat.lt_or_ge i L.size with h' | h'
        · simp [h'] at g0 g1; rw [g0] at g1; cases g1
        · simp [Array.getElem?_eq_none h'] at g1
      obtain ⟨p1, p2, p3⟩ := Oper.apart_spec (hfree j oj hoj hji hjun hnot)
      have h2 := H.2 j (ready_mono hj hji)
      unfold fN at h2 ⊢
      simp only [hoj] at h2 ⊢
      obtain ⟨u, hu, hn⟩ := h2
      refine ⟨u, (RN_put (ht.noSel j oj · · hoj) (fun d hd => p1 d (dN_some hd)) (dN_ne ht hi)).1 hu, ?_⟩
      have hfree' : ∀ k ok, N.ops[k]? = some ok → k ≠ i → (L.setIfInBounds j true).getD k true = false → (∀ e ∈ ok.after, Region.binds Region.Mode.any e = true → e.on ≠ i) → oi.apart N.ops ok = true := fun k ok hk hki hun hno => by
        refine hfree k ok hk hki ?_ hno
        by_cases hjk : j = k
        · subst hjk; exact hjun
        · rw [getD_set_ne true hjk] at hun; exact hun
      refine ih (L.setIfInBounds j true) _ hfree' (ready_mono hr (Ne.symm hji)) ((RN_put (ht.noSel i oi · · hi) (fun d hd => p3 d (dN_some hd)) (dN_ne ht hoj)).2 hy) ?_
      rw [Array.setIfInBounds_comm _ _ hji, ← Act.put_comm a v u (fun d hd hd2 => p2 d (dN_some hd) (dN_some hd2))]
      exact hn
theorem waits_true {ops : Array Oper} {L : Array Bool} {i k : Nat} (hi : i ∈ Region.ready Region.Mode.any ops L) (h : waits ops i k = true) : L.getD k true = true := by
  cases hA : L.getD k true with
  | true => rfl
  | false =>
    obtain ⟨_, o2, ho2, hall⟩ := mem_ready.1 hi
    unfold waits at h
    simp only [ho2, List.any_eq_true, Bool.and_eq_true, beq_iff_eq] at h
    obtain ⟨e, he, he1, he2⟩ := h
    have := hall e (by simpa using he) he2
    rw [he1] at this
    rcases Nat.lt_or_ge k L.size with h' | h'
    · simp [h'] at this hA; rw [this] at hA; cases hA
    · simp [Array.getElem?_eq_none h'] at hA
theorem quietAt_mono {o : Oper} {a : Act} {C C' : World → Prop} {w : World} {v : Value} (h : ∀ w', C w' → C' w') (hq : o.quietAt P a C w v) : o.quietAt P a C' w v := by
  unfold Oper.quietAt at *
  generalize (execOp a.eval o).run P w = r at *
  cases r with
  | ok q w' =>
    cases q <;> simp only [Oper.quietUpon] at hq ⊢
    case value u => exact hq
    case skip => exact hq
    case enter f args => exact ⟨hq.1, hq.2.mono fun e w'' ⟨h1, h2⟩ => ⟨h1, h _ h2⟩⟩
  | halt x w' => simp only [Oper.quietUpon] at hq
theorem wpAny_of_N (ht : TextN N) {Q : Array Bool → Act → Prop} {Q' : Exit → Act → World → Prop}
    (hQ : ∀ L a p w, Mem N.w0 w (FN N.σ N.kA N.kS N.blk0 N.blk1 p L) → Q L a → Q' .normal (real N.kA N.dA N.val p L a) w) : ∀ (fuel : Nat) (L : Array Bool) (a : Act) (p : π) (w : World), Closed N.ops L → Mem N.w0 w (FN N.σ N.kA N.kS N.blk0 N.blk1 p L) →
    wpAnyN N Q fuel L a → wpAny N.P Region.Mode.any N.ops Q' fuel L (real N.kA N.dA N.val p L a) w
  | 0, _, _, _, _, _, hw, h => ⟨h.1, hQ _ _ _ _ hw h.2⟩
  | fuel + 1, L, a, p, w, hcl, hw, h => ⟨fun h0 => hQ _ _ _ _ hw (h.1 h0), fun i hi => by
      obtain ⟨hL, o, ho⟩ := ready_some hi
      have hcl' := hcl.step hi
      have h2 := h.2 i hi
      unfold fN at h2
      unfold wpOp
      simp only [ho] at h2 ⊢
      obtain ⟨v, hy, hK⟩ := h2
      have iL : i < L.size := by
        rcases Nat.lt_or_ge i L.size with h | h
        · exact h
        · simp [Array.getElem?_eq_none h] at hL
      by_cases hiA : i = N.kA
      · have hLA : L.getD N.kA true = false := by rw [← hiA]; exact hL
        obtain ⟨oA, g1, g3⟩ := ht.oA
        rw [← hiA, ho] at g1
        cases g1
        have hsetA : (L.setIfInBounds i true).getD N.kA true = true := by rw [← hiA]; simp [Array.getElem?_setIfInBounds, iL]
        have hsetS : (L.setIfInBounds i true).getD N.kS true = L.getD N.kS true := getD_set_ne true (by rw [hiA]; exact ht.ne)
        unfold RN at hy
        rw [if_pos hiA] at hy
        obtain ⟨hwn, hmk⟩ := hy
        have hra : real N.kA N.dA N.val p L a = a := by unfold real; rw [if_neg (by rw [hLA]; decide)]
        rw [hra, if_pos hwn]
        refine .inl ?_
        have hw' : Mem N.w0 w N.σ := by
          unfold FN at hw
          rw [if_neg (by rw [hLA]; decide)] at hw
          exact hw
        have hre : ∀ q, a.put o.dst (N.val q) = real N.kA N.dA N.val q (L.setIfInBounds i true) (a.put (dN N.kA N.kS i o) v) := fun q => by
          unfold real dN
          rw [if_pos hsetA, g3, if_pos (.inl hiA)]
          rfl
        have next : ∀ (q : π) (w' : World), Mem N.w0 w' (N.blk0 q :: N.σ) → wpAny N.P Region.Mode.any N.ops Q' fuel (L.setIfInBounds i true) (a.put o.dst (N.val q)) w' := fun q w' hq => by
          rw [hre]
          refine wpAny_of_N ht hQ fuel _ _ _ _ hcl' ?_ hK
          unfold FN
          rw [if_pos hsetA, hsetS]
          by_cases hkS : N.kS < N.ops.size
          · obtain ⟨_, hwt⟩ := ht.oS _ (Array.getElem?_eq_getElem hkS)
            have hS : L.getD N.kS true = false := waits_spec hcl hwt hLA
            rw [hS, if_neg (by decide)]
            exact hq
          · have : L.size ≤ N.kS := by rw [hcl.size]; omega
            rw [if_pos (by simp [Array.getElem?_eq_none this]), ← ht.same (by omega)]
            exact hq
        have h3 := hmk w hw'
        unfold Oper.wp
        generalize (execOp a.eval o).run N.P w = r at h3
        cases r with
        | ok q w' =>
          cases q <;> simp only [makeUpon] at h3 <;> simp only [Oper.upon]
          case value u => obtain ⟨q, rfl, h4⟩ := h3; exact next _ _ h4
          case enter f args => exact h3.mono fun e w'' ⟨q, he, h4⟩ => by subst he; exact next _ _ h4
        | halt x w' => simp only [makeUpon] at h3
      · by_cases hiS : i = N.kS
        · have hA : L.getD N.kA true = true := waits_true hi (by rw [hiS]; exact (ht.oS o (by rw [← hiS]; exact ho)).2)
          have hsetA : (L.setIfInBounds i true).getD N.kA true = true := by rw [getD_set_ne true hiA]; exact hA
          have hsetS : (L.setIfInBounds i true).getD N.kS true = true := by rw [← hiS]; simp [Array.getElem?_setIfInBounds, iL]
          have g3 := (ht.oS o (by rw [← hiS]; exact ho)).1
          unfold RN at hy
          rw [if_neg hiA, if_pos hiS] at hy
          obtain ⟨hwn, hst⟩ := hy p
          have hra : real N.kA N.dA N.val p L a = a.put (some N.dA) (N.val p) := by unfold real; rw [if_pos hA]
          rw [hra, if_pos hwn]
          refine .inl ?_
          have hw' : Mem N.w0 w (N.blk0 p :: N.σ) := by
            unfold FN at hw
            rw [if_pos hA, ← hiS, hL, if_neg (by decide)] at hw
            exact hw
          have hst := hst w hw'
          unfold Oper.wp
          generalize (execOp (a.put (some N.dA) (N.val p)).eval o).run N.P w = r at hst
          have hre : (a.put (some N.dA) (N.val p)).put o.dst undef = real N.kA N.dA N.val p (L.setIfInBounds i true) (a.put (dN N.kA N.kS i o) v) := by
            unfold real dN
            rw [if_pos hsetA, g3, if_pos (.inr hiS)]
            rfl
          have hF : FN N.σ N.kA N.kS N.blk0 N.blk1 p (L.setIfInBounds i true) = N.blk1 p :: N.σ := by
            unfold FN
            rw [if_pos hsetA, if_pos hsetS]
          cases r with
          | ok q w' =>
            cases q <;> simp only [famUpon] at hst <;> simp only [Oper.upon]
            case value u =>
              obtain ⟨rfl, h3⟩ := hst
              rw [hre]
              exact wpAny_of_N ht hQ fuel _ _ _ _ hcl' (by rw [hF]; exact h3) hK
            case skip =>
              rw [hre]
              exact wpAny_of_N ht hQ fuel _ _ _ _ hcl' (by rw [hF]; exact hst.2) hK
            case enter f args =>
              exact hst.mono fun e w'' ⟨he, h3⟩ => by
                subst he
                simp only []
                rw [hre]
                exact wpAny_of_N ht hQ fuel _ _ _ _ hcl' (by rw [hF]; exact h3) hK
          | halt x w' => simp only [famUpon] at hst
        · obtain ⟨q2, q1⟩ := ht.apart i o ho hiA
          have hd : dN N.kA N.kS i o = o.dst := by unfold dN; rw [if_neg (by rintro (h | h); exact hiA h; exact hiS h)]
          rw [hd] at hK
          have hsA : (L.setIfInBounds i true).getD N.kA true = L.getD N.kA true := getD_set_ne true hiA
          have hsS : (L.setIfInBounds i true).getD N.kS true = L.getD N.kS true := getD_set_ne true hiS
          have hF : FN N.σ N.kA N.kS N.blk0 N.blk1 p (L.setIfInBounds i true) = FN N.σ N.kA N.kS N.blk0 N.blk1 p L := by unfold FN; rw [hsA, hsS]
          have hre : ∀ u, (real N.kA N.dA N.val p L a).put o.dst u = real N.kA N.dA N.val p (L.setIfInBounds i true) (a.put o.dst u) := fun u => by
            unfold real
            rw [hsA]
            split
            · exact Act.put_comm a _ u (fun d hd => by cases hd; exact q2)
            · rfl
          have next : ∀ (u : Value) (w' : World), Mem N.w0 w' (FN N.σ N.kA N.kS N.blk0 N.blk1 p L) → wpAnyN N Q fuel (L.setIfInBounds i true) (a.put o.dst u) → wpAny N.P Region.Mode.any N.ops Q' fuel (L.setIfInBounds i true) ((real N.kA N.dA N.val p L a).put o.dst u) w' := fun u w' hb hk => by
            rw [hre]
            exact wpAny_of_N ht hQ fuel _ _ _ _ hcl' (by rw [hF]; exact hb) hk
          have key : (Region.wanted o (yielded N.ops (real N.kA N.dA N.val p L a).tmps) = true ∧ o.quietAt N.P (real N.kA N.dA N.val p L a) (fun w'' => Mem N.w0 w'' (FN N.σ N.kA N.kS N.blk0 N.blk1 p L)) w v) ∨ (Region.wanted o (yielded N.ops (real N.kA N.dA N.val p L a).tmps) = false ∧ v = undef) := by
            unfold RN at hy
            rw [if_neg hiA, if_neg hiS] at hy
            by_cases hlt : late N.ops N.kA N.kS i = true
            · rw [if_pos hlt] at hy
              obtain ⟨hwn, hq⟩ := hy p
              unfold late at hlt
              simp only [Bool.and_eq_true, Bool.or_eq_true, decide_eq_true_eq] at hlt
              have hA : L.getD N.kA true = true := waits_true hi hlt.1
              have hra : real N.kA N.dA N.val p L a = a.put (some N.dA) (N.val p) := by unfold real; rw [if_pos hA]
              rw [hra]
              have hS : L.getD N.kS true = true := by
                rcases hlt.2 with h | h
                · exact waits_true hi h
                · have : L.size ≤ N.kS := by rw [hcl.size]; exact h
                  simp [Array.getElem?_eq_none this]
              have hFe : FN N.σ N.kA N.kS N.blk0 N.blk1 p L = N.blk1 p :: N.σ := by unfold FN; rw [if_pos hA, if_pos hS]
              rw [hFe] at hw ⊢
              exact .inl ⟨hwn, hq w hw⟩
            · rw [if_neg hlt] at hy
              have q1' := q1 hiS (by simpa using hlt)
              have hex : execOp (real N.kA N.dA N.val p L a).eval o = execOp a.eval o := by
                unfold real
                split
                · exact execOp_put (ops := N.ops) o (ht.noSel i o · · ho) a _ _ (fun d hd => by cases hd; exact q1')
                · rfl
              have hwt : Region.wanted o (yielded N.ops (real N.kA N.dA N.val p L a).tmps) = Region.wanted o (yielded N.ops a.tmps) := by
                unfold real
                split
                · exact wanted_put (ops := N.ops) o a _ _ (fun d hd => by cases hd; exact q1')
                · rfl
              have hdrop : Mem N.w0 w N.σ := by
                unfold FN at hw
                split at hw
                · exact hw.drop (List.sublist_cons_self _ _)
                · exact hw
              rw [hwt]
              rcases hy with ⟨h1, h2⟩ | h1
              · refine .inl ⟨h1, ?_⟩
                have h3 := quietAt_mono (C' := fun w'' => Mem N.w0 w'' (FN N.σ N.kA N.kS N.blk0 N.blk1 p L)) (fun w' hb => hw.next hb) (h2 w hdrop)
                unfold Oper.quietAt at h3 ⊢
                rw [hex]
                exact h3
              · exact .inr h1
          rcases key with ⟨hwn, h3⟩ | ⟨hwn, rfl⟩
          · rw [if_pos hwn]
            refine .inl ?_
            unfold Oper.quietAt at h3
            unfold Oper.wp
            generalize (execOp (real N.kA N.dA N.val p L a).eval o).run N.P w = r at h3
            cases r with
            | ok q w' =>
              cases q <;> simp only [Oper.quietUpon] at h3 <;> simp only [Oper.upon]
              case value u => obtain ⟨rfl, rfl⟩ := h3; exact next _ _ hw hK
              case skip => obtain ⟨rfl, rfl⟩ := h3; exact next _ _ hw hK
              case enter f args => obtain ⟨rfl, e⟩ := h3; exact e.mono fun e' w'' ⟨he, hb⟩ => by subst he; exact next _ _ hb hK
            | halt x w' => simp only [Oper.quietUpon] at h3
          · rw [if_neg (by simp [hwn])]
            exact next _ _ hw hK⟩
/-- The walk in the text's order. -/
def wpN (N : NI π) (Q : Act → Prop) : Nat → List Oper → Act → Prop
  | _, [], a => Q a
  | k, o :: rest, a => ∃ v, RN N k o v a ∧ wpN N Q (k + 1) rest (a.put (dN N.kA N.kS k o) v)
theorem wpN_mono : ∀ (l : List Oper) (k : Nat) (a : Act) (Q1 Q2 : Act → Prop), (∀ a, Q1 a → Q2 a) → wpN N Q1 k l a → wpN N Q2 k l a
  | [], _, _, _, _, hq, h => hq _ h
  | _ :: r, _, _, _, _, hq, ⟨v, h1, h2⟩ => ⟨v, h1, wpN_mono r _ _ _ _ hq h2⟩
theorem wpAnyN_lex (ht : TextN N) {Q : Array Bool → Act → Prop} : ∀ (l : List Oper) (k : Nat) (a : Act), (∀ j, l[j]? = N.ops[k + j]?) →
    Region.lexFrom Region.Mode.any N.ops l.length k (fin N.ops.size k) = true → wpN N (Q (fin N.ops.size (k + l.length))) k l a → wpAnyN N Q l.length (fin N.ops.size k) a
  | [], k, a, _, hB, h => ⟨by simpa [Region.lexFrom] using hB, by simpa [wpN] using h⟩
  | o :: l, k, a, hl, hB, h => by
    have h0 : N.ops[k]? = some o := by simpa using (hl 0).symm
    simp only [List.length_cons, Region.lexFrom, Bool.and_eq_true] at hB
    obtain ⟨⟨hr, hf⟩, hB'⟩ := hB
    obtain ⟨v, hy, hK⟩ := h
    refine wpAnyN_first ht h0 l.length _ a (Region.free_spec h0 hf) (by simpa using hr) hy ?_
    refine wpAnyN_lex ht l (k + 1) _ (fun j => by have := hl (j + 1); simpa [Nat.add_assoc, Nat.add_comm 1 j] using this) hB' ?_
    rw [show k + 1 + l.length = k + (o :: l).length from by simp; omega]
    exact hK
def textB (ops : Array Oper) (kA kS dA : Nat) : Bool := (kA != kS) && (match ops[kA]? with
  | some oA => oA.dst == some dA
  | none => false) && (match ops[kS]? with
  | some oS => oS.dst.isNone && waits ops kS kA
  | none => true) && ((List.range ops.size).all fun j => j == kA || match ops[j]? with
  | some o => o.dst != some dA && (j == kS || late ops kA kS j || !(o.looksAt ops).contains dA)
  | none => true)
theorem wp_region_new [Inhabited π] {id : Nat} {Q : Exit → Act → World → Prop} {a : Act} {w : World} {l : List Oper} (N : NI π) (hN : N.ops = l.toArray ∧ N.P = P) (hm : Mem N.w0 w N.σ) (hx : P.follows .mixedOrders = true) (hB : Region.lexB .any l.toArray = true)
    (ht : textB l.toArray N.kA N.kS N.dA = true) (hs : N.ops.size ≤ N.kS → ∀ p, N.blk0 p = N.blk1 p) (h : wpN N (fun a' => ∀ p w', Mem N.w0 w' (N.blk1 p :: N.σ) → Q .normal (a'.put (some N.dA) (N.val p)) w') 0 l a) : (Code.region id l.toArray true).wp P Q a w := by
  obtain ⟨hN1, rfl⟩ := hN
  simp only [Region.lexB, Bool.and_eq_true] at hB
  unfold textB at ht
  simp only [Bool.and_eq_true, bne_iff_ne, ne_eq, List.all_eq_true, List.mem_range, Bool.or_eq_true, beq_iff_eq] at ht
  obtain ⟨⟨⟨t1, t2⟩, t3⟩, t4⟩ := ht
  have hText : TextN N := by
    refine ⟨fun j o cs b ho => Region.noSelect_spec hB.1 j o cs b (by rw [← hN1]; exact ho), t1, ?_, fun o ho => ?_, hs, fun j o ho hjA => ?_⟩
    · cases hA : l.toArray[N.kA]? with
      | none => rw [hA] at t2; cases t2
      | some oA => rw [hA] at t2; exact ⟨oA, by rw [hN1]; exact hA, by simpa using t2⟩
    · rw [hN1] at ho
      rw [ho] at t3
      simp only [Bool.and_eq_true, Option.isNone_iff_eq_none] at t3
      rw [hN1]
      exact t3
    · rw [hN1] at ho
      have := t4 j (Array.getElem?_eq_some_iff.1 ho).1
      rw [ho] at this
      simp only [hjA, false_or, Bool.and_eq_true, bne_iff_ne, ne_eq, Bool.or_eq_true, beq_iff_eq, Bool.not_eq_true'] at this
      refine ⟨this.1, fun hjS hl => ?_⟩
      rw [hN1] at hl ⊢
      rcases this.2 with (h | h) | h
      · exact absurd h hjS
      · rw [hl] at h; cases h
      · simpa using h
  have kAl : N.kA < l.length := by
    obtain ⟨o, ho, _⟩ := hText.oA
    have := (Array.getElem?_eq_some_iff.1 ho).1
    rw [hN1] at this
    simpa using this
  have h0 : Mem N.w0 w.drew (FN N.σ N.kA N.kS N.blk0 N.blk1 default (Array.replicate N.ops.size false)) := by
    unfold FN
    rw [if_neg (by simp [hN1, kAl])]
    exact hm.drew
  have hr0 : real N.kA N.dA N.val default (Array.replicate N.ops.size false) a = a := by
    unfold real
    rw [if_neg (by simp [hN1, kAl])]
  refine wp_region_any hx ?_
  have key := wpAny_of_N (N := N) hText (Q := fun L a' => ∀ p w', Mem N.w0 w' (FN N.σ N.kA N.kS N.blk0 N.blk1 p L) → Q .normal (real N.kA N.dA N.val p L a') w') (Q' := Q) (fun L a n w hw h => h n w hw) N.ops.size _ a default w.drew Closed.start h0 ?_
  · rw [hr0, hN1] at key
    exact key
  · have hsz : N.ops.size = l.length := by rw [hN1]; simp
    have := wpAnyN_lex (N := N) hText (Q := fun L a' => ∀ p w', Mem N.w0 w' (FN N.σ N.kA N.kS N.blk0 N.blk1 p L) → Q .normal (real N.kA N.dA N.val p L a') w') l 0 a (by simp [hN1]) (by rw [hN1]; have := hB.2; simpa [fin] using this) ?_
    · rw [hsz]
      rw [hsz] at this
      exact this
    · refine wpN_mono _ _ _ _ _ (fun a' ha' p w' hw' => ?_) h
      have e1 : (fin N.ops.size (0 + l.length)).getD N.kA true = true := fin_get _ _ _ (by omega) (by omega)
      have e2 : (fin N.ops.size (0 + l.length)).getD N.kS true = true := by
        by_cases hkS : N.kS < N.ops.size
        · exact fin_get _ _ _ (by omega) (by omega)
        · have hfs : ∀ k, (fin N.ops.size k).size = N.ops.size := fun k => by induction k <;> simp_all [fin]
          rw [Array.getD_eq_getD_getElem?, Array.getElem?_eq_none (by rw [hfs]; omega)]
          rfl
      unfold FN at hw'
      unfold real
      rw [if_pos e1, if_pos e2] at hw'
      rw [if_pos e1]
      exact ha' p w' hw'
end
section
variable {π : Type} {N : NI π} {rest : List Oper} {o : Oper} {a : Act} {w : World} {Q : Act → Prop} {n i k : Nat} {c : List Value} {t : TypeId}
theorem nnil (h : Q a) : wpN N Q k [] a := h
theorem nA (hk : k = N.kA) (hw : Region.wanted o (yielded N.ops a.tmps) = true) (hr : ∀ w, Mem N.w0 w N.σ → makeUpon N.P N.w0 N.σ N.val N.blk0 ((execOp a.eval o).run N.P w)) (h : wpN N Q (k + 1) rest a) : wpN N Q k (o :: rest) a :=
  ⟨undef, by unfold RN; rw [if_pos hk]; exact ⟨hw, hr⟩, by rw [dN, if_pos (.inl hk)]; exact h⟩
theorem nstep (h1 : k ≠ N.kA) (h2 : k ≠ N.kS) (hl : late N.ops N.kA N.kS k = false) (hn : Nonempty (MS N.w0 N.σ)) (h : Nonempty (MS N.w0 N.σ) → ∀ K : Act → Prop, (∀ a, wpN N Q (k + 1) rest a → K a) →
    if Region.wanted o (yielded N.ops a.tmps) = true then (∃ v, (∀ p : MS N.w0 N.σ, o.quietAt N.P a (fun w'' => Below p.w.heap.size p.w w'') p.w v) ∧ K (a.put o.dst v)) else K (a.put o.dst undef)) : wpN N Q k (o :: rest) a := by
  have h3 := h hn (fun a => wpN N Q (k + 1) rest a) (fun _ h => h)
  have hd : dN N.kA N.kS k o = o.dst := by unfold dN; rw [if_neg (by rintro (h | h); exact h1 h; exact h2 h)]
  by_cases hw : Region.wanted o (yielded N.ops a.tmps) = true
  · rw [if_pos hw] at h3
    obtain ⟨v, hv, hK⟩ := h3
    refine ⟨v, ?_, by rw [hd]; exact hK⟩
    unfold RN
    rw [if_neg h1, if_neg h2, if_neg (by rw [hl]; decide)]
    exact .inl ⟨hw, fun w hm => hv ⟨w, hm⟩⟩
  · rw [if_neg hw] at h3
    refine ⟨undef, ?_, by rw [hd]; exact h3⟩
    unfold RN
    rw [if_neg h1, if_neg h2, if_neg (by rw [hl]; decide)]
    exact .inr ⟨by simpa using hw, rfl⟩
theorem nq {v : Value} (h1 : k ≠ N.kA) (h2 : k ≠ N.kS) (hl : late N.ops N.kA N.kS k = false) (hw : Region.wanted o (yielded N.ops a.tmps) = true) (hr : ∀ w, Mem N.w0 w N.σ → (execOp a.eval o).run N.P w = .ok (.value v) w) (h : wpN N Q (k + 1) rest (a.put o.dst v)) : wpN N Q k (o :: rest) a := by
  refine ⟨v, ?_, by rw [dN, if_neg (by rintro (h | h); exact h1 h; exact h2 h)]; exact h⟩
  unfold RN
  rw [if_neg h1, if_neg h2, if_neg (by rw [hl]; decide)]
  refine .inl ⟨hw, fun w hm => ?_⟩
  unfold Oper.quietAt
  rw [hr w hm]
  exact ⟨rfl, rfl⟩
theorem nlate (h1 : k ≠ N.kA) (h2 : k ≠ N.kS) (hl : late N.ops N.kA N.kS k = true) (h : ∃ v, (∀ p, Region.wanted o (yielded N.ops (a.put (some N.dA) (N.val p)).tmps) = true ∧ ∀ w, Mem N.w0 w (N.blk1 p :: N.σ) → o.quietAt N.P (a.put (some N.dA) (N.val p)) (fun w'' => Mem N.w0 w'' (N.blk1 p :: N.σ)) w v) ∧ wpN N Q (k + 1) rest (a.put o.dst v)) : wpN N Q k (o :: rest) a := by
  obtain ⟨v, hr, h⟩ := h
  refine ⟨v, ?_, by rw [dN, if_neg (by rintro (h | h); exact h1 h; exact h2 h)]; exact h⟩
  unfold RN
  rw [if_neg h1, if_neg h2, if_pos hl]
  exact hr
theorem nl {T : TypeId} {x : Operand} {off : Nat} {v : Value} [IsCell N.P T] [hA : At N.σ n c t i] (ho : o.op = .load T x) (hw : Region.wanted o (yielded N.ops a.tmps) = true) (hx : ev a x = some (.pointer (some ⟨n, off, none⟩)))
    (h : wpN N Q (k + 1) rest (a.put o.dst v)) (h1 : k ≠ N.kA := by exact Nat.ne_of_beq_eq_false rfl) (h2 : k ≠ N.kS := by exact Nat.ne_of_beq_eq_false rfl) (hl : late N.ops N.kA N.kS k = false := by rfl) (hv : c[off]? = some v := by first | rfl | assumption | (simp; done)) : wpN N Q k (o :: rest) a :=
  nq h1 h2 hl hw (fun w hm => by
    have hr := run_loadAt_cell (P := N.P) (T := T) (w := w) (ad := ⟨n, off, none⟩) (v := v) ((hm.cell (.of hA.out) off).trans hv)
    unfold execOp
    simp only [ho, ev_eval hx, Sem.run_bind, hr, Result.andThen_ok, Sem.run_pure]) h
theorem nlr {T : TypeId} {x : Operand} {off s : Nat} [hT : IsRow N.P T s] [hA : At N.σ n c t i] (ho : o.op = .load T x) (hw : Region.wanted o (yielded N.ops a.tmps) = true) (hx : ev a x = some (.pointer (some ⟨n, off, none⟩)))
    (h : wpN N Q (k + 1) rest (a.put o.dst (.agg ((c.drop off).take s).toArray))) (h1 : k ≠ N.kA := by exact Nat.ne_of_beq_eq_false rfl) (h2 : k ≠ N.kS := by exact Nat.ne_of_beq_eq_false rfl) (hl : late N.ops N.kA N.kS k = false := by rfl) (hlen : off + s ≤ c.length := by first | decide | (simp; done) | (simp; omega) | omega) : wpN N Q k (o :: rest) a := by
  obtain ⟨d, hu, hd⟩ := hT.out
  have hlen : ((c.drop off).take s).length = s := by simp; omega
  exact nq h1 h2 hl hw (fun w hm => by
    have hr := run_loadAt_mid w n off T ((c.drop off).take s) d (hm.range hA.out off s) hu hd (by rw [hlen]; exact hT.size)
    unfold execOp
    simp only [ho, ev_eval hx, Sem.run_bind, hr, Result.andThen_ok, Sem.run_pure]) h
theorem nlw {T : TypeId} {x : Operand} {s : Nat} [hT : IsRow N.P T s] [hA : At N.σ n c t i] (ho : o.op = .load T x) (hw : Region.wanted o (yielded N.ops a.tmps) = true) (hx : ev a x = some (.pointer (some ⟨n, 0, none⟩)))
    (h : wpN N Q (k + 1) rest (a.put o.dst (.agg c.toArray))) (h1 : k ≠ N.kA := by exact Nat.ne_of_beq_eq_false rfl) (h2 : k ≠ N.kS := by exact Nat.ne_of_beq_eq_false rfl) (hl : late N.ops N.kA N.kS k = false := by rfl) (hlen : c.length = s := by first | rfl | assumption | (simp; done) | (simp; omega)) : wpN N Q k (o :: rest) a :=
  nlr ho hw hx (by rw [List.drop_zero, List.take_of_length_le (by omega)]; exact h) h1 h2 hl (by omega)
theorem ncmp {T T' : TypeId} {s kk : Nat} [he : EqInts N.P T s kk] {op : BinOp} {x z : Operand} {xs ys : List Int} {p : Bool} (hp : decide (xs = ys) = p) (hop : op = .eql ∨ op = .neq) (ho : o.op = .binOp op T x z T') (hw : Region.wanted o (yielded N.ops a.tmps) = true) (hx : ev a x = some (.agg (xs.map iv).toArray)) (hy : ev a z = some (.agg (ys.map iv).toArray))
    (h : wpN N Q (k + 1) rest (a.put o.dst (.bool (cmpV op p)))) (hg : N.P.eqGuardType N.P.depth T = false := by kernel_rfl) (hk : kk ≤ 10000 := by decide) (h1 : k ≠ N.kA := by exact Nat.ne_of_beq_eq_false rfl) (h2 : k ≠ N.kS := by exact Nat.ne_of_beq_eq_false rfl) (hl : late N.ops N.kA N.kS k = false := by rfl) (hxl : xs.length = s := by first | assumption | (simp; done) | (simp; omega)) (hyl : ys.length = s := by first | assumption | (simp; done) | (simp; omega)) : wpN N Q k (o :: rest) a :=
  nq h1 h2 hl hw (fun w hm => run_cmp hop ho hx hy hk hg hxl hyl hp w) h
section
variable {d : Option Tmp} {T ty : TypeId} {x z : Operand} {ps : String} {af : Array Edge} {gd : Option (Nat × Bool)}
theorem gcmpN {op : BinOp} {T' : TypeId} (h : wpN N Q k (⟨d, .binOp op T x z T', ty, ps, af, gd⟩ :: rest) a) : wpN N Q k (⟨d, .binOp op T x z T', ty, ps, af, gd⟩ :: rest) a := h
theorem gnl (h : wpN N Q k (⟨d, .load T x, ty, ps, af, gd⟩ :: rest) a) : wpN N Q k (⟨d, .load T x, ty, ps, af, gd⟩ :: rest) a := h
end
theorem MS.any {w0 w : World} {σ : List Blk} (hm : Mem w0 w σ) : Nonempty (MS w0 σ) := ⟨⟨w, hm⟩⟩
end
/-! a variable that is made and filled -/
section
variable {P : Program} {w0 w : World} {σ : List Blk} {kA kS dA : Nat} {T : TypeId} {c D : List Value} {rest : List Oper} {o : Oper} {a : Act} {Q : Act → Prop} {k : Nat}
abbrev NV (P : Program) (ops : Array Oper) (w0 : World) (σ : List Blk) (kA kS dA : Nat) (T : TypeId) (c D : List Value) : NI Nat :=
  ⟨P, ops, w0, σ, kA, kS, dA, fun n => .pointer (some ⟨n, 0, none⟩), fun n => ⟨n, c, T⟩, fun n => ⟨n, D, T⟩⟩
theorem wp_region_var {id : Nat} {Q : Exit → Act → World → Prop} {l : List Oper} (kA kS dA : Nat) (T : TypeId) [hz : Zero P T c] (hm : Mem w0 w σ) (hx : P.follows .mixedOrders = true) (hB : Region.lexB .any l.toArray = true)
    (ht : textB l.toArray kA kS dA = true) (hks : decide (kS < l.length) = true) (h : ∃ D : List Value, wpN (NV P l.toArray w0 σ kA kS dA T c D) (fun a' => ∀ n w', Mem w0 w' (⟨n, D, T⟩ :: σ) → Q .normal (a'.put (some dA) (.pointer (some ⟨n, 0, none⟩))) w') 0 l a) : (Code.region id l.toArray true).wp P Q a w :=
  h.elim fun D h => wp_region_new (π := Nat) (NV P l.toArray w0 σ kA kS dA T c D) ⟨rfl, rfl⟩ hm hx hB ht (fun hle => absurd hle (by simp at hks ⊢; exact hks)) h
theorem run_alloc_own [hz : Zero P T c] (w : World) (ρ : Operand → Value) {o : Oper} (ho : o.op = .alloc T) : (execOp ρ o).run P w = .ok (.value (.pointer (some ⟨w.heap.size, 0, none⟩))) (w.alloc (.cells c.toArray T)) := by
  obtain ⟨v, hv, hc⟩ := hz.out
  have hr : (zeroValue T).run P w = .ok v w := by
    cases hq : P.info? T with
    | none => simp [hq] at hv
    | some i =>
      have : i.zero = some v := by simpa [hq] using hv
      simp [zeroValue, typeInfo, hq, this, go_sem]
  unfold execOp
  simp only [ho, Instr.alloc, newVar, newRow, Sem.run_bind, hr, run_newObj_alloc, Result.andThen_ok, Sem.run_pure]
  rw [← hc]
theorem nAv {ops : Array Oper} [hz : Zero P T c] (hk : k = kA) (ho : o.op = .alloc T) (hw : Region.wanted o (yielded ops a.tmps) = true) (h : wpN (NV P ops w0 σ kA kS dA T c D) Q (k + 1) rest a) : wpN (NV P ops w0 σ kA kS dA T c D) Q k (o :: rest) a :=
  nA hk hw (fun w hm => by
    show makeUpon P w0 σ _ _ ((execOp a.eval o).run P w)
    rw [run_alloc_own (c := c) w _ ho]
    exact ⟨w.heap.size, rfl, hm.alloc c T⟩) h
theorem nSv {ops : Array Oper} {s : Nat} [hT : IsRow P T s] {y : Operand} (hk : k = kS) (hne : kS ≠ kA) (ho : o.op = .store T (.tmp dA) y) (hg : o.guard = none) (hy : ev a y = some (.agg D.toArray)) (hyd : ∀ d, y = .tmp d → d ≠ dA) (hsz : dA < a.tmps.size)
    (h : wpN (NV P ops w0 σ kA kS dA T c D) Q (k + 1) rest a) (hc : c.length = s := by first | rfl | assumption | (simp; done) | (simp; omega)) (hD : D.length = s := by first | rfl | assumption | (simp; done) | (simp; omega)) (h1 : D.all (·.oneCell') = true := by first | rfl | exact oneCell_map _ | (simp [Value.oneCell']; done)) : wpN (NV P ops w0 σ kA kS dA T c D) Q k (o :: rest) a := by
  refine ⟨undef, ?_, by rw [dN, if_pos (.inr hk)]; exact h⟩
  unfold RN
  rw [if_neg (by rw [hk]; exact hne), if_pos hk]
  intro n
  refine ⟨by unfold Region.wanted; rw [hg], fun w hw' => ?_⟩
  have hev : ev (a.put (some dA) (.pointer (some ⟨n, 0, none⟩))) (.tmp dA) = some (.pointer (some ⟨n, 0, none⟩)) := by
    simp [ev, Act.put, Array.getElem?_setIfInBounds, hsz]
  have hey : (a.put (some dA) (.pointer (some ⟨n, 0, none⟩))).eval y = .agg D.toArray := by
    rw [Act.eval_put (fun d hd hyd' => hyd d hyd' (by cases hd; rfl))]
    exact ev_eval hy
  have hr := run_storeAt_mid (P := P) w n 0 T D.toArray (fun j hj => by
    have hj' : j < D.length := by simpa using hj
    rw [hw'.cell (.of (i := 0) rfl), List.getElem?_eq_getElem (by omega)]
    exact ⟨rfl, hw'.frozen (.of (i := 0) rfl) _⟩) (by simpa [hD] using hT.size) (by simpa using h1)
  show famUpon P (fun w' => Mem w0 w' (⟨n, D, T⟩ :: σ)) undef ((execOp (a.put (some dA) (.pointer (some ⟨n, 0, none⟩))).eval o).run P w)
  unfold execOp
  simp only [ho, ev_eval hev, hey, Sem.run_bind, hr, Result.andThen_ok, Sem.run_pure, famUpon]
  refine ⟨by first | rfl | trivial, ?_⟩
  have := hw'.sets (o := 0) (vs := D) (.of (i := 0) rfl) (.of_set (i := 0) rfl)
  rwa [splice_all (by omega)] at this
end
/-! a callee that returns a slice of its own -/
section
variable {P : Program} {w0 w : World} {σ : List Blk} {kA dA : Nat} {T : TypeId} {xs : List Value} {len : Nat} {rest : List Oper} {o : Oper} {a : Act} {Q : Act → Prop} {k : Nat}
abbrev NC (P : Program) (ops : Array Oper) (w0 : World) (σ : List Blk) (kA dA : Nat) (T : TypeId) (xs : List Value) (len : Nat) : NI (Nat × List Value × Nat) :=
  ⟨P, ops, w0, σ, kA, ops.size, dA, fun p => .slice (some ⟨p.1, 0, none⟩) len p.2.2, fun p => ⟨p.1, xs ++ p.2.1, T⟩, fun p => ⟨p.1, xs ++ p.2.1, T⟩⟩
theorem wp_region_call {id : Nat} {Q : Exit → Act → World → Prop} {l : List Oper} (kA dA : Nat) (T : TypeId) (xs : List Value) (len : Nat) (hm : Mem w0 w σ) (hx : P.follows .mixedOrders = true) (hB : Region.lexB .any l.toArray = true)
    (ht : textB l.toArray kA l.length dA = true) (h : wpN (NC P l.toArray w0 σ kA dA T xs len) (fun a' => ∀ g more cap w', Mem w0 w' (⟨g, xs ++ more, T⟩ :: σ) → Q .normal (a'.put (some dA) (.slice (some ⟨g, 0, none⟩) len cap)) w') 0 l a) : (Code.region id l.toArray true).wp P Q a w :=
  wp_region_new (π := Nat × List Value × Nat) (NC P l.toArray w0 σ kA dA T xs len) ⟨rfl, rfl⟩ hm hx hB (by simpa using ht) (fun _ _ => rfl) (wpN_mono _ _ _ _ _ (fun a' h p w' hw' => h p.1 p.2.1 p.2.2 w' hw') h)
/-- The callee's contract, as the rule asks for it. -/
theorem make_sl {f : FuncId} {args : Array Value} {s : Nat} (hs : 0 < s) (hx : xs.length = len * s) (hm : Mem w0 w σ) (h : Calls P f args w fun e w' => ∃ v, e = .returned v ∧ Sl w w' v T s xs []) :
    Calls P f args w fun e w' => ∃ p : Nat × List Value × Nat, e = .returned (.slice (some ⟨p.1, 0, none⟩) len p.2.2) ∧ Mem w0 w' (⟨p.1, xs ++ p.2.1, T⟩ :: σ) :=
  h.mono fun e w' ⟨v, he, hsl⟩ => by
    have h2 : Sl w0 w' v T s xs σ := by simpa using Sl.lift hm hsl
    obtain ⟨g, more, len', cap, rfl, h1, _, h3⟩ := h2
    obtain rfl : len = len' := Nat.eq_of_mul_eq_mul_right hs (by omega)
    exact ⟨(g, more, cap), he, h1⟩
end
/-! a callee that returns a slice of its own within something -/
section
variable {P : Program} {w0 w : World} {σ : List Blk} {kA dA : Nat} {T : TypeId} {xs : List Value} {len : Nat} {rest : List Oper} {o : Oper} {a : Act} {Q : Act → Prop} {k : Nat} {F : Value → Value}
abbrev NF (P : Program) (ops : Array Oper) (w0 : World) (σ : List Blk) (kA dA : Nat) (T : TypeId) (xs : List Value) (len : Nat) (F : Value → Value) : NI (Nat × List Value × Nat) :=
  ⟨P, ops, w0, σ, kA, ops.size, dA, fun p => F (.slice (some ⟨p.1, 0, none⟩) len p.2.2), fun p => ⟨p.1, xs ++ p.2.1, T⟩, fun p => ⟨p.1, xs ++ p.2.1, T⟩⟩
theorem wp_region_callF {id : Nat} {Q : Exit → Act → World → Prop} {l : List Oper} (kA dA : Nat) (T : TypeId) (xs : List Value) (len : Nat) (F : Value → Value) (hm : Mem w0 w σ) (hx : P.follows .mixedOrders = true) (hB : Region.lexB .any l.toArray = true)
    (ht : textB l.toArray kA l.length dA = true) (h : wpN (NF P l.toArray w0 σ kA dA T xs len F) (fun a' => ∀ g more cap w', Mem w0 w' (⟨g, xs ++ more, T⟩ :: σ) → Q .normal (a'.put (some dA) (F (.slice (some ⟨g, 0, none⟩) len cap))) w') 0 l a) : (Code.region id l.toArray true).wp P Q a w :=
  wp_region_new (π := Nat × List Value × Nat) (NF P l.toArray w0 σ kA dA T xs len F) ⟨rfl, rfl⟩ hm hx hB (by simpa using ht) (fun _ _ => rfl) (wpN_mono _ _ _ _ _ (fun a' h p w' hw' => h p.1 p.2.1 p.2.2 w' hw') h)
theorem make_slF {f : FuncId} {args : Array Value} {s : Nat} (hs : 0 < s) (hx : xs.length = len * s) (hm : Mem w0 w σ) (h : Calls P f args w fun e w' => ∃ v, e = .returned (F v) ∧ Sl w w' v T s xs []) :
    Calls P f args w fun e w' => ∃ p : Nat × List Value × Nat, e = .returned (F (.slice (some ⟨p.1, 0, none⟩) len p.2.2)) ∧ Mem w0 w' (⟨p.1, xs ++ p.2.1, T⟩ :: σ) :=
  h.mono fun e w' ⟨v, he, hsl⟩ => by
    have h2 : Sl w0 w' v T s xs σ := by simpa using Sl.lift hm hsl
    obtain ⟨g, more, len', cap, rfl, h1, _, h3⟩ := h2
    obtain rfl : len = len' := Nat.eq_of_mul_eq_mul_right hs (by omega)
    exact ⟨(g, more, cap), he, h1⟩
end
end Go.Proofs.Ytlhchjjegaflhaa

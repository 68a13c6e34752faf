/-
  What lifts a walk of a law to its given statement: the arguments opened to their leaves, read again behind the call, the post.
  No condition but that the world below the call's own blocks is as it was.
-/
import Derived.Test.YtlhchjjegaflhaaRows
import Derived.WalkKit
import Derived.ProofKit
import Derived.OpenShut
import Derived.Carry
import Derived.Deep.Slices
import Derived.WalkSpells
namespace Go.Proofs.Ytlhchjjegaflhaa
open Go.ChangeShapes Go.WideShapes Go.ChangeAt Go.RowKit
open Go.ChangeMaps (open_string shut_string)
set_option linter.unusedVariables false

/-! ### the leaves of a type -/
def leafs (P : Program) : Nat → TypeId → List TypeId
  | 0, t => [t]
  | n + 1, t => match P.underlying t with
    | some (.struct fs) => fs.toList.flatMap fun f => leafs P n f.type
    | some (.array m e) => (List.range m).flatMap fun _ => leafs P n e
    | _ => [t]
def offsOk (P : Program) (n : Nat) : Nat → List Field → Bool
  | _, [] => true
  | k, f :: fs => (f.offset == k) && (P.cellsOf f.type == (leafs P n f.type).length) && offsOk P n (k + (leafs P n f.type).length) fs
def leafsOk (P : Program) : Nat → TypeId → Bool
  | 0, _ => false
  | n + 1, t => match P.underlying t with
    | some (.struct fs) => offsOk P n 0 fs.toList && fs.toList.all (fun f => leafsOk P n f.type) && (P.cellsOf t == (leafs P (n + 1) t).length)
    | some (.array _ e) => (P.cellsOf e == (leafs P n e).length) && leafsOk P n e && (P.cellsOf t == (leafs P (n + 1) t).length)
    | _ => P.cellsOf t == 1

theorem offs_le {P : Program} {n : Nat} : ∀ {fs : List Field} {k : Nat}, offsOk P n k fs = true → ∀ {f : Field}, f ∈ fs → f.offset + P.cellsOf f.type ≤ k + (fs.flatMap fun f => leafs P n f.type).length
  | [], _, _, _, h => by simp at h
  | g :: fs, k, hk, f, h => by
    simp only [offsOk, Bool.and_eq_true, beq_iff_eq] at hk
    obtain ⟨⟨h1, h2⟩, h3⟩ := hk
    simp only [List.flatMap_cons, List.length_append]
    rcases List.mem_cons.1 h with rfl | h
    · omega
    · have := offs_le (fs := fs) h3 h
      omega

theorem sum_rep (m k : Nat) : (List.replicate m k).sum = m * k := by
  induction m with
  | zero => simp
  | succ m ih => rw [List.replicate_succ, List.sum_cons, ih, Nat.succ_mul]; omega

section
variable {H : Type} {enc : TypeId × Value → H} {P : Program} {w : World} {base : Nat} {spare : Nat → Bool} {held : Bool}
/-- Cell by cell: what stands there is read as its leaf's type. -/
def LeafAt (enc : TypeId × Value → H) (P : Program) (w : World) (base : Nat) (spare : Nat → Bool) (held : Bool) (ts : List TypeId) (cs : List Value) : Prop :=
  cs.length = ts.length ∧ ∀ (j : Nat) (t : TypeId), ts[j]? = some t → ∃ (v : Value) (fuel : Nat) (y : DataW H × List MemPlace), cs[j]? = some v ∧ DataW.trod enc P w base spare held fuel t [v] = some y

theorem offs_leafs (n : Nat) (cs : List Value) : ∀ (fs : List Field) (k : Nat), offsOk P n k fs = true →
    (∀ f ∈ fs, LeafAt enc P w base spare held (leafs P n f.type) ((cs.drop f.offset).take (P.cellsOf f.type))) →
    ∀ (j : Nat) (t : TypeId), (fs.flatMap fun f => leafs P n f.type)[j]? = some t → ∃ (v : Value) (fuel : Nat) (y : DataW H × List MemPlace), cs[k + j]? = some v ∧ DataW.trod enc P w base spare held fuel t [v] = some y
  | [], k, _, _, j, t, h => by simp at h
  | f :: fs, k, hk, hf, j, t, h => by
    simp only [offsOk, Bool.and_eq_true, beq_iff_eq] at hk
    obtain ⟨⟨h1, h2⟩, h3⟩ := hk
    simp only [List.flatMap_cons] at h
    by_cases hj : j < (leafs P n f.type).length
    · rw [List.getElem?_append_left hj] at h
      obtain ⟨v, fuel, y, hv, hy⟩ := (hf f (by simp)).2 j t h
      refine ⟨v, fuel, y, ?_, hy⟩
      rw [List.getElem?_take, if_pos (by omega), List.getElem?_drop, h1] at hv
      exact hv
    · rw [List.getElem?_append_right (by omega)] at h
      obtain ⟨v, fuel, y, hv, hy⟩ := offs_leafs n cs fs _ h3 (fun f hf' => hf f (by simp [hf'])) _ t h
      refine ⟨v, fuel, y, ?_, hy⟩
      rw [← hv]
      congr 1
      omega

theorem rep_leafs (l : List TypeId) (cs : List Value) : ∀ (m i0 : Nat),
    (∀ i, i < m → LeafAt enc P w base spare held l ((cs.drop ((i0 + i) * l.length)).take l.length)) →
    ∀ (j : Nat) (t : TypeId), ((List.range m).flatMap fun _ => l)[j]? = some t → ∃ (v : Value) (fuel : Nat) (y : DataW H × List MemPlace), cs[i0 * l.length + j]? = some v ∧ DataW.trod enc P w base spare held fuel t [v] = some y
  | 0, _, _, j, t, h => by simp at h
  | m + 1, i0, hi, j, t, h => by
    rw [List.range_succ_eq_map] at h
    simp only [List.flatMap_cons, List.flatMap_map] at h
    by_cases hj : j < l.length
    · rw [List.getElem?_append_left hj] at h
      obtain ⟨v, fuel, y, hv, hy⟩ := (hi 0 (by omega)).2 j t h
      refine ⟨v, fuel, y, ?_, hy⟩
      rw [List.getElem?_take, if_pos (by omega), List.getElem?_drop] at hv
      exact hv
    · rw [List.getElem?_append_right (by omega)] at h
      obtain ⟨v, fuel, y, hv, hy⟩ := rep_leafs l cs m (i0 + 1) (fun i hm => by have := hi (i + 1) (by omega); rw [show i0 + (i + 1) = i0 + 1 + i from by omega] at this; exact this) _ t h
      refine ⟨v, fuel, y, ?_, hy⟩
      rw [← hv]
      congr 1
      rw [Nat.succ_mul]
      omega

theorem trod_leafs : ∀ (n : Nat) (t : TypeId) (fuel : Nat) (cs : List Value) (x : DataW H × List MemPlace), leafsOk P n t = true →
    DataW.trod enc P w base spare held fuel t cs = some x → cs.length = P.cellsOf t → LeafAt enc P w base spare held (leafs P n t) cs
  | 0, t, _, _, _, h, _, _ => by simp [leafsOk] at h
  | n + 1, t, fuel, cs, x, hok, ht, hlen => by
    unfold leafsOk at hok
    unfold leafs
    split at hok
    · rename_i fs hu
      simp only [Bool.and_eq_true, beq_iff_eq, List.all_eq_true] at hok
      obtain ⟨⟨h1, h2⟩, h3⟩ := hok
      have h3' := h3
      unfold leafs at h3
      simp only [hu] at h3 ⊢
      refine ⟨by omega, fun j t' hj => ?_⟩
      obtain ⟨xs, m, _, _, _, hxl, hf⟩ := DataW.trod_struct hu ht
      have := offs_leafs (enc := enc) (P := P) (w := w) (base := base) (spare := spare) (held := held) n cs fs.toList 0 h1 (fun f hf' => ?_) j t' hj
      · simpa using this
      · obtain ⟨i, hi, hif⟩ := List.getElem_of_mem hf'
        have hfi : fs[i]? = some f := by
          rw [← Array.getElem?_toList, List.getElem?_eq_getElem hi, hif]
        have hx := hf i f hfi
        have hil : i < xs.length := by
          have : i < fs.size := by simpa using hi
          omega
        rw [List.getElem?_eq_getElem hil] at hx
        refine trod_leafs n f.type m _ _ (h2 f hf') hx ?_
        obtain ⟨hsz⟩ : True := trivial
        have hle := offs_le h1 hf'
        rw [List.length_take, List.length_drop]
        omega
    · rename_i m e hu
      simp only [Bool.and_eq_true, beq_iff_eq] at hok
      obtain ⟨⟨h1, h2⟩, h3⟩ := hok
      unfold leafs at h3
      simp only [hu] at h3 ⊢
      have hl : ((List.range m).flatMap fun _ => leafs P n e).length = m * (leafs P n e).length := by
        rw [List.length_flatMap, List.map_const', List.length_range]
        exact sum_rep _ _
      refine ⟨by omega, fun j t' hj => ?_⟩
      obtain ⟨xs, k, _, _, _, hxl, hf⟩ := DataW.trod_array hu ht
      have := rep_leafs (enc := enc) (P := P) (w := w) (base := base) (spare := spare) (held := held) (leafs P n e) cs m 0 (fun i hi => ?_) j t' hj
      · simpa using this
      · have hx := hf i hi
        rw [List.getElem?_eq_getElem (by omega)] at hx
        rw [h1] at hx
        rw [Nat.zero_add]
        refine trod_leafs n e k _ _ h2 hx ?_
        rw [List.length_take, List.length_drop, h1]
        have : (i + 1) * (leafs P n e).length ≤ m * (leafs P n e).length := Nat.mul_le_mul_right _ (by omega)
        rw [Nat.succ_mul] at this
        omega
    · rename_i hu1 hu2
      simp only [beq_iff_eq] at hok
      refine ⟨by simpa using hlen.trans hok, fun j t' hj => ?_⟩
      match cs, hlen.trans hok with
      | [v], _ =>
        cases j with
        | zero => simp at hj; subst hj; exact ⟨v, fuel, x, rfl, ht⟩
        | succ j => simp at hj
end

/-! ### the parameters, opened -/
abbrev iv (n : Int) : Value := .int .i64 n
def I64 (n : Int) : Prop := (Lit.int .i64 n).wf = true
theorem I64.lo {n : Int} (h : I64 n) : -9223372036854775808 ≤ n := by
  have := bounds_i64 h; omega
theorem I64.hi {n : Int} (h : I64 n) : n ≤ 9223372036854775807 := by
  have := bounds_i64 h; omega

theorem okWide_agg {P : Program} {w : World} {r : Reach} {base : Nat} {t : TypeId} {v : Value} (ht : (match P.underlying t with | some (.struct _) | some (.array _ _) => true | _ => false) = true) (h : Value.okWide P w r base t v) : ∃ cs, v = .agg cs ∧ cs.size = P.cellsOf t := by
  unfold Value.okWide at h
  split at h
  · obtain ⟨cs, h1, h2, _⟩ := h; exact ⟨cs, h1, h2⟩
  · obtain ⟨cs, h1, h2, _⟩ := h; exact ⟨cs, h1, h2⟩
  · split at ht <;> simp_all

section
variable {H : Type} {enc : TypeId × Value → H} {P : Program} {w : World} {spare : Nat → Bool} {held : Bool} {r : Reach} {b0 b1 : Nat}
/-- A parameter of an aggregate type, leaf by leaf. -/
theorem open_leafs {t : TypeId} {v : Value} {d : DataW H} {p : List MemPlace} (ht : (match P.underlying t with | some (.struct _) | some (.array _ _) => true | _ => false) = true) (hok : leafsOk P 6 t = true)
    (hval : Value.okWide P w r b0 t v) (h : DataW.Trod enc P w b1 spare held t v d p) : ∃ cs : List Value, v = .agg ⟨cs⟩ ∧ LeafAt enc P w b1 spare held (leafs P 6 t) cs := by
  obtain ⟨⟨cs⟩, rfl, hsz⟩ := okWide_agg ht hval
  obtain ⟨fuel, hf⟩ := h
  exact ⟨cs, rfl, trod_leafs 6 t fuel cs _ hok (by simpa [Value.cells] using hf) (by simpa using hsz)⟩

theorem leaf_int {ti : TypeId} (hi : P.underlying ti = some (.int .i64)) : ∀ (n : Nat) (cs : List Value), LeafAt enc P w b1 spare held (List.replicate n ti) cs → ∃ l : List Int, cs = l.map iv ∧ l.length = n ∧ ∀ x ∈ l, I64 x
  | 0, cs, h => ⟨[], by simpa using h.1, rfl, by simp⟩
  | n + 1, [], h => by simp [LeafAt] at h
  | n + 1, c :: cs, h => by
    obtain ⟨l, rfl, hl, hw⟩ := leaf_int hi n cs ⟨by simpa using h.1, fun j t hj => by
      obtain ⟨v, fuel, y, hv, hy⟩ := h.2 (j + 1) t (by rw [List.replicate_succ]; simpa using hj)
      exact ⟨v, fuel, y, by simpa using hv, hy⟩⟩
    obtain ⟨v, fuel, y, hv, hy⟩ := h.2 0 ti (by rw [List.replicate_succ]; rfl)
    obtain ⟨x, hx, _, hwx⟩ := DataW.trod_int hi hy
    simp only [List.getElem?_cons_zero, Option.some.injEq] at hv
    simp only [List.cons.injEq, and_true] at hx
    exact ⟨x :: l, by rw [hv, hx]; rfl, by simp [hl], fun z hz => (List.mem_cons.1 hz).elim (fun e => e ▸ hwx) (hw z)⟩

/-- A parameter that is numbers alone (a board, a desk, a step, a row ..). -/
theorem open_row {t ti : TypeId} {n : Nat} {v : Value} {d : DataW H} {p : List MemPlace} (hi : P.underlying ti = some (.int .i64)) (ht : (match P.underlying t with | some (.struct _) | some (.array _ _) => true | _ => false) = true) (hok : leafsOk P 6 t = true)
    (hl : leafs P 6 t = List.replicate n ti) (hval : Value.okWide P w r b0 t v) (h : DataW.Trod enc P w b1 spare held t v d p) : ∃ l : List Int, v = .agg (l.map iv).toArray ∧ l.length = n ∧ ∀ x ∈ l, I64 x := by
  obtain ⟨cs, rfl, hc⟩ := open_leafs ht hok hval h
  rw [hl] at hc
  obtain ⟨l, rfl, h1, h2⟩ := leaf_int hi n cs hc
  exact ⟨l, rfl, h1, h2⟩
end

/-! ### the post -/
theorem own : ownKnob Try.prog.godebug = none := by kernel_rfl
theorem laid_out : laidOutB Try.prog = true := by kernel_rfl

theorem trodAll_below {H : Type} {enc : TypeId × Value → H} {P : Program} {W W' : World} (hl : laidOutB P = true) (hb : Below W.heap.size W W') : ∀ (ts : List TypeId) (vs : List Value) (ds : List (DataW H)) (ps : List MemPlace),
    (ts.all fun t => P.readableRec t && decide (t < P.types.size)) = true → DataW.TrodAll enc P W 0 (fun _ => true) true ts vs ds ps → (∀ x ∈ ps, x.block < W.heap.size) →
    DataW.TrodAll enc P W' 0 (fun b => decide (b < W.heap.size)) true ts vs ds ps
  | [], vs, ds, ps, _, h, _ => by
    obtain ⟨rfl, rfl, rfl⟩ := trodAll_nil h
    exact trodAll_mk0
  | t :: ts, vs, ds, ps, ht, h, hlt => by
    obtain ⟨v, vs', d, ds', p, q, rfl, rfl, rfl, h0, hr⟩ := trodAll_cons h
    simp only [List.all_cons, Bool.and_eq_true, decide_eq_true_eq] at ht
    exact trodAll_cons_mk (Below.trod hl ht.1.1 ht.1.2 h0 hb fun x hx => hlt x (by simp [hx])) (trodAll_below hl hb ts vs' ds' q ht.2 hr fun x hx => hlt x (by simp [hx]))

set_option maxRecDepth 100000 in
/-- What a walk of a law owes: it returned true, and below the call's own blocks nothing has turned. -/
theorem post_law {H : Type} {enc : TypeId × Value → H} {f : Func} {s : ChangeSpec} {W W' : World} {args : Array Value} {ds gs : List (DataW H)} {before : List MemPlace}
    (hW : DataW.Whole enc Try.prog f.params.toList s.vars false W args.toList ds gs before) (hv : s.vars = []) (hr : f.resultTypes = #[4]) (hs : s.fn H (ds ++ gs) = { results := [.lit (.bool true)], args := ds })
    (hp : (f.params.toList.all fun t => Try.prog.readableRec t && decide (t < Try.prog.types.size)) = true) (hb : Below W.heap.size W W') : s.post enc Try.prog f false true false false W args (.bool true) W' := by
  have hW' := hW
  obtain ⟨p, q, hA, hV, rfl, hfz, hnd⟩ := hW
  rw [hv] at hV
  obtain ⟨rfl, rfl⟩ := trodVars_none hV
  refine ⟨ds, [], p ++ [], [], p, [], hW', ?_, ?_, ?_, hb.frame _, fun h => by cases h⟩
  · rw [hs, hr]
    exact trodAll_cons_mk (shut_bool Try.underlying4 _) trodAll_mk0
  · rw [hs]
    exact trodAll_below laid_out hb _ _ _ _ hp hA fun x hx => hW'.lt x (by simp [hx])
  · rw [hs, hv]
    rfl
end Go.Proofs.Ytlhchjjegaflhaa

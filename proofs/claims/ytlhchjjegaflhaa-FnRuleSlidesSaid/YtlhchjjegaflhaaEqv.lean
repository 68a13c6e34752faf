/-
  '==' and '!=' of boards, rows and cells: whole numbers alone. No condition of their own.
-/
import Derived.Test.YtlhchjjegaflhaaCommon
import Derived.Laws.StructEq
set_option linter.unusedVariables false
set_option linter.unusedSimpArgs false
namespace Go.Proofs.Ytlhchjjegaflhaa
open Go.RowKit
section
variable {P : Program}
/-- Elements 0 .. n - 1 of an array are compared, one after the other. -/
def eqElems (P : Program) (d : Nat) (e : TypeId) (s : Nat) (xs ys : Array Value) : List Nat → Sem Bool
  | [] => pure true
  | i :: is => do
    let a ← part e xs (i * s)
    let b ← part e ys (i * s)
    let r ← Op.equalIn d e a b
    if (!r) = true then pure false else eqElems P d e s xs ys is
theorem run_equalIn_array (w : World) (d : Nat) (t e : TypeId) (n s : Nat) (xs ys : Array Value) (ht : P.underlying t = some (.array n e)) (hs : ∀ w, (sizeOf e).run P w = .ok s w) :
    (Op.equalIn (d + 1) t (.agg xs) (.agg ys)).run P w = (eqElems P d e s xs ys (List.range' 0 n)).run P w := by
  simp only [Op.equalIn, Sem.run_bind, run_underlying ht, Result.andThen_ok, hs]
  rw [Std.Legacy.Range.forIn_eq_forIn_range']
  simp only [Std.Legacy.Range.size, Nat.sub_zero, Nat.add_sub_cancel, Nat.div_one]
  generalize List.range' 0 n = is
  clear ht
  induction is generalizing w with
  | nil => simp [eqElems]
  | cons i is ih =>
    simp only [List.forIn_cons, eqElems, Sem.run_bind, Sem.run_ite]
    generalize (part e xs (i * s)).run P w = r1
    cases r1 with
    | ok a w1 =>
      simp only [Result.andThen_ok]
      generalize (part e ys (i * s)).run P w1 = r2
      cases r2 with
      | ok b w2 =>
        simp only [Result.andThen_ok]
        generalize (Op.equalIn d e a b).run P w2 = r3
        cases r3 with
        | ok r w3 =>
          cases r
          · simp only [Result.andThen_ok, Bool.not_false, if_true, Sem.run_pure]
          · simp only [Result.andThen_ok, Bool.not_true, Bool.false_eq_true, if_false, Sem.run_pure]
            exact ih w3
        | halt x w3 => simp [Result.andThen]
      | halt x w2 => simp [Result.andThen]
    | halt x w1 => simp [Result.andThen]
/-- Two rows of whole numbers of a type are the same just if their numbers are. -/
class EqInts (P : Program) (t : TypeId) (s : outParam Nat) (k : outParam Nat) : Prop where
  out : ∀ (d : Nat) (w : World) (xs ys : List Int), xs.length = s → ys.length = s → (Op.equalIn (d + k) t (.agg (nums xs)) (.agg (nums ys))).run P w = .ok (decide (xs = ys)) w
theorem size_of {e : TypeId} {s : Nat} (h : (P.info? e).map (·.size) = some s) (w : World) : (sizeOf e).run P w = .ok s w := by
  cases hq : P.info? e with
  | none => simp [hq] at h
  | some i => simp [hq] at h; simp [sizeOf, typeInfo, hq, h, go_sem]
theorem part_cell {e : TypeId} [hc : IsCell P e] {cs : List Value} {i : Nat} {v : Value} (hv : cs[i]? = some v) (w : World) : (part e cs.toArray i).run P w = .ok v w := by
  obtain ⟨d, hu, hd⟩ := hc.out
  simp only [part, isAgg, Sem.run_bind, run_underlying hu]
  cases d <;> simp_all [TypeDesc.isRow, go_sem]
theorem part_row {e : TypeId} {s : Nat} [hc : IsRow P e s] {cs : List Value} {i : Nat} (w : World) : (part e cs.toArray i).run P w = .ok (.agg ((cs.drop i).take s).toArray) w := by
  obtain ⟨d, hu, hd⟩ := hc.out
  have hz := size_of (P := P) hc.size
  have e1 : ((cs.toArray.extract i (i + s)) : Array Value) = ((cs.drop i).take s).toArray := by simp [List.extract_toArray, List.extract_eq_take_drop]
  simp only [part, isAgg, Sem.run_bind, run_underlying hu]
  cases d <;> simp_all [TypeDesc.isRow, go_sem]
theorem eqElems_cells {e : TypeId} [hc : IsCell P e] {k : IntKind} (he : P.underlying e = some (.int k)) (d : Nat) (w : World) (xs ys : List Int) (hl : xs.length = ys.length) : ∀ (m i : Nat), i + m = xs.length →
    (eqElems P (d + 1) e 1 (xs.map iv).toArray (ys.map iv).toArray (List.range' i m)).run P w = .ok (decide (xs.drop i = ys.drop i)) w
  | 0, i, h => by
    rw [List.drop_of_length_le (by omega), List.drop_of_length_le (by omega)]
    simp [eqElems]
  | m + 1, i, h => by
    have hx : (xs.map iv)[i]? = some (iv xs[i]) := by rw [List.getElem?_map, List.getElem?_eq_getElem (by omega)]; rfl
    have hy : (ys.map iv)[i]? = some (iv ys[i]) := by rw [List.getElem?_map, List.getElem?_eq_getElem (by omega)]; rfl
    rw [List.range'_succ]
    simp only [eqElems, Nat.mul_one, Sem.run_bind, part_cell hx, part_cell hy, Result.andThen_ok, run_equalIn_int w d e .i64 k _ _ he]
    have ex : xs.drop i = xs[i] :: xs.drop (i + 1) := List.drop_eq_getElem_cons (by omega)
    have ey : ys.drop i = ys[i] :: ys.drop (i + 1) := List.drop_eq_getElem_cons (by omega)
    rw [ex, ey]
    have ih := eqElems_cells he d w xs ys hl m (i + 1) (by omega)
    by_cases hq : xs[i] = ys[i]
    · have h1 : (xs[i] :: xs.drop (i + 1) = ys[i] :: ys.drop (i + 1)) ↔ (xs.drop (i + 1) = ys.drop (i + 1)) := by
        rw [List.cons.injEq]; exact ⟨fun h => h.2, fun h => ⟨hq, h⟩⟩
      have h2 : (xs[i] == ys[i]) = true := by simpa using hq
      simp only [h1, h2, Bool.not_true, Bool.false_eq_true, if_false]
      exact ih
    · have h1 : ¬ (xs[i] :: xs.drop (i + 1) = ys[i] :: ys.drop (i + 1)) := fun h => hq (List.cons.inj h).1
      have h2 : (xs[i] == ys[i]) = false := by simpa using hq
      simp only [h1, h2, Bool.not_false, if_true, decide_false, Sem.run_pure]
theorem eqElems_rows {e : TypeId} {s k : Nat} [hc : IsRow P e s] [he : EqInts P e s k] (d : Nat) (w : World) (n : Nat) (xs ys : List Int) (hx : xs.length = n * s) (hy : ys.length = n * s) : ∀ (m i : Nat), i + m = n →
    (eqElems P (d + k) e s (xs.map iv).toArray (ys.map iv).toArray (List.range' i m)).run P w = .ok (decide (xs.drop (i * s) = ys.drop (i * s))) w
  | 0, i, h => by
    obtain rfl : i = n := by omega
    rw [List.drop_of_length_le (by omega), List.drop_of_length_le (by omega)]
    simp [eqElems]
  | m + 1, i, h => by
    have hle : (i + 1) * s ≤ n * s := Nat.mul_le_mul_right _ (by omega)
    have hle' : (i + 1) * s = i * s + s := Nat.succ_mul _ _
    rw [List.range'_succ]
    have e1 : ∀ (l : List Int), (((l.map iv).drop (i * s)).take s).toArray = nums ((l.drop (i * s)).take s) := fun l => by rw [← List.map_drop, ← List.map_take]; rfl
    simp only [eqElems, Sem.run_bind, part_row, Result.andThen_ok, e1]
    rw [he.out d w _ _ (by simp; omega) (by simp; omega)]
    simp only [Result.andThen_ok]
    have ih := eqElems_rows (e := e) d w n xs ys hx hy m (i + 1) (by omega)
    have e2 : ∀ (l : List Int), l.drop (i * s) = (l.drop (i * s)).take s ++ l.drop ((i + 1) * s) := fun l => by
      rw [hle', ← List.drop_drop, List.take_append_drop]
    by_cases hq : (xs.drop (i * s)).take s = (ys.drop (i * s)).take s
    · simp only [hq, decide_true, Bool.not_true, Bool.false_eq_true, if_false]
      rw [ih]
      have : (xs.drop (i * s) = ys.drop (i * s)) ↔ (xs.drop ((i + 1) * s) = ys.drop ((i + 1) * s)) := by
        rw [e2 xs, e2 ys, hq]; simp
      simp [this]
    · have : ¬ (xs.drop (i * s) = ys.drop (i * s)) := fun h => hq (by rw [h])
      simp [hq, this]
theorem EqInts.cells {t e : TypeId} {n : Nat} {k : IntKind} (ht : P.underlying t = some (.array n e)) (he : P.underlying e = some (.int k)) [IsCell P e] [hs : CellSize P e] : EqInts P t n 2 := ⟨fun d w xs ys hx hy => by
  rw [show d + 2 = (d + 1) + 1 from rfl, run_equalIn_array w _ t e n 1 _ _ ht (size_of hs.size)]
  have := eqElems_cells (P := P) he d w xs ys (by omega) n 0 (by omega)
  simpa [nums] using this⟩
theorem EqInts.rows {t e : TypeId} {n s k : Nat} (ht : P.underlying t = some (.array n e)) [hr : IsRow P e s] [EqInts P e s k] : EqInts P t (n * s) (k + 1) := ⟨fun d w xs ys hx hy => by
  rw [← Nat.add_assoc, run_equalIn_array w _ t e n s _ _ ht (size_of hr.size)]
  have := eqElems_rows (P := P) (e := e) d w n xs ys hx hy n 0 (by omega)
  simpa [nums] using this⟩
theorem EqInts.one {t : TypeId} {f : Field} {s k : Nat} (ht : P.underlying t = some (.struct #[f])) (hp : P.stoodInHeld t = false) (hn : f.name ≠ "_") (ho : f.offset = 0) [hr : IsRow P f.type s] [he : EqInts P f.type s k] : EqInts P t s (k + 1) := ⟨fun d w xs ys hx hy => by
  have hF : P.fieldsOf t = #[f] := by simp [Program.fieldsOf, ht]
  rw [← Nat.add_assoc, run_equalIn_struct w _ t _ _ (by rw [hF]; exact ht) hp, hF]
  simp only [Op.eqFields, hn, ne_eq, not_false_eq_true, if_true, ho, Sem.run_bind, nums, part_row, Result.andThen_ok, List.drop_zero]
  have e1 : ∀ (l : List Int), l.length = s → ((l.map iv).take s).toArray = nums l := fun l h => by rw [List.take_of_length_le (by simp; omega)]; rfl
  rw [e1 xs hx, e1 ys hy, he.out d w xs ys hx hy]
  by_cases h : xs = ys <;> simp [h]⟩
theorem run_eql_ints {t : TypeId} {s k : Nat} [he : EqInts P t s k] (hk : k ≤ 10000) (xs ys : List Int) (hx : xs.length = s) (hy : ys.length = s) (w : World) : (binOp .eql t (.agg (xs.map iv).toArray) (.agg (ys.map iv).toArray)).run P w = .ok (.bool (decide (xs = ys))) w := by
  rw [run_eql_struct, show 10000 = (10000 - k) + k from by omega]
  have := he.out (10000 - k) w xs ys hx hy
  unfold nums at this
  rw [this]; rfl
theorem run_neq_ints {t : TypeId} {s k : Nat} [he : EqInts P t s k] (hk : k ≤ 10000) (xs ys : List Int) (hx : xs.length = s) (hy : ys.length = s) (w : World) : (binOp .neq t (.agg (xs.map iv).toArray) (.agg (ys.map iv).toArray)).run P w = .ok (.bool (!decide (xs = ys))) w := by
  rw [run_neq_struct, show 10000 = (10000 - k) + k from by omega]
  have := he.out (10000 - k) w xs ys hx hy
  unfold nums at this
  rw [this]; rfl
end
instance : EqInts Try.prog 24 4 2 := EqInts.cells Try.underlying24 Try.underlying3
instance : EqInts Try.prog 62 2 2 := EqInts.cells Try.underlying62 Try.underlying3
instance : EqInts Try.prog 25 16 3 := EqInts.rows Try.underlying25
instance : EqInts Try.prog 27 16 4 := EqInts.one Try.underlying27 (by kernel_rfl) (by decide) rfl
end Go.Proofs.Ytlhchjjegaflhaa

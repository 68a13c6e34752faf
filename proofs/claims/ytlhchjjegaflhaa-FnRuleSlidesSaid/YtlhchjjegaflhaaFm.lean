/-
  Lists of rows of whole numbers, as they lie in memory one after the other. Comparison of steps. No condition of their own.
-/
import Derived.Test.YtlhchjjegaflhaaCmp
import Derived.Test.YtlhchjjegaflhaaInts
set_option linter.unusedVariables false
set_option linter.unusedSimpArgs false
namespace Go.Proofs.Ytlhchjjegaflhaa
open Go.RowKit Slm
section
variable {α : Type} {f : α → List Int} {s : Nat}
theorem fm_len (l : List α) (hf : ∀ a ∈ l, (f a).length = s) : (l.flatMap f).length = l.length * s := by
  induction l with
  | nil => simp
  | cons a l ih =>
    rw [List.flatMap_cons, List.length_append, ih (fun x hx => hf x (by simp [hx])), hf a (by simp), List.length_cons, Nat.succ_mul]
    omega
theorem fm_drop (l : List α) (k : Nat) (hf : ∀ a ∈ l, (f a).length = s) : (l.flatMap f).drop (k * s) = (l.drop k).flatMap f := by
  induction l generalizing k with
  | nil => simp
  | cons a l ih =>
    cases k with
    | zero => simp
    | succ k =>
      rw [List.flatMap_cons, Nat.succ_mul, Nat.add_comm, ← List.drop_drop]
      have h1 : (f a ++ l.flatMap f).drop s = l.flatMap f := by
        have := hf a (by simp)
        rw [← this, List.drop_left]
      rw [h1, ih k (fun x hx => hf x (by simp [hx]))]
      simp
theorem fm_take (l : List α) (k : Nat) (hf : ∀ a ∈ l, (f a).length = s) : (l.flatMap f).take (k * s) = (l.take k).flatMap f := by
  induction l generalizing k with
  | nil => simp
  | cons a l ih =>
    cases k with
    | zero => simp
    | succ k =>
      have h2 := hf a (by simp)
      rw [List.flatMap_cons, Nat.succ_mul, Nat.add_comm, List.take_append, h2, show s + k * s - s = k * s from by omega, ih k (fun x hx => hf x (by simp [hx])), List.take_of_length_le (by omega)]
      simp
theorem fm_get {l : List α} {k : Nat} (h : k < l.length) (hf : ∀ a ∈ l, (f a).length = s) (more : List Value) : (((l.flatMap f).map iv ++ more).drop (k * s)).take s = (f l[k]).map iv := by
  have hl := fm_len l hf
  have h1 : k * s + s ≤ l.length * s := by rw [← Nat.succ_mul]; exact Nat.mul_le_mul_right _ h
  have h2 := hf l[k] (List.getElem_mem h)
  rw [List.drop_append_of_le_length (by rw [List.length_map]; omega), ← List.map_drop, fm_drop l k hf, List.drop_eq_getElem_cons h, List.flatMap_cons, List.map_append, List.append_assoc]
  rw [List.take_append_of_le_length (by simp [h2]), List.take_of_length_le (by simp [h2])]
theorem fm_cell {l : List α} {k j : Nat} (h : k < l.length) (hj : j < s) (hf : ∀ a ∈ l, (f a).length = s) (more : List Value) : ((l.flatMap f).map iv ++ more)[k * s + j]? = some (iv ((f l[k]).getD j 0)) := by
  have h0 := fm_get h hf more
  have h2 := hf l[k] (List.getElem_mem h)
  have h3 : ((((l.flatMap f).map iv ++ more).drop (k * s)).take s)[j]? = some (iv ((f l[k]).getD j 0)) := by
    rw [h0, List.getElem?_map, List.getElem?_eq_getElem (by omega)]
    simp [List.getD_eq_getElem?_getD, List.getElem?_eq_getElem (show j < (f l[k]).length by omega)]
  rw [List.getElem?_take, if_pos hj, List.getElem?_drop] at h3
  exact h3
theorem fm_snoc (l : List α) (a : α) : (l ++ [a]).flatMap f = l.flatMap f ++ f a := by simp
end
/-- A step: direction, row, column, tile. -/
abbrev Stp := Int × Int × Int × Int
def stI (s : Stp) : List Int := [s.1, s.2.1, s.2.2.1, s.2.2.2]
theorem stI_len (s : Stp) : (stI s).length = 4 := rfl
theorem stI_inj {s t : Stp} : stI s = stI t ↔ s = t := by
  obtain ⟨a, b, c, d⟩ := s
  obtain ⟨a', b', c', d'⟩ := t
  simp [stI]
theorem EqInts.step {P : Program} {t : TypeId} {f1 f2 f3 : Field} {k1 k3 : IntKind} (ht : P.underlying t = some (.struct #[f1, f2, f3])) (hp : P.stoodInHeld t = false) (n1 : f1.name ≠ "_") (n2 : f2.name ≠ "_") (n3 : f3.name ≠ "_")
    (o1 : f1.offset = 0) (o2 : f2.offset = 1) (o3 : f3.offset = 3) [IsCell P f1.type] (h1 : P.underlying f1.type = some (.int k1)) [hr : IsRow P f2.type 2] [he : EqInts P f2.type 2 2] [IsCell P f3.type] (h3 : P.underlying f3.type = some (.int k3)) : EqInts P t 4 3 := ⟨fun d w xs ys hx hy => by
  obtain ⟨a, b, c, e, rfl⟩ := list4 hx
  obtain ⟨a', b', c', e', rfl⟩ := list4 hy
  have hF : P.fieldsOf t = #[f1, f2, f3] := by simp [Program.fieldsOf, ht]
  have p1 := fun (x y z u : Int) (w : World) => part_cell (P := P) (e := f1.type) (cs := [x, y, z, u].map iv) (i := 0) (v := iv x) rfl w
  have p3 := fun (x y z u : Int) (w : World) => part_cell (P := P) (e := f3.type) (cs := [x, y, z, u].map iv) (i := 3) (v := iv u) rfl w
  have p2 := fun (x y z u : Int) (w : World) => part_row (P := P) (e := f2.type) (s := 2) (cs := [x, y, z, u].map iv) (i := 1) w
  simp only [List.map_cons, List.map_nil, List.drop_succ_cons, List.drop_zero, List.take_succ_cons, List.take_zero] at p2
  have e2 := fun w => he.out d w [b, c] [b', c'] rfl rfl
  simp only [nums, List.map_cons, List.map_nil] at e2 p1 p3
  have e1 := fun w => run_equalIn_int w (d + 1) f1.type .i64 k1 a a' h1
  have e3 := fun w => run_equalIn_int w (d + 1) f3.type .i64 k3 e e' h3
  rw [show d + 3 = (d + 2) + 1 from rfl, run_equalIn_struct w _ t _ _ (by rw [hF]; exact ht) hp, hF]
  simp only [Op.eqFields, n1, n2, n3, ne_eq, not_false_eq_true, if_true, o1, o2, o3, Sem.run_bind, nums, List.map_cons, List.map_nil, p1, p2, p3, Result.andThen_ok, List.drop_succ_cons, List.drop_zero, List.take_succ_cons, List.take_zero, e1, e2, e3]
  by_cases q1 : a = a' <;> by_cases q2 : [b, c] = [b', c'] <;> by_cases q3 : e = e' <;> simp_all⟩
end Go.Proofs.Ytlhchjjegaflhaa

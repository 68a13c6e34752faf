/-
  Walks of the comparisons and the marks of lists of numbers.
-/
import Derived.Test.YtjmolkamaeonmaaDoorDel
set_option linter.unusedVariables false
set_option linter.unusedSimpArgs false
namespace Go.Proofs.YtjmolkamaeonmaaDoor
open Go.RowKit Slm
section
variable {P : Program} {w0 w : World} {σ : List Blk}
/-- A callee that returns a slice of its own and whether there is one. -/
theorem mem_callT {f : FuncId} {args : Array Value} {R : Ending → World → Prop} {T : TypeId} {s : Nat} {xs : List Value} {o : Bool} (hm : Mem w0 w σ) (h : Calls P f args w fun e w' => ∃ v, e = .returned (.tuple #[v, .bool o]) ∧ Sl w w' v T s xs [])
    (k : ∀ g more len cap w', Mem w0 w' (⟨g, xs ++ more, T⟩ :: σ) → Fit (xs ++ more) s len cap → xs.length = len * s → R (.returned (.tuple #[.slice (some ⟨g, 0, none⟩) len cap, .bool o])) w') : Calls P f args w R :=
  h.mono fun e w' ⟨v, he, hs⟩ => by
    have h2 : Sl w0 w' v T s xs σ := by simpa using Sl.lift hm hs
    obtain ⟨g, more, len, cap, rfl, h1, h2, h3⟩ := h2
    subst he
    exact k g more len cap w' h1 h2 h3
end
theorem Sl.sig2 {w0 w : World} {v : Value} {e : TypeId} {s : Nat} {xs : List Value} {σ : List Blk} (h : Sl w0 w v e s xs σ) : ∃ τ, τ = σ ∧ Sl w0 w v e s xs τ := ⟨σ, rfl, h⟩
theorem int_get {xs : List Int} {k : Nat} (h : k < xs.length) (more : List Value) : (xs.map iv ++ more)[k]? = some (iv xs[k]) := by
  rw [List.getElem?_append_left (by simpa using h), List.getElem?_map, List.getElem?_eq_getElem h]; rfl
theorem take_snoc_eq {xs ys : List Int} {k : Nat} (hx : k < xs.length) (hy : k < ys.length) (h : xs.take k = ys.take k) : xs.take (k + 1) = ys.take (k + 1) ↔ xs[k] = ys[k] := by
  rw [List.take_succ_eq_append_getElem hx, List.take_succ_eq_append_getElem hy, h]
  simp only [List.append_cancel_left_eq, List.cons.injEq, and_true]
/-- Marks from m on. -/
def marksL (m : Int) (n : Nat) : List Int := (List.range n).map fun (i : Nat) => m + (i : Int)
theorem marksL_succ (m : Int) (n : Nat) : marksL m (n + 1) = marksL m n ++ [m + n] := by simp [marksL, List.range_succ]
theorem marksL_len (m : Int) (n : Nat) : (marksL m n).length = n := by simp [marksL]
def markK (m : Int) (xs : List Int) (k : Nat) : List Int := marksL m k ++ xs.drop k
theorem markK_len (m : Int) (xs : List Int) (k : Nat) (h : k ≤ xs.length) : (markK m xs k).length = xs.length := by simp [markK, marksL_len]; omega
theorem markK_set (m : Int) (xs : List Int) (k : Nat) (h : k < xs.length) (more : List Value) : ((markK m xs k).map iv ++ more).set k (iv (m + k)) = (markK m xs (k + 1)).map iv ++ more := by
  rw [List.set_append_left _ _ (by simp [markK_len m xs k (by omega), h]), set_iv]
  congr 2
  unfold markK
  rw [marksL_succ, List.set_append_right _ _ (by simp [marksL_len]), marksL_len, Nat.sub_self, List.drop_eq_getElem_cons h, List.set_cons_zero, List.append_assoc]
  rfl
theorem marks_get (m : Int) (n k : Nat) (h : k < n) (more : List Value) : ((marksL m n).map iv ++ more)[k]? = some (iv (m + k)) := by
  rw [List.getElem?_append_left (by simpa [marksL_len] using h), List.getElem?_map]
  simp [marksL, h]
end Go.Proofs.YtjmolkamaeonmaaDoor

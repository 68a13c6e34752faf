/-
  The plain mathematics of the boards: no program in sight.
-/
namespace Slm
/-- A number within bounds. -/
def inB (x a b : Int) : Bool := decide (a ≤ x) && decide (x ≤ b)
theorem inB_eq {x a b : Int} (h : a ≤ x ∧ x ≤ b) : inB x a b = true := by simp [inB, h]
theorem inB_ne {x a b : Int} (h : ¬ (a ≤ x ∧ x ≤ b)) : inB x a b = false := by
  simp only [inB, Bool.and_eq_false_iff, decide_eq_false_iff_not]; omega
theorem inB_iff {x a b : Int} : inB x a b = true ↔ a ≤ x ∧ x ≤ b := by simp [inB]
/-- All numbers of a board, a row, .. are those of cells. -/
def okL (l : List Int) : Bool := l.all fun x => inB x 0 17
/-- The tile to which two merge by a rule, 0 if they do not. -/
def mergeZ (rule s t : Int) : Int :=
  let lo := if s ≤ t then s else t
  let hi := if s ≤ t then t else s
  let out := if rule = 1 then (if lo = hi then hi + 1 else 0)
    else if rule = 2 then (if hi = lo + 1 then lo + 2 else 0)
    else if rule = 3 then (if lo = 1 ∧ hi = 2 then 3 else if lo = hi ∧ 3 ≤ lo then hi + 1 else 0)
    else if rule = 4 then lo + hi else 0
  if out > 17 then 0 else out
def fibA : Nat → Int
  | 0 => 1
  | 1 => 1
  | n + 2 => fibA (n + 1) + fibA n
theorem fibA_bd : ∀ k : Nat, k ≤ 18 → 1 ≤ fibA k ∧ fibA k ≤ 4181 := by decide
/-- The worth of a tile (of 2: the number of chapter 2). -/
def worthZ (rule t : Int) : Int :=
  if rule = 1 then (if t = 0 then 0 else 2 ^ t.toNat) else if rule = 2 then fibA t.toNat else if rule = 3 then (if t ≤ 3 then t else 3 * 2 ^ (t - 3).toNat) else t
theorem tiles18 {t : Int} (h : 0 ≤ t ∧ t ≤ 17) : t = 0 ∨ t = 1 ∨ t = 2 ∨ t = 3 ∨ t = 4 ∨ t = 5 ∨ t = 6 ∨ t = 7 ∨ t = 8 ∨ t = 9 ∨ t = 10 ∨ t = 11 ∨ t = 12 ∨ t = 13 ∨ t = 14 ∨ t = 15 ∨ t = 16 ∨ t = 17 := by omega
/-- The pairs of s with s, s + 1, .. (k of them) that merge by a rule. -/
def pIn (rule s : Int) : Nat → List (Int × Int)
  | 0 => []
  | k + 1 => pIn rule s k ++ (if 0 < mergeZ rule s (s + k) then [(s, s + k)] else [])
/-- The pairs whose less tile is at most k. -/
def pOut (rule : Int) : Nat → List (Int × Int)
  | 0 => []
  | k + 1 => pOut rule k ++ pIn rule (k + 1) (17 - k)
end Slm

/-
  The plain mathematics of slides: a slide's lines are the slid lines; the tiles that get fewer are the mergers.
-/
import Derived.Test.YtlhchjjegaflhaaRowMath
namespace Slm
def ind (x : Int) : Nat := if x = 0 then 0 else 1
def indS (l : List Int) : Nat := (l.map ind).sum
theorem tiles_ind : ∀ (l : List Int), (tilesL l).length = indS l
  | [] => rfl
  | x :: l => by
    have ih := tiles_ind l
    unfold tilesL indS at *
    by_cases h : x = 0
    · simp [h, ind]; exact ih
    · simp [h, ind]; omega
theorem board16 {b : List Int} (h : b.length = 16) : ∃ a0 a1 a2 a3 b0 b1 b2 b3 c0 c1 c2 c3 d0 d1 d2 d3, b = [a0, a1, a2, a3, b0, b1, b2, b3, c0, c1, c2, c3, d0, d1, d2, d3] := by
  match b, h with
  | [a0, a1, a2, a3, b0, b1, b2, b3, c0, c1, c2, c3, d0, d1, d2, d3], _ => exact ⟨a0, a1, a2, a3, b0, b1, b2, b3, c0, c1, c2, c3, d0, d1, d2, d3, rfl⟩
theorem row4 {r : List Int} (h : r.length = 4) : ∃ a b c d, r = [a, b, c, d] := by
  match r, h with
  | [a, b, c, d], _ => exact ⟨a, b, c, d, rfl⟩
theorem side4 {d : Nat} (h : d ≤ 3) : d = 0 ∨ d = 1 ∨ d = 2 ∨ d = 3 := by omega
/-- The tiles of a board are those of its lines. -/
theorem board_ind {b : List Int} (hl : b.length = 16) {d : Nat} (hd : d ≤ 3) : indS b = indS (lineL d 0 b) + indS (lineL d 1 b) + indS (lineL d 2 b) + indS (lineL d 3 b) := by
  obtain ⟨a0, a1, a2, a3, b0, b1, b2, b3, c0, c1, c2, c3, d0, d1, d2, d3, rfl⟩ := board16 hl
  rcases side4 hd with rfl | rfl | rfl | rfl <;> simp [indS, lineL, atL, lpos] <;> omega
/-- A line of a board with other lines. -/
theorem lines_put (d : Nat) (hd : d ≤ 3) {b r0 r1 r2 r3 : List Int} (hl : b.length = 16) (h0 : r0.length = 4) (h1 : r1.length = 4) (h2 : r2.length = 4) (h3 : r3.length = 4) :
    lineL d 0 (putL d 3 r3 (putL d 2 r2 (putL d 1 r1 (putL d 0 r0 b)))) = r0 ∧ lineL d 1 (putL d 3 r3 (putL d 2 r2 (putL d 1 r1 (putL d 0 r0 b)))) = r1 ∧ lineL d 2 (putL d 3 r3 (putL d 2 r2 (putL d 1 r1 (putL d 0 r0 b)))) = r2 ∧ lineL d 3 (putL d 3 r3 (putL d 2 r2 (putL d 1 r1 (putL d 0 r0 b)))) = r3 := by
  obtain ⟨a0, a1, a2, a3, b0, b1, b2, b3, c0, c1, c2, c3, d0, d1, d2, d3, rfl⟩ := board16 hl
  obtain ⟨p0, p1, p2, p3, rfl⟩ := row4 h0
  obtain ⟨q0, q1, q2, q3, rfl⟩ := row4 h1
  obtain ⟨s0, s1, s2, s3, rfl⟩ := row4 h2
  obtain ⟨t0, t1, t2, t3, rfl⟩ := row4 h3
  rcases side4 hd with rfl | rfl | rfl | rfl <;> simp [lineL, putL, atL, lpos]
theorem slideB_eq (rule : Int) (d : Nat) (b : List Int) : slideB rule d b = putL d 3 (rowTo rule (lineL d 3 b)) (putL d 2 (rowTo rule (lineL d 2 b)) (putL d 1 (rowTo rule (lineL d 1 b)) (putL d 0 (rowTo rule (lineL d 0 b)) b))) := rfl
theorem slide_lines (rule : Int) (d : Nat) (hd : d ≤ 3) {b : List Int} (hl : b.length = 16) : ∀ i, i ≤ 3 → lineL d i (slideB rule d b) = rowTo rule (lineL d i b) := by
  have h := lines_put d hd hl (rowTo_len (rule := rule) (lineL_len d 0 b)) (rowTo_len (rule := rule) (lineL_len d 1 b)) (rowTo_len (rule := rule) (lineL_len d 2 b)) (rowTo_len (rule := rule) (lineL_len d 3 b))
  rw [← slideB_eq] at h
  intro i hi
  rcases side4 hi with rfl | rfl | rfl | rfl
  · exact h.1
  · exact h.2.1
  · exact h.2.2.1
  · exact h.2.2.2
theorem slT_count (rule : Int) (acc : List (Int × Bool)) (t : Int) : (slT rule acc t).length + countC (slT rule acc t) = acc.length + countC acc + 1 := by
  unfold slT
  split
  · split
    · simp [countC]; omega
    · simp [countC]; omega
  · simp [countC]; omega
theorem foldT_count (rule : Int) : ∀ (l : List Int) (acc : List (Int × Bool)), (l.foldl (slT rule) acc).length + countC (l.foldl (slT rule) acc) = acc.length + countC acc + l.length
  | [], acc => by simp
  | t :: l, acc => by
    have h1 := foldT_count rule l (slT rule acc t)
    have h2 := slT_count rule acc t
    simp only [List.foldl_cons, List.length_cons]; omega
theorem outC_ind : ∀ (acc : List (Int × Bool)), (∀ p ∈ acc, 1 ≤ p.1 ∧ p.1 ≤ 17) → indS (outC acc) = acc.length := by
  intro acc h
  have h0 : ∀ n : Nat, indS (List.replicate n 0) = 0 := fun n => by
    induction n with
    | zero => rfl
    | succ n ih => simp only [indS, List.replicate_succ, List.map_cons, List.sum_cons] at *; rw [ih]; rfl
  have h1 : ∀ (l : List (Int × Bool)), (∀ p ∈ l, 1 ≤ p.1 ∧ p.1 ≤ 17) → indS (l.map (·.1)) = l.length := fun l => by
    induction l with
    | nil => intro _; rfl
    | cons p l ih =>
      intro h
      have hp := h p (by simp)
      have := ih (fun q hq => h q (by simp [hq]))
      simp only [indS, List.map_cons, List.sum_cons, List.length_cons] at *
      rw [this]
      unfold ind
      rw [if_neg (by omega)]; omega
  unfold outC
  have : ∀ (l m : List Int), indS (l ++ m) = indS l + indS m := fun l m => by simp [indS]
  rw [this, h0, h1 _ (fun p hp => h p (by simpa using hp))]
  simp
/-- A row that slides has as many tiles less as there are mergers. -/
theorem row_count (rule : Int) {r : List Int} (h : okL r = true) : (indS (rowTo rule r) : Int) + rowMerged rule r = indS r := by
  have h1 := outC_ind (accT rule (tilesL r)) (accT_ok (tilesL_ok h))
  have h2 := foldT_count rule (tilesL r) []
  have h3 := tiles_ind r
  simp only [countC, List.length_nil] at h2
  unfold rowTo rowMerged
  unfold accT at *
  omega
theorem slide_count (rule : Int) (d : Nat) (hd : d ≤ 3) {b : List Int} (hl : b.length = 16) (h : okL b = true) : (indS (slideB rule d b) : Int) + mergedB rule d b = indS b := by
  have e1 := board_ind (b := slideB rule d b) (by rw [slideB_len, hl]) hd
  have e2 := board_ind hl hd
  rw [slide_lines rule d hd hl 0 (by omega), slide_lines rule d hd hl 1 (by omega), slide_lines rule d hd hl 2 (by omega), slide_lines rule d hd hl 3 (by omega)] at e1
  have r0 := row_count rule (lineL_ok h d 0)
  have r1 := row_count rule (lineL_ok h d 1)
  have r2 := row_count rule (lineL_ok h d 2)
  have r3 := row_count rule (lineL_ok h d 3)
  have em : mergedB rule d b = rowMerged rule (lineL d 0 b) + rowMerged rule (lineL d 1 b) + rowMerged rule (lineL d 2 b) + rowMerged rule (lineL d 3 b) := by simp [mergedB, mergedN]
  omega
end Slm

/-
  The plain mathematics of boards that slide until nothing changes.
-/
import Derived.Test.YtlhchjjegaflhaaSlMath
namespace Slm
theorem slT_cases (rule : Int) (acc : List (Int × Bool)) (t : Int) : slT rule acc t = (t, false) :: acc ∨ countC (slT rule acc t) = countC acc + 1 := by
  unfold slT
  split
  · split
    · right; simp [countC]
    · left; rfl
  · left; rfl
theorem slT_mono (rule : Int) (acc : List (Int × Bool)) (t : Int) : countC acc ≤ countC (slT rule acc t) := by
  rcases slT_cases rule acc t with h | h
  · rw [h]; simp [countC]
  · omega
theorem foldT_mono (rule : Int) : ∀ (l : List Int) (acc : List (Int × Bool)), countC acc ≤ countC (l.foldl (slT rule) acc)
  | [], _ => Int.le_refl _
  | t :: l, acc => Int.le_trans (slT_mono rule acc t) (foldT_mono rule l _)
theorem foldT_none (rule : Int) : ∀ (l : List Int) (acc : List (Int × Bool)), countC (l.foldl (slT rule) acc) = countC acc → l.foldl (slT rule) acc = (l.map fun t => (t, false)).reverse ++ acc
  | [], acc, _ => by simp
  | t :: l, acc, h => by
    have h1 := foldT_mono rule l (slT rule acc t)
    have h2 := slT_mono rule acc t
    simp only [List.foldl_cons] at h ⊢
    rcases slT_cases rule acc t with h3 | h3
    · rw [h3] at h ⊢
      rw [foldT_none rule l _ (by rw [h]; simp [countC])]
      simp
    · omega
/-- A row whose tiles stand ahead of its empty cells. -/
def flushR (r : List Int) : Prop := r = tilesL r ++ List.replicate (4 - (tilesL r).length) 0
theorem tiles_pos {l : List Int} (h : ∀ x ∈ l, 1 ≤ x ∧ x ≤ 17) : tilesL l = l := by
  unfold tilesL
  rw [List.filter_eq_self]
  intro x hx
  have := h x hx
  simp; omega
theorem tiles_zero (n : Nat) : tilesL (List.replicate n 0) = [] := by
  unfold tilesL
  rw [List.filter_eq_nil_iff]
  intro x hx
  have := List.eq_of_mem_replicate hx
  simp [this]
theorem tiles_append (l m : List Int) : tilesL (l ++ m) = tilesL l ++ tilesL m := by simp [tilesL]
theorem rowTo_flush (rule : Int) {r : List Int} (h : okL r = true) : flushR (rowTo rule r) := by
  have h1 := accT_ok (rule := rule) (tilesL_ok h)
  have h2 : tilesL ((accT rule (tilesL r)).reverse.map (·.1)) = (accT rule (tilesL r)).reverse.map (·.1) := tiles_pos fun x hx => by
    simp only [List.mem_map, List.mem_reverse] at hx
    obtain ⟨p, hp, rfl⟩ := hx
    exact h1 p hp
  unfold flushR rowTo outC
  rw [tiles_append, h2, tiles_zero, List.append_nil]
  simp
theorem row_still (rule : Int) {r : List Int} (h0 : rowMerged rule r = 0) (hf : flushR r) : rowTo rule r = r := by
  have h1 := foldT_none rule (tilesL r) [] (by have h := h0; unfold rowMerged accT at h; rw [h]; rfl)
  unfold rowTo accT
  rw [h1]
  conv => rhs; rw [hf]
  simp [outC, Function.comp_def]
theorem merged_sum (rule : Int) (d : Nat) (b : List Int) : mergedB rule d b = rowMerged rule (lineL d 0 b) + rowMerged rule (lineL d 1 b) + rowMerged rule (lineL d 2 b) + rowMerged rule (lineL d 3 b) := by simp [mergedB, mergedN]
theorem board_ext {d : Nat} (hd : d ≤ 3) {b c : List Int} (hb : b.length = 16) (hc : c.length = 16) (h : ∀ i, i ≤ 3 → lineL d i b = lineL d i c) : b = c := by
  obtain ⟨a0, a1, a2, a3, b0, b1, b2, b3, c0, c1, c2, c3, d0, d1, d2, d3, rfl⟩ := board16 hb
  obtain ⟨e0, e1, e2, e3, f0, f1, f2, f3, g0, g1, g2, g3, i0, i1, i2, i3, rfl⟩ := board16 hc
  have h0 := h 0 (by omega)
  have h1 := h 1 (by omega)
  have h2 := h 2 (by omega)
  have h3 := h 3 (by omega)
  clear h
  rcases side4 hd with rfl | rfl | rfl | rfl
  all_goals
    simp [lineL, atL, lpos] at h0 h1 h2 h3
    simp_all
def flushB (d : Nat) (b : List Int) : Prop := ∀ i, i ≤ 3 → flushR (lineL d i b)
theorem slide_flush (rule : Int) {d : Nat} (hd : d ≤ 3) {b : List Int} (hl : b.length = 16) (h : okL b = true) : flushB d (slideB rule d b) := fun i hi => by
  rw [slide_lines rule d hd hl i hi]
  exact rowTo_flush rule (lineL_ok h d i)
theorem slide_still (rule : Int) {d : Nat} (hd : d ≤ 3) {b : List Int} (hl : b.length = 16) (hf : flushB d b) (h0 : mergedB rule d b = 0) : slideB rule d b = b := by
  have r0 := rowMerged_bd rule (lineL_len d 0 b)
  have r1 := rowMerged_bd rule (lineL_len d 1 b)
  have r2 := rowMerged_bd rule (lineL_len d 2 b)
  have r3 := rowMerged_bd rule (lineL_len d 3 b)
  rw [merged_sum] at h0
  refine board_ext hd (by simp [hl]) hl fun i hi => ?_
  rw [slide_lines rule d hd hl i hi]
  refine row_still rule ?_ (hf i hi)
  rcases side4 hi with rfl | rfl | rfl | rfl <;> omega
theorem mergedB_bd (rule : Int) (d : Nat) (b : List Int) : 0 ≤ mergedB rule d b ∧ mergedB rule d b ≤ 16 := by
  have := mergedN_bd rule d b 4
  unfold mergedB; omega
def flushQ (r : List Int) : Bool := decide (r = tilesL r ++ List.replicate (4 - (tilesL r).length) 0)
def flushQB (d : Nat) (b : List Int) : Bool := flushQ (lineL d 0 b) && (flushQ (lineL d 1 b) && (flushQ (lineL d 2 b) && flushQ (lineL d 3 b)))
theorem flushQB_iff (d : Nat) (b : List Int) : flushQB d b = true ↔ flushB d b := by
  simp only [flushQB, flushQ, Bool.and_eq_true, decide_eq_true_eq]
  refine ⟨fun ⟨h0, h1, h2, h3⟩ i hi => ?_, fun h => ⟨h 0 (by omega), h 1 (by omega), h 2 (by omega), h 3 (by omega)⟩⟩
  rcases side4 hi with rfl | rfl | rfl | rfl
  · exact h0
  · exact h1
  · exact h2
  · exact h3
/-- What gets less with each slide that changes something. -/
def muB (d : Nat) (b : List Int) : Nat := 2 * indS b + if flushQB d b = true then 0 else 1
theorem mu_less (rule : Int) {d : Nat} (hd : d ≤ 3) {b : List Int} (hl : b.length = 16) (h : okL b = true) (hne : slideB rule d b ≠ b) : muB d (slideB rule d b) < muB d b := by
  have h1 := slide_count rule d hd hl h
  have h2 := mergedB_bd rule d b
  unfold muB
  rw [if_pos ((flushQB_iff _ _).2 (slide_flush rule hd hl h))]
  by_cases hf : flushQB d b = true
  · rw [if_pos hf]
    have : mergedB rule d b ≠ 0 := fun h0 => hne (slide_still rule hd hl ((flushQB_iff _ _).1 hf) h0)
    omega
  · rw [if_neg hf]; omega
theorem indS_le (b : List Int) : indS b ≤ b.length := by rw [← tiles_ind]; exact tilesL_len b
theorem mu_bd (d : Nat) {b : List Int} (hl : b.length = 16) : muB d b ≤ 33 := by
  have := indS_le b
  unfold muB; split <;> omega
/-- The board behind slides until nothing changes, and their number. -/
def settleF (rule : Int) (d : Nat) : Nat → List Int → Nat → List Int × Nat
  | 0, b, n => (b, n)
  | f + 1, b, n => if slideB rule d b = b then (b, n) else settleF rule d f (slideB rule d b) (n + 1)
theorem settle_stop {rule : Int} {d f : Nat} {b : List Int} {n : Nat} (h : slideB rule d b = b) : settleF rule d (f + 1) b n = (b, n) := by rw [settleF, if_pos h]
theorem settle_go {rule : Int} {d f : Nat} {b : List Int} {n : Nat} (h : ¬ slideB rule d b = b) : settleF rule d (f + 1) b n = settleF rule d f (slideB rule d b) (n + 1) := by rw [settleF, if_neg h]
theorem settle_len (rule : Int) (d : Nat) : ∀ (f : Nat) (b : List Int) (n : Nat), (settleF rule d f b n).1.length = b.length
  | 0, _, _ => rfl
  | f + 1, b, n => by
    unfold settleF
    split
    · rfl
    · rw [settle_len rule d f]; simp
end Slm

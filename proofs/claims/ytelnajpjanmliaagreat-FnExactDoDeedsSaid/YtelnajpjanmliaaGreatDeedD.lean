/-
  DoDeed of the program and of the reference.
-/
import Derived.Test.YtelnajpjanmliaaGreatDeedS
import Derived.Test.YtelnajpjanmliaaGreatDeedI1
import Derived.Test.YtelnajpjanmliaaGreatDeedI2
import Derived.Test.YtelnajpjanmliaaGreatDeedI3
import Derived.Test.YtelnajpjanmliaaGreatDeedI4
import Derived.Test.YtelnajpjanmliaaGreatDeedI5
set_option linter.unusedVariables false
set_option linter.unusedSimpArgs false
namespace Go.Proofs.YtelnajpjanmliaaGreat
open Go.RowKit Slm
theorem deskB_app {b : List Int} (hl : b.length = 16) (p n : Int) : deskB (b ++ [p, n]) = (okL b && (inB p 0 9999999 && inB n 0 1000)) := by
  have h1 : (b ++ [p, n]).take 16 = b := List.take_left' hl
  have h2 : (b ++ [p, n]).getD 16 0 = p := by rw [List.getD_eq_getElem?_getD, List.getElem?_append_right (by omega), hl]; rfl
  have h3 : (b ++ [p, n]).getD 17 0 = n := by rw [List.getD_eq_getElem?_getD, List.getElem?_append_right (by omega), hl]; rfl
  rw [deskB, h1, h2, h3]
theorem deskB_facts {b : List Int} (hl : b.length = 16) {p n : Int} (h : deskB (b ++ [p, n]) = true) : okL b = true ∧ (0 ≤ p ∧ p ≤ 9999999) ∧ (0 ≤ n ∧ n ≤ 1000) := by
  rw [deskB_app hl] at h
  simp only [Bool.and_eq_true, inB_iff] at h
  exact ⟨h.1, h.2.1, h.2.2⟩
theorem dV_no {b : List Int} {p n k a c t : Int} (h : dOK b p n k a c t = false) : dV b p n k a c t = zD := by rw [dV, h]; rfl
theorem dV_yes {b : List Int} {p n k a c t : Int} (h : dOK b p n k a c t = true) : dV b p n k a c t = (mkD b k a c t).1 ++ [p + (mkD b k a c t).2.1, n + 1] := by rw [dV, if_pos h]
theorem dOK_def (b : List Int) (p n k a c t : Int) : dOK b p n k a c t = ((mkD b k a c t).2.2 && (plainD k c t && deskB ((mkD b k a c t).1 ++ [p + (mkD b k a c t).2.1, n + 1]))) := rfl
theorem impl_DoDeed_ok (b : List Int) (hl : b.length = 16) (p n k a c t : Int) (hg : deskB (b ++ [p, n]) = true) (w : World) : Calls Tryz.prog 16 #[.agg (nums (b ++ [p, n])), .agg #[iv k, iv a, iv c, iv t]] w fun e w' => e = .returned (.tuple #[.agg (nums (dV b p n k a c t)), .bool (dOK b p n k a c t)]) ∧ Below w.heap.size w w' := by
  obtain ⟨hok, hp, hn⟩ := deskB_facts hl hg
  have hd := dOK_def b p n k a c t
  cases ho : (mkD b k a c t).2.2 <;> cases hpl : plainD k c t <;> cases hgo : deskB ((mkD b k a c t).1 ++ [p + (mkD b k a c t).2.1, n + 1])
  all_goals
    rw [ho, hpl, hgo] at hd
    simp only [Bool.false_and, Bool.and_false, Bool.and_self, Bool.and_true, Bool.true_and] at hd
    first | rw [dV_no hd, hd] | rw [dV_yes hd, hd]
    clear hd
    rcases k_cases k with rfl | rfl | rfl | rfl | rfl | ⟨h1, h2, h3, h4, h5⟩
    · rw [mkD_1] at *
      simp only at ho hgo ⊢
      first | exact impl_DoDeed1a b hl hok p n a c t hg hp hn ho w | exact impl_DoDeed1b b hl hok p n a c t hg hp hn ho hpl w | exact impl_DoDeed1c b hl hok p n a c t hg hp hn ho hpl hgo w | exact impl_DoDeed1d b hl hok p n a c t hg hp hn ho hpl hgo w
    · rw [mkD_2] at *
      simp only [Int.add_zero] at ho hgo ⊢
      first | exact impl_DoDeed2a b hl hok p n a c t hg hp hn ho w | exact impl_DoDeed2c b hl hok p n a c t hg hp hn ho hpl hgo w | exact impl_DoDeed2d b hl hok p n a c t hg hp hn ho hpl hgo w | (rw [plainD, if_neg (by omega), if_neg (by omega)] at hpl; exact absurd hpl (by decide))
    · rw [mkD_3] at *
      simp only [Int.add_zero] at ho hgo ⊢
      first | exact impl_DoDeed3a b hl hok p n a c t hg hp hn ho w | exact impl_DoDeed3b b hl hok p n a c t hg hp hn ho hpl w | exact impl_DoDeed3c b hl hok p n a c t hg hp hn ho hpl hgo w | exact impl_DoDeed3d b hl hok p n a c t hg hp hn ho hpl hgo w
    · rw [mkD_4] at *
      simp only [Int.add_zero] at ho hgo ⊢
      first | exact impl_DoDeed4a b hl hok p n a c t hg hp hn ho w | exact impl_DoDeed4b b hl hok p n a c t hg hp hn ho hpl w | exact impl_DoDeed4c b hl hok p n a c t hg hp hn ho hpl hgo w | exact impl_DoDeed4d b hl hok p n a c t hg hp hn ho hpl hgo w
    · rw [mkD_5] at *
      simp only [Int.add_zero] at ho hgo ⊢
      first | exact impl_DoDeed5a b hl hok p n a c t hg hp hn ho w | exact impl_DoDeed5b b hl hok p n a c t hg hp hn ho hpl w | exact impl_DoDeed5c b hl hok p n a c t hg hp hn ho hpl hgo w | exact impl_DoDeed5d b hl hok p n a c t hg hp hn ho hpl hgo w
    · rw [mkD_6 b a c t h1 h2 h3 h4 h5] at *
      simp only at ho
      first | exact impl_DoDeed6 b hl p n k a c t hg hp hn h1 h2 h3 h4 h5 w | exact absurd ho (by decide)
/-- DoDeed, told, of any desk. -/
def ddV (b : List Int) (p n k a c t : Int) : List Int × Bool := if deskB (b ++ [p, n]) = true then (dV b p n k a c t, dOK b p n k a c t) else (zD, false)
theorem ddV_len {b : List Int} (hl : b.length = 16) (p n k a c t : Int) : (ddV b p n k a c t).1.length = 18 := by
  unfold ddV; split
  · simp only [dV_len hl]
  · rfl
theorem impl_DoDeed (b : List Int) (hl : b.length = 16) (p n k a c t : Int) (w : World) : Calls Tryz.prog 16 #[.agg (nums (b ++ [p, n])), .agg #[iv k, iv a, iv c, iv t]] w fun e w' => e = .returned (.tuple #[.agg (nums (ddV b p n k a c t).1), .bool (ddV b p n k a c t).2]) ∧ Below w.heap.size w w' := by
  unfold ddV
  cases hg : deskB (b ++ [p, n])
  · simp only [Bool.false_eq_true, if_false]
    exact impl_DoDeed0 b hl p n k a c t hg w
  · simp only [if_true]
    exact impl_DoDeed_ok b hl p n k a c t hg w
end Go.Proofs.YtelnajpjanmliaaGreat

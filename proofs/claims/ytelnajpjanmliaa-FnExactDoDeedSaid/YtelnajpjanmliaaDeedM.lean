/-
  Plain mathematics of deeds, and walks of what is plain of a deed.
-/
import Derived.Test.YtelnajpjanmliaaDeedB
import Derived.Test.YtelnajpjanmliaaSnake2
import Derived.Test.YtelnajpjanmliaaDesk
set_option linter.unusedVariables false
set_option linter.unusedSimpArgs false
namespace Go.Proofs.Ytelnajpjanmliaa
open Go.RowKit Slm
/-- What a deed makes of a board: the board, the score, whether it can be made. -/
def mkD (b : List Int) (k a c t : Int) : List Int × Int × Bool :=
  if k = 1 then ((slV b a).1, (slV b a).2.1, (slV b a).2.2 && !decide ((slV b a).1 = b))
  else if k = 2 then (putV b a c t, 0, putOK b a c t)
  else if k = 3 then (takeV b a c, 0, takeOK b a c)
  else if k = 4 then ((formV b a).1, 0, (formV b a).2)
  else if k = 5 then ((snakeV b a).1, 0, (snakeV b a).2)
  else (b, 0, false)
def plainD (k c t : Int) : Bool := if k = 1 ∨ k = 4 ∨ k = 5 then decide (c = 0) && decide (t = 0) else if k = 3 then decide (t = 0) else true
def zD : List Int := [0, 0, 0, 0, 0, 0, 0, 0, 0, 0, 0, 0, 0, 0, 0, 0, 0, 0]
/-- A deed of a valid desk, told. -/
def dOK (b : List Int) (p n k a c t : Int) : Bool := (mkD b k a c t).2.2 && (plainD k c t && deskB ((mkD b k a c t).1 ++ [p + (mkD b k a c t).2.1, n + 1]))
def dV (b : List Int) (p n k a c t : Int) : List Int := if dOK b p n k a c t = true then (mkD b k a c t).1 ++ [p + (mkD b k a c t).2.1, n + 1] else zD
theorem z16_len : z16d.length = 16 := rfl
theorem slV_len {b : List Int} (hl : b.length = 16) (d : Int) : (slV b d).1.length = 16 := by
  unfold slV; split
  · simp [slideB_len, hl]
  · rfl
theorem putV_len {b : List Int} (hl : b.length = 16) (r c t : Int) : (putV b r c t).length = 16 := by
  unfold putV; split
  · rw [List.length_set, hl]
  · rfl
theorem takeV_len {b : List Int} (hl : b.length = 16) (r c : Int) : (takeV b r c).length = 16 := by
  unfold takeV; split
  · rw [List.length_set, hl]
  · rfl
theorem formV_len (b : List Int) (k : Int) : (formV b k).1.length = 16 := by
  unfold formV; split
  · simp only [formB_len]
  · rfl
theorem snakeV_len (b : List Int) (k : Int) : (snakeV b k).1.length = 16 := by
  unfold snakeV; split
  · simp only [sbK_len]
  · rfl
theorem k_cases (k : Int) : k = 1 ∨ k = 2 ∨ k = 3 ∨ k = 4 ∨ k = 5 ∨ (k ≠ 1 ∧ k ≠ 2 ∧ k ≠ 3 ∧ k ≠ 4 ∧ k ≠ 5) := by omega
theorem mkD_1 (b : List Int) (a c t : Int) : mkD b 1 a c t = ((slV b a).1, (slV b a).2.1, (slV b a).2.2 && !decide ((slV b a).1 = b)) := by rw [mkD, if_pos rfl]
theorem mkD_2 (b : List Int) (a c t : Int) : mkD b 2 a c t = (putV b a c t, 0, putOK b a c t) := by rw [mkD, if_neg (by omega), if_pos rfl]
theorem mkD_3 (b : List Int) (a c t : Int) : mkD b 3 a c t = (takeV b a c, 0, takeOK b a c) := by rw [mkD, if_neg (by omega), if_neg (by omega), if_pos rfl]
theorem mkD_4 (b : List Int) (a c t : Int) : mkD b 4 a c t = ((formV b a).1, 0, (formV b a).2) := by rw [mkD, if_neg (by omega), if_neg (by omega), if_neg (by omega), if_pos rfl]
theorem mkD_5 (b : List Int) (a c t : Int) : mkD b 5 a c t = ((snakeV b a).1, 0, (snakeV b a).2) := by rw [mkD, if_neg (by omega), if_neg (by omega), if_neg (by omega), if_neg (by omega), if_pos rfl]
theorem mkD_6 (b : List Int) {k : Int} (a c t : Int) (h1 : k ≠ 1) (h2 : k ≠ 2) (h3 : k ≠ 3) (h4 : k ≠ 4) (h5 : k ≠ 5) : mkD b k a c t = (b, 0, false) := by rw [mkD, if_neg h1, if_neg h2, if_neg h3, if_neg h4, if_neg h5]
theorem mkD_len {b : List Int} (hl : b.length = 16) (k a c t : Int) : (mkD b k a c t).1.length = 16 := by
  rcases k_cases k with rfl | rfl | rfl | rfl | rfl | ⟨h1, h2, h3, h4, h5⟩
  · rw [mkD_1]; exact slV_len hl _
  · rw [mkD_2]; exact putV_len hl _ _ _
  · rw [mkD_3]; exact takeV_len hl _ _
  · rw [mkD_4]; exact formV_len _ _
  · rw [mkD_5]; exact snakeV_len _ _
  · rw [mkD_6 b a c t h1 h2 h3 h4 h5]; exact hl
theorem slV_sc {b : List Int} (hok : okL b = true) (a : Int) : 0 ≤ (slV b a).2.1 ∧ (slV b a).2.1 ≤ 2097152 := by
  unfold slV; split
  · exact scoreB_bd hok _
  · exact ⟨Int.le_refl 0, (by omega : (0 : Int) ≤ 2097152)⟩
theorem mkD_sc {b : List Int} (hok : okL b = true) (k a c t : Int) : 0 ≤ (mkD b k a c t).2.1 ∧ (mkD b k a c t).2.1 ≤ 2097152 := by
  rcases k_cases k with rfl | rfl | rfl | rfl | rfl | ⟨h1, h2, h3, h4, h5⟩
  · rw [mkD_1]; exact slV_sc hok _
  · rw [mkD_2]; exact ⟨Int.le_refl 0, (by omega : (0 : Int) ≤ 2097152)⟩
  · rw [mkD_3]; exact ⟨Int.le_refl 0, (by omega : (0 : Int) ≤ 2097152)⟩
  · rw [mkD_4]; exact ⟨Int.le_refl 0, (by omega : (0 : Int) ≤ 2097152)⟩
  · rw [mkD_5]; exact ⟨Int.le_refl 0, (by omega : (0 : Int) ≤ 2097152)⟩
  · rw [mkD_6 b a c t h1 h2 h3 h4 h5]; exact ⟨Int.le_refl 0, (by omega : (0 : Int) ≤ 2097152)⟩
theorem dV_len {b : List Int} (hl : b.length = 16) (p n k a c t : Int) : (dV b p n k a c t).length = 18 := by
  unfold dV; split
  · rw [List.length_append, mkD_len hl]; rfl
  · rfl
theorem spec_l12Plain (k a c t : Int) (w : World) : Calls Try.prog 62 #[.agg #[iv k, iv a, iv c, iv t]] w fun e w' => e = .returned (.bool (plainD k c t)) ∧ Below w.heap.size w w' := by
  rcases k_cases k with rfl | rfl | rfl | rfl | rfl | ⟨h1, h2, h3, h4, h5⟩
  case inr.inl =>
    rw [plainD, if_neg (by omega), if_neg (by omega)]
    go_enter Try.func62, Try.ntmps62
    have hm := Mem.start w
    repeat' (first  | ((with_reducible refine gix ?_); first | refine mix rfl rfl rfl rfl ?_ | refine mixr rfl rfl rfl rfl ?_; (try simp only [Int.toNat_zero, Int.reduceToNat, Nat.reduceMul, Nat.zero_mul, Nat.one_mul, List.drop_succ_cons, List.drop_zero, List.take_succ_cons, List.take_zero])) | ((with_reducible refine gl ?_); first | refine ml hm rfl rfl rfl ?_ | refine mlw hm rfl rfl rfl ?_ | (refine mlr hm rfl rfl rfl ?_; try simp only [List.drop_succ_cons, List.drop_zero, List.take_succ_cons, List.take_zero])) | ((with_reducible refine gs ?_); (first | refine ms hm rfl rfl rfl rfl rfl ?_ | refine msw hm rfl rfl rfl rfl ?_ | refine msr hm rfl rfl rfl rfl ?_); clear hm; intro w hm; (try simp only [splice, List.set_cons_zero, List.set_cons_succ] at hm)) | ((with_reducible refine gb ?_); (first | refine mem_box hm rfl rfl rfl ?_ | refine mem_box1 hm rfl rfl rfl rfl ?_); clear hm; intro n w hm) | ((with_reducible refine ga ?_); refine mem_alloc hm rfl rfl ?_; clear hm; intro n w hm) | go_values | go_skip | go_guarded | go_step | go_upon | ((with_reducible refine bp ?_); go_back) | ((with_reducible refine up ?_); first | (simp only [Int.not_lt, Int.not_le] at *; go_simp) | (go_values <;> (try go_simp)) | (go_ite <;> go_prune <;> (try go_simp)) | (split <;> (first | (rename_i hx; exact (hx _ rfl).elim) | go_prune))))
    (try simp only [Exit.inBlock, Exit.then])
    (first | (refine ret1 rfl rfl (by (first | exact Res.tmp rfl | exact Res.atw hm rfl | exact Res.at hm rfl)) ?_) | (refine ret2 rfl rfl (by (first | exact Res.tmp rfl | exact Res.atw hm rfl | exact Res.at hm rfl)) (by (first | exact Res.tmp rfl | exact Res.atw hm rfl | exact Res.at hm rfl)) ?_) | (refine ret3 rfl rfl (by (first | exact Res.tmp rfl | exact Res.atw hm rfl | exact Res.at hm rfl)) (by (first | exact Res.tmp rfl | exact Res.atw hm rfl | exact Res.at hm rfl)) (by (first | exact Res.tmp rfl | exact Res.atw hm rfl | exact Res.at hm rfl)) ?_) | (refine ret4 rfl rfl (by (first | exact Res.tmp rfl | exact Res.atw hm rfl | exact Res.at hm rfl)) (by (first | exact Res.tmp rfl | exact Res.atw hm rfl | exact Res.at hm rfl)) (by (first | exact Res.tmp rfl | exact Res.atw hm rfl | exact Res.at hm rfl)) (by (first | exact Res.tmp rfl | exact Res.atw hm rfl | exact Res.at hm rfl)) ?_) | fail "ret")
    exact ⟨by first | rfl | simp [*], hm.below⟩
  case inr.inr.inl =>
    rw [plainD, if_neg (by omega), if_pos rfl]
    by_cases ht : t = 0
    all_goals
      simp only [ht, decide_true, decide_false]
      go_enter Try.func62, Try.ntmps62
      have hm := Mem.start w
      repeat' (first  | ((with_reducible refine gix ?_); first | refine mix rfl rfl rfl rfl ?_ | refine mixr rfl rfl rfl rfl ?_; (try simp only [Int.toNat_zero, Int.reduceToNat, Nat.reduceMul, Nat.zero_mul, Nat.one_mul, List.drop_succ_cons, List.drop_zero, List.take_succ_cons, List.take_zero])) | ((with_reducible refine gl ?_); first | refine ml hm rfl rfl rfl ?_ | refine mlw hm rfl rfl rfl ?_ | (refine mlr hm rfl rfl rfl ?_; try simp only [List.drop_succ_cons, List.drop_zero, List.take_succ_cons, List.take_zero])) | ((with_reducible refine gs ?_); (first | refine ms hm rfl rfl rfl rfl rfl ?_ | refine msw hm rfl rfl rfl rfl ?_ | refine msr hm rfl rfl rfl rfl ?_); clear hm; intro w hm; (try simp only [splice, List.set_cons_zero, List.set_cons_succ] at hm)) | ((with_reducible refine gb ?_); (first | refine mem_box hm rfl rfl rfl ?_ | refine mem_box1 hm rfl rfl rfl rfl ?_); clear hm; intro n w hm) | ((with_reducible refine ga ?_); refine mem_alloc hm rfl rfl ?_; clear hm; intro n w hm) | go_values | go_skip | go_guarded | go_step | go_upon | ((with_reducible refine bp ?_); go_back) | ((with_reducible refine up ?_); first | (simp only [Int.not_lt, Int.not_le] at *; go_simp) | (go_values <;> (try go_simp)) | (go_ite <;> go_prune <;> (try go_simp)) | (split <;> (first | (rename_i hx; exact (hx _ rfl).elim) | go_prune))))
      (try simp only [Exit.inBlock, Exit.then])
      (first | (refine ret1 rfl rfl (by (first | exact Res.tmp rfl | exact Res.atw hm rfl | exact Res.at hm rfl)) ?_) | (refine ret2 rfl rfl (by (first | exact Res.tmp rfl | exact Res.atw hm rfl | exact Res.at hm rfl)) (by (first | exact Res.tmp rfl | exact Res.atw hm rfl | exact Res.at hm rfl)) ?_) | (refine ret3 rfl rfl (by (first | exact Res.tmp rfl | exact Res.atw hm rfl | exact Res.at hm rfl)) (by (first | exact Res.tmp rfl | exact Res.atw hm rfl | exact Res.at hm rfl)) (by (first | exact Res.tmp rfl | exact Res.atw hm rfl | exact Res.at hm rfl)) ?_) | (refine ret4 rfl rfl (by (first | exact Res.tmp rfl | exact Res.atw hm rfl | exact Res.at hm rfl)) (by (first | exact Res.tmp rfl | exact Res.atw hm rfl | exact Res.at hm rfl)) (by (first | exact Res.tmp rfl | exact Res.atw hm rfl | exact Res.at hm rfl)) (by (first | exact Res.tmp rfl | exact Res.atw hm rfl | exact Res.at hm rfl)) ?_) | fail "ret")
      exact ⟨by first | rfl | simp [*], hm.below⟩
  case inr.inr.inr.inr.inr =>
    rw [plainD, if_neg (by omega), if_neg (by omega)]
    go_enter Try.func62, Try.ntmps62
    have hm := Mem.start w
    repeat' (first  | ((with_reducible refine gix ?_); first | refine mix rfl rfl rfl rfl ?_ | refine mixr rfl rfl rfl rfl ?_; (try simp only [Int.toNat_zero, Int.reduceToNat, Nat.reduceMul, Nat.zero_mul, Nat.one_mul, List.drop_succ_cons, List.drop_zero, List.take_succ_cons, List.take_zero])) | ((with_reducible refine gl ?_); first | refine ml hm rfl rfl rfl ?_ | refine mlw hm rfl rfl rfl ?_ | (refine mlr hm rfl rfl rfl ?_; try simp only [List.drop_succ_cons, List.drop_zero, List.take_succ_cons, List.take_zero])) | ((with_reducible refine gs ?_); (first | refine ms hm rfl rfl rfl rfl rfl ?_ | refine msw hm rfl rfl rfl rfl ?_ | refine msr hm rfl rfl rfl rfl ?_); clear hm; intro w hm; (try simp only [splice, List.set_cons_zero, List.set_cons_succ] at hm)) | ((with_reducible refine gb ?_); (first | refine mem_box hm rfl rfl rfl ?_ | refine mem_box1 hm rfl rfl rfl rfl ?_); clear hm; intro n w hm) | ((with_reducible refine ga ?_); refine mem_alloc hm rfl rfl ?_; clear hm; intro n w hm) | go_values | go_skip | go_guarded | go_step | go_upon | ((with_reducible refine bp ?_); go_back) | ((with_reducible refine up ?_); first | (simp only [Int.not_lt, Int.not_le] at *; go_simp) | (go_values <;> (try go_simp)) | (go_ite <;> go_prune <;> (try go_simp)) | (split <;> (first | (rename_i hx; exact (hx _ rfl).elim) | go_prune))))
    (try simp only [Exit.inBlock, Exit.then])
    (first | (refine ret1 rfl rfl (by (first | exact Res.tmp rfl | exact Res.atw hm rfl | exact Res.at hm rfl)) ?_) | (refine ret2 rfl rfl (by (first | exact Res.tmp rfl | exact Res.atw hm rfl | exact Res.at hm rfl)) (by (first | exact Res.tmp rfl | exact Res.atw hm rfl | exact Res.at hm rfl)) ?_) | (refine ret3 rfl rfl (by (first | exact Res.tmp rfl | exact Res.atw hm rfl | exact Res.at hm rfl)) (by (first | exact Res.tmp rfl | exact Res.atw hm rfl | exact Res.at hm rfl)) (by (first | exact Res.tmp rfl | exact Res.atw hm rfl | exact Res.at hm rfl)) ?_) | (refine ret4 rfl rfl (by (first | exact Res.tmp rfl | exact Res.atw hm rfl | exact Res.at hm rfl)) (by (first | exact Res.tmp rfl | exact Res.atw hm rfl | exact Res.at hm rfl)) (by (first | exact Res.tmp rfl | exact Res.atw hm rfl | exact Res.at hm rfl)) (by (first | exact Res.tmp rfl | exact Res.atw hm rfl | exact Res.at hm rfl)) ?_) | fail "ret")
    exact ⟨by first | rfl | simp [*], hm.below⟩
  all_goals
    rw [plainD, if_pos (by omega)]
    by_cases hc : c = 0 <;> by_cases ht : t = 0
    all_goals
      simp only [hc, ht, decide_true, decide_false, Bool.and_true, Bool.and_false, Bool.true_and]
      go_enter Try.func62, Try.ntmps62
      have hm := Mem.start w
      repeat' (first  | ((with_reducible refine gix ?_); first | refine mix rfl rfl rfl rfl ?_ | refine mixr rfl rfl rfl rfl ?_; (try simp only [Int.toNat_zero, Int.reduceToNat, Nat.reduceMul, Nat.zero_mul, Nat.one_mul, List.drop_succ_cons, List.drop_zero, List.take_succ_cons, List.take_zero])) | ((with_reducible refine gl ?_); first | refine ml hm rfl rfl rfl ?_ | refine mlw hm rfl rfl rfl ?_ | (refine mlr hm rfl rfl rfl ?_; try simp only [List.drop_succ_cons, List.drop_zero, List.take_succ_cons, List.take_zero])) | ((with_reducible refine gs ?_); (first | refine ms hm rfl rfl rfl rfl rfl ?_ | refine msw hm rfl rfl rfl rfl ?_ | refine msr hm rfl rfl rfl rfl ?_); clear hm; intro w hm; (try simp only [splice, List.set_cons_zero, List.set_cons_succ] at hm)) | ((with_reducible refine gb ?_); (first | refine mem_box hm rfl rfl rfl ?_ | refine mem_box1 hm rfl rfl rfl rfl ?_); clear hm; intro n w hm) | ((with_reducible refine ga ?_); refine mem_alloc hm rfl rfl ?_; clear hm; intro n w hm) | go_values | go_skip | go_guarded | go_step | go_upon | ((with_reducible refine bp ?_); go_back) | ((with_reducible refine up ?_); first | (simp only [Int.not_lt, Int.not_le] at *; go_simp) | (go_values <;> (try go_simp)) | (go_ite <;> go_prune <;> (try go_simp)) | (split <;> (first | (rename_i hx; exact (hx _ rfl).elim) | go_prune))))
      (try simp only [Exit.inBlock, Exit.then])
      (first | (refine ret1 rfl rfl (by (first | exact Res.tmp rfl | exact Res.atw hm rfl | exact Res.at hm rfl)) ?_) | (refine ret2 rfl rfl (by (first | exact Res.tmp rfl | exact Res.atw hm rfl | exact Res.at hm rfl)) (by (first | exact Res.tmp rfl | exact Res.atw hm rfl | exact Res.at hm rfl)) ?_) | (refine ret3 rfl rfl (by (first | exact Res.tmp rfl | exact Res.atw hm rfl | exact Res.at hm rfl)) (by (first | exact Res.tmp rfl | exact Res.atw hm rfl | exact Res.at hm rfl)) (by (first | exact Res.tmp rfl | exact Res.atw hm rfl | exact Res.at hm rfl)) ?_) | (refine ret4 rfl rfl (by (first | exact Res.tmp rfl | exact Res.atw hm rfl | exact Res.at hm rfl)) (by (first | exact Res.tmp rfl | exact Res.atw hm rfl | exact Res.at hm rfl)) (by (first | exact Res.tmp rfl | exact Res.atw hm rfl | exact Res.at hm rfl)) (by (first | exact Res.tmp rfl | exact Res.atw hm rfl | exact Res.at hm rfl)) ?_) | fail "ret")
      exact ⟨by first | rfl | simp [*], hm.below⟩
end Go.Proofs.Ytelnajpjanmliaa

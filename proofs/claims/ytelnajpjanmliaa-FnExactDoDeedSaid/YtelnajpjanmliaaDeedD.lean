/-
  DoDeed of the program and of the reference.
-/
import Derived.Test.YtelnajpjanmliaaDeedS
import Derived.Test.YtelnajpjanmliaaDeedI1
import Derived.Test.YtelnajpjanmliaaDeedI2
import Derived.Test.YtelnajpjanmliaaDeedI3
import Derived.Test.YtelnajpjanmliaaDeedI4
import Derived.Test.YtelnajpjanmliaaDeedI5
set_option linter.unusedVariables false
set_option linter.unusedSimpArgs false
namespace Go.Proofs.Ytelnajpjanmliaa
open Go.RowKit Slm
theorem deskB_app {b : List Int} (hl : b.length = 16) (p n : Int) : deskB (b ++ [p, n]) = (okL b && (inB p 0 9999999 && inB n 0 1000)) := by
  have h1 : (b ++ [p, n]).take 16 = b := List.take_left' hl
  have h2 : (b ++ [p, n]).getD 16 0 = p := by rw [List.getD_eq_getElem?_getD, List.getElem?_append_right (by omega), hl]; rfl
  have h3 : (b ++ [p, n]).getD 17 0 = n := by rw [List.getD_eq_getElem?_getD, List.getElem?_append_right (by omega), hl]; rfl
  rw [deskB, h1, h2, h3]
theorem deskB_facts {b : List Int} (hl : b.length = 16) {p n : Int} (h : deskB (b ++ [p, n]) = true) : okL b = true ∧ (0 ≤ p ∧ p ≤ 9999999) ∧ (0 ≤ n ∧ n ≤ 1000) := by
  rw [deskB_app hl] at h
  simp only [Bool.and_eq_true, inB_iff] at h
  exact ⟨h.1, h.2.1, h.2.2⟩
theorem dV_no {b : List Int} {p n k a c t : Int} (h : dOK b p n k a c t = false) : dV b p n k a c t = zD := by rw [dV, h]; rfl
theorem dV_yes {b : List Int} {p n k a c t : Int} (h : dOK b p n k a c t = true) : dV b p n k a c t = (mkD b k a c t).1 ++ [p + (mkD b k a c t).2.1, n + 1] := by rw [dV, if_pos h]
theorem dOK_def (b : List Int) (p n k a c t : Int) : dOK b p n k a c t = ((mkD b k a c t).2.2 && (plainD k c t && deskB ((mkD b k a c t).1 ++ [p + (mkD b k a c t).2.1, n + 1]))) := rfl
theorem impl_DoDeed_ok (b : List Int) (hl : b.length = 16) (p n k a c t : Int) (hg : deskB (b ++ [p, n]) = true) (w : World) : Calls Try.prog 11 #[.agg (nums (b ++ [p, n])), .agg #[iv k, iv a, iv c, iv t]] w fun e w' => e = .returned (.tuple #[.agg (nums (dV b p n k a c t)), .bool (dOK b p n k a c t)]) ∧ Below w.heap.size w w' := by
  obtain ⟨hok, hp, hn⟩ := deskB_facts hl hg
  have hd := dOK_def b p n k a c t
  cases ho : (mkD b k a c t).2.2 <;> cases hpl : plainD k c t <;> cases hgo : deskB ((mkD b k a c t).1 ++ [p + (mkD b k a c t).2.1, n + 1])
  all_goals
    rw [ho, hpl, hgo] at hd
    simp only [Bool.false_and, Bool.and_false, Bool.and_self, Bool.and_true, Bool.true_and] at hd
    first | rw [dV_no hd, hd] | rw [dV_yes hd, hd]
    clear hd
    rcases k_cases k with rfl | rfl | rfl | rfl | rfl | ⟨h1, h2, h3, h4, h5⟩
    · rw [mkD_1] at *
      simp only at ho hgo ⊢
      first | exact impl_DoDeed1a b hl hok p n a c t hg hp hn ho w | exact impl_DoDeed1b b hl hok p n a c t hg hp hn ho hpl w | exact impl_DoDeed1c b hl hok p n a c t hg hp hn ho hpl hgo w | exact impl_DoDeed1d b hl hok p n a c t hg hp hn ho hpl hgo w
    · rw [mkD_2] at *
      simp only [Int.add_zero] at ho hgo ⊢
      first | exact impl_DoDeed2a b hl hok p n a c t hg hp hn ho w | exact impl_DoDeed2c b hl hok p n a c t hg hp hn ho hpl hgo w | exact impl_DoDeed2d b hl hok p n a c t hg hp hn ho hpl hgo w | (rw [plainD, if_neg (by omega), if_neg (by omega)] at hpl; exact absurd hpl (by decide))
    · rw [mkD_3] at *
      simp only [Int.add_zero] at ho hgo ⊢
      first | exact impl_DoDeed3a b hl hok p n a c t hg hp hn ho w | exact impl_DoDeed3b b hl hok p n a c t hg hp hn ho hpl w | exact impl_DoDeed3c b hl hok p n a c t hg hp hn ho hpl hgo w | exact impl_DoDeed3d b hl hok p n a c t hg hp hn ho hpl hgo w
    · rw [mkD_4] at *
      simp only [Int.add_zero] at ho hgo ⊢
      first | exact impl_DoDeed4a b hl hok p n a c t hg hp hn ho w | exact impl_DoDeed4b b hl hok p n a c t hg hp hn ho hpl w | exact impl_DoDeed4c b hl hok p n a c t hg hp hn ho hpl hgo w | exact impl_DoDeed4d b hl hok p n a c t hg hp hn ho hpl hgo w
    · rw [mkD_5] at *
      simp only [Int.add_zero] at ho hgo ⊢
      first | exact impl_DoDeed5a b hl hok p n a c t hg hp hn ho w | exact impl_DoDeed5b b hl hok p n a c t hg hp hn ho hpl w | exact impl_DoDeed5c b hl hok p n a c t hg hp hn ho hpl hgo w | exact impl_DoDeed5d b hl hok p n a c t hg hp hn ho hpl hgo w
    · rw [mkD_6 b a c t h1 h2 h3 h4 h5] at *
      simp only at ho
      first | exact impl_DoDeed6 b hl p n k a c t hg hp hn h1 h2 h3 h4 h5 w | exact absurd ho (by decide)
/-- DoDeed, told, of any desk. -/
def ddV (b : List Int) (p n k a c t : Int) : List Int × Bool := if deskB (b ++ [p, n]) = true then (dV b p n k a c t, dOK b p n k a c t) else (zD, false)
theorem ddV_len {b : List Int} (hl : b.length = 16) (p n k a c t : Int) : (ddV b p n k a c t).1.length = 18 := by
  unfold ddV; split
  · simp only [dV_len hl]
  · rfl
theorem impl_DoDeed (b : List Int) (hl : b.length = 16) (p n k a c t : Int) (w : World) : Calls Try.prog 11 #[.agg (nums (b ++ [p, n])), .agg #[iv k, iv a, iv c, iv t]] w fun e w' => e = .returned (.tuple #[.agg (nums (ddV b p n k a c t).1), .bool (ddV b p n k a c t).2]) ∧ Below w.heap.size w w' := by
  unfold ddV
  cases hg : deskB (b ++ [p, n])
  · simp only [Bool.false_eq_true, if_false]
    exact impl_DoDeed0 b hl p n k a c t hg w
  · simp only [if_true]
    exact impl_DoDeed_ok b hl p n k a c t hg w
theorem spec_DoDeed (b : List Int) (hl : b.length = 16) (p n k a c t : Int) (w : World) : Calls Try.prog 8 #[.agg (nums (b ++ [p, n])), .agg #[iv k, iv a, iv c, iv t]] w fun e w' => e = .returned (.tuple #[.agg (nums (ddV b p n k a c t).1), .bool (ddV b p n k a c t).2]) ∧ Below w.heap.size w w' := by
  have hG := spec_l12Good (b ++ [p, n]) (by rw [List.length_append, hl]; rfl)
  unfold ddV
  cases hg : deskB (b ++ [p, n])
  · rw [hg] at hG
    clear hg
    simp only [Bool.false_eq_true, if_false, zD]
    obtain ⟨a0, a1, a2, a3, b0, b1, b2, b3, c0, c1, c2, c3, d0, d1, d2, d3, rfl⟩ := list16 hl
    clear hl
    simp only [nums, List.map_cons, List.map_nil, List.cons_append, List.nil_append] at *
    have HG := Lib.hid hG
    clear hG
    go_enter Try.func8, Try.ntmps8
    have hm := Mem.start w
    repeat' (first | (go_at_call 27; refine mem_call hm (HG.out _) ?_; clear hm; intro w hm; (try simp only [nums, List.map_cons, List.map_nil])) | ((with_reducible refine gix ?_); first | refine mix rfl rfl rfl rfl ?_ | refine mixr rfl rfl rfl rfl ?_; (try simp only [Int.toNat_zero, Int.reduceToNat, Nat.reduceMul, Nat.zero_mul, Nat.one_mul, List.drop_succ_cons, List.drop_zero, List.take_succ_cons, List.take_zero])) | ((with_reducible refine gl ?_); first | refine ml hm rfl rfl rfl ?_ | refine mlw hm rfl rfl rfl ?_ | (refine mlr hm rfl rfl rfl ?_; try simp only [List.drop_succ_cons, List.drop_zero, List.take_succ_cons, List.take_zero])) | ((with_reducible refine gs ?_); (first | refine ms hm rfl rfl rfl rfl rfl ?_ | refine msw hm rfl rfl rfl rfl ?_ | refine msr hm rfl rfl rfl rfl ?_); clear hm; intro w hm; (try simp only [splice, List.set_cons_zero, List.set_cons_succ] at hm)) | ((with_reducible refine gb ?_); (first | refine mem_box hm rfl rfl rfl ?_ | refine mem_box1 hm rfl rfl rfl rfl ?_); clear hm; intro n w hm) | ((with_reducible refine ga ?_); refine mem_alloc hm rfl rfl ?_; clear hm; intro n w hm) | go_values | go_skip | go_guarded | go_step | go_upon | ((with_reducible refine bp ?_); go_back) | ((with_reducible refine up ?_); first | (simp only [Int.not_lt, Int.not_le] at *; go_simp) | (go_values <;> (try go_simp)) | (go_ite <;> go_prune <;> (try go_simp)) | (split <;> (first | (rename_i hx; exact (hx _ rfl).elim) | go_prune))))
    (try simp only [Exit.inBlock, Exit.then])
    (first | (refine ret1 rfl rfl (by (first | exact Res.tmp rfl | exact Res.atw hm rfl | exact Res.at hm rfl)) ?_) | (refine ret2 rfl rfl (by (first | exact Res.tmp rfl | exact Res.atw hm rfl | exact Res.at hm rfl)) (by (first | exact Res.tmp rfl | exact Res.atw hm rfl | exact Res.at hm rfl)) ?_) | (refine ret3 rfl rfl (by (first | exact Res.tmp rfl | exact Res.atw hm rfl | exact Res.at hm rfl)) (by (first | exact Res.tmp rfl | exact Res.atw hm rfl | exact Res.at hm rfl)) (by (first | exact Res.tmp rfl | exact Res.atw hm rfl | exact Res.at hm rfl)) ?_) | (refine ret4 rfl rfl (by (first | exact Res.tmp rfl | exact Res.atw hm rfl | exact Res.at hm rfl)) (by (first | exact Res.tmp rfl | exact Res.atw hm rfl | exact Res.at hm rfl)) (by (first | exact Res.tmp rfl | exact Res.atw hm rfl | exact Res.at hm rfl)) (by (first | exact Res.tmp rfl | exact Res.atw hm rfl | exact Res.at hm rfl)) ?_) | fail "ret")
    exact ⟨rfl, hm.below⟩
  · obtain ⟨hok, hp, hn⟩ := deskB_facts hl hg
    have hD := spec_l12Do b hl hok p n k a c t hp hn
    have hdl := dV_len hl p n k a c t
    rw [hg] at hG
    clear hg hp hn hok
    simp only [if_true]
    generalize dOK b p n k a c t = o at *
    generalize dV b p n k a c t = V at *
    have hVl : (V.map iv).length = 18 := by simpa using hdl
    obtain ⟨a0, a1, a2, a3, b0, b1, b2, b3, c0, c1, c2, c3, d0, d1, d2, d3, rfl⟩ := list16 hl
    clear hl
    simp only [nums_map] at *
    simp only [List.map_cons, List.map_nil, List.cons_append, List.nil_append] at *
    have HG := Lib.hid hG
    have HD := Lib.hid hD
    clear hG hD
    go_enter Try.func8, Try.ntmps8
    have hm := Mem.start w
    repeat' (first | (go_at_call 27; refine mem_call hm (HG.out _) ?_; clear hm; intro w hm; (try simp only [nums, List.map_cons, List.map_nil])) | (go_at_call 28; refine mem_call hm (HD.out _) ?_; clear hm; intro w hm; (try simp only [nums, List.map_cons, List.map_nil])) | ((with_reducible refine gix ?_); first | refine mix rfl rfl rfl rfl ?_ | refine mixr rfl rfl rfl rfl ?_; (try simp only [Int.toNat_zero, Int.reduceToNat, Nat.reduceMul, Nat.zero_mul, Nat.one_mul, List.drop_succ_cons, List.drop_zero, List.take_succ_cons, List.take_zero])) | ((with_reducible refine gl ?_); first | refine ml hm rfl rfl rfl ?_ | refine mlw hm rfl rfl rfl ?_ | (refine mlr hm rfl rfl rfl ?_; try simp only [List.drop_succ_cons, List.drop_zero, List.take_succ_cons, List.take_zero])) | ((with_reducible refine gs ?_); (first | refine ms hm rfl rfl rfl rfl rfl ?_ | refine msw hm rfl rfl rfl rfl ?_ | refine msr hm rfl rfl rfl rfl ?_); clear hm; intro w hm; (try simp only [splice, List.set_cons_zero, List.set_cons_succ] at hm)) | ((with_reducible refine gb ?_); (first | refine mem_box hm rfl rfl rfl ?_ | refine mem_box1 hm rfl rfl rfl rfl ?_); clear hm; intro n w hm) | ((with_reducible refine ga ?_); refine mem_alloc hm rfl rfl ?_; clear hm; intro n w hm) | go_values | go_skip | go_guarded | go_step | go_upon | ((with_reducible refine bp ?_); go_back) | ((with_reducible refine up ?_); first | (simp only [Int.not_lt, Int.not_le] at *; go_simp) | (go_values <;> (try go_simp)) | (go_ite <;> go_prune <;> (try go_simp)) | (split <;> (first | (rename_i hx; exact (hx _ rfl).elim) | go_prune))))
    (try simp only [Exit.inBlock, Exit.then])
    (first | (refine ret1 rfl rfl (by (first | exact Res.tmp rfl | exact Res.atw hm rfl | exact Res.at hm rfl)) ?_) | (refine ret2 rfl rfl (by (first | exact Res.tmp rfl | exact Res.atw hm rfl | exact Res.at hm rfl)) (by (first | exact Res.tmp rfl | exact Res.atw hm rfl | exact Res.at hm rfl)) ?_) | (refine ret3 rfl rfl (by (first | exact Res.tmp rfl | exact Res.atw hm rfl | exact Res.at hm rfl)) (by (first | exact Res.tmp rfl | exact Res.atw hm rfl | exact Res.at hm rfl)) (by (first | exact Res.tmp rfl | exact Res.atw hm rfl | exact Res.at hm rfl)) ?_) | (refine ret4 rfl rfl (by (first | exact Res.tmp rfl | exact Res.atw hm rfl | exact Res.at hm rfl)) (by (first | exact Res.tmp rfl | exact Res.atw hm rfl | exact Res.at hm rfl)) (by (first | exact Res.tmp rfl | exact Res.atw hm rfl | exact Res.at hm rfl)) (by (first | exact Res.tmp rfl | exact Res.atw hm rfl | exact Res.at hm rfl)) ?_) | fail "ret")
    exact ⟨rfl, hm.below⟩
end Go.Proofs.Ytelnajpjanmliaa

/-
  Walks of StepText.
-/
import Derived.Test.YtjddfilabmcnpaaText2
set_option linter.unusedVariables false
set_option linter.unusedSimpArgs false
namespace Go.Proofs.Ytjddfilabmcnpaa
open Go.RowKit Slm
theorem spec_l2Cell2 (r c : Int) (w : World) : Calls Try.prog 51 #[.agg #[iv r, iv c]] w fun e w' => e = .returned (.bool (inB r 0 3 && inB c 0 3)) ∧ Below w.heap.size w w' := by
  have hR := spec_l1In r 0 3
  have hC := spec_l1In c 0 3
  cases h1 : inB r 0 3 <;> cases h2 : inB c 0 3
  all_goals
    rw [h1] at hR
    rw [h2] at hC
    have HR := Lib.hid hR
    have HC := Lib.hid hC
    clear hR hC
    go_enter Try.func51, Try.ntmps51
    have hm := Mem.start w
    repeat' (first | (go_at_call 52; refine mem_call hm (by first | with_reducible exact HR.out _ | with_reducible exact HC.out _) ?_; clear hm; intro w hm; (try simp only [nums, List.map_cons, List.map_nil])) | ((with_reducible refine gix ?_); first | refine mix rfl rfl rfl rfl ?_ | refine mixr rfl rfl rfl rfl ?_; (try simp only [Int.toNat_zero, Int.reduceToNat, Nat.reduceMul, Nat.zero_mul, Nat.one_mul, List.drop_succ_cons, List.drop_zero, List.take_succ_cons, List.take_zero])) | ((with_reducible refine gl ?_); first | refine ml hm rfl rfl rfl ?_ | refine mlw hm rfl rfl rfl ?_ | (refine mlr hm rfl rfl rfl ?_; try simp only [List.drop_succ_cons, List.drop_zero, List.take_succ_cons, List.take_zero])) | ((with_reducible refine gs ?_); (first | refine ms hm rfl rfl rfl rfl rfl ?_ | refine msw hm rfl rfl rfl rfl ?_ | refine msr hm rfl rfl rfl rfl ?_); clear hm; intro w hm; (try simp only [splice, List.set_cons_zero, List.set_cons_succ] at hm)) | ((with_reducible refine gb ?_); (first | refine mem_box hm rfl rfl rfl ?_ | refine mem_box1 hm rfl rfl rfl rfl ?_); clear hm; intro n w hm) | ((with_reducible refine ga ?_); refine mem_alloc hm rfl rfl ?_; clear hm; intro n w hm) | go_values | go_skip | go_guarded | go_step | go_upon | ((with_reducible refine bp ?_); go_back) | ((with_reducible refine up ?_); first | (simp only [Int.not_lt, Int.not_le] at *; go_simp) | (go_values <;> (try go_simp)) | (go_ite <;> go_prune <;> (try go_simp)) | (split <;> (first | (rename_i hx; exact (hx _ rfl).elim) | go_prune))))
    (try simp only [Exit.inBlock, Exit.then])
    (first | (refine ret1 rfl rfl (by (first | exact Res.tmp rfl | exact Res.atw hm rfl | exact Res.at hm rfl)) ?_) | (refine ret2 rfl rfl (by (first | exact Res.tmp rfl | exact Res.atw hm rfl | exact Res.at hm rfl)) (by (first | exact Res.tmp rfl | exact Res.atw hm rfl | exact Res.at hm rfl)) ?_) | (refine ret3 rfl rfl (by (first | exact Res.tmp rfl | exact Res.atw hm rfl | exact Res.at hm rfl)) (by (first | exact Res.tmp rfl | exact Res.atw hm rfl | exact Res.at hm rfl)) (by (first | exact Res.tmp rfl | exact Res.atw hm rfl | exact Res.at hm rfl)) ?_) | fail "ret")
    exact ⟨rfl, hm.below⟩
theorem impl_isCell2 (r c : Int) (w : World) : Calls Try.prog 56 #[.agg #[iv r, iv c]] w fun e w' => e = .returned (.bool (inB r 0 3 && inB c 0 3)) ∧ Below w.heap.size w w' := by
  have hR := impl_in r 0 3
  have hC := impl_in c 0 3
  cases h1 : inB r 0 3 <;> cases h2 : inB c 0 3
  all_goals
    rw [h1] at hR
    rw [h2] at hC
    have HR := Lib.hid hR
    have HC := Lib.hid hC
    clear hR hC
    go_enter Try.func56, Try.ntmps56
    have hm := Mem.start w
    repeat' (first | (go_at_call 57; refine mem_call hm (by first | with_reducible exact HR.out _ | with_reducible exact HC.out _) ?_; clear hm; intro w hm; (try simp only [nums, List.map_cons, List.map_nil])) | ((with_reducible refine gix ?_); first | refine mix rfl rfl rfl rfl ?_ | refine mixr rfl rfl rfl rfl ?_; (try simp only [Int.toNat_zero, Int.reduceToNat, Nat.reduceMul, Nat.zero_mul, Nat.one_mul, List.drop_succ_cons, List.drop_zero, List.take_succ_cons, List.take_zero])) | ((with_reducible refine gl ?_); first | refine ml hm rfl rfl rfl ?_ | refine mlw hm rfl rfl rfl ?_ | (refine mlr hm rfl rfl rfl ?_; try simp only [List.drop_succ_cons, List.drop_zero, List.take_succ_cons, List.take_zero])) | ((with_reducible refine gs ?_); (first | refine ms hm rfl rfl rfl rfl rfl ?_ | refine msw hm rfl rfl rfl rfl ?_ | refine msr hm rfl rfl rfl rfl ?_); clear hm; intro w hm; (try simp only [splice, List.set_cons_zero, List.set_cons_succ] at hm)) | ((with_reducible refine gb ?_); (first | refine mem_box hm rfl rfl rfl ?_ | refine mem_box1 hm rfl rfl rfl rfl ?_); clear hm; intro n w hm) | ((with_reducible refine ga ?_); refine mem_alloc hm rfl rfl ?_; clear hm; intro n w hm) | go_values | go_skip | go_guarded | go_step | go_upon | ((with_reducible refine bp ?_); go_back) | ((with_reducible refine up ?_); first | (simp only [Int.not_lt, Int.not_le] at *; go_simp) | (go_values <;> (try go_simp)) | (go_ite <;> go_prune <;> (try go_simp)) | (split <;> (first | (rename_i hx; exact (hx _ rfl).elim) | go_prune))))
    (try simp only [Exit.inBlock, Exit.then])
    (first | (refine ret1 rfl rfl (by (first | exact Res.tmp rfl | exact Res.atw hm rfl | exact Res.at hm rfl)) ?_) | (refine ret2 rfl rfl (by (first | exact Res.tmp rfl | exact Res.atw hm rfl | exact Res.at hm rfl)) (by (first | exact Res.tmp rfl | exact Res.atw hm rfl | exact Res.at hm rfl)) ?_) | (refine ret3 rfl rfl (by (first | exact Res.tmp rfl | exact Res.atw hm rfl | exact Res.at hm rfl)) (by (first | exact Res.tmp rfl | exact Res.atw hm rfl | exact Res.at hm rfl)) (by (first | exact Res.tmp rfl | exact Res.atw hm rfl | exact Res.at hm rfl)) ?_) | fail "ret")
    exact ⟨rfl, hm.below⟩
theorem spec_StepText_bad (d r c t : Int) (hv : (inB d 0 3 && (inB r 0 3 && inB c 0 3) && inB t 1 2) = false) (w : World) : Calls Try.prog 15 #[.agg #[iv d, iv r, iv c, iv t]] w fun e w' => e = .returned (.tuple #[.string ⟨#[]⟩, .bool false]) ∧ Below w.heap.size w w' := by
  have hD := spec_l2Side d
  have hC := spec_l2Cell2 r c
  have hT := spec_l1In t 1 2
  generalize (inB r 0 3 && inB c 0 3) = q2 at *
  generalize inB d 0 3 = q1 at *
  generalize inB t 1 2 = q3 at *
  cases q1 <;> cases q2 <;> cases q3
  case true.true.true => simp at hv
  all_goals
    have HD := Lib.hid hD
    have HC := Lib.hid hC
    have HT := Lib.hid hT
    clear hD hC hT hv
    go_enter Try.func15, Try.ntmps15
    have hm := Mem.start w
    repeat' (first | (go_at_call 50; refine mem_call hm (HD.out _) ?_; clear hm; intro w hm; (try simp only [nums, List.map_cons, List.map_nil])) | (go_at_call 51; refine mem_call hm (HC.out _) ?_; clear hm; intro w hm; (try simp only [nums, List.map_cons, List.map_nil])) | (go_at_call 52; refine mem_call hm (HT.out _) ?_; clear hm; intro w hm; (try simp only [nums, List.map_cons, List.map_nil])) | ((with_reducible refine gix ?_); first | refine mix rfl rfl rfl rfl ?_ | refine mixr rfl rfl rfl rfl ?_; (try simp only [Int.toNat_zero, Int.reduceToNat, Nat.reduceMul, Nat.zero_mul, Nat.one_mul, List.drop_succ_cons, List.drop_zero, List.take_succ_cons, List.take_zero])) | ((with_reducible refine gl ?_); first | refine ml hm rfl rfl rfl ?_ | refine mlw hm rfl rfl rfl ?_ | (refine mlr hm rfl rfl rfl ?_; try simp only [List.drop_succ_cons, List.drop_zero, List.take_succ_cons, List.take_zero])) | ((with_reducible refine gs ?_); (first | refine ms hm rfl rfl rfl rfl rfl ?_ | refine msw hm rfl rfl rfl rfl ?_ | refine msr hm rfl rfl rfl rfl ?_); clear hm; intro w hm; (try simp only [splice, List.set_cons_zero, List.set_cons_succ] at hm)) | ((with_reducible refine gb ?_); (first | refine mem_box hm rfl rfl rfl ?_ | refine mem_box1 hm rfl rfl rfl rfl ?_); clear hm; intro n w hm) | ((with_reducible refine ga ?_); refine mem_alloc hm rfl rfl ?_; clear hm; intro n w hm) | go_values | go_skip | go_guarded | go_step | go_upon | ((with_reducible refine bp ?_); go_back) | ((with_reducible refine up ?_); first | (simp only [Int.not_lt, Int.not_le] at *; go_simp) | (go_values <;> (try go_simp)) | (go_ite <;> go_prune <;> (try go_simp)) | (split <;> (first | (rename_i hx; exact (hx _ rfl).elim) | go_prune))))
    (try simp only [Exit.inBlock, Exit.then])
    (first | (refine ret1 rfl rfl (by (first | exact Res.tmp rfl | exact Res.atw hm rfl | exact Res.at hm rfl)) ?_) | (refine ret2 rfl rfl (by (first | exact Res.tmp rfl | exact Res.atw hm rfl | exact Res.at hm rfl)) (by (first | exact Res.tmp rfl | exact Res.atw hm rfl | exact Res.at hm rfl)) ?_) | (refine ret3 rfl rfl (by (first | exact Res.tmp rfl | exact Res.atw hm rfl | exact Res.at hm rfl)) (by (first | exact Res.tmp rfl | exact Res.atw hm rfl | exact Res.at hm rfl)) (by (first | exact Res.tmp rfl | exact Res.atw hm rfl | exact Res.at hm rfl)) ?_) | fail "ret")
    exact ⟨rfl, hm.below⟩
theorem impl_StepText_bad (d r c t : Int) (hv : (inB d 0 3 && (inB r 0 3 && inB c 0 3) && inB t 1 2) = false) (w : World) : Calls Try.prog 17 #[.agg #[iv d, iv r, iv c, iv t]] w fun e w' => e = .returned (.tuple #[.string ⟨#[]⟩, .bool false]) ∧ Below w.heap.size w w' := by
  have hD := impl_isDirection d
  have hC := impl_isCell2 r c
  have hT := impl_in t 1 2
  generalize (inB r 0 3 && inB c 0 3) = q2 at *
  generalize inB d 0 3 = q1 at *
  generalize inB t 1 2 = q3 at *
  cases q1 <;> cases q2 <;> cases q3
  case true.true.true => simp at hv
  all_goals
    have HD := Lib.hid hD
    have HC := Lib.hid hC
    have HT := Lib.hid hT
    clear hD hC hT hv
    go_enter Try.func17, Try.ntmps17
    have hm := Mem.start w
    repeat' (first | (go_at_call 55; refine mem_call hm (HD.out _) ?_; clear hm; intro w hm; (try simp only [nums, List.map_cons, List.map_nil])) | (go_at_call 56; refine mem_call hm (HC.out _) ?_; clear hm; intro w hm; (try simp only [nums, List.map_cons, List.map_nil])) | (go_at_call 57; refine mem_call hm (HT.out _) ?_; clear hm; intro w hm; (try simp only [nums, List.map_cons, List.map_nil])) | ((with_reducible refine gix ?_); first | refine mix rfl rfl rfl rfl ?_ | refine mixr rfl rfl rfl rfl ?_; (try simp only [Int.toNat_zero, Int.reduceToNat, Nat.reduceMul, Nat.zero_mul, Nat.one_mul, List.drop_succ_cons, List.drop_zero, List.take_succ_cons, List.take_zero])) | ((with_reducible refine gl ?_); first | refine ml hm rfl rfl rfl ?_ | refine mlw hm rfl rfl rfl ?_ | (refine mlr hm rfl rfl rfl ?_; try simp only [List.drop_succ_cons, List.drop_zero, List.take_succ_cons, List.take_zero])) | ((with_reducible refine gs ?_); (first | refine ms hm rfl rfl rfl rfl rfl ?_ | refine msw hm rfl rfl rfl rfl ?_ | refine msr hm rfl rfl rfl rfl ?_); clear hm; intro w hm; (try simp only [splice, List.set_cons_zero, List.set_cons_succ] at hm)) | ((with_reducible refine gb ?_); (first | refine mem_box hm rfl rfl rfl ?_ | refine mem_box1 hm rfl rfl rfl rfl ?_); clear hm; intro n w hm) | ((with_reducible refine ga ?_); refine mem_alloc hm rfl rfl ?_; clear hm; intro n w hm) | go_values | go_skip | go_guarded | go_step | go_upon | ((with_reducible refine bp ?_); go_back) | ((with_reducible refine up ?_); first | (simp only [Int.not_lt, Int.not_le] at *; go_simp) | (go_values <;> (try go_simp)) | (go_ite <;> go_prune <;> (try go_simp)) | (split <;> (first | (rename_i hx; exact (hx _ rfl).elim) | go_prune))))
    (try simp only [Exit.inBlock, Exit.then])
    (first | (refine ret1 rfl rfl (by (first | exact Res.tmp rfl | exact Res.atw hm rfl | exact Res.at hm rfl)) ?_) | (refine ret2 rfl rfl (by (first | exact Res.tmp rfl | exact Res.atw hm rfl | exact Res.at hm rfl)) (by (first | exact Res.tmp rfl | exact Res.atw hm rfl | exact Res.at hm rfl)) ?_) | (refine ret3 rfl rfl (by (first | exact Res.tmp rfl | exact Res.atw hm rfl | exact Res.at hm rfl)) (by (first | exact Res.tmp rfl | exact Res.atw hm rfl | exact Res.at hm rfl)) (by (first | exact Res.tmp rfl | exact Res.atw hm rfl | exact Res.at hm rfl)) ?_) | fail "ret")
    exact ⟨rfl, hm.below⟩
theorem spec_StepText_good (d r c t : Nat) (hd : d ≤ 3) (hr : r ≤ 3) (hc : c ≤ 3) (ht : 1 ≤ t ∧ t ≤ 2) (w : World) : Calls Try.prog 15 #[.agg #[iv d, iv r, iv c, iv t]] w fun e w' => e = .returned (.tuple #[.string (stepB d r c t), .bool true]) ∧ Below w.heap.size w w' := by
  have hD := spec_l2Side d
  have hC := spec_l2Cell2 r c
  have hT := spec_l1In t 1 2
  have hX := spec_l11Text d r c t hd hr hc ht
  rw [inB_iff.2 (show (0 : Int) ≤ d ∧ (d : Int) ≤ 3 by omega)] at hD
  rw [inB_iff.2 (show (0 : Int) ≤ r ∧ (r : Int) ≤ 3 by omega), inB_iff.2 (show (0 : Int) ≤ c ∧ (c : Int) ≤ 3 by omega)] at hC
  rw [inB_iff.2 (show (1 : Int) ≤ t ∧ (t : Int) ≤ 2 by omega)] at hT
  simp only [Bool.and_true] at hC
  generalize stepB d r c t = S at *
  have HD := Lib.hid hD
  have HC := Lib.hid hC
  have HT := Lib.hid hT
  have HX := Lib.hid hX
  clear hD hC hT hX hd hr hc ht
  go_enter Try.func15, Try.ntmps15
  have hm := Mem.start w
  repeat' (first | (go_at_call 50; refine mem_call hm (HD.out _) ?_; clear hm; intro w hm; (try simp only [nums, List.map_cons, List.map_nil])) | (go_at_call 51; refine mem_call hm (HC.out _) ?_; clear hm; intro w hm; (try simp only [nums, List.map_cons, List.map_nil])) | (go_at_call 52; refine mem_call hm (HT.out _) ?_; clear hm; intro w hm; (try simp only [nums, List.map_cons, List.map_nil])) | (go_at_call 53; refine mem_call hm (HX.out _) ?_; clear hm; intro w hm; (try simp only [nums, List.map_cons, List.map_nil])) | ((with_reducible refine gix ?_); first | refine mix rfl rfl rfl rfl ?_ | refine mixr rfl rfl rfl rfl ?_; (try simp only [Int.toNat_zero, Int.reduceToNat, Nat.reduceMul, Nat.zero_mul, Nat.one_mul, List.drop_succ_cons, List.drop_zero, List.take_succ_cons, List.take_zero])) | ((with_reducible refine gl ?_); first | refine ml hm rfl rfl rfl ?_ | refine mlw hm rfl rfl rfl ?_ | (refine mlr hm rfl rfl rfl ?_; try simp only [List.drop_succ_cons, List.drop_zero, List.take_succ_cons, List.take_zero])) | ((with_reducible refine gs ?_); (first | refine ms hm rfl rfl rfl rfl rfl ?_ | refine msw hm rfl rfl rfl rfl ?_ | refine msr hm rfl rfl rfl rfl ?_); clear hm; intro w hm; (try simp only [splice, List.set_cons_zero, List.set_cons_succ] at hm)) | ((with_reducible refine gb ?_); (first | refine mem_box hm rfl rfl rfl ?_ | refine mem_box1 hm rfl rfl rfl rfl ?_); clear hm; intro n w hm) | ((with_reducible refine ga ?_); refine mem_alloc hm rfl rfl ?_; clear hm; intro n w hm) | go_values | go_skip | go_guarded | go_step | go_upon | ((with_reducible refine bp ?_); go_back) | ((with_reducible refine up ?_); first | (simp only [Int.not_lt, Int.not_le] at *; go_simp) | (go_values <;> (try go_simp)) | (go_ite <;> go_prune <;> (try go_simp)) | (split <;> (first | (rename_i hx; exact (hx _ rfl).elim) | go_prune))))
  (try simp only [Exit.inBlock, Exit.then])
  (first | (refine ret1 rfl rfl (by (first | exact Res.tmp rfl | exact Res.atw hm rfl | exact Res.at hm rfl)) ?_) | (refine ret2 rfl rfl (by (first | exact Res.tmp rfl | exact Res.atw hm rfl | exact Res.at hm rfl)) (by (first | exact Res.tmp rfl | exact Res.atw hm rfl | exact Res.at hm rfl)) ?_) | (refine ret3 rfl rfl (by (first | exact Res.tmp rfl | exact Res.atw hm rfl | exact Res.at hm rfl)) (by (first | exact Res.tmp rfl | exact Res.atw hm rfl | exact Res.at hm rfl)) (by (first | exact Res.tmp rfl | exact Res.atw hm rfl | exact Res.at hm rfl)) ?_) | fail "ret")
  exact ⟨rfl, hm.below⟩
theorem impl_StepText_good (d r c t : Nat) (hd : d ≤ 3) (hr : r ≤ 3) (hc : c ≤ 3) (ht : 1 ≤ t ∧ t ≤ 2) (w : World) : Calls Try.prog 17 #[.agg #[iv d, iv r, iv c, iv t]] w fun e w' => e = .returned (.tuple #[.string (stepB d r c t), .bool true]) ∧ Below w.heap.size w w' := by
  obtain rfl | rfl | rfl | rfl : d = 0 ∨ d = 1 ∨ d = 2 ∨ d = 3 := by omega
  all_goals obtain rfl | rfl : t = 1 ∨ t = 2 := by omega
  · exact impl_StepText_01 r c hr hc w
  · exact impl_StepText_02 r c hr hc w
  · exact impl_StepText_11 r c hr hc w
  · exact impl_StepText_12 r c hr hc w
  · exact impl_StepText_21 r c hr hc w
  · exact impl_StepText_22 r c hr hc w
  · exact impl_StepText_31 r c hr hc w
  · exact impl_StepText_32 r c hr hc w
/-- What StepText tells. -/
def stepT (d r c t : Int) : ByteArray := if (inB d 0 3 && (inB r 0 3 && inB c 0 3) && inB t 1 2) = true then stepB d.toNat r.toNat c.toNat t.toNat else ⟨#[]⟩
theorem step_nat {d r c t : Int} (h : (inB d 0 3 && (inB r 0 3 && inB c 0 3) && inB t 1 2) = true) : ∃ d' r' c' t' : Nat, d = d' ∧ r = r' ∧ c = c' ∧ t = t' ∧ d' ≤ 3 ∧ r' ≤ 3 ∧ c' ≤ 3 ∧ (1 ≤ t' ∧ t' ≤ 2) := by
  simp only [Bool.and_eq_true, inB_iff] at h
  exact ⟨d.toNat, r.toNat, c.toNat, t.toNat, by omega, by omega, by omega, by omega, by omega, by omega, by omega, by omega⟩
theorem spec_StepText (d r c t : Int) (w : World) : Calls Try.prog 15 #[.agg #[iv d, iv r, iv c, iv t]] w fun e w' => e = .returned (.tuple #[.string (stepT d r c t), .bool (inB d 0 3 && (inB r 0 3 && inB c 0 3) && inB t 1 2)]) ∧ Below w.heap.size w w' := by
  cases hv : (inB d 0 3 && (inB r 0 3 && inB c 0 3) && inB t 1 2)
  · have := spec_StepText_bad d r c t hv w
    rw [stepT, if_neg (by rw [hv]; decide)]
    exact this
  · obtain ⟨d', r', c', t', rfl, rfl, rfl, rfl, h1, h2, h3, h4⟩ := step_nat hv
    have := spec_StepText_good d' r' c' t' h1 h2 h3 h4 w
    rw [stepT, if_pos hv]
    simp only [Int.toNat_natCast]
    exact this
theorem impl_StepText (d r c t : Int) (w : World) : Calls Try.prog 17 #[.agg #[iv d, iv r, iv c, iv t]] w fun e w' => e = .returned (.tuple #[.string (stepT d r c t), .bool (inB d 0 3 && (inB r 0 3 && inB c 0 3) && inB t 1 2)]) ∧ Below w.heap.size w w' := by
  cases hv : (inB d 0 3 && (inB r 0 3 && inB c 0 3) && inB t 1 2)
  · have := impl_StepText_bad d r c t hv w
    rw [stepT, if_neg (by rw [hv]; decide)]
    exact this
  · obtain ⟨d', r', c', t', rfl, rfl, rfl, rfl, h1, h2, h3, h4⟩ := step_nat hv
    have := impl_StepText_good d' r' c' t' h1 h2 h3 h4 w
    rw [stepT, if_pos hv]
    simp only [Int.toNat_natCast]
    exact this
theorem laws_toIntA2 (r c : Int) (w : World) : Calls Try.prog 54 #[.agg #[iv r, iv c]] w fun e w' => e = .returned (.agg #[iv r, iv c]) ∧ Below w.heap.size w w' := by
  go_enter Try.func54, Try.ntmps54
  have hm := Mem.start w
  repeat' (first  | ((with_reducible refine gix ?_); first | refine mix rfl rfl rfl rfl ?_ | refine mixr rfl rfl rfl rfl ?_; (try simp only [Int.toNat_zero, Int.reduceToNat, Nat.reduceMul, Nat.zero_mul, Nat.one_mul, List.drop_succ_cons, List.drop_zero, List.take_succ_cons, List.take_zero])) | ((with_reducible refine gl ?_); first | refine ml hm rfl rfl rfl ?_ | refine mlw hm rfl rfl rfl ?_ | (refine mlr hm rfl rfl rfl ?_; try simp only [List.drop_succ_cons, List.drop_zero, List.take_succ_cons, List.take_zero])) | ((with_reducible refine gs ?_); (first | refine ms hm rfl rfl rfl rfl rfl ?_ | refine msw hm rfl rfl rfl rfl ?_ | refine msr hm rfl rfl rfl rfl ?_); clear hm; intro w hm; (try simp only [splice, List.set_cons_zero, List.set_cons_succ] at hm)) | ((with_reducible refine gb ?_); (first | refine mem_box hm rfl rfl rfl ?_ | refine mem_box1 hm rfl rfl rfl rfl ?_); clear hm; intro n w hm) | ((with_reducible refine ga ?_); refine mem_alloc hm rfl rfl ?_; clear hm; intro n w hm) | ((with_reducible refine wp_loop_rounds 18 ?_); rw [rounds_succ]) | (with_reducible rw [rounds_succ]) | go_values | go_skip | go_guarded | go_step | go_upon | ((with_reducible refine bp ?_); go_back) | ((with_reducible refine up ?_); first | (simp only [Int.not_lt, Int.not_le] at *; go_simp) | (go_values <;> (try go_simp)) | (go_ite <;> go_prune <;> (try go_simp)) | (split <;> (first | (rename_i hx; exact (hx _ rfl).elim) | go_prune))))
  (try simp only [Exit.inBlock, Exit.then])
  (first | (refine ret1 rfl rfl (by (first | exact Res.tmp rfl | exact Res.atw hm rfl | exact Res.at hm rfl)) ?_) | (refine ret2 rfl rfl (by (first | exact Res.tmp rfl | exact Res.atw hm rfl | exact Res.at hm rfl)) (by (first | exact Res.tmp rfl | exact Res.atw hm rfl | exact Res.at hm rfl)) ?_) | (refine ret3 rfl rfl (by (first | exact Res.tmp rfl | exact Res.atw hm rfl | exact Res.at hm rfl)) (by (first | exact Res.tmp rfl | exact Res.atw hm rfl | exact Res.at hm rfl)) (by (first | exact Res.tmp rfl | exact Res.atw hm rfl | exact Res.at hm rfl)) ?_) | fail "ret")
  exact ⟨rfl, hm.below⟩
theorem laws_toStep (d r c t : Int) (w : World) : Calls Try.prog 16 #[.agg #[iv d, iv r, iv c, iv t]] w fun e w' => e = .returned (.agg #[iv d, iv r, iv c, iv t]) ∧ Below w.heap.size w w' := by
  go_enter Try.func16, Try.ntmps16
  have hm := Mem.start w
  repeat' (first | (go_at_call 54; refine mem_call hm (laws_toIntA2 _ _ _) ?_; clear hm; intro w hm; (try simp only [nums, List.map_cons, List.map_nil])) | ((with_reducible refine gix ?_); first | refine mix rfl rfl rfl rfl ?_ | refine mixr rfl rfl rfl rfl ?_; (try simp only [Int.toNat_zero, Int.reduceToNat, Nat.reduceMul, Nat.zero_mul, Nat.one_mul, List.drop_succ_cons, List.drop_zero, List.take_succ_cons, List.take_zero])) | ((with_reducible refine gl ?_); first | refine ml hm rfl rfl rfl ?_ | refine mlw hm rfl rfl rfl ?_ | (refine mlr hm rfl rfl rfl ?_; try simp only [List.drop_succ_cons, List.drop_zero, List.take_succ_cons, List.take_zero])) | ((with_reducible refine gs ?_); (first | refine ms hm rfl rfl rfl rfl rfl ?_ | refine msw hm rfl rfl rfl rfl ?_ | refine msr hm rfl rfl rfl rfl ?_); clear hm; intro w hm; (try simp only [splice, List.set_cons_zero, List.set_cons_succ] at hm)) | ((with_reducible refine gb ?_); (first | refine mem_box hm rfl rfl rfl ?_ | refine mem_box1 hm rfl rfl rfl rfl ?_); clear hm; intro n w hm) | ((with_reducible refine ga ?_); refine mem_alloc hm rfl rfl ?_; clear hm; intro n w hm) | ((with_reducible refine wp_loop_rounds 18 ?_); rw [rounds_succ]) | (with_reducible rw [rounds_succ]) | go_values | go_skip | go_guarded | go_step | go_upon | ((with_reducible refine bp ?_); go_back) | ((with_reducible refine up ?_); first | (simp only [Int.not_lt, Int.not_le] at *; go_simp) | (go_values <;> (try go_simp)) | (go_ite <;> go_prune <;> (try go_simp)) | (split <;> (first | (rename_i hx; exact (hx _ rfl).elim) | go_prune))))
  (try simp only [Exit.inBlock, Exit.then])
  (first | (refine ret1 rfl rfl (by (first | exact Res.tmp rfl | exact Res.atw hm rfl | exact Res.at hm rfl)) ?_) | (refine ret2 rfl rfl (by (first | exact Res.tmp rfl | exact Res.atw hm rfl | exact Res.at hm rfl)) (by (first | exact Res.tmp rfl | exact Res.atw hm rfl | exact Res.at hm rfl)) ?_) | (refine ret3 rfl rfl (by (first | exact Res.tmp rfl | exact Res.atw hm rfl | exact Res.at hm rfl)) (by (first | exact Res.tmp rfl | exact Res.atw hm rfl | exact Res.at hm rfl)) (by (first | exact Res.tmp rfl | exact Res.atw hm rfl | exact Res.at hm rfl)) ?_) | fail "ret")
  exact ⟨rfl, hm.below⟩
end Go.Proofs.Ytjddfilabmcnpaa

/-
  Walks of steps: what a step is, the board behind it, the score.
-/
import Derived.Test.YtelnajpjanmliaaSlide3
import Derived.Test.YtelnajpjanmliaaSmall
import Derived.Test.YtelnajpjanmliaaCmp
set_option linter.unusedVariables false
set_option linter.unusedSimpArgs false
namespace Go.Proofs.Ytelnajpjanmliaa
open Go.RowKit Slm
def stpOK (d r c t : Int) : Bool := inB d 0 3 && (inB r 0 3 && inB c 0 3) && inB t 1 2
/-- Whether something is a step of a board. -/
def stpB (b : List Int) (d r c t : Int) : Bool := stpOK d r c t && (!decide (slideB 1 d.toNat b = b) && decide (atL (slideB 1 d.toNat b) (4 * r.toNat + c.toNat) = 0))
def nextB (b : List Int) (d r c t : Int) : List Int := (slideB 1 d.toNat b).set (4 * r.toNat + c.toNat) t
def z16 : List Int := [0, 0, 0, 0, 0, 0, 0, 0, 0, 0, 0, 0, 0, 0, 0, 0]
def doB (b : List Int) (d r c t : Int) : List Int := if stpB b d r c t = true then nextB b d r c t else z16
def doS (b : List Int) (d r c t : Int) : Int := if stpB b d r c t = true then scoreB d.toNat b else 0
theorem stp_nat {d r c t : Int} (h : stpOK d r c t = true) : ∃ d' r' c' t' : Nat, d = d' ∧ r = r' ∧ c = c' ∧ t = t' ∧ d' ≤ 3 ∧ r' ≤ 3 ∧ c' ≤ 3 ∧ (1 ≤ t' ∧ t' ≤ 2) := by
  simp only [stpOK, Bool.and_eq_true, inB_iff] at h
  exact ⟨d.toNat, r.toNat, c.toNat, t.toNat, by omega, by omega, by omega, by omega, by omega, by omega, by omega, by omega⟩
theorem nextB_len {b : List Int} (hl : b.length = 16) (d r c t : Int) : (nextB b d r c t).length = 16 := by
  rw [nextB, List.length_set, slideB_len, hl]
theorem nextB_ok {b : List Int} (h : okL b = true) {d r c t : Int} (hs : stpB b d r c t = true) : okL (nextB b d r c t) = true := by
  simp only [stpB, stpOK, Bool.and_eq_true, inB_iff] at hs
  exact set_ok (slideB_ok h 1 _) _ (by omega)
theorem scoreB_bd {b : List Int} (h : okL b = true) (d : Nat) : 0 ≤ scoreB d b ∧ scoreB d b ≤ 2097152 := scoreN_bd h d 4
theorem spec_l2CellZ (r c : Int) (w : World) : Calls Try.prog 143 #[.agg #[iv r, iv c]] w fun e w' => e = .returned (.bool (inB r 0 3 && inB c 0 3)) ∧ Below w.heap.size w w' := by
  have hR := spec_l1In r 0 3
  have hC := spec_l1In c 0 3
  cases h1 : inB r 0 3 <;> cases h2 : inB c 0 3
  all_goals
    rw [h1] at hR
    rw [h2] at hC
    have HR := Lib.hid hR
    have HC := Lib.hid hC
    clear hR hC
    go_enter Try.func143, Try.ntmps143
    have hm := Mem.start w
    repeat' (first | (go_at_call 47; refine mem_call hm (by first | with_reducible exact HR.out _ | with_reducible exact HC.out _) ?_; clear hm; intro w hm; (try simp only [nums, List.map_cons, List.map_nil])) | ((with_reducible refine gix ?_); first | refine mix rfl rfl rfl rfl ?_ | refine mixr rfl rfl rfl rfl ?_; (try simp only [Int.toNat_zero, Int.reduceToNat, Nat.reduceMul, Nat.zero_mul, Nat.one_mul, List.drop_succ_cons, List.drop_zero, List.take_succ_cons, List.take_zero])) | ((with_reducible refine gl ?_); first | refine ml hm rfl rfl rfl ?_ | refine mlw hm rfl rfl rfl ?_ | (refine mlr hm rfl rfl rfl ?_; try simp only [List.drop_succ_cons, List.drop_zero, List.take_succ_cons, List.take_zero])) | ((with_reducible refine gs ?_); (first | refine ms hm rfl rfl rfl rfl rfl ?_ | refine msw hm rfl rfl rfl rfl ?_ | refine msr hm rfl rfl rfl rfl ?_); clear hm; intro w hm; (try simp only [splice, List.set_cons_zero, List.set_cons_succ] at hm)) | ((with_reducible refine gb ?_); (first | refine mem_box hm rfl rfl rfl ?_ | refine mem_box1 hm rfl rfl rfl rfl ?_); clear hm; intro n w hm) | ((with_reducible refine ga ?_); refine mem_alloc hm rfl rfl ?_; clear hm; intro n w hm) | go_values | go_skip | go_guarded | go_step | go_upon | ((with_reducible refine bp ?_); go_back) | ((with_reducible refine up ?_); first | (simp only [Int.not_lt, Int.not_le] at *; go_simp) | (go_values <;> (try go_simp)) | (go_ite <;> go_prune <;> (try go_simp)) | (split <;> (first | (rename_i hx; exact (hx _ rfl).elim) | go_prune))))
    (try simp only [Exit.inBlock, Exit.then])
    (first | (refine ret1 rfl rfl (by (first | exact Res.tmp rfl | exact Res.atw hm rfl | exact Res.at hm rfl)) ?_) | (refine ret2 rfl rfl (by (first | exact Res.tmp rfl | exact Res.atw hm rfl | exact Res.at hm rfl)) (by (first | exact Res.tmp rfl | exact Res.atw hm rfl | exact Res.at hm rfl)) ?_) | (refine ret3 rfl rfl (by (first | exact Res.tmp rfl | exact Res.atw hm rfl | exact Res.at hm rfl)) (by (first | exact Res.tmp rfl | exact Res.atw hm rfl | exact Res.at hm rfl)) (by (first | exact Res.tmp rfl | exact Res.atw hm rfl | exact Res.at hm rfl)) ?_) | (refine ret4 rfl rfl (by (first | exact Res.tmp rfl | exact Res.atw hm rfl | exact Res.at hm rfl)) (by (first | exact Res.tmp rfl | exact Res.atw hm rfl | exact Res.at hm rfl)) (by (first | exact Res.tmp rfl | exact Res.atw hm rfl | exact Res.at hm rfl)) (by (first | exact Res.tmp rfl | exact Res.atw hm rfl | exact Res.at hm rfl)) ?_) | fail "ret")
    exact ⟨rfl, hm.below⟩
theorem impl_isCellZ (r c : Int) (w : World) : Calls Try.prog 66 #[.agg #[iv r, iv c]] w fun e w' => e = .returned (.bool (inB r 0 3 && inB c 0 3)) ∧ Below w.heap.size w w' := by
  have hR := impl_in r 0 3
  have hC := impl_in c 0 3
  cases h1 : inB r 0 3 <;> cases h2 : inB c 0 3
  all_goals
    rw [h1] at hR
    rw [h2] at hC
    have HR := Lib.hid hR
    have HC := Lib.hid hC
    clear hR hC
    go_enter Try.func66, Try.ntmps66
    have hm := Mem.start w
    repeat' (first | (go_at_call 49; refine mem_call hm (by first | with_reducible exact HR.out _ | with_reducible exact HC.out _) ?_; clear hm; intro w hm; (try simp only [nums, List.map_cons, List.map_nil])) | ((with_reducible refine gix ?_); first | refine mix rfl rfl rfl rfl ?_ | refine mixr rfl rfl rfl rfl ?_; (try simp only [Int.toNat_zero, Int.reduceToNat, Nat.reduceMul, Nat.zero_mul, Nat.one_mul, List.drop_succ_cons, List.drop_zero, List.take_succ_cons, List.take_zero])) | ((with_reducible refine gl ?_); first | refine ml hm rfl rfl rfl ?_ | refine mlw hm rfl rfl rfl ?_ | (refine mlr hm rfl rfl rfl ?_; try simp only [List.drop_succ_cons, List.drop_zero, List.take_succ_cons, List.take_zero])) | ((with_reducible refine gs ?_); (first | refine ms hm rfl rfl rfl rfl rfl ?_ | refine msw hm rfl rfl rfl rfl ?_ | refine msr hm rfl rfl rfl rfl ?_); clear hm; intro w hm; (try simp only [splice, List.set_cons_zero, List.set_cons_succ] at hm)) | ((with_reducible refine gb ?_); (first | refine mem_box hm rfl rfl rfl ?_ | refine mem_box1 hm rfl rfl rfl rfl ?_); clear hm; intro n w hm) | ((with_reducible refine ga ?_); refine mem_alloc hm rfl rfl ?_; clear hm; intro n w hm) | go_values | go_skip | go_guarded | go_step | go_upon | ((with_reducible refine bp ?_); go_back) | ((with_reducible refine up ?_); first | (simp only [Int.not_lt, Int.not_le] at *; go_simp) | (go_values <;> (try go_simp)) | (go_ite <;> go_prune <;> (try go_simp)) | (split <;> (first | (rename_i hx; exact (hx _ rfl).elim) | go_prune))))
    (try simp only [Exit.inBlock, Exit.then])
    (first | (refine ret1 rfl rfl (by (first | exact Res.tmp rfl | exact Res.atw hm rfl | exact Res.at hm rfl)) ?_) | (refine ret2 rfl rfl (by (first | exact Res.tmp rfl | exact Res.atw hm rfl | exact Res.at hm rfl)) (by (first | exact Res.tmp rfl | exact Res.atw hm rfl | exact Res.at hm rfl)) ?_) | (refine ret3 rfl rfl (by (first | exact Res.tmp rfl | exact Res.atw hm rfl | exact Res.at hm rfl)) (by (first | exact Res.tmp rfl | exact Res.atw hm rfl | exact Res.at hm rfl)) (by (first | exact Res.tmp rfl | exact Res.atw hm rfl | exact Res.at hm rfl)) ?_) | (refine ret4 rfl rfl (by (first | exact Res.tmp rfl | exact Res.atw hm rfl | exact Res.at hm rfl)) (by (first | exact Res.tmp rfl | exact Res.atw hm rfl | exact Res.at hm rfl)) (by (first | exact Res.tmp rfl | exact Res.atw hm rfl | exact Res.at hm rfl)) (by (first | exact Res.tmp rfl | exact Res.atw hm rfl | exact Res.at hm rfl)) ?_) | fail "ret")
    exact ⟨rfl, hm.below⟩
theorem spec_l5Do_bad (b : List Int) (hl : b.length = 16) (d r c t : Int) (hv : stpOK d r c t = false) (w : World) : Calls Try.prog 111 #[.agg (nums b), .agg #[iv d, iv r, iv c, iv t]] w fun e w' => e = .returned (.tuple #[.agg (nums z16), iv 0, .bool false]) ∧ Below w.heap.size w w' := by
  have hD := spec_l2Side d
  have hC := spec_l2CellZ r c
  have hT := spec_l1In t 1 2
  unfold stpOK at hv
  generalize (inB r 0 3 && inB c 0 3) = q2 at *
  generalize inB d 0 3 = q1 at *
  generalize inB t 1 2 = q3 at *
  cases q1 <;> cases q2 <;> cases q3
  case true.true.true => simp at hv
  all_goals
    have HD := Lib.hid hD
    have HC := Lib.hid hC
    have HT := Lib.hid hT
    clear hD hC hT hv
    go_enter Try.func111, Try.ntmps111
    have hm := Mem.start w
    simp only [nums_map]
    repeat' (first | (go_at_call 73; refine mem_call hm (HD.out _) ?_; clear hm; intro w hm; (try simp only [nums, List.map_cons, List.map_nil])) | (go_at_call 143; refine mem_call hm (HC.out _) ?_; clear hm; intro w hm; (try simp only [nums, List.map_cons, List.map_nil])) | (go_at_call 47; refine mem_call hm (HT.out _) ?_; clear hm; intro w hm; (try simp only [nums, List.map_cons, List.map_nil])) | ((with_reducible refine gix ?_); first | refine mix rfl rfl rfl rfl ?_ | refine mixr rfl rfl rfl rfl ?_; (try simp only [Int.toNat_zero, Int.reduceToNat, Nat.reduceMul, Nat.zero_mul, Nat.one_mul, List.drop_succ_cons, List.drop_zero, List.take_succ_cons, List.take_zero])) | ((with_reducible refine gl ?_); first | refine ml hm rfl rfl rfl ?_ | refine mlw hm rfl rfl rfl ?_ | (refine mlr hm rfl rfl rfl ?_; try simp only [List.drop_succ_cons, List.drop_zero, List.take_succ_cons, List.take_zero])) | ((with_reducible refine gs ?_); (first | refine ms hm rfl rfl rfl rfl rfl ?_ | refine msw hm rfl rfl rfl rfl ?_ | refine msr hm rfl rfl rfl rfl ?_); clear hm; intro w hm; (try simp only [splice, List.set_cons_zero, List.set_cons_succ] at hm)) | ((with_reducible refine gb ?_); (first | refine mem_box hm rfl rfl rfl ?_ | refine mem_box1 hm rfl rfl rfl rfl ?_); clear hm; intro n w hm) | ((with_reducible refine ga ?_); refine mem_alloc hm rfl rfl ?_; clear hm; intro n w hm) | go_values | go_skip | go_guarded | go_step | go_upon | ((with_reducible refine bp ?_); go_back) | ((with_reducible refine up ?_); first | (simp only [Int.not_lt, Int.not_le] at *; go_simp) | (go_values <;> (try go_simp)) | (go_ite <;> go_prune <;> (try go_simp)) | (split <;> (first | (rename_i hx; exact (hx _ rfl).elim) | go_prune))))
    (try simp only [Exit.inBlock, Exit.then])
    (first | (refine ret1 rfl rfl (by (first | exact Res.tmp rfl | exact Res.atw hm rfl | exact Res.at hm rfl)) ?_) | (refine ret2 rfl rfl (by (first | exact Res.tmp rfl | exact Res.atw hm rfl | exact Res.at hm rfl)) (by (first | exact Res.tmp rfl | exact Res.atw hm rfl | exact Res.at hm rfl)) ?_) | (refine ret3 rfl rfl (by (first | exact Res.tmp rfl | exact Res.atw hm rfl | exact Res.at hm rfl)) (by (first | exact Res.tmp rfl | exact Res.atw hm rfl | exact Res.at hm rfl)) (by (first | exact Res.tmp rfl | exact Res.atw hm rfl | exact Res.at hm rfl)) ?_) | (refine ret4 rfl rfl (by (first | exact Res.tmp rfl | exact Res.atw hm rfl | exact Res.at hm rfl)) (by (first | exact Res.tmp rfl | exact Res.atw hm rfl | exact Res.at hm rfl)) (by (first | exact Res.tmp rfl | exact Res.atw hm rfl | exact Res.at hm rfl)) (by (first | exact Res.tmp rfl | exact Res.atw hm rfl | exact Res.at hm rfl)) ?_) | fail "ret")
    exact ⟨rfl, hm.below⟩
set_option maxHeartbeats 1000000 in
theorem spec_l5Do_good (b : List Int) (hl : b.length = 16) (hok : okL b = true) (d r c t : Nat) (hd : d ≤ 3) (hr : r ≤ 3) (hc : c ≤ 3) (ht : 1 ≤ t ∧ t ≤ 2) (w : World) :
    Calls Try.prog 111 #[.agg (nums b), .agg #[iv d, iv r, iv c, iv t]] w fun e w' => e = .returned (if slideB 1 d b = b ∨ atL (slideB 1 d b) (4 * r + c) ≠ 0 then .tuple #[.agg (nums z16), iv 0, .bool false] else .tuple #[.agg (nums ((slideB 1 d b).set (4 * r + c) t)), iv (scoreB d b), .bool true]) ∧ Below w.heap.size w w' := by
  have hD := spec_l2Side d
  have hC := spec_l2CellZ r c
  have hT := spec_l1In t 1 2
  rw [inB_iff.2 (show (0 : Int) ≤ d ∧ (d : Int) ≤ 3 by omega)] at hD
  rw [inB_iff.2 (show (0 : Int) ≤ r ∧ (r : Int) ≤ 3 by omega), inB_iff.2 (show (0 : Int) ≤ c ∧ (c : Int) ≤ 3 by omega)] at hC
  rw [inB_iff.2 (show (1 : Int) ≤ t ∧ (t : Int) ≤ 2 by omega)] at hT
  simp only [Bool.and_true] at hC
  have hS := spec_l2Slide d hd b hl hok
  have hsl := slideB_len 1 d b
  rw [hl] at hsl
  have hA := spec_l2At r c hr hc (slideB 1 d b) hsl
  have hP := spec_l2Put r c hr hc t (slideB 1 d b) hsl
  generalize scoreB d b = sc at *
  generalize slideB 1 d b = S at *
  have hal : ∀ p t, (S.set p t).length = 16 := by intro p t; rw [List.length_set, hsl]
  have HS := Lib.hid hS
  have HD := Lib.hid hD
  have HC := Lib.hid hC
  have HT := Lib.hid hT
  have HA := Lib.hid hA
  have HP := Lib.hid hP
  clear hS hD hC hT hA hP hd hr hc ht hok
  by_cases hSb : S = b
  · have hdd : decide (S = b) = true := by simpa using hSb
    rw [if_pos (.inl hSb)]
    have HDD : Unit → Hid _ := fun _ => Lib.hid hdd
    clear hSb hdd
    go_enter Try.func111, Try.ntmps111
    have hm := Mem.start w
    simp only [nums_map]
    repeat' (first | (go_at_call 73; refine mem_call hm (HD.out _) ?_; clear hm; intro w hm; (try simp only [nums, List.map_cons, List.map_nil])) | (go_at_call 143; refine mem_call hm (HC.out _) ?_; clear hm; intro w hm; (try simp only [nums, List.map_cons, List.map_nil])) | (go_at_call 47; refine mem_call hm (HT.out _) ?_; clear hm; intro w hm; (try simp only [nums, List.map_cons, List.map_nil])) | (go_at_call 83; refine mem_call hm (HS.out _) ?_; clear hm; intro w hm; (try simp only [nums, List.map_cons, List.map_nil])) | (go_at_call 144; refine mem_call hm (HA.out _) ?_; clear hm; intro w hm; (try simp only [nums, List.map_cons, List.map_nil])) | (go_at_call 124; refine mem_call hm (HP.out _) ?_; clear hm; intro w hm; (try simp only [nums, List.map_cons, List.map_nil])) | ((with_reducible refine gcmp ?_); refine mcmp ((HDD ()).out) (by first | exact .inl rfl | exact .inr rfl) rfl rfl rfl rfl ?_; (try simp only [cmpV, Bool.not_true, Bool.not_false])) | ((with_reducible refine gix ?_); first | refine mix rfl rfl rfl rfl ?_ | refine mixr rfl rfl rfl rfl ?_; (try simp only [Int.toNat_zero, Int.reduceToNat, Nat.reduceMul, Nat.zero_mul, Nat.one_mul, List.drop_succ_cons, List.drop_zero, List.take_succ_cons, List.take_zero])) | ((with_reducible refine gl ?_); first | refine ml hm rfl rfl rfl ?_ | refine mlw hm rfl rfl rfl ?_ | (refine mlr hm rfl rfl rfl ?_; try simp only [List.drop_succ_cons, List.drop_zero, List.take_succ_cons, List.take_zero])) | ((with_reducible refine gs ?_); (first | refine ms hm rfl rfl rfl rfl rfl ?_ | refine msw hm rfl rfl rfl rfl ?_ | refine msr hm rfl rfl rfl rfl ?_); clear hm; intro w hm; (try simp only [splice, List.set_cons_zero, List.set_cons_succ] at hm)) | ((with_reducible refine gb ?_); (first | refine mem_box hm rfl rfl rfl ?_ | refine mem_box1 hm rfl rfl rfl rfl ?_); clear hm; intro n w hm) | ((with_reducible refine ga ?_); refine mem_alloc hm rfl rfl ?_; clear hm; intro n w hm) | go_values | go_skip | go_guarded | go_step | go_upon | ((with_reducible refine bp ?_); go_back) | ((with_reducible refine up ?_); first | (simp only [Int.not_lt, Int.not_le] at *; go_simp) | (go_values <;> (try go_simp)) | (go_ite <;> go_prune <;> (try go_simp)) | (split <;> (first | (rename_i hx; exact (hx _ rfl).elim) | go_prune))))
    (try simp only [Exit.inBlock, Exit.then])
    (first | (refine ret1 rfl rfl (by (first | exact Res.tmp rfl | exact Res.atw hm rfl | exact Res.at hm rfl)) ?_) | (refine ret2 rfl rfl (by (first | exact Res.tmp rfl | exact Res.atw hm rfl | exact Res.at hm rfl)) (by (first | exact Res.tmp rfl | exact Res.atw hm rfl | exact Res.at hm rfl)) ?_) | (refine ret3 rfl rfl (by (first | exact Res.tmp rfl | exact Res.atw hm rfl | exact Res.at hm rfl)) (by (first | exact Res.tmp rfl | exact Res.atw hm rfl | exact Res.at hm rfl)) (by (first | exact Res.tmp rfl | exact Res.atw hm rfl | exact Res.at hm rfl)) ?_) | (refine ret4 rfl rfl (by (first | exact Res.tmp rfl | exact Res.atw hm rfl | exact Res.at hm rfl)) (by (first | exact Res.tmp rfl | exact Res.atw hm rfl | exact Res.at hm rfl)) (by (first | exact Res.tmp rfl | exact Res.atw hm rfl | exact Res.at hm rfl)) (by (first | exact Res.tmp rfl | exact Res.atw hm rfl | exact Res.at hm rfl)) ?_) | fail "ret")
    exact ⟨rfl, hm.below⟩
  · have hdd : decide (S = b) = false := by simpa using hSb
    have HDD : Unit → Hid _ := fun _ => Lib.hid hdd
    clear hdd
    by_cases ha : atL S (4 * r + c) = 0
    · rw [if_neg (by rintro (h | h); exact hSb h; exact h ha)]
      rw [ha] at HA
      clear ha hSb
      have hl2 := hal (4 * r + c) t
      generalize S.set (4 * r + c) (t : Int) = S' at *
      go_enter Try.func111, Try.ntmps111
      have hm := Mem.start w
      simp only [nums_map]
      repeat' (first | (go_at_call 73; refine mem_call hm (HD.out _) ?_; clear hm; intro w hm; (try simp only [nums, List.map_cons, List.map_nil])) | (go_at_call 143; refine mem_call hm (HC.out _) ?_; clear hm; intro w hm; (try simp only [nums, List.map_cons, List.map_nil])) | (go_at_call 47; refine mem_call hm (HT.out _) ?_; clear hm; intro w hm; (try simp only [nums, List.map_cons, List.map_nil])) | (go_at_call 83; refine mem_call hm (HS.out _) ?_; clear hm; intro w hm; (try simp only [nums, List.map_cons, List.map_nil])) | (go_at_call 144; refine mem_call hm (HA.out _) ?_; clear hm; intro w hm; (try simp only [nums, List.map_cons, List.map_nil])) | (go_at_call 124; refine mem_call hm (HP.out _) ?_; clear hm; intro w hm; (try simp only [nums, List.map_cons, List.map_nil])) | ((with_reducible refine gcmp ?_); refine mcmp ((HDD ()).out) (by first | exact .inl rfl | exact .inr rfl) rfl rfl rfl rfl ?_; (try simp only [cmpV, Bool.not_true, Bool.not_false])) | ((with_reducible refine gix ?_); first | refine mix rfl rfl rfl rfl ?_ | refine mixr rfl rfl rfl rfl ?_; (try simp only [Int.toNat_zero, Int.reduceToNat, Nat.reduceMul, Nat.zero_mul, Nat.one_mul, List.drop_succ_cons, List.drop_zero, List.take_succ_cons, List.take_zero])) | ((with_reducible refine gl ?_); first | refine ml hm rfl rfl rfl ?_ | refine mlw hm rfl rfl rfl ?_ | (refine mlr hm rfl rfl rfl ?_; try simp only [List.drop_succ_cons, List.drop_zero, List.take_succ_cons, List.take_zero])) | ((with_reducible refine gs ?_); (first | refine ms hm rfl rfl rfl rfl rfl ?_ | refine msw hm rfl rfl rfl rfl ?_ | refine msr hm rfl rfl rfl rfl ?_); clear hm; intro w hm; (try simp only [splice, List.set_cons_zero, List.set_cons_succ] at hm)) | ((with_reducible refine gb ?_); (first | refine mem_box hm rfl rfl rfl ?_ | refine mem_box1 hm rfl rfl rfl rfl ?_); clear hm; intro n w hm) | ((with_reducible refine ga ?_); refine mem_alloc hm rfl rfl ?_; clear hm; intro n w hm) | go_values | go_skip | go_guarded | go_step | go_upon | ((with_reducible refine bp ?_); go_back) | ((with_reducible refine up ?_); first | (simp only [Int.not_lt, Int.not_le] at *; go_simp) | (go_values <;> (try go_simp)) | (go_ite <;> go_prune <;> (try go_simp)) | (split <;> (first | (rename_i hx; exact (hx _ rfl).elim) | go_prune))))
      (try simp only [Exit.inBlock, Exit.then])
      (first | (refine ret1 rfl rfl (by (first | exact Res.tmp rfl | exact Res.atw hm rfl | exact Res.at hm rfl)) ?_) | (refine ret2 rfl rfl (by (first | exact Res.tmp rfl | exact Res.atw hm rfl | exact Res.at hm rfl)) (by (first | exact Res.tmp rfl | exact Res.atw hm rfl | exact Res.at hm rfl)) ?_) | (refine ret3 rfl rfl (by (first | exact Res.tmp rfl | exact Res.atw hm rfl | exact Res.at hm rfl)) (by (first | exact Res.tmp rfl | exact Res.atw hm rfl | exact Res.at hm rfl)) (by (first | exact Res.tmp rfl | exact Res.atw hm rfl | exact Res.at hm rfl)) ?_) | (refine ret4 rfl rfl (by (first | exact Res.tmp rfl | exact Res.atw hm rfl | exact Res.at hm rfl)) (by (first | exact Res.tmp rfl | exact Res.atw hm rfl | exact Res.at hm rfl)) (by (first | exact Res.tmp rfl | exact Res.atw hm rfl | exact Res.at hm rfl)) (by (first | exact Res.tmp rfl | exact Res.atw hm rfl | exact Res.at hm rfl)) ?_) | fail "ret")
      exact ⟨rfl, hm.below⟩
    · rw [if_pos (.inr ha)]
      clear hSb
      generalize atL S (4 * r + c) = x at *
      go_enter Try.func111, Try.ntmps111
      have hm := Mem.start w
      simp only [nums_map]
      repeat' (first | (go_at_call 73; refine mem_call hm (HD.out _) ?_; clear hm; intro w hm; (try simp only [nums, List.map_cons, List.map_nil])) | (go_at_call 143; refine mem_call hm (HC.out _) ?_; clear hm; intro w hm; (try simp only [nums, List.map_cons, List.map_nil])) | (go_at_call 47; refine mem_call hm (HT.out _) ?_; clear hm; intro w hm; (try simp only [nums, List.map_cons, List.map_nil])) | (go_at_call 83; refine mem_call hm (HS.out _) ?_; clear hm; intro w hm; (try simp only [nums, List.map_cons, List.map_nil])) | (go_at_call 144; refine mem_call hm (HA.out _) ?_; clear hm; intro w hm; (try simp only [nums, List.map_cons, List.map_nil])) | (go_at_call 124; refine mem_call hm (HP.out _) ?_; clear hm; intro w hm; (try simp only [nums, List.map_cons, List.map_nil])) | ((with_reducible refine gcmp ?_); refine mcmp ((HDD ()).out) (by first | exact .inl rfl | exact .inr rfl) rfl rfl rfl rfl ?_; (try simp only [cmpV, Bool.not_true, Bool.not_false])) | ((with_reducible refine gix ?_); first | refine mix rfl rfl rfl rfl ?_ | refine mixr rfl rfl rfl rfl ?_; (try simp only [Int.toNat_zero, Int.reduceToNat, Nat.reduceMul, Nat.zero_mul, Nat.one_mul, List.drop_succ_cons, List.drop_zero, List.take_succ_cons, List.take_zero])) | ((with_reducible refine gl ?_); first | refine ml hm rfl rfl rfl ?_ | refine mlw hm rfl rfl rfl ?_ | (refine mlr hm rfl rfl rfl ?_; try simp only [List.drop_succ_cons, List.drop_zero, List.take_succ_cons, List.take_zero])) | ((with_reducible refine gs ?_); (first | refine ms hm rfl rfl rfl rfl rfl ?_ | refine msw hm rfl rfl rfl rfl ?_ | refine msr hm rfl rfl rfl rfl ?_); clear hm; intro w hm; (try simp only [splice, List.set_cons_zero, List.set_cons_succ] at hm)) | ((with_reducible refine gb ?_); (first | refine mem_box hm rfl rfl rfl ?_ | refine mem_box1 hm rfl rfl rfl rfl ?_); clear hm; intro n w hm) | ((with_reducible refine ga ?_); refine mem_alloc hm rfl rfl ?_; clear hm; intro n w hm) | go_values | go_skip | go_guarded | go_step | go_upon | ((with_reducible refine bp ?_); go_back) | ((with_reducible refine up ?_); first | (simp only [Int.not_lt, Int.not_le] at *; go_simp) | (go_values <;> (try go_simp)) | (go_ite <;> go_prune <;> (try go_simp)) | (split <;> (first | (rename_i hx; exact (hx _ rfl).elim) | go_prune))))
      (try simp only [Exit.inBlock, Exit.then])
      (first | (refine ret1 rfl rfl (by (first | exact Res.tmp rfl | exact Res.atw hm rfl | exact Res.at hm rfl)) ?_) | (refine ret2 rfl rfl (by (first | exact Res.tmp rfl | exact Res.atw hm rfl | exact Res.at hm rfl)) (by (first | exact Res.tmp rfl | exact Res.atw hm rfl | exact Res.at hm rfl)) ?_) | (refine ret3 rfl rfl (by (first | exact Res.tmp rfl | exact Res.atw hm rfl | exact Res.at hm rfl)) (by (first | exact Res.tmp rfl | exact Res.atw hm rfl | exact Res.at hm rfl)) (by (first | exact Res.tmp rfl | exact Res.atw hm rfl | exact Res.at hm rfl)) ?_) | (refine ret4 rfl rfl (by (first | exact Res.tmp rfl | exact Res.atw hm rfl | exact Res.at hm rfl)) (by (first | exact Res.tmp rfl | exact Res.atw hm rfl | exact Res.at hm rfl)) (by (first | exact Res.tmp rfl | exact Res.atw hm rfl | exact Res.at hm rfl)) (by (first | exact Res.tmp rfl | exact Res.atw hm rfl | exact Res.at hm rfl)) ?_) | fail "ret")
      exact ⟨rfl, hm.below⟩
theorem spec_l5Do (b : List Int) (hl : b.length = 16) (hok : okL b = true) (d r c t : Int) (w : World) :
    Calls Try.prog 111 #[.agg (nums b), .agg #[iv d, iv r, iv c, iv t]] w fun e w' => e = .returned (.tuple #[.agg (nums (doB b d r c t)), iv (doS b d r c t), .bool (stpB b d r c t)]) ∧ Below w.heap.size w w' := by
  cases hv : stpOK d r c t
  · have := spec_l5Do_bad b hl d r c t hv w
    have e : stpB b d r c t = false := by rw [stpB, hv]; rfl
    rw [doB, doS, e]
    exact this
  · obtain ⟨d', r', c', t', rfl, rfl, rfl, rfl, h1, h2, h3, h4⟩ := stp_nat hv
    have := spec_l5Do_good b hl hok d' r' c' t' h1 h2 h3 h4 w
    unfold doB doS nextB stpB
    rw [hv]
    simp only [Int.toNat_natCast, Bool.true_and]
    by_cases p1 : slideB 1 d' b = b
    · simpa [p1] using this
    · by_cases p2 : atL (slideB 1 d' b) (4 * r' + c') = 0
      · simpa [p1, p2] using this
      · simpa [p1, p2] using this
end Go.Proofs.Ytelnajpjanmliaa

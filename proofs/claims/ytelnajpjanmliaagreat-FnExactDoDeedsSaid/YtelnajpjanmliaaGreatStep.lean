/-
  Walks of steps: what a step is, the board behind it, the score.
-/
import Derived.Test.YtelnajpjanmliaaGreatSlide3
import Derived.Test.YtelnajpjanmliaaGreatSmall
import Derived.Test.YtelnajpjanmliaaGreatCmp
set_option linter.unusedVariables false
set_option linter.unusedSimpArgs false
namespace Go.Proofs.YtelnajpjanmliaaGreat
open Go.RowKit Slm
def stpOK (d r c t : Int) : Bool := inB d 0 3 && (inB r 0 3 && inB c 0 3) && inB t 1 2
/-- Whether something is a step of a board. -/
def stpB (b : List Int) (d r c t : Int) : Bool := stpOK d r c t && (!decide (slideB 1 d.toNat b = b) && decide (atL (slideB 1 d.toNat b) (4 * r.toNat + c.toNat) = 0))
def nextB (b : List Int) (d r c t : Int) : List Int := (slideB 1 d.toNat b).set (4 * r.toNat + c.toNat) t
def z16 : List Int := [0, 0, 0, 0, 0, 0, 0, 0, 0, 0, 0, 0, 0, 0, 0, 0]
def doB (b : List Int) (d r c t : Int) : List Int := if stpB b d r c t = true then nextB b d r c t else z16
def doS (b : List Int) (d r c t : Int) : Int := if stpB b d r c t = true then scoreB d.toNat b else 0
theorem stp_nat {d r c t : Int} (h : stpOK d r c t = true) : ∃ d' r' c' t' : Nat, d = d' ∧ r = r' ∧ c = c' ∧ t = t' ∧ d' ≤ 3 ∧ r' ≤ 3 ∧ c' ≤ 3 ∧ (1 ≤ t' ∧ t' ≤ 2) := by
  simp only [stpOK, Bool.and_eq_true, inB_iff] at h
  exact ⟨d.toNat, r.toNat, c.toNat, t.toNat, by omega, by omega, by omega, by omega, by omega, by omega, by omega, by omega⟩
theorem nextB_len {b : List Int} (hl : b.length = 16) (d r c t : Int) : (nextB b d r c t).length = 16 := by
  rw [nextB, List.length_set, slideB_len, hl]
theorem nextB_ok {b : List Int} (h : okL b = true) {d r c t : Int} (hs : stpB b d r c t = true) : okL (nextB b d r c t) = true := by
  simp only [stpB, stpOK, Bool.and_eq_true, inB_iff] at hs
  exact set_ok (slideB_ok h 1 _) _ (by omega)
theorem scoreB_bd {b : List Int} (h : okL b = true) (d : Nat) : 0 ≤ scoreB d b ∧ scoreB d b ≤ 2097152 := scoreN_bd h d 4
theorem spec_l2CellZ (r c : Int) (w : World) : Calls Tryz.prog 55 #[.agg #[iv r, iv c]] w fun e w' => e = .returned (.bool (inB r 0 3 && inB c 0 3)) ∧ Below w.heap.size w w' := by
  have hR := spec_l1In r 0 3
  have hC := spec_l1In c 0 3
  cases h1 : inB r 0 3 <;> cases h2 : inB c 0 3
  all_goals
    rw [h1] at hR
    rw [h2] at hC
    have HR := Lib.hid hR
    have HC := Lib.hid hC
    clear hR hC
    go_enter Tryz.func55, Tryz.ntmps55
    have hm := Mem.start w
    repeat' (first | (go_at_call 20; refine mem_call hm (by first | with_reducible exact HR.out _ | with_reducible exact HC.out _) ?_; clear hm; intro w hm; (try simp only [nums, List.map_cons, List.map_nil])) | ((with_reducible refine gix ?_); first | refine mix rfl rfl rfl rfl ?_ | refine mixr rfl rfl rfl rfl ?_; (try simp only [Int.toNat_zero, Int.reduceToNat, Nat.reduceMul, Nat.zero_mul, Nat.one_mul, List.drop_succ_cons, List.drop_zero, List.take_succ_cons, List.take_zero])) | ((with_reducible refine gl ?_); first | refine ml hm rfl rfl rfl ?_ | refine mlw hm rfl rfl rfl ?_ | (refine mlr hm rfl rfl rfl ?_; try simp only [List.drop_succ_cons, List.drop_zero, List.take_succ_cons, List.take_zero])) | ((with_reducible refine gs ?_); (first | refine ms hm rfl rfl rfl rfl rfl ?_ | refine msw hm rfl rfl rfl rfl ?_ | refine msr hm rfl rfl rfl rfl ?_); clear hm; intro w hm; (try simp only [splice, List.set_cons_zero, List.set_cons_succ] at hm)) | ((with_reducible refine gb ?_); (first | refine mem_box hm rfl rfl rfl ?_ | refine mem_box1 hm rfl rfl rfl rfl ?_); clear hm; intro n w hm) | ((with_reducible refine ga ?_); refine mem_alloc hm rfl rfl ?_; clear hm; intro n w hm) | go_values | go_skip | go_guarded | go_step | go_upon | ((with_reducible refine bp ?_); go_back) | ((with_reducible refine up ?_); first | (simp only [Int.not_lt, Int.not_le] at *; go_simp) | (go_values <;> (try go_simp)) | (go_ite <;> go_prune <;> (try go_simp)) | (split <;> (first | (rename_i hx; exact (hx _ rfl).elim) | go_prune))))
    (try simp only [Exit.inBlock, Exit.then])
    (first | (refine ret1 rfl rfl (by (first | exact Res.tmp rfl | exact Res.atw hm rfl | exact Res.at hm rfl)) ?_) | (refine ret2 rfl rfl (by (first | exact Res.tmp rfl | exact Res.atw hm rfl | exact Res.at hm rfl)) (by (first | exact Res.tmp rfl | exact Res.atw hm rfl | exact Res.at hm rfl)) ?_) | (refine ret3 rfl rfl (by (first | exact Res.tmp rfl | exact Res.atw hm rfl | exact Res.at hm rfl)) (by (first | exact Res.tmp rfl | exact Res.atw hm rfl | exact Res.at hm rfl)) (by (first | exact Res.tmp rfl | exact Res.atw hm rfl | exact Res.at hm rfl)) ?_) | (refine ret4 rfl rfl (by (first | exact Res.tmp rfl | exact Res.atw hm rfl | exact Res.at hm rfl)) (by (first | exact Res.tmp rfl | exact Res.atw hm rfl | exact Res.at hm rfl)) (by (first | exact Res.tmp rfl | exact Res.atw hm rfl | exact Res.at hm rfl)) (by (first | exact Res.tmp rfl | exact Res.atw hm rfl | exact Res.at hm rfl)) ?_) | fail "ret")
    exact ⟨rfl, hm.below⟩
theorem impl_isCellZ (r c : Int) (w : World) : Calls Tryz.prog 45 #[.agg #[iv r, iv c]] w fun e w' => e = .returned (.bool (inB r 0 3 && inB c 0 3)) ∧ Below w.heap.size w w' := by
  have hR := impl_in r 0 3
  have hC := impl_in c 0 3
  cases h1 : inB r 0 3 <;> cases h2 : inB c 0 3
  all_goals
    rw [h1] at hR
    rw [h2] at hC
    have HR := Lib.hid hR
    have HC := Lib.hid hC
    clear hR hC
    go_enter Tryz.func45, Tryz.ntmps45
    have hm := Mem.start w
    repeat' (first | (go_at_call 25; refine mem_call hm (by first | with_reducible exact HR.out _ | with_reducible exact HC.out _) ?_; clear hm; intro w hm; (try simp only [nums, List.map_cons, List.map_nil])) | ((with_reducible refine gix ?_); first | refine mix rfl rfl rfl rfl ?_ | refine mixr rfl rfl rfl rfl ?_; (try simp only [Int.toNat_zero, Int.reduceToNat, Nat.reduceMul, Nat.zero_mul, Nat.one_mul, List.drop_succ_cons, List.drop_zero, List.take_succ_cons, List.take_zero])) | ((with_reducible refine gl ?_); first | refine ml hm rfl rfl rfl ?_ | refine mlw hm rfl rfl rfl ?_ | (refine mlr hm rfl rfl rfl ?_; try simp only [List.drop_succ_cons, List.drop_zero, List.take_succ_cons, List.take_zero])) | ((with_reducible refine gs ?_); (first | refine ms hm rfl rfl rfl rfl rfl ?_ | refine msw hm rfl rfl rfl rfl ?_ | refine msr hm rfl rfl rfl rfl ?_); clear hm; intro w hm; (try simp only [splice, List.set_cons_zero, List.set_cons_succ] at hm)) | ((with_reducible refine gb ?_); (first | refine mem_box hm rfl rfl rfl ?_ | refine mem_box1 hm rfl rfl rfl rfl ?_); clear hm; intro n w hm) | ((with_reducible refine ga ?_); refine mem_alloc hm rfl rfl ?_; clear hm; intro n w hm) | go_values | go_skip | go_guarded | go_step | go_upon | ((with_reducible refine bp ?_); go_back) | ((with_reducible refine up ?_); first | (simp only [Int.not_lt, Int.not_le] at *; go_simp) | (go_values <;> (try go_simp)) | (go_ite <;> go_prune <;> (try go_simp)) | (split <;> (first | (rename_i hx; exact (hx _ rfl).elim) | go_prune))))
    (try simp only [Exit.inBlock, Exit.then])
    (first | (refine ret1 rfl rfl (by (first | exact Res.tmp rfl | exact Res.atw hm rfl | exact Res.at hm rfl)) ?_) | (refine ret2 rfl rfl (by (first | exact Res.tmp rfl | exact Res.atw hm rfl | exact Res.at hm rfl)) (by (first | exact Res.tmp rfl | exact Res.atw hm rfl | exact Res.at hm rfl)) ?_) | (refine ret3 rfl rfl (by (first | exact Res.tmp rfl | exact Res.atw hm rfl | exact Res.at hm rfl)) (by (first | exact Res.tmp rfl | exact Res.atw hm rfl | exact Res.at hm rfl)) (by (first | exact Res.tmp rfl | exact Res.atw hm rfl | exact Res.at hm rfl)) ?_) | (refine ret4 rfl rfl (by (first | exact Res.tmp rfl | exact Res.atw hm rfl | exact Res.at hm rfl)) (by (first | exact Res.tmp rfl | exact Res.atw hm rfl | exact Res.at hm rfl)) (by (first | exact Res.tmp rfl | exact Res.atw hm rfl | exact Res.at hm rfl)) (by (first | exact Res.tmp rfl | exact Res.atw hm rfl | exact Res.at hm rfl)) ?_) | fail "ret")
    exact ⟨rfl, hm.below⟩
end Go.Proofs.YtelnajpjanmliaaGreat

/-
  Walks of the texts of steps.
-/
import Derived.Test.YthcjokgjiknheaaSmall
import Derived.Test.YthcjokgjiknheaaFam
set_option linter.unusedVariables false
set_option linter.unusedSimpArgs false
namespace Go.Proofs.Ythcjokgjiknheaa
open Go.RowKit Slm
theorem spec_l1Num1 (n : Nat) (hn : n ≤ 9) (w : World) : Calls Try.prog 108 #[iv n] w fun e w' => e = .returned (.string ⟨#[UInt8.ofNat (48 + n)]⟩) ∧ Below w.heap.size w w' := by
  obtain rfl | rfl | rfl | rfl | rfl | rfl | rfl | rfl | rfl | rfl : n = 0 ∨ n = 1 ∨ n = 2 ∨ n = 3 ∨ n = 4 ∨ n = 5 ∨ n = 6 ∨ n = 7 ∨ n = 8 ∨ n = 9 := by omega
  all_goals
    clear hn
    go_enter Try.func108, Try.ntmps108
    have hm := Mem.start w
    repeat' (first  | ((with_reducible refine gix ?_); first | refine mix rfl rfl rfl rfl ?_ | refine mixr rfl rfl rfl rfl ?_; (try simp only [Int.toNat_zero, Int.reduceToNat, Nat.reduceMul, Nat.zero_mul, Nat.one_mul, List.drop_succ_cons, List.drop_zero, List.take_succ_cons, List.take_zero])) | ((with_reducible refine gl ?_); first | refine ml hm rfl rfl rfl ?_ | refine mlw hm rfl rfl rfl ?_ | (refine mlr hm rfl rfl rfl ?_; try simp only [List.drop_succ_cons, List.drop_zero, List.take_succ_cons, List.take_zero])) | ((with_reducible refine gs ?_); (first | refine ms hm rfl rfl rfl rfl rfl ?_ | refine msw hm rfl rfl rfl rfl ?_ | refine msr hm rfl rfl rfl rfl ?_); clear hm; intro w hm; (try simp only [splice, List.set_cons_zero, List.set_cons_succ] at hm)) | ((with_reducible refine gb ?_); (first | refine mem_box hm rfl rfl rfl ?_ | refine mem_box1 hm rfl rfl rfl rfl ?_); clear hm; intro n w hm) | ((with_reducible refine ga ?_); refine mem_alloc hm rfl rfl ?_; clear hm; intro n w hm) | ((with_reducible refine wp_loop_rounds 18 ?_); rw [rounds_succ]) | (with_reducible rw [rounds_succ]) | go_values | go_skip | go_guarded | go_step | go_upon | ((with_reducible refine bp ?_); go_back) | ((with_reducible refine up ?_); first | (simp only [Int.not_lt, Int.not_le] at *; go_simp) | (go_values <;> (try go_simp)) | (go_ite <;> go_prune <;> (try go_simp)) | (split <;> (first | (rename_i hx; exact (hx _ rfl).elim) | go_prune))))
    (try simp only [Exit.inBlock, Exit.then])
    (first | (refine ret1 rfl rfl (by (first | exact Res.tmp rfl | exact Res.atw hm rfl | exact Res.at hm rfl)) ?_) | (refine ret2 rfl rfl (by (first | exact Res.tmp rfl | exact Res.atw hm rfl | exact Res.at hm rfl)) (by (first | exact Res.tmp rfl | exact Res.atw hm rfl | exact Res.at hm rfl)) ?_) | (refine ret3 rfl rfl (by (first | exact Res.tmp rfl | exact Res.atw hm rfl | exact Res.at hm rfl)) (by (first | exact Res.tmp rfl | exact Res.atw hm rfl | exact Res.at hm rfl)) (by (first | exact Res.tmp rfl | exact Res.atw hm rfl | exact Res.at hm rfl)) ?_) | (refine ret4 rfl rfl (by (first | exact Res.tmp rfl | exact Res.atw hm rfl | exact Res.at hm rfl)) (by (first | exact Res.tmp rfl | exact Res.atw hm rfl | exact Res.at hm rfl)) (by (first | exact Res.tmp rfl | exact Res.atw hm rfl | exact Res.at hm rfl)) (by (first | exact Res.tmp rfl | exact Res.atw hm rfl | exact Res.at hm rfl)) ?_) | fail "ret")
    exact ⟨rfl, hm.below⟩
/-- The text of a step. -/
def stepB (d r c t : Nat) : ByteArray := ⟨#[if d = 0 then 108 else if d = 1 then 117 else if d = 2 then 114 else 100, UInt8.ofNat (48 + r), UInt8.ofNat (48 + c), if t = 1 then 97 else 98]⟩
theorem spec_l11Text (d r c t : Nat) (hd : d ≤ 3) (hr : r ≤ 3) (hc : c ≤ 3) (ht : 1 ≤ t ∧ t ≤ 2) (w : World) : Calls Try.prog 90 #[.agg #[iv d, iv r, iv c, iv t]] w fun e w' => e = .returned (.string (stepB d r c t)) ∧ Below w.heap.size w w' := by
  have hR := spec_l1Num1 r (by omega)
  have hC := spec_l1Num1 c (by omega)
  obtain rfl | rfl | rfl | rfl : d = 0 ∨ d = 1 ∨ d = 2 ∨ d = 3 := by omega
  all_goals
    obtain rfl | rfl : t = 1 ∨ t = 2 := by omega
    all_goals
      simp only [stepB]
      generalize UInt8.ofNat (48 + r) = ur at *
      generalize UInt8.ofNat (48 + c) = uc at *
      have HR := Lib.hid hR
      have HC := Lib.hid hC
      clear hR hC hd ht
      go_enter Try.func90, Try.ntmps90
      have hm := Mem.start w
      repeat' (first | ((with_reducible refine gd ?_); refine mf_start (st := []) hm (by kernel_rfl) (by kernel_rfl) rfl ?_; intro hne; (repeat (first | ((with_reducible refine gfl ?_); first | refine fl rfl rfl rfl ?_ | refine flw rfl rfl rfl ?_ | (refine flr rfl rfl rfl ?_; try simp only [List.drop_succ_cons, List.drop_zero, List.take_succ_cons, List.take_zero])) | ((with_reducible refine gfs ?_); first | refine fs rfl rfl rfl rfl rfl ?_ | refine fsw rfl rfl rfl rfl ?_ | refine fsr rfl rfl rfl rfl ?_) | (refine wpF_step (by rfl) (hne _ (by decide)) ?_; intro hn K hK; go_simp; (try go_ints); (try simp [↓IntWalk.iteOmega, go_sem]); first | (refine hK _ ?_; clear hK K hn) | (apply Exists.intro; refine ⟨fun _ => ?_, hK _ ?_⟩; (first | (go_at_call 108; with_reducible exact (HR.out _)) | (go_at_call 108; with_reducible exact (HC.out _)) | fail); clear hK K hn)))); refine wpF_nil ?_; clear hm hne; intro w hm; (try simp only [famEnd, modB, splice, List.set_cons_zero, List.set_cons_succ, set_iv] at hm)) | ((with_reducible refine gix ?_); first | refine mix rfl rfl rfl rfl ?_ | refine mixr rfl rfl rfl rfl ?_; (try simp only [Int.toNat_zero, Int.reduceToNat, Nat.reduceMul, Nat.zero_mul, Nat.one_mul, List.drop_succ_cons, List.drop_zero, List.take_succ_cons, List.take_zero])) | ((with_reducible refine gl ?_); first | refine ml hm rfl rfl rfl ?_ | refine mlw hm rfl rfl rfl ?_ | (refine mlr hm rfl rfl rfl ?_; try simp only [List.drop_succ_cons, List.drop_zero, List.take_succ_cons, List.take_zero])) | ((with_reducible refine gs ?_); (first | refine ms hm rfl rfl rfl rfl rfl ?_ | refine msw hm rfl rfl rfl rfl ?_ | refine msr hm rfl rfl rfl rfl ?_); clear hm; intro w hm; (try simp only [splice, List.set_cons_zero, List.set_cons_succ] at hm)) | ((with_reducible refine gb ?_); (first | refine mem_box hm rfl rfl rfl ?_ | refine mem_box1 hm rfl rfl rfl rfl ?_); clear hm; intro n w hm) | ((with_reducible refine ga ?_); refine mem_alloc hm rfl rfl ?_; clear hm; intro n w hm) | ((with_reducible refine wp_loop_rounds 18 ?_); rw [rounds_succ]) | (with_reducible rw [rounds_succ]) | go_values | go_skip | go_guarded | go_step | go_upon | ((with_reducible refine bp ?_); go_back) | ((with_reducible refine up ?_); first | (simp only [Int.not_lt, Int.not_le] at *; go_simp) | (go_values <;> (try go_simp)) | (go_ite <;> go_prune <;> (try go_simp)) | (split <;> (first | (rename_i hx; exact (hx _ rfl).elim) | go_prune))))
      all_goals
        (try simp only [Exit.inBlock, Exit.then])
        (first | (refine ret1 rfl rfl (by (first | exact Res.tmp rfl | exact Res.atw hm rfl | exact Res.at hm rfl)) ?_) | (refine ret2 rfl rfl (by (first | exact Res.tmp rfl | exact Res.atw hm rfl | exact Res.at hm rfl)) (by (first | exact Res.tmp rfl | exact Res.atw hm rfl | exact Res.at hm rfl)) ?_) | (refine ret3 rfl rfl (by (first | exact Res.tmp rfl | exact Res.atw hm rfl | exact Res.at hm rfl)) (by (first | exact Res.tmp rfl | exact Res.atw hm rfl | exact Res.at hm rfl)) (by (first | exact Res.tmp rfl | exact Res.atw hm rfl | exact Res.at hm rfl)) ?_) | (refine ret4 rfl rfl (by (first | exact Res.tmp rfl | exact Res.atw hm rfl | exact Res.at hm rfl)) (by (first | exact Res.tmp rfl | exact Res.atw hm rfl | exact Res.at hm rfl)) (by (first | exact Res.tmp rfl | exact Res.atw hm rfl | exact Res.at hm rfl)) (by (first | exact Res.tmp rfl | exact Res.atw hm rfl | exact Res.at hm rfl)) ?_) | fail "ret")
        exact ⟨rfl, hm.below⟩
end Go.Proofs.Ythcjokgjiknheaa

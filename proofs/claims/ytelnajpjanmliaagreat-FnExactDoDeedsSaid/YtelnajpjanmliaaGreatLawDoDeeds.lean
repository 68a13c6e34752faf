/-
  The law on DoDeeds: for every input it returns true, and each argument reads as it read before. No condition.
-/
import Derived.Test.YtelnajpjanmliaaGreatDeedD
import Derived.Test.YtelnajpjanmliaaGreatRep
import Derived.Test.YtelnajpjanmliaaGreatDesk
set_option linter.unusedVariables false
set_option linter.unusedSimpArgs false
namespace Go.Proofs.YtelnajpjanmliaaGreat
open Go.ChangeShapes Go.WideShapes Go.ChangeAt Go.RowKit Slm Go.Deep
open Go.ChangeMaps (open_string shut_string)
theorem laws_toDeed (k a c t : Int) (w : World) : Calls Tryz.prog 14 #[.agg #[iv k, iv a, iv c, iv t]] w fun e w' => e = .returned (.agg #[iv k, iv a, iv c, iv t]) ∧ Below w.heap.size w w' := by
  go_enter Tryz.func14, Tryz.ntmps14
  have hm := Mem.start w
  repeat' (first  | ((with_reducible refine gix ?_); first | refine mix rfl rfl rfl rfl ?_ | refine mixr rfl rfl rfl rfl ?_; (try simp only [Int.toNat_zero, Int.reduceToNat, Nat.reduceMul, Nat.zero_mul, Nat.one_mul, List.drop_succ_cons, List.drop_zero, List.take_succ_cons, List.take_zero])) | ((with_reducible refine gl ?_); first | refine ml hm rfl rfl rfl ?_ | refine mlw hm rfl rfl rfl ?_ | (refine mlr hm rfl rfl rfl ?_; try simp only [List.drop_succ_cons, List.drop_zero, List.take_succ_cons, List.take_zero])) | ((with_reducible refine gs ?_); (first | refine ms hm rfl rfl rfl rfl rfl ?_ | refine msw hm rfl rfl rfl rfl ?_ | refine msr hm rfl rfl rfl rfl ?_); clear hm; intro w hm; (try simp only [splice, List.set_cons_zero, List.set_cons_succ] at hm)) | ((with_reducible refine gb ?_); (first | refine mem_box hm rfl rfl rfl ?_ | refine mem_box1 hm rfl rfl rfl rfl ?_); clear hm; intro n w hm) | ((with_reducible refine ga ?_); refine mem_alloc hm rfl rfl ?_; clear hm; intro n w hm) | go_values | go_skip | go_guarded | go_step | go_upon | ((with_reducible refine bp ?_); go_back) | ((with_reducible refine up ?_); first | (simp only [Int.not_lt, Int.not_le] at *; go_simp) | (go_values <;> (try go_simp)) | (go_ite <;> go_prune <;> (try go_simp)) | (split <;> (first | (rename_i hx; exact (hx _ rfl).elim) | go_prune))))
  (try simp only [Exit.inBlock, Exit.then])
  (first | (refine ret1 rfl rfl (by (first | exact Res.tmp rfl | exact Res.atw hm rfl | exact Res.at hm rfl)) ?_) | (refine ret2 rfl rfl (by (first | exact Res.tmp rfl | exact Res.atw hm rfl | exact Res.at hm rfl)) (by (first | exact Res.tmp rfl | exact Res.atw hm rfl | exact Res.at hm rfl)) ?_) | (refine ret3 rfl rfl (by (first | exact Res.tmp rfl | exact Res.atw hm rfl | exact Res.at hm rfl)) (by (first | exact Res.tmp rfl | exact Res.atw hm rfl | exact Res.at hm rfl)) (by (first | exact Res.tmp rfl | exact Res.atw hm rfl | exact Res.at hm rfl)) ?_) | (refine ret4 rfl rfl (by (first | exact Res.tmp rfl | exact Res.atw hm rfl | exact Res.at hm rfl)) (by (first | exact Res.tmp rfl | exact Res.atw hm rfl | exact Res.at hm rfl)) (by (first | exact Res.tmp rfl | exact Res.atw hm rfl | exact Res.at hm rfl)) (by (first | exact Res.tmp rfl | exact Res.atw hm rfl | exact Res.at hm rfl)) ?_) | fail "ret")
  exact ⟨rfl, hm.below⟩
theorem laws_eqDeed (s : List Int) (hs : s.length = 4) (w : World) : Calls Tryz.prog 18 #[.agg (s.map iv).toArray, .agg (s.map iv).toArray] w fun e w' => e = .returned (.bool true) ∧ Below w.heap.size w w' := by
  obtain ⟨d, r, c, t, rfl⟩ := list4 hs
  clear hs
  simp only [List.map_cons, List.map_nil]
  go_enter Tryz.func18, Tryz.ntmps18
  have hm := Mem.start w
  repeat' (first  | ((with_reducible refine gix ?_); first | refine mix rfl rfl rfl rfl ?_ | refine mixr rfl rfl rfl rfl ?_; (try simp only [Int.toNat_zero, Int.reduceToNat, Nat.reduceMul, Nat.zero_mul, Nat.one_mul, List.drop_succ_cons, List.drop_zero, List.take_succ_cons, List.take_zero])) | ((with_reducible refine gl ?_); first | refine ml hm rfl rfl rfl ?_ | refine mlw hm rfl rfl rfl ?_ | (refine mlr hm rfl rfl rfl ?_; try simp only [List.drop_succ_cons, List.drop_zero, List.take_succ_cons, List.take_zero])) | ((with_reducible refine gs ?_); (first | refine ms hm rfl rfl rfl rfl rfl ?_ | refine msw hm rfl rfl rfl rfl ?_ | refine msr hm rfl rfl rfl rfl ?_); clear hm; intro w hm; (try simp only [splice, List.set_cons_zero, List.set_cons_succ] at hm)) | ((with_reducible refine gb ?_); (first | refine mem_box hm rfl rfl rfl ?_ | refine mem_box1 hm rfl rfl rfl rfl ?_); clear hm; intro n w hm) | ((with_reducible refine ga ?_); refine mem_alloc hm rfl rfl ?_; clear hm; intro n w hm) | go_values | go_skip | go_guarded | go_step | go_upon | ((with_reducible refine bp ?_); go_back) | ((with_reducible refine up ?_); first | (simp only [Int.not_lt, Int.not_le] at *; go_simp) | (go_values <;> (try go_simp)) | (go_ite <;> go_prune <;> (try go_simp)) | (split <;> (first | (rename_i hx; exact (hx _ rfl).elim) | go_prune))))
  (try simp only [Exit.inBlock, Exit.then])
  (first | (refine ret1 rfl rfl (by (first | exact Res.tmp rfl | exact Res.atw hm rfl | exact Res.at hm rfl)) ?_) | (refine ret2 rfl rfl (by (first | exact Res.tmp rfl | exact Res.atw hm rfl | exact Res.at hm rfl)) (by (first | exact Res.tmp rfl | exact Res.atw hm rfl | exact Res.at hm rfl)) ?_) | (refine ret3 rfl rfl (by (first | exact Res.tmp rfl | exact Res.atw hm rfl | exact Res.at hm rfl)) (by (first | exact Res.tmp rfl | exact Res.atw hm rfl | exact Res.at hm rfl)) (by (first | exact Res.tmp rfl | exact Res.atw hm rfl | exact Res.at hm rfl)) ?_) | (refine ret4 rfl rfl (by (first | exact Res.tmp rfl | exact Res.atw hm rfl | exact Res.at hm rfl)) (by (first | exact Res.tmp rfl | exact Res.atw hm rfl | exact Res.at hm rfl)) (by (first | exact Res.tmp rfl | exact Res.atw hm rfl | exact Res.at hm rfl)) (by (first | exact Res.tmp rfl | exact Res.atw hm rfl | exact Res.at hm rfl)) ?_) | fail "ret")
  exact ⟨rfl, hm.below⟩
theorem laws_toDeedS {v : Value} {S : List Stp} {w0 : World} (hO : OldSteps w0 v S) (hl : S.length ≤ 2000000) : Calls Tryz.prog 7 #[v] w0 fun e w' => ∃ u, e = .returned u ∧ Sl w0 w' u 45 4 ((S.flatMap stI).map iv) [] := by
  have h0 : ∀ (A : Option Addr) (cap : Nat), Calls Tryz.prog 7 #[.slice A 0 cap] w0 fun e w' => ∃ u, e = .returned u ∧ Sl w0 w' u 45 4 ((([] : List Stp).flatMap stI).map iv) [] := by
    intro A cap
    go_enter Tryz.func7, Tryz.ntmps7
    have hm := Mem.start w0
    repeat' (first | ((with_reducible refine gmk ?_); refine mmk0 hm rfl rfl rfl rfl ?_; clear hm; intro n w hm) | ((with_reducible refine gmk ?_); refine mmk hm rfl rfl rfl rfl ?_; clear hm; intro n w hm) | ((with_reducible refine gix ?_); first | refine mix rfl rfl rfl rfl ?_ | refine mixr rfl rfl rfl rfl ?_; (try simp only [Int.toNat_zero, Int.reduceToNat, Nat.reduceMul, Nat.zero_mul, Nat.one_mul, List.drop_succ_cons, List.drop_zero, List.take_succ_cons, List.take_zero])) | ((with_reducible refine gl ?_); first | refine ml hm rfl rfl rfl ?_ | refine mlw hm rfl rfl rfl ?_ | (refine mlr hm rfl rfl rfl ?_; try simp only [List.drop_succ_cons, List.drop_zero, List.take_succ_cons, List.take_zero])) | ((with_reducible refine gs ?_); (first | refine ms hm rfl rfl rfl rfl rfl ?_ | refine msw hm rfl rfl rfl rfl ?_ | refine msr hm rfl rfl rfl rfl ?_); clear hm; intro w hm; (try simp only [splice, List.set_cons_zero, List.set_cons_succ] at hm)) | ((with_reducible refine gb ?_); (first | refine mem_box hm rfl rfl rfl ?_ | refine mem_box1 hm rfl rfl rfl rfl ?_); clear hm; intro n w hm) | ((with_reducible refine ga ?_); refine mem_alloc hm rfl rfl ?_; clear hm; intro n w hm) | ((with_reducible refine wp_loop_rounds 18 ?_); rw [rounds_succ]) | (with_reducible rw [rounds_succ]) | go_values | go_skip | go_guarded | go_step | go_upon | ((with_reducible refine bp ?_); go_back) | ((with_reducible refine up ?_); first | (simp only [Int.not_lt, Int.not_le] at *; go_simp) | (go_values <;> (try go_simp)) | (go_ite <;> go_prune <;> (try go_simp)) | (split <;> (first | (rename_i hx; exact (hx _ rfl).elim) | go_prune))))
    (try simp only [Exit.inBlock, Exit.then])
    (first | (refine ret1 rfl rfl (by (first | exact Res.tmp rfl | exact Res.atw hm rfl | exact Res.at hm rfl)) ?_) | (refine ret2 rfl rfl (by (first | exact Res.tmp rfl | exact Res.atw hm rfl | exact Res.at hm rfl)) (by (first | exact Res.tmp rfl | exact Res.atw hm rfl | exact Res.at hm rfl)) ?_) | (refine ret3 rfl rfl (by (first | exact Res.tmp rfl | exact Res.atw hm rfl | exact Res.at hm rfl)) (by (first | exact Res.tmp rfl | exact Res.atw hm rfl | exact Res.at hm rfl)) (by (first | exact Res.tmp rfl | exact Res.atw hm rfl | exact Res.at hm rfl)) ?_) | (refine ret4 rfl rfl (by (first | exact Res.tmp rfl | exact Res.atw hm rfl | exact Res.at hm rfl)) (by (first | exact Res.tmp rfl | exact Res.atw hm rfl | exact Res.at hm rfl)) (by (first | exact Res.tmp rfl | exact Res.atw hm rfl | exact Res.at hm rfl)) (by (first | exact Res.tmp rfl | exact Res.atw hm rfl | exact Res.at hm rfl)) ?_) | fail "ret")
    exact ⟨_, rfl, Sl.new hm⟩
  rcases hO with ⟨rfl, rfl⟩ | ⟨a, cap, rfl, _, hO⟩
  · exact h0 _ _
  by_cases hS : S = []
  · subst hS; exact h0 _ _
  obtain ⟨n, off, rfl, hr⟩ := hO hS
  have HR := Lib.hid hr
  have hset := fillS_set S
  have hlen := fillS_len S
  have hst4 : ∀ k (h : k < S.length), ((stI S[k]).map iv).length = 4 := fun k h => rfl
  have HSet := Lib.hid hset
  have hz : fillS S 0 = List.replicate (S.length * 4) 0 := by simp [fillS]
  have HZ := Lib.hid hz
  have hend : fillS S S.length = S.flatMap stI := by simp [fillS]
  have hfl := fm_len S (fun a _ => stI_len a)
  clear hr hO h0 hS hset hz
  go_enter Tryz.func7, Tryz.ntmps7
  have hm := Mem.start w0
  repeat' (first | ((with_reducible refine gmk ?_); refine mmk0 hm rfl rfl rfl rfl ?_; clear hm; intro n w hm) | ((with_reducible refine gmk ?_); refine mmk hm rfl rfl rfl rfl ?_; clear hm; intro n w hm) | ((with_reducible refine gix ?_); first | refine mix rfl rfl rfl rfl ?_ | refine mixr rfl rfl rfl rfl ?_; (try simp only [Int.toNat_zero, Int.reduceToNat, Nat.reduceMul, Nat.zero_mul, Nat.one_mul, List.drop_succ_cons, List.drop_zero, List.take_succ_cons, List.take_zero])) | ((with_reducible refine gl ?_); first | refine ml hm rfl rfl rfl ?_ | refine mlw hm rfl rfl rfl ?_ | (refine mlr hm rfl rfl rfl ?_; try simp only [List.drop_succ_cons, List.drop_zero, List.take_succ_cons, List.take_zero])) | ((with_reducible refine gs ?_); (first | refine ms hm rfl rfl rfl rfl rfl ?_ | refine msw hm rfl rfl rfl rfl ?_ | refine msr hm rfl rfl rfl rfl ?_); clear hm; intro w hm; (try simp only [splice, List.set_cons_zero, List.set_cons_succ] at hm)) | ((with_reducible refine gb ?_); (first | refine mem_box hm rfl rfl rfl ?_ | refine mem_box1 hm rfl rfl rfl rfl ?_); clear hm; intro n w hm) | ((with_reducible refine ga ?_); refine mem_alloc hm rfl rfl ?_; clear hm; intro n w hm) | go_values | go_skip | go_guarded | go_step | go_upon | ((with_reducible refine bp ?_); go_back) | ((with_reducible refine up ?_); first | (simp only [Int.not_lt, Int.not_le] at *; go_simp) | (go_values <;> (try go_simp)) | (go_ite <;> go_prune <;> (try go_simp)) | (split <;> (first | (rename_i hx; exact (hx _ rfl).elim) | go_prune))))
  rw [← HZ.out] at hm
  obtain ⟨σ, hσ, hm⟩ := Mem.sig hm
  go_loopw [4] (fun i wr => ∃ k : Nat, k ≤ S.length ∧ i = iv k ∧ Mem w0 wr (modB σ 0 ((fillS S k).map iv))) (fun i _ => S.length - (intOf i).toNat)
  case atStart => subst hσ; exact ⟨0, by omega, rfl, hm⟩
  case round =>
    clear hm
    obtain ⟨k, hk, rfl, hm⟩ := hrel
    subst hσ
    simp only [modB] at hm
    have hn := hlen k hk
    by_cases hlt : k < S.length
    · have hr := HR.out k (by omega)
      have hs := HSet.out k (by omega)
      have h4 := hst4 k (by omega)
      have hT := laws_toDeed S[k].1 S[k].2.1 S[k].2.2.1 S[k].2.2.2
      have hsI : (stI S[k]).map iv = [iv S[k].1, iv S[k].2.1, iv S[k].2.2.1, iv S[k].2.2.2] := rfl
      rw [hsI] at hr hs
      generalize S[k] = st at *
      obtain ⟨d, r, c, t⟩ := st
      simp only at *
      generalize fillS S k = F0 at *
      have HS := Lib.hid hs
      have HT := Lib.hid hT
      clear hs hT
      repeat' (first | ((with_reducible refine gl ?_); refine mlo hm hr rfl rfl rfl rfl ?_) | (go_at_call 14; refine mem_call hm (HT.out _) ?_; clear hm; intro w hm; (try simp only [nums, List.map_cons, List.map_nil])) | ((with_reducible refine gix ?_); first | refine mix rfl rfl rfl rfl ?_ | refine mixr rfl rfl rfl rfl ?_; (try simp only [Int.toNat_zero, Int.reduceToNat, Nat.reduceMul, Nat.zero_mul, Nat.one_mul, List.drop_succ_cons, List.drop_zero, List.take_succ_cons, List.take_zero])) | ((with_reducible refine gl ?_); first | refine ml hm rfl rfl rfl ?_ | refine mlw hm rfl rfl rfl ?_ | (refine mlr hm rfl rfl rfl ?_; try simp only [List.drop_succ_cons, List.drop_zero, List.take_succ_cons, List.take_zero])) | ((with_reducible refine gs ?_); (first | refine ms hm rfl rfl rfl rfl rfl ?_ | refine msw hm rfl rfl rfl rfl ?_ | refine msr hm rfl rfl rfl rfl ?_); clear hm; intro w hm; (try simp only [splice, List.set_cons_zero, List.set_cons_succ] at hm)) | ((with_reducible refine gb ?_); (first | refine mem_box hm rfl rfl rfl ?_ | refine mem_box1 hm rfl rfl rfl rfl ?_); clear hm; intro n w hm) | ((with_reducible refine ga ?_); refine mem_alloc hm rfl rfl ?_; clear hm; intro n w hm) | go_values | go_skip | go_guarded | go_step | go_upon | ((with_reducible refine bp ?_); go_back) | ((with_reducible refine up ?_); first | (simp only [Int.not_lt, Int.not_le] at *; go_simp) | (go_values <;> (try go_simp)) | (go_ite <;> go_prune <;> (try go_simp)) | (split <;> (first | (rename_i hx; exact (hx _ rfl).elim) | go_prune))))
      go_roundw
      case rel => (try (first | ((repeat apply Exists.intro); refine ⟨?_, rfl⟩) | (repeat refine ex_any ?_))); exact ⟨k + 1, by omega, by go_num, by simp only [modB]; rw [← HS.out]; exact hm⟩
      case measure => simp [intOf]; omega
    · obtain rfl : k = S.length := by omega
      rw [hend] at hm
      repeat' (first  | ((with_reducible refine gix ?_); first | refine mix rfl rfl rfl rfl ?_ | refine mixr rfl rfl rfl rfl ?_; (try simp only [Int.toNat_zero, Int.reduceToNat, Nat.reduceMul, Nat.zero_mul, Nat.one_mul, List.drop_succ_cons, List.drop_zero, List.take_succ_cons, List.take_zero])) | ((with_reducible refine gl ?_); first | refine ml hm rfl rfl rfl ?_ | refine mlw hm rfl rfl rfl ?_ | (refine mlr hm rfl rfl rfl ?_; try simp only [List.drop_succ_cons, List.drop_zero, List.take_succ_cons, List.take_zero])) | ((with_reducible refine gs ?_); (first | refine ms hm rfl rfl rfl rfl rfl ?_ | refine msw hm rfl rfl rfl rfl ?_ | refine msr hm rfl rfl rfl rfl ?_); clear hm; intro w hm; (try simp only [splice, List.set_cons_zero, List.set_cons_succ] at hm)) | ((with_reducible refine gb ?_); (first | refine mem_box hm rfl rfl rfl ?_ | refine mem_box1 hm rfl rfl rfl rfl ?_); clear hm; intro n w hm) | ((with_reducible refine ga ?_); refine mem_alloc hm rfl rfl ?_; clear hm; intro n w hm) | go_values | go_skip | go_guarded | go_step | go_upon | ((with_reducible refine bp ?_); go_back) | ((with_reducible refine up ?_); first | (simp only [Int.not_lt, Int.not_le] at *; go_simp) | (go_values <;> (try go_simp)) | (go_ite <;> go_prune <;> (try go_simp)) | (split <;> (first | (rename_i hx; exact (hx _ rfl).elim) | go_prune))))
      (try simp only [Exit.inBlock, Exit.then])
      (first | (refine ret1 rfl rfl (by (first | exact Res.tmp rfl | exact Res.atw hm rfl | exact Res.at hm rfl)) ?_) | (refine ret2 rfl rfl (by (first | exact Res.tmp rfl | exact Res.atw hm rfl | exact Res.at hm rfl)) (by (first | exact Res.tmp rfl | exact Res.atw hm rfl | exact Res.at hm rfl)) ?_) | (refine ret3 rfl rfl (by (first | exact Res.tmp rfl | exact Res.atw hm rfl | exact Res.at hm rfl)) (by (first | exact Res.tmp rfl | exact Res.atw hm rfl | exact Res.at hm rfl)) (by (first | exact Res.tmp rfl | exact Res.atw hm rfl | exact Res.at hm rfl)) ?_) | (refine ret4 rfl rfl (by (first | exact Res.tmp rfl | exact Res.atw hm rfl | exact Res.at hm rfl)) (by (first | exact Res.tmp rfl | exact Res.atw hm rfl | exact Res.at hm rfl)) (by (first | exact Res.tmp rfl | exact Res.atw hm rfl | exact Res.at hm rfl)) (by (first | exact Res.tmp rfl | exact Res.atw hm rfl | exact Res.at hm rfl)) ?_) | fail "ret")
      exact ⟨_, rfl, n, [], S.length, S.length, rfl, by simpa using hm, ⟨Nat.le_refl _, by unfold maxLen; omega, by simp [hfl]⟩, by simp [hfl]⟩
set_option maxHeartbeats 400000 in
theorem laws_szDeedS (A : Option Addr) (n cap : Nat) (left : Int) (hl : 0 ≤ left ∧ left ≤ 2000000) (hn : n ≤ 9223372036854775807) (w : World) : Calls Tryz.prog 4 #[.slice A n cap, iv left] w fun e w' => e = .returned (iv (if left < n then -1 else left - n)) ∧ Below w.heap.size w w' := by
  obtain ⟨h0, h1⟩ := hl
  by_cases h : left < n
  · rw [if_pos h]
    go_enter Tryz.func4, Tryz.ntmps4
    have hm := Mem.start w
    repeat' (first  | ((with_reducible refine gix ?_); first | refine mix rfl rfl rfl rfl ?_ | refine mixr rfl rfl rfl rfl ?_; (try simp only [Int.toNat_zero, Int.reduceToNat, Nat.reduceMul, Nat.zero_mul, Nat.one_mul, List.drop_succ_cons, List.drop_zero, List.take_succ_cons, List.take_zero])) | ((with_reducible refine gl ?_); first | refine ml hm rfl rfl rfl ?_ | refine mlw hm rfl rfl rfl ?_ | (refine mlr hm rfl rfl rfl ?_; try simp only [List.drop_succ_cons, List.drop_zero, List.take_succ_cons, List.take_zero])) | ((with_reducible refine gs ?_); (first | refine ms hm rfl rfl rfl rfl rfl ?_ | refine msw hm rfl rfl rfl rfl ?_ | refine msr hm rfl rfl rfl rfl ?_); clear hm; intro w hm; (try simp only [splice, List.set_cons_zero, List.set_cons_succ] at hm)) | ((with_reducible refine gb ?_); (first | refine mem_box hm rfl rfl rfl ?_ | refine mem_box1 hm rfl rfl rfl rfl ?_); clear hm; intro n w hm) | ((with_reducible refine ga ?_); refine mem_alloc hm rfl rfl ?_; clear hm; intro n w hm) | go_values | go_skip | go_guarded | go_step | go_upon | ((with_reducible refine bp ?_); go_back) | ((with_reducible refine up ?_); first | (simp only [Int.not_lt, Int.not_le] at *; go_simp) | (go_values <;> (try go_simp)) | (go_ite <;> go_prune <;> (try go_simp)) | (split <;> (first | (rename_i hx; exact (hx _ rfl).elim) | go_prune))))
    (try simp only [Exit.inBlock, Exit.then])
    (first | (refine ret1 rfl rfl (by (first | exact Res.tmp rfl | exact Res.atw hm rfl | exact Res.at hm rfl)) ?_) | (refine ret2 rfl rfl (by (first | exact Res.tmp rfl | exact Res.atw hm rfl | exact Res.at hm rfl)) (by (first | exact Res.tmp rfl | exact Res.atw hm rfl | exact Res.at hm rfl)) ?_) | (refine ret3 rfl rfl (by (first | exact Res.tmp rfl | exact Res.atw hm rfl | exact Res.at hm rfl)) (by (first | exact Res.tmp rfl | exact Res.atw hm rfl | exact Res.at hm rfl)) (by (first | exact Res.tmp rfl | exact Res.atw hm rfl | exact Res.at hm rfl)) ?_) | (refine ret4 rfl rfl (by (first | exact Res.tmp rfl | exact Res.atw hm rfl | exact Res.at hm rfl)) (by (first | exact Res.tmp rfl | exact Res.atw hm rfl | exact Res.at hm rfl)) (by (first | exact Res.tmp rfl | exact Res.atw hm rfl | exact Res.at hm rfl)) (by (first | exact Res.tmp rfl | exact Res.atw hm rfl | exact Res.at hm rfl)) ?_) | fail "ret")
    exact ⟨rfl, hm.below⟩
  · rw [if_neg h]
    go_enter Tryz.func4, Tryz.ntmps4
    have hm := Mem.start w
    repeat' (first  | ((with_reducible refine gix ?_); first | refine mix rfl rfl rfl rfl ?_ | refine mixr rfl rfl rfl rfl ?_; (try simp only [Int.toNat_zero, Int.reduceToNat, Nat.reduceMul, Nat.zero_mul, Nat.one_mul, List.drop_succ_cons, List.drop_zero, List.take_succ_cons, List.take_zero])) | ((with_reducible refine gl ?_); first | refine ml hm rfl rfl rfl ?_ | refine mlw hm rfl rfl rfl ?_ | (refine mlr hm rfl rfl rfl ?_; try simp only [List.drop_succ_cons, List.drop_zero, List.take_succ_cons, List.take_zero])) | ((with_reducible refine gs ?_); (first | refine ms hm rfl rfl rfl rfl rfl ?_ | refine msw hm rfl rfl rfl rfl ?_ | refine msr hm rfl rfl rfl rfl ?_); clear hm; intro w hm; (try simp only [splice, List.set_cons_zero, List.set_cons_succ] at hm)) | ((with_reducible refine gb ?_); (first | refine mem_box hm rfl rfl rfl ?_ | refine mem_box1 hm rfl rfl rfl rfl ?_); clear hm; intro n w hm) | ((with_reducible refine ga ?_); refine mem_alloc hm rfl rfl ?_; clear hm; intro n w hm) | go_values | go_skip | go_guarded | go_step | go_upon | ((with_reducible refine bp ?_); go_back) | ((with_reducible refine up ?_); first | (simp only [Int.not_lt, Int.not_le] at *; go_simp) | (go_values <;> (try go_simp)) | (go_ite <;> go_prune <;> (try go_simp)) | (split <;> (first | (rename_i hx; exact (hx _ rfl).elim) | go_prune))))
    (try simp only [Exit.inBlock, Exit.then])
    (first | (refine ret1 rfl rfl (by (first | exact Res.tmp rfl | exact Res.atw hm rfl | exact Res.at hm rfl)) ?_) | (refine ret2 rfl rfl (by (first | exact Res.tmp rfl | exact Res.atw hm rfl | exact Res.at hm rfl)) (by (first | exact Res.tmp rfl | exact Res.atw hm rfl | exact Res.at hm rfl)) ?_) | (refine ret3 rfl rfl (by (first | exact Res.tmp rfl | exact Res.atw hm rfl | exact Res.at hm rfl)) (by (first | exact Res.tmp rfl | exact Res.atw hm rfl | exact Res.at hm rfl)) (by (first | exact Res.tmp rfl | exact Res.atw hm rfl | exact Res.at hm rfl)) ?_) | (refine ret4 rfl rfl (by (first | exact Res.tmp rfl | exact Res.atw hm rfl | exact Res.at hm rfl)) (by (first | exact Res.tmp rfl | exact Res.atw hm rfl | exact Res.at hm rfl)) (by (first | exact Res.tmp rfl | exact Res.atw hm rfl | exact Res.at hm rfl)) (by (first | exact Res.tmp rfl | exact Res.atw hm rfl | exact Res.at hm rfl)) ?_) | fail "ret")
    exact ⟨rfl, hm.below⟩
theorem laws_eqDeedS {w0 w : World} {σ : List Blk} {S : List Stp} {g1 g2 i1 i2 c1 c2 : Nat} {m1 m2 : List Value} (hm : Mem w0 w σ) [At σ g1 ((S.flatMap stI).map iv ++ m1) 45 i1] [At σ g2 ((S.flatMap stI).map iv ++ m2) 45 i2] (hl : S.length ≤ 2000000) :
    Calls Tryz.prog 10 #[.slice (some ⟨g1, 0, none⟩) S.length c1, .slice (some ⟨g2, 0, none⟩) S.length c2] w fun e w' => e = .returned (.bool true) ∧ Mem w0 w' σ := by
  have HG1 := Lib.hid (fun (k : Nat) (h : k < S.length) => fm_get h (fun a _ => stI_len a) m1)
  have HG2 := Lib.hid (fun (k : Nat) (h : k < S.length) => fm_get h (fun a _ => stI_len a) m2)
  have hn1 : ((S.flatMap stI).map iv ++ m1).length = S.length * 4 + m1.length := by rw [List.length_append, List.length_map, fm_len S (fun a _ => stI_len a)]
  have hn2 : ((S.flatMap stI).map iv ++ m2).length = S.length * 4 + m2.length := by rw [List.length_append, List.length_map, fm_len S (fun a _ => stI_len a)]
  generalize (S.flatMap stI).map iv ++ m1 = cs1 at *
  generalize (S.flatMap stI).map iv ++ m2 = cs2 at *
  go_enter Tryz.func10, Tryz.ntmps10
  repeat' (first  | ((with_reducible refine gix ?_); first | refine mix rfl rfl rfl rfl ?_ | refine mixr rfl rfl rfl rfl ?_; (try simp only [Int.toNat_zero, Int.reduceToNat, Nat.reduceMul, Nat.zero_mul, Nat.one_mul, List.drop_succ_cons, List.drop_zero, List.take_succ_cons, List.take_zero])) | ((with_reducible refine gl ?_); first | refine ml hm rfl rfl rfl ?_ | refine mlw hm rfl rfl rfl ?_ | (refine mlr hm rfl rfl rfl ?_; try simp only [List.drop_succ_cons, List.drop_zero, List.take_succ_cons, List.take_zero])) | ((with_reducible refine gs ?_); (first | refine ms hm rfl rfl rfl rfl rfl ?_ | refine msw hm rfl rfl rfl rfl ?_ | refine msr hm rfl rfl rfl rfl ?_); clear hm; intro w hm; (try simp only [splice, List.set_cons_zero, List.set_cons_succ] at hm)) | ((with_reducible refine gb ?_); (first | refine mem_box hm rfl rfl rfl ?_ | refine mem_box1 hm rfl rfl rfl rfl ?_); clear hm; intro n w hm) | ((with_reducible refine ga ?_); refine mem_alloc hm rfl rfl ?_; clear hm; intro n w hm) | go_values | go_skip | go_guarded | go_step | go_upon | ((with_reducible refine bp ?_); go_back) | ((with_reducible refine up ?_); first | (simp only [Int.not_lt, Int.not_le] at *; go_simp) | (go_values <;> (try go_simp)) | (go_ite <;> go_prune <;> (try go_simp)) | (split <;> (first | (rename_i hx; exact (hx _ rfl).elim) | go_prune))))
  go_loopw [5] (fun i wr => ∃ k : Nat, k ≤ S.length ∧ i = iv k ∧ Mem w0 wr σ) (fun i _ => S.length - (intOf i).toNat)
  case atStart => exact ⟨0, by omega, rfl, hm⟩
  case round =>
    clear hm
    obtain ⟨k, hk, rfl, hm⟩ := hrel
    by_cases hlt : k < S.length
    · have e1 := HG1.out k hlt
      have e2 := HG2.out k hlt
      have hE := laws_eqDeed (stI S[k]) rfl
      have hs4 := stI_len S[k]
      generalize stI S[k] = x at *
      have HE := Lib.hid hE
      clear hE
      repeat' (first | (with_reducible rw [e1]) | (with_reducible rw [e2]) | ((with_reducible refine gd ?_); refine mq_start hm (by kernel_rfl) (by kernel_rfl) ?_; intro hne; (repeat (first | ((with_reducible refine gq ?_); first | refine ql rfl rfl rfl ?_ | (refine qlr rfl rfl rfl ?_; try simp only [List.drop_succ_cons, List.drop_zero, List.take_succ_cons, List.take_zero])) | (refine wpQuiet_step (fun K hK => ?_); go_simp; first | (refine hK _ ?_; clear hK K) | (apply Exists.intro; refine ⟨fun _ => ?_, hK _ ?_⟩; (first | (with_reducible rw [e1]) | (with_reducible rw [e2]) | (go_at_call 18; exact qcall (HE.out _)) | fail); clear hK K)))); refine wpQuiet_nil ?_; clear hm hne; intro w hm) | (go_at_call 18; refine mem_call hm (HE.out _) ?_; clear hm; intro w hm; (try simp only [nums, List.map_cons, List.map_nil])) | ((with_reducible refine gix ?_); first | refine mix rfl rfl rfl rfl ?_ | refine mixr rfl rfl rfl rfl ?_; (try simp only [Int.toNat_zero, Int.reduceToNat, Nat.reduceMul, Nat.zero_mul, Nat.one_mul, List.drop_succ_cons, List.drop_zero, List.take_succ_cons, List.take_zero])) | ((with_reducible refine gl ?_); first | refine ml hm rfl rfl rfl ?_ | refine mlw hm rfl rfl rfl ?_ | (refine mlr hm rfl rfl rfl ?_; try simp only [List.drop_succ_cons, List.drop_zero, List.take_succ_cons, List.take_zero])) | ((with_reducible refine gs ?_); (first | refine ms hm rfl rfl rfl rfl rfl ?_ | refine msw hm rfl rfl rfl rfl ?_ | refine msr hm rfl rfl rfl rfl ?_); clear hm; intro w hm; (try simp only [splice, List.set_cons_zero, List.set_cons_succ] at hm)) | ((with_reducible refine gb ?_); (first | refine mem_box hm rfl rfl rfl ?_ | refine mem_box1 hm rfl rfl rfl rfl ?_); clear hm; intro n w hm) | ((with_reducible refine ga ?_); refine mem_alloc hm rfl rfl ?_; clear hm; intro n w hm) | go_values | go_skip | go_guarded | go_step | go_upon | ((with_reducible refine bp ?_); go_back) | ((with_reducible refine up ?_); first | (simp only [Int.not_lt, Int.not_le] at *; go_simp) | (go_values <;> (try go_simp)) | (go_ite <;> go_prune <;> (try go_simp)) | (split <;> (first | (rename_i hx; exact (hx _ rfl).elim) | go_prune))))
      go_roundw
      case rel => exact ⟨k + 1, by omega, by go_num, hm⟩
      case measure => simp [intOf]; omega
    · obtain rfl : k = S.length := by omega
      repeat' (first  | ((with_reducible refine gix ?_); first | refine mix rfl rfl rfl rfl ?_ | refine mixr rfl rfl rfl rfl ?_; (try simp only [Int.toNat_zero, Int.reduceToNat, Nat.reduceMul, Nat.zero_mul, Nat.one_mul, List.drop_succ_cons, List.drop_zero, List.take_succ_cons, List.take_zero])) | ((with_reducible refine gl ?_); first | refine ml hm rfl rfl rfl ?_ | refine mlw hm rfl rfl rfl ?_ | (refine mlr hm rfl rfl rfl ?_; try simp only [List.drop_succ_cons, List.drop_zero, List.take_succ_cons, List.take_zero])) | ((with_reducible refine gs ?_); (first | refine ms hm rfl rfl rfl rfl rfl ?_ | refine msw hm rfl rfl rfl rfl ?_ | refine msr hm rfl rfl rfl rfl ?_); clear hm; intro w hm; (try simp only [splice, List.set_cons_zero, List.set_cons_succ] at hm)) | ((with_reducible refine gb ?_); (first | refine mem_box hm rfl rfl rfl ?_ | refine mem_box1 hm rfl rfl rfl rfl ?_); clear hm; intro n w hm) | ((with_reducible refine ga ?_); refine mem_alloc hm rfl rfl ?_; clear hm; intro n w hm) | go_values | go_skip | go_guarded | go_step | go_upon | ((with_reducible refine bp ?_); go_back) | ((with_reducible refine up ?_); first | (simp only [Int.not_lt, Int.not_le] at *; go_simp) | (go_values <;> (try go_simp)) | (go_ite <;> go_prune <;> (try go_simp)) | (split <;> (first | (rename_i hx; exact (hx _ rfl).elim) | go_prune))))
      (try simp only [Exit.inBlock, Exit.then])
      (first | (refine ret1 rfl rfl (by (first | exact Res.tmp rfl | exact Res.atw hm rfl | exact Res.at hm rfl)) ?_) | (refine ret2 rfl rfl (by (first | exact Res.tmp rfl | exact Res.atw hm rfl | exact Res.at hm rfl)) (by (first | exact Res.tmp rfl | exact Res.atw hm rfl | exact Res.at hm rfl)) ?_) | (refine ret3 rfl rfl (by (first | exact Res.tmp rfl | exact Res.atw hm rfl | exact Res.at hm rfl)) (by (first | exact Res.tmp rfl | exact Res.atw hm rfl | exact Res.at hm rfl)) (by (first | exact Res.tmp rfl | exact Res.atw hm rfl | exact Res.at hm rfl)) ?_) | (refine ret4 rfl rfl (by (first | exact Res.tmp rfl | exact Res.atw hm rfl | exact Res.at hm rfl)) (by (first | exact Res.tmp rfl | exact Res.atw hm rfl | exact Res.at hm rfl)) (by (first | exact Res.tmp rfl | exact Res.atw hm rfl | exact Res.at hm rfl)) (by (first | exact Res.tmp rfl | exact Res.atw hm rfl | exact Res.at hm rfl)) ?_) | fail "ret")
      exact ⟨rfl, hm⟩
/-- A deed of any desk, as a list. -/
def ddL (D : List Int) (s : Stp) : List Int × Bool := ddV (D.take 16) (D.getD 16 0) (D.getD 17 0) s.1 s.2.1 s.2.2.1 s.2.2.2
/-- The desk behind some deeds. -/
def dsK (D : List Int) (S : List Stp) : Nat → List Int
  | 0 => D
  | k + 1 => (ddL (dsK D S k) (stp4 S k)).1
where stp4 (S : List Stp) (k : Nat) : Stp := S.getD k (0, 0, 0, 0)
def okD (D : List Int) (S : List Stp) (k : Nat) : Bool := (ddL (dsK D S k) (S.getD k (0, 0, 0, 0))).2
/-- How many deeds can be done. -/
def nD (D : List Int) (S : List Stp) : Nat := (List.range S.length).findIdx fun j => !okD D S j
theorem desk_split {D : List Int} (h : D.length = 18) : D = D.take 16 ++ [D.getD 16 0, D.getD 17 0] := by
  obtain ⟨b, p, n, rfl, hb⟩ := list18 h
  have h1 : (b ++ [p, n]).take 16 = b := List.take_left' hb
  have h2 : (b ++ [p, n]).getD 16 0 = p := by rw [List.getD_eq_getElem?_getD, List.getElem?_append_right (by omega), hb]; rfl
  have h3 : (b ++ [p, n]).getD 17 0 = n := by rw [List.getD_eq_getElem?_getD, List.getElem?_append_right (by omega), hb]; rfl
  rw [h1, h2, h3]
theorem ddL_len {D : List Int} (h : D.length = 18) (s : Stp) : (ddL D s).1.length = 18 := ddV_len (by rw [List.length_take]; omega) _ _ _ _ _ _
theorem ddL_ok {D : List Int} (h : D.length = 18) {s : Stp} (ho : (ddL D s).2 = true) : deskB (ddL D s).1 = true := by
  unfold ddL at *
  unfold ddV at *
  split at ho
  · rename_i hg
    rw [if_pos hg]
    have hd := ho
    simp only at ho ⊢
    rw [dV_yes ho]
    rw [dOK_def, Bool.and_eq_true, Bool.and_eq_true] at ho
    exact ho.2.2
  · cases ho
theorem dsK_len {D : List Int} (h : D.length = 18) (S : List Stp) : ∀ k, (dsK D S k).length = 18
  | 0 => h
  | k + 1 => ddL_len (dsK_len h S k) _
theorem dsK_ok {D : List Int} (h : D.length = 18) (hg : deskB D = true) {S : List Stp} : ∀ k, (∀ j, j < k → okD D S j = true) → deskB (dsK D S k) = true
  | 0, _ => hg
  | k + 1, ha => ddL_ok (dsK_len h S k) (ha k (by omega))
theorem nD_at {D : List Int} {S : List Stp} {k : Nat} (hk : k < S.length) (h : okD D S k = false) (ha : ∀ j, j < k → okD D S j = true) : nD D S = k := by
  unfold nD
  rw [List.findIdx_eq (by simpa using hk)]
  simp only [List.getElem_range, h, Bool.not_false, true_and]
  intro j hj
  simp [ha j hj]
theorem nD_all {D : List Int} {S : List Stp} (ha : ∀ j, j < S.length → okD D S j = true) : nD D S = S.length := by
  unfold nD
  have : (List.range S.length).findIdx (fun j => !okD D S j) = (List.range S.length).length := by
    rw [List.findIdx_eq_length]
    intro x hx
    have := List.mem_range.1 hx
    simp [ha x this]
  rw [this, List.length_range]
/-- DoDeeds, told: of a valid desk, and of any. -/
def dsV (D : List Int) (S : List Stp) : List Int × Nat × Bool := if deskB D = true then (dsK D S (nD D S), nD D S, true) else (zD, 0, false)
theorem dsV_len {D : List Int} (h : D.length = 18) (S : List Stp) : (dsV D S).1.length = 18 := by
  unfold dsV; split
  · exact dsK_len h S _
  · rfl
theorem spec_l12DoL {D : List Int} (h : D.length = 18) (hg : deskB D = true) (s : Stp) (w : World) : Calls Tryz.prog 12 #[.agg (nums D), .agg ((stI s).map iv).toArray] w fun e w' => e = .returned (.tuple #[.agg (nums (ddL D s).1), .bool (ddL D s).2]) ∧ Below w.heap.size w w' := by
  have hs := desk_split h
  have hb : (D.take 16).length = 16 := by rw [List.length_take]; omega
  have hg2 := hg
  rw [hs] at hg2
  obtain ⟨hok, hp, hn⟩ := deskB_facts hb hg2
  have hD := spec_l12Do (D.take 16) hb hok (D.getD 16 0) (D.getD 17 0) s.1 s.2.1 s.2.2.1 s.2.2.2 hp hn w
  rw [← hs] at hD
  unfold ddL ddV
  rw [if_pos hg2]
  exact hD
theorem impl_DoDeedL {D : List Int} (h : D.length = 18) (s : Stp) (w : World) : Calls Tryz.prog 16 #[.agg (nums D), .agg ((stI s).map iv).toArray] w fun e w' => e = .returned (.tuple #[.agg (nums (ddL D s).1), .bool (ddL D s).2]) ∧ Below w.heap.size w w' := by
  have hs := desk_split h
  have hb : (D.take 16).length = 16 := by rw [List.length_take]; omega
  have hD := impl_DoDeed (D.take 16) hb (D.getD 16 0) (D.getD 17 0) s.1 s.2.1 s.2.2.1 s.2.2.2 w
  rw [← hs] at hD
  unfold ddL
  exact hD
set_option maxHeartbeats 2000000 in
theorem spec_DoDeeds {w0 w : World} {σ : List Blk} {g i cap : Nat} {more : List Value} (D : List Int) (h18 : D.length = 18) (S : List Stp) (hS : S.length ≤ 2000000) (hm : Mem w0 w σ) [At σ g ((S.flatMap stI).map iv ++ more) 45 i] :
    Calls Tryz.prog 5 #[.agg (nums D), .slice (some ⟨g, 0, none⟩) S.length cap] w fun e w' => e = .returned (.tuple #[.agg (nums (dsV D S).1), iv (dsV D S).2.1, .bool (dsV D S).2.2]) ∧ Mem w0 w' σ := by
  have hG := spec_l12Good D h18
  have hDl : (D.map iv).length = 18 := by simpa using h18
  unfold dsV
  cases hg : deskB D
  · rw [hg] at hG
    simp only [Bool.false_eq_true, if_false, zD]
    have HG := Lib.hid hG
    clear hG hg
    go_enter Tryz.func5, Tryz.ntmps5
    simp only [nums_map] at *
    repeat' (first | (go_at_call 11; refine mem_call hm (HG.out _) ?_; clear hm; intro w hm; (try simp only [nums, List.map_cons, List.map_nil])) | ((with_reducible refine gix ?_); first | refine mix rfl rfl rfl rfl ?_ | refine mixr rfl rfl rfl rfl ?_; (try simp only [Int.toNat_zero, Int.reduceToNat, Nat.reduceMul, Nat.zero_mul, Nat.one_mul, List.drop_succ_cons, List.drop_zero, List.take_succ_cons, List.take_zero])) | ((with_reducible refine gl ?_); first | refine ml hm rfl rfl rfl ?_ | refine mlw hm rfl rfl rfl ?_ | (refine mlr hm rfl rfl rfl ?_; try simp only [List.drop_succ_cons, List.drop_zero, List.take_succ_cons, List.take_zero])) | ((with_reducible refine gs ?_); (first | refine ms hm rfl rfl rfl rfl rfl ?_ | refine msw hm rfl rfl rfl rfl ?_ | refine msr hm rfl rfl rfl rfl ?_); clear hm; intro w hm; (try simp only [splice, List.set_cons_zero, List.set_cons_succ] at hm)) | ((with_reducible refine gb ?_); (first | refine mem_box hm rfl rfl rfl ?_ | refine mem_box1 hm rfl rfl rfl rfl ?_); clear hm; intro n w hm) | ((with_reducible refine ga ?_); refine mem_alloc hm rfl rfl ?_; clear hm; intro n w hm) | go_values | go_skip | go_guarded | go_step | go_upon | ((with_reducible refine bp ?_); go_back) | ((with_reducible refine up ?_); first | (simp only [Int.not_lt, Int.not_le] at *; go_simp) | (go_values <;> (try go_simp)) | (go_ite <;> go_prune <;> (try go_simp)) | (split <;> (first | (rename_i hx; exact (hx _ rfl).elim) | go_prune))))
    (try simp only [Exit.inBlock, Exit.then])
    (first | (refine ret1 rfl rfl (by (first | exact Res.tmp rfl | exact Res.atw hm rfl | exact Res.at hm rfl)) ?_) | (refine ret2 rfl rfl (by (first | exact Res.tmp rfl | exact Res.atw hm rfl | exact Res.at hm rfl)) (by (first | exact Res.tmp rfl | exact Res.atw hm rfl | exact Res.at hm rfl)) ?_) | (refine ret3 rfl rfl (by (first | exact Res.tmp rfl | exact Res.atw hm rfl | exact Res.at hm rfl)) (by (first | exact Res.tmp rfl | exact Res.atw hm rfl | exact Res.at hm rfl)) (by (first | exact Res.tmp rfl | exact Res.atw hm rfl | exact Res.at hm rfl)) ?_) | (refine ret4 rfl rfl (by (first | exact Res.tmp rfl | exact Res.atw hm rfl | exact Res.at hm rfl)) (by (first | exact Res.tmp rfl | exact Res.atw hm rfl | exact Res.at hm rfl)) (by (first | exact Res.tmp rfl | exact Res.atw hm rfl | exact Res.at hm rfl)) (by (first | exact Res.tmp rfl | exact Res.atw hm rfl | exact Res.at hm rfl)) ?_) | fail "ret")
    exact ⟨rfl, hm.drop (by repeat (first | exact List.Sublist.refl _ | refine List.Sublist.cons _ ?_))⟩
  rw [hg] at hG
  simp only [if_true]
  have hR := fun (k : Nat) (h : k < S.length) => fm_get h (fun a _ => stI_len a) more
  have hnS : ((S.flatMap stI).map iv ++ more).length = S.length * 4 + more.length := by rw [List.length_append, List.length_map, fm_len S (fun a _ => stI_len a)]
  have hKl := dsK_len h18 S
  have hKo := fun (k : Nat) (ha : ∀ j, j < k → okD D S j = true) => dsK_ok (S := S) h18 hg k ha
  have hK0 : dsK D S 0 = D := rfl
  have hKs : ∀ k (h : k < S.length), dsK D S (k + 1) = (ddL (dsK D S k) S[k]).1 := fun k h => by
    rw [dsK, dsK.stp4, List.getD_eq_getElem?_getD, List.getElem?_eq_getElem h]; rfl
  have hOk : ∀ k (h : k < S.length), okD D S k = (ddL (dsK D S k) S[k]).2 := fun k h => by
    rw [okD, List.getD_eq_getElem?_getD, List.getElem?_eq_getElem h]; rfl
  have hat := fun (k : Nat) (hk : k < S.length) (h : okD D S k = false) (ha : ∀ j, j < k → okD D S j = true) => nD_at hk h ha
  have hall := fun (ha : ∀ j, j < S.length → okD D S j = true) => nD_all ha
  generalize dsK D S = ds at *
  generalize nD D S = nn at *
  generalize okD D S = od at *
  generalize hcs : (S.flatMap stI).map iv ++ more = cs at *
  clear hcs
  have HG := Lib.hid hG
  have HR := Lib.hid hR
  have HKl := Lib.hid hKl
  have HKo := Lib.hid hKo
  have HKs := Lib.hid hKs
  have HOk := Lib.hid hOk
  have HAT := Lib.hid hat
  have HALL := Lib.hid hall
  have HK0 : Unit → Hid _ := fun _ => Lib.hid hK0
  clear hG hR hKl hKo hKs hOk hat hall hK0 hg
  go_enter Tryz.func5, Tryz.ntmps5
  simp only [nums_map] at *
  repeat' (first | (go_at_call 11; refine mem_call hm (HG.out _) ?_; clear hm; intro w hm; (try simp only [nums, List.map_cons, List.map_nil])) | ((with_reducible refine gix ?_); first | refine mix rfl rfl rfl rfl ?_ | refine mixr rfl rfl rfl rfl ?_; (try simp only [Int.toNat_zero, Int.reduceToNat, Nat.reduceMul, Nat.zero_mul, Nat.one_mul, List.drop_succ_cons, List.drop_zero, List.take_succ_cons, List.take_zero])) | ((with_reducible refine gl ?_); first | refine ml hm rfl rfl rfl ?_ | refine mlw hm rfl rfl rfl ?_ | (refine mlr hm rfl rfl rfl ?_; try simp only [List.drop_succ_cons, List.drop_zero, List.take_succ_cons, List.take_zero])) | ((with_reducible refine gs ?_); (first | refine ms hm rfl rfl rfl rfl rfl ?_ | refine msw hm rfl rfl rfl rfl ?_ | refine msr hm rfl rfl rfl rfl ?_); clear hm; intro w hm; (try simp only [splice, List.set_cons_zero, List.set_cons_succ] at hm)) | ((with_reducible refine gb ?_); (first | refine mem_box hm rfl rfl rfl ?_ | refine mem_box1 hm rfl rfl rfl rfl ?_); clear hm; intro n w hm) | ((with_reducible refine ga ?_); refine mem_alloc hm rfl rfl ?_; clear hm; intro n w hm) | go_values | go_skip | go_guarded | go_step | go_upon | ((with_reducible refine bp ?_); go_back) | ((with_reducible refine up ?_); first | (simp only [Int.not_lt, Int.not_le] at *; go_simp) | (go_values <;> (try go_simp)) | (go_ite <;> go_prune <;> (try go_simp)) | (split <;> (first | (rename_i hx; exact (hx _ rfl).elim) | go_prune))))
  obtain ⟨τ, hτ, hm⟩ := Mem.sig hm
  go_loopw [8] (fun ix wr => ∃ k : Nat, k ≤ S.length ∧ ix = iv k ∧ (Unit → Hid (∀ j, j < k → od j = true)) ∧ Mem w0 wr (modB τ 0 ((ds k).map iv))) (fun ix _ => S.length - (intOf ix).toNat)
  case atStart => exact ⟨0, by omega, rfl, fun _ => Lib.hid (by intro j h; omega), by rw [(HK0 ()).out]; subst hτ; exact hm⟩
  case round =>
    clear hm
    obtain ⟨k, hk, rfl, hall, hm⟩ := hrel
    subst hτ
    simp only [modB] at hm
    have hl1 := HKl.out k
    have hl3 : ((ds k).map iv).length = 18 := by simpa using hl1
    by_cases hlt : k < S.length
    · have hv := HR.out k hlt
      have hg1 := HKo.out k (hall ()).out
      have hD := spec_l12DoL hl1 hg1 S[k]
      have hks := HKs.out k hlt
      have hok := HOk.out k hlt
      rw [← hks, ← hok] at hD
      have hat := HAT.out k hlt
      have hl2 := HKl.out (k + 1)
      have hs4 := stI_len S[k]
      clear hks hok hg1
      generalize hd1 : ds (k + 1) = D1 at *
      have HD1 : Unit → Hid _ := fun _ => Lib.hid hd1
      clear hd1
      generalize hd0 : ds k = D0 at *
      have HD0 : Unit → Hid _ := fun _ => Lib.hid hd0
      clear hd0
      have hl4 : (D1.map iv).length = 18 := by simpa using hl2
      simp only [nums_map] at hD
      have h4 : ((stI S[k]).map iv).length = 4 := by simpa using hs4
      generalize stI S[k] = si at *
      cases ho : od k
      · rw [ho] at hD
        have hn := hat ho (hall ()).out
        have HN : Unit → Hid _ := fun _ => Lib.hid hn
        have HD := Lib.hid hD
        clear hD hat hn ho
        repeat' (first | (with_reducible rw [hv]) | ((with_reducible refine gd ?_); refine wp_region_var 9 10 9 32 hm (by kernel_rfl) (by decide +kernel) (by decide +kernel) rfl ?_; refine ⟨D1.map iv, ?_⟩; have hne := MS.any hm; (repeat (first | (refine nAv (by decide) rfl rfl ?_) | (refine nSv (by decide) (by decide) rfl rfl rfl (by intro d h; cases h; decide) (Nat.le_of_ble_eq_true rfl) ?_) | (refine nlate (Nat.ne_of_beq_eq_false rfl) (Nat.ne_of_beq_eq_false rfl) (by rfl) ?_; apply Exists.intro; refine ⟨fun p => ?_, ?_⟩; focus (refine ⟨by rfl, fun w hm => ?_⟩; go_simp; (try refine ⟨rfl, ?_⟩); first | done | exact ⟨rfl, rfl⟩ | rfl)) | (with_reducible rw [hv]) | (go_at_call 12; exact (HD.out _)) | ((with_reducible refine gnl ?_); first | refine nl rfl rfl rfl ?_ | refine nlw rfl rfl rfl ?_ | (refine nlr rfl rfl rfl ?_; try simp only [List.drop_succ_cons, List.drop_zero, List.take_succ_cons, List.take_zero])) | (refine nstep (Nat.ne_of_beq_eq_false rfl) (Nat.ne_of_beq_eq_false rfl) (by rfl) hne ?_; intro hn K hK; go_simp; (try go_ints); (try simp [↓IntWalk.iteOmega, go_sem]); first | (refine hK _ ?_; clear hK K hn) | (apply Exists.intro; refine ⟨fun _ => ?_, hK _ ?_⟩; (first | (refine nAv (by decide) rfl rfl ?_) | (refine nSv (by decide) (by decide) rfl rfl rfl (by intro d h; cases h; decide) (Nat.le_of_ble_eq_true rfl) ?_) | (refine nlate (Nat.ne_of_beq_eq_false rfl) (Nat.ne_of_beq_eq_false rfl) (by rfl) ?_; apply Exists.intro; refine ⟨fun p => ?_, ?_⟩; focus (refine ⟨by rfl, fun w hm => ?_⟩; go_simp; (try refine ⟨rfl, ?_⟩); first | done | exact ⟨rfl, rfl⟩ | rfl)) | (with_reducible rw [hv]) | (go_at_call 12; exact (HD.out _)) | fail); clear hK K hn)))); refine nnil ?_; clear hm hne; intro n w hm; (try simp only [Act.put, List.setIfInBounds_toArray, List.set_cons_zero, List.set_cons_succ])) | ((with_reducible refine gix ?_); first | refine mix rfl rfl rfl rfl ?_ | refine mixr rfl rfl rfl rfl ?_; (try simp only [Int.toNat_zero, Int.reduceToNat, Nat.reduceMul, Nat.zero_mul, Nat.one_mul, List.drop_succ_cons, List.drop_zero, List.take_succ_cons, List.take_zero])) | ((with_reducible refine gl ?_); first | refine ml hm rfl rfl rfl ?_ | refine mlw hm rfl rfl rfl ?_ | (refine mlr hm rfl rfl rfl ?_; try simp only [List.drop_succ_cons, List.drop_zero, List.take_succ_cons, List.take_zero])) | ((with_reducible refine gs ?_); (first | refine ms hm rfl rfl rfl rfl rfl ?_ | refine msw hm rfl rfl rfl rfl ?_ | refine msr hm rfl rfl rfl rfl ?_); clear hm; intro w hm; (try simp only [splice, List.set_cons_zero, List.set_cons_succ] at hm)) | ((with_reducible refine gb ?_); (first | refine mem_box hm rfl rfl rfl ?_ | refine mem_box1 hm rfl rfl rfl rfl ?_); clear hm; intro n w hm) | ((with_reducible refine ga ?_); refine mem_alloc hm rfl rfl ?_; clear hm; intro n w hm) | go_values | go_skip | go_guarded | go_step | go_upon | ((with_reducible refine bp ?_); go_back) | ((with_reducible refine up ?_); first | (simp only [Int.not_lt, Int.not_le] at *; go_simp) | (go_values <;> (try go_simp)) | (go_ite <;> go_prune <;> (try go_simp)) | (split <;> (first | (rename_i hx; exact (hx _ rfl).elim) | go_prune))))
        (try simp only [Exit.inBlock, Exit.then])
        (first | (refine ret1 rfl rfl (by (first | exact Res.tmp rfl | exact Res.atw hm rfl | exact Res.at hm rfl)) ?_) | (refine ret2 rfl rfl (by (first | exact Res.tmp rfl | exact Res.atw hm rfl | exact Res.at hm rfl)) (by (first | exact Res.tmp rfl | exact Res.atw hm rfl | exact Res.at hm rfl)) ?_) | (refine ret3 rfl rfl (by (first | exact Res.tmp rfl | exact Res.atw hm rfl | exact Res.at hm rfl)) (by (first | exact Res.tmp rfl | exact Res.atw hm rfl | exact Res.at hm rfl)) (by (first | exact Res.tmp rfl | exact Res.atw hm rfl | exact Res.at hm rfl)) ?_) | (refine ret4 rfl rfl (by (first | exact Res.tmp rfl | exact Res.atw hm rfl | exact Res.at hm rfl)) (by (first | exact Res.tmp rfl | exact Res.atw hm rfl | exact Res.at hm rfl)) (by (first | exact Res.tmp rfl | exact Res.atw hm rfl | exact Res.at hm rfl)) (by (first | exact Res.tmp rfl | exact Res.atw hm rfl | exact Res.at hm rfl)) ?_) | fail "ret")
        rw [(HN ()).out, (HD0 ()).out]
        exact ⟨rfl, hm.drop (by repeat (first | exact List.Sublist.refl _ | refine List.Sublist.cons _ ?_))⟩
      · rw [ho] at hD
        have HD := Lib.hid hD
        have HO : Unit → Hid _ := fun _ => Lib.hid ho
        clear hD hat ho
        repeat' (first | (with_reducible rw [hv]) | ((with_reducible refine gd ?_); refine wp_region_var 9 10 9 32 hm (by kernel_rfl) (by decide +kernel) (by decide +kernel) rfl ?_; refine ⟨D1.map iv, ?_⟩; have hne := MS.any hm; (repeat (first | (refine nAv (by decide) rfl rfl ?_) | (refine nSv (by decide) (by decide) rfl rfl rfl (by intro d h; cases h; decide) (Nat.le_of_ble_eq_true rfl) ?_) | (refine nlate (Nat.ne_of_beq_eq_false rfl) (Nat.ne_of_beq_eq_false rfl) (by rfl) ?_; apply Exists.intro; refine ⟨fun p => ?_, ?_⟩; focus (refine ⟨by rfl, fun w hm => ?_⟩; go_simp; (try refine ⟨rfl, ?_⟩); first | done | exact ⟨rfl, rfl⟩ | rfl)) | (with_reducible rw [hv]) | (go_at_call 12; exact (HD.out _)) | ((with_reducible refine gnl ?_); first | refine nl rfl rfl rfl ?_ | refine nlw rfl rfl rfl ?_ | (refine nlr rfl rfl rfl ?_; try simp only [List.drop_succ_cons, List.drop_zero, List.take_succ_cons, List.take_zero])) | (refine nstep (Nat.ne_of_beq_eq_false rfl) (Nat.ne_of_beq_eq_false rfl) (by rfl) hne ?_; intro hn K hK; go_simp; (try go_ints); (try simp [↓IntWalk.iteOmega, go_sem]); first | (refine hK _ ?_; clear hK K hn) | (apply Exists.intro; refine ⟨fun _ => ?_, hK _ ?_⟩; (first | (refine nAv (by decide) rfl rfl ?_) | (refine nSv (by decide) (by decide) rfl rfl rfl (by intro d h; cases h; decide) (Nat.le_of_ble_eq_true rfl) ?_) | (refine nlate (Nat.ne_of_beq_eq_false rfl) (Nat.ne_of_beq_eq_false rfl) (by rfl) ?_; apply Exists.intro; refine ⟨fun p => ?_, ?_⟩; focus (refine ⟨by rfl, fun w hm => ?_⟩; go_simp; (try refine ⟨rfl, ?_⟩); first | done | exact ⟨rfl, rfl⟩ | rfl)) | (with_reducible rw [hv]) | (go_at_call 12; exact (HD.out _)) | fail); clear hK K hn)))); refine nnil ?_; clear hm hne; intro n w hm; (try simp only [Act.put, List.setIfInBounds_toArray, List.set_cons_zero, List.set_cons_succ])) | ((with_reducible refine gix ?_); first | refine mix rfl rfl rfl rfl ?_ | refine mixr rfl rfl rfl rfl ?_; (try simp only [Int.toNat_zero, Int.reduceToNat, Nat.reduceMul, Nat.zero_mul, Nat.one_mul, List.drop_succ_cons, List.drop_zero, List.take_succ_cons, List.take_zero])) | ((with_reducible refine gl ?_); first | refine ml hm rfl rfl rfl ?_ | refine mlw hm rfl rfl rfl ?_ | (refine mlr hm rfl rfl rfl ?_; try simp only [List.drop_succ_cons, List.drop_zero, List.take_succ_cons, List.take_zero])) | ((with_reducible refine gs ?_); (first | refine ms hm rfl rfl rfl rfl rfl ?_ | refine msw hm rfl rfl rfl rfl ?_ | refine msr hm rfl rfl rfl rfl ?_); clear hm; intro w hm; (try simp only [splice, List.set_cons_zero, List.set_cons_succ] at hm)) | ((with_reducible refine gb ?_); (first | refine mem_box hm rfl rfl rfl ?_ | refine mem_box1 hm rfl rfl rfl rfl ?_); clear hm; intro n w hm) | ((with_reducible refine ga ?_); refine mem_alloc hm rfl rfl ?_; clear hm; intro n w hm) | go_values | go_skip | go_guarded | go_step | go_upon | ((with_reducible refine bp ?_); go_back) | ((with_reducible refine up ?_); first | (simp only [Int.not_lt, Int.not_le] at *; go_simp) | (go_values <;> (try go_simp)) | (go_ite <;> go_prune <;> (try go_simp)) | (split <;> (first | (rename_i hx; exact (hx _ rfl).elim) | go_prune))))
        go_roundw
        case rel =>
          (try (first | ((repeat apply Exists.intro); refine ⟨?_, rfl⟩) | (repeat refine ex_any ?_)))
          refine ⟨k + 1, by omega, by go_num, fun _ => Lib.hid (fun j hj => ?_), by simp only [modB]; rw [(HD1 ()).out]; exact hm.drop (by repeat (first | exact List.Sublist.refl _ | refine List.Sublist.cons _ ?_))⟩
          by_cases hjk : j = k
          · subst hjk; exact (HO ()).out
          · exact (hall ()).out j (by omega)
        case measure => simp [intOf]; omega
    · obtain rfl : k = S.length := by omega
      have hn := HALL.out (hall ()).out
      have HN : Unit → Hid _ := fun _ => Lib.hid hn
      clear hn
      generalize hd0 : ds S.length = D0 at *
      have HD0 : Unit → Hid _ := fun _ => Lib.hid hd0
      clear hd0
      repeat' (first  | ((with_reducible refine gix ?_); first | refine mix rfl rfl rfl rfl ?_ | refine mixr rfl rfl rfl rfl ?_; (try simp only [Int.toNat_zero, Int.reduceToNat, Nat.reduceMul, Nat.zero_mul, Nat.one_mul, List.drop_succ_cons, List.drop_zero, List.take_succ_cons, List.take_zero])) | ((with_reducible refine gl ?_); first | refine ml hm rfl rfl rfl ?_ | refine mlw hm rfl rfl rfl ?_ | (refine mlr hm rfl rfl rfl ?_; try simp only [List.drop_succ_cons, List.drop_zero, List.take_succ_cons, List.take_zero])) | ((with_reducible refine gs ?_); (first | refine ms hm rfl rfl rfl rfl rfl ?_ | refine msw hm rfl rfl rfl rfl ?_ | refine msr hm rfl rfl rfl rfl ?_); clear hm; intro w hm; (try simp only [splice, List.set_cons_zero, List.set_cons_succ] at hm)) | ((with_reducible refine gb ?_); (first | refine mem_box hm rfl rfl rfl ?_ | refine mem_box1 hm rfl rfl rfl rfl ?_); clear hm; intro n w hm) | ((with_reducible refine ga ?_); refine mem_alloc hm rfl rfl ?_; clear hm; intro n w hm) | go_values | go_skip | go_guarded | go_step | go_upon | ((with_reducible refine bp ?_); go_back) | ((with_reducible refine up ?_); first | (simp only [Int.not_lt, Int.not_le] at *; go_simp) | (go_values <;> (try go_simp)) | (go_ite <;> go_prune <;> (try go_simp)) | (split <;> (first | (rename_i hx; exact (hx _ rfl).elim) | go_prune))))
      (try simp only [Exit.inBlock, Exit.then])
      (first | (refine ret1 rfl rfl (by (first | exact Res.tmp rfl | exact Res.atw hm rfl | exact Res.at hm rfl)) ?_) | (refine ret2 rfl rfl (by (first | exact Res.tmp rfl | exact Res.atw hm rfl | exact Res.at hm rfl)) (by (first | exact Res.tmp rfl | exact Res.atw hm rfl | exact Res.at hm rfl)) ?_) | (refine ret3 rfl rfl (by (first | exact Res.tmp rfl | exact Res.atw hm rfl | exact Res.at hm rfl)) (by (first | exact Res.tmp rfl | exact Res.atw hm rfl | exact Res.at hm rfl)) (by (first | exact Res.tmp rfl | exact Res.atw hm rfl | exact Res.at hm rfl)) ?_) | (refine ret4 rfl rfl (by (first | exact Res.tmp rfl | exact Res.atw hm rfl | exact Res.at hm rfl)) (by (first | exact Res.tmp rfl | exact Res.atw hm rfl | exact Res.at hm rfl)) (by (first | exact Res.tmp rfl | exact Res.atw hm rfl | exact Res.at hm rfl)) (by (first | exact Res.tmp rfl | exact Res.atw hm rfl | exact Res.at hm rfl)) ?_) | fail "ret")
      rw [(HN ()).out, (HD0 ()).out]
      exact ⟨rfl, hm.drop (by repeat (first | exact List.Sublist.refl _ | refine List.Sublist.cons _ ?_))⟩
set_option maxHeartbeats 2000000 in
theorem impl_DoDeeds {w0 w : World} {σ : List Blk} {g i cap : Nat} {more : List Value} (D : List Int) (h18 : D.length = 18) (S : List Stp) (hS : S.length ≤ 2000000) (hm : Mem w0 w σ) [At σ g ((S.flatMap stI).map iv ++ more) 45 i] :
    Calls Tryz.prog 8 #[.agg (nums D), .slice (some ⟨g, 0, none⟩) S.length cap] w fun e w' => e = .returned (.tuple #[.agg (nums (dsV D S).1), iv (dsV D S).2.1, .bool (dsV D S).2.2]) ∧ Mem w0 w' σ := by
  have hG := impl_IsDesk D h18
  have hDl : (D.map iv).length = 18 := by simpa using h18
  unfold dsV
  cases hg : deskB D
  · rw [hg] at hG
    simp only [Bool.false_eq_true, if_false, zD]
    have HG := Lib.hid hG
    clear hG hg
    go_enter Tryz.func8, Tryz.ntmps8
    simp only [nums_map] at *
    repeat' (first | (go_at_call 15; refine mem_call hm (HG.out _) ?_; clear hm; intro w hm; (try simp only [nums, List.map_cons, List.map_nil])) | ((with_reducible refine gix ?_); first | refine mix rfl rfl rfl rfl ?_ | refine mixr rfl rfl rfl rfl ?_; (try simp only [Int.toNat_zero, Int.reduceToNat, Nat.reduceMul, Nat.zero_mul, Nat.one_mul, List.drop_succ_cons, List.drop_zero, List.take_succ_cons, List.take_zero])) | ((with_reducible refine gl ?_); first | refine ml hm rfl rfl rfl ?_ | refine mlw hm rfl rfl rfl ?_ | (refine mlr hm rfl rfl rfl ?_; try simp only [List.drop_succ_cons, List.drop_zero, List.take_succ_cons, List.take_zero])) | ((with_reducible refine gs ?_); (first | refine ms hm rfl rfl rfl rfl rfl ?_ | refine msw hm rfl rfl rfl rfl ?_ | refine msr hm rfl rfl rfl rfl ?_); clear hm; intro w hm; (try simp only [splice, List.set_cons_zero, List.set_cons_succ] at hm)) | ((with_reducible refine gb ?_); (first | refine mem_box hm rfl rfl rfl ?_ | refine mem_box1 hm rfl rfl rfl rfl ?_); clear hm; intro n w hm) | ((with_reducible refine ga ?_); refine mem_alloc hm rfl rfl ?_; clear hm; intro n w hm) | go_values | go_skip | go_guarded | go_step | go_upon | ((with_reducible refine bp ?_); go_back) | ((with_reducible refine up ?_); first | (simp only [Int.not_lt, Int.not_le] at *; go_simp) | (go_values <;> (try go_simp)) | (go_ite <;> go_prune <;> (try go_simp)) | (split <;> (first | (rename_i hx; exact (hx _ rfl).elim) | go_prune))))
    (try simp only [Exit.inBlock, Exit.then])
    (first | (refine ret1 rfl rfl (by (first | exact Res.tmp rfl | exact Res.atw hm rfl | exact Res.at hm rfl)) ?_) | (refine ret2 rfl rfl (by (first | exact Res.tmp rfl | exact Res.atw hm rfl | exact Res.at hm rfl)) (by (first | exact Res.tmp rfl | exact Res.atw hm rfl | exact Res.at hm rfl)) ?_) | (refine ret3 rfl rfl (by (first | exact Res.tmp rfl | exact Res.atw hm rfl | exact Res.at hm rfl)) (by (first | exact Res.tmp rfl | exact Res.atw hm rfl | exact Res.at hm rfl)) (by (first | exact Res.tmp rfl | exact Res.atw hm rfl | exact Res.at hm rfl)) ?_) | (refine ret4 rfl rfl (by (first | exact Res.tmp rfl | exact Res.atw hm rfl | exact Res.at hm rfl)) (by (first | exact Res.tmp rfl | exact Res.atw hm rfl | exact Res.at hm rfl)) (by (first | exact Res.tmp rfl | exact Res.atw hm rfl | exact Res.at hm rfl)) (by (first | exact Res.tmp rfl | exact Res.atw hm rfl | exact Res.at hm rfl)) ?_) | fail "ret")
    exact ⟨rfl, hm.drop (by repeat (first | exact List.Sublist.refl _ | refine List.Sublist.cons _ ?_))⟩
  rw [hg] at hG
  simp only [if_true]
  have hR := fun (k : Nat) (h : k < S.length) => fm_get h (fun a _ => stI_len a) more
  have hnS : ((S.flatMap stI).map iv ++ more).length = S.length * 4 + more.length := by rw [List.length_append, List.length_map, fm_len S (fun a _ => stI_len a)]
  have hKl := dsK_len h18 S
  have hKo := fun (k : Nat) (ha : ∀ j, j < k → okD D S j = true) => dsK_ok (S := S) h18 hg k ha
  have hK0 : dsK D S 0 = D := rfl
  have hKs : ∀ k (h : k < S.length), dsK D S (k + 1) = (ddL (dsK D S k) S[k]).1 := fun k h => by
    rw [dsK, dsK.stp4, List.getD_eq_getElem?_getD, List.getElem?_eq_getElem h]; rfl
  have hOk : ∀ k (h : k < S.length), okD D S k = (ddL (dsK D S k) S[k]).2 := fun k h => by
    rw [okD, List.getD_eq_getElem?_getD, List.getElem?_eq_getElem h]; rfl
  have hat := fun (k : Nat) (hk : k < S.length) (h : okD D S k = false) (ha : ∀ j, j < k → okD D S j = true) => nD_at hk h ha
  have hall := fun (ha : ∀ j, j < S.length → okD D S j = true) => nD_all ha
  generalize dsK D S = ds at *
  generalize nD D S = nn at *
  generalize okD D S = od at *
  generalize hcs : (S.flatMap stI).map iv ++ more = cs at *
  clear hcs
  have HG := Lib.hid hG
  have HR := Lib.hid hR
  have HKl := Lib.hid hKl
  have HKo := Lib.hid hKo
  have HKs := Lib.hid hKs
  have HOk := Lib.hid hOk
  have HAT := Lib.hid hat
  have HALL := Lib.hid hall
  have HK0 : Unit → Hid _ := fun _ => Lib.hid hK0
  clear hG hR hKl hKo hKs hOk hat hall hK0 hg
  go_enter Tryz.func8, Tryz.ntmps8
  simp only [nums_map] at *
  repeat' (first | (go_at_call 15; refine mem_call hm (HG.out _) ?_; clear hm; intro w hm; (try simp only [nums, List.map_cons, List.map_nil])) | ((with_reducible refine gix ?_); first | refine mix rfl rfl rfl rfl ?_ | refine mixr rfl rfl rfl rfl ?_; (try simp only [Int.toNat_zero, Int.reduceToNat, Nat.reduceMul, Nat.zero_mul, Nat.one_mul, List.drop_succ_cons, List.drop_zero, List.take_succ_cons, List.take_zero])) | ((with_reducible refine gl ?_); first | refine ml hm rfl rfl rfl ?_ | refine mlw hm rfl rfl rfl ?_ | (refine mlr hm rfl rfl rfl ?_; try simp only [List.drop_succ_cons, List.drop_zero, List.take_succ_cons, List.take_zero])) | ((with_reducible refine gs ?_); (first | refine ms hm rfl rfl rfl rfl rfl ?_ | refine msw hm rfl rfl rfl rfl ?_ | refine msr hm rfl rfl rfl rfl ?_); clear hm; intro w hm; (try simp only [splice, List.set_cons_zero, List.set_cons_succ] at hm)) | ((with_reducible refine gb ?_); (first | refine mem_box hm rfl rfl rfl ?_ | refine mem_box1 hm rfl rfl rfl rfl ?_); clear hm; intro n w hm) | ((with_reducible refine ga ?_); refine mem_alloc hm rfl rfl ?_; clear hm; intro n w hm) | go_values | go_skip | go_guarded | go_step | go_upon | ((with_reducible refine bp ?_); go_back) | ((with_reducible refine up ?_); first | (simp only [Int.not_lt, Int.not_le] at *; go_simp) | (go_values <;> (try go_simp)) | (go_ite <;> go_prune <;> (try go_simp)) | (split <;> (first | (rename_i hx; exact (hx _ rfl).elim) | go_prune))))
  obtain ⟨τ, hτ, hm⟩ := Mem.sig hm
  go_loopw [17] (fun ix wr => ∃ k : Nat, k ≤ S.length ∧ ix = iv k ∧ (Unit → Hid (∀ j, j < k → od j = true)) ∧ Mem w0 wr (modB τ 1 ((ds k).map iv))) (fun ix _ => S.length - (intOf ix).toNat)
  case atStart => exact ⟨0, by omega, rfl, fun _ => Lib.hid (by intro j h; omega), by rw [(HK0 ()).out]; subst hτ; exact hm⟩
  case round =>
    clear hm
    obtain ⟨k, hk, rfl, hall, hm⟩ := hrel
    subst hτ
    simp only [modB] at hm
    have hl1 := HKl.out k
    have hl3 : ((ds k).map iv).length = 18 := by simpa using hl1
    by_cases hlt : k < S.length
    · have hv := HR.out k hlt
      have hg1 := HKo.out k (hall ()).out
      have hD := impl_DoDeedL hl1 S[k]
      have hks := HKs.out k hlt
      have hok := HOk.out k hlt
      rw [← hks, ← hok] at hD
      have hat := HAT.out k hlt
      have hl2 := HKl.out (k + 1)
      have hs4 := stI_len S[k]
      clear hks hok hg1
      generalize hd1 : ds (k + 1) = D1 at *
      have HD1 : Unit → Hid _ := fun _ => Lib.hid hd1
      clear hd1
      generalize hd0 : ds k = D0 at *
      have HD0 : Unit → Hid _ := fun _ => Lib.hid hd0
      clear hd0
      have hl4 : (D1.map iv).length = 18 := by simpa using hl2
      simp only [nums_map] at hD
      have h4 : ((stI S[k]).map iv).length = 4 := by simpa using hs4
      generalize stI S[k] = si at *
      cases ho : od k
      · rw [ho] at hD
        have hn := hat ho (hall ()).out
        have HN : Unit → Hid _ := fun _ => Lib.hid hn
        have HD := Lib.hid hD
        clear hD hat hn ho
        repeat' (first | (with_reducible rw [hv]) | (go_at_call 16; refine mem_call hm (HD.out _) ?_; clear hm; intro w hm; (try simp only [nums, List.map_cons, List.map_nil])) | ((with_reducible refine gix ?_); first | refine mix rfl rfl rfl rfl ?_ | refine mixr rfl rfl rfl rfl ?_; (try simp only [Int.toNat_zero, Int.reduceToNat, Nat.reduceMul, Nat.zero_mul, Nat.one_mul, List.drop_succ_cons, List.drop_zero, List.take_succ_cons, List.take_zero])) | ((with_reducible refine gl ?_); first | refine ml hm rfl rfl rfl ?_ | refine mlw hm rfl rfl rfl ?_ | (refine mlr hm rfl rfl rfl ?_; try simp only [List.drop_succ_cons, List.drop_zero, List.take_succ_cons, List.take_zero])) | ((with_reducible refine gs ?_); (first | refine ms hm rfl rfl rfl rfl rfl ?_ | refine msw hm rfl rfl rfl rfl ?_ | refine msr hm rfl rfl rfl rfl ?_); clear hm; intro w hm; (try simp only [splice, List.set_cons_zero, List.set_cons_succ] at hm)) | ((with_reducible refine gb ?_); (first | refine mem_box hm rfl rfl rfl ?_ | refine mem_box1 hm rfl rfl rfl rfl ?_); clear hm; intro n w hm) | ((with_reducible refine ga ?_); refine mem_alloc hm rfl rfl ?_; clear hm; intro n w hm) | go_values | go_skip | go_guarded | go_step | go_upon | ((with_reducible refine bp ?_); go_back) | ((with_reducible refine up ?_); first | (simp only [Int.not_lt, Int.not_le] at *; go_simp) | (go_values <;> (try go_simp)) | (go_ite <;> go_prune <;> (try go_simp)) | (split <;> (first | (rename_i hx; exact (hx _ rfl).elim) | go_prune))))
        (try simp only [Exit.inBlock, Exit.then])
        (first | (refine ret1 rfl rfl (by (first | exact Res.tmp rfl | exact Res.atw hm rfl | exact Res.at hm rfl)) ?_) | (refine ret2 rfl rfl (by (first | exact Res.tmp rfl | exact Res.atw hm rfl | exact Res.at hm rfl)) (by (first | exact Res.tmp rfl | exact Res.atw hm rfl | exact Res.at hm rfl)) ?_) | (refine ret3 rfl rfl (by (first | exact Res.tmp rfl | exact Res.atw hm rfl | exact Res.at hm rfl)) (by (first | exact Res.tmp rfl | exact Res.atw hm rfl | exact Res.at hm rfl)) (by (first | exact Res.tmp rfl | exact Res.atw hm rfl | exact Res.at hm rfl)) ?_) | (refine ret4 rfl rfl (by (first | exact Res.tmp rfl | exact Res.atw hm rfl | exact Res.at hm rfl)) (by (first | exact Res.tmp rfl | exact Res.atw hm rfl | exact Res.at hm rfl)) (by (first | exact Res.tmp rfl | exact Res.atw hm rfl | exact Res.at hm rfl)) (by (first | exact Res.tmp rfl | exact Res.atw hm rfl | exact Res.at hm rfl)) ?_) | fail "ret")
        rw [(HN ()).out, (HD0 ()).out]
        exact ⟨rfl, hm.drop (by repeat (first | exact List.Sublist.refl _ | refine List.Sublist.cons _ ?_))⟩
      · rw [ho] at hD
        have HD := Lib.hid hD
        have HO : Unit → Hid _ := fun _ => Lib.hid ho
        clear hD hat ho
        repeat' (first | (with_reducible rw [hv]) | (go_at_call 16; refine mem_call hm (HD.out _) ?_; clear hm; intro w hm; (try simp only [nums, List.map_cons, List.map_nil])) | ((with_reducible refine gix ?_); first | refine mix rfl rfl rfl rfl ?_ | refine mixr rfl rfl rfl rfl ?_; (try simp only [Int.toNat_zero, Int.reduceToNat, Nat.reduceMul, Nat.zero_mul, Nat.one_mul, List.drop_succ_cons, List.drop_zero, List.take_succ_cons, List.take_zero])) | ((with_reducible refine gl ?_); first | refine ml hm rfl rfl rfl ?_ | refine mlw hm rfl rfl rfl ?_ | (refine mlr hm rfl rfl rfl ?_; try simp only [List.drop_succ_cons, List.drop_zero, List.take_succ_cons, List.take_zero])) | ((with_reducible refine gs ?_); (first | refine ms hm rfl rfl rfl rfl rfl ?_ | refine msw hm rfl rfl rfl rfl ?_ | refine msr hm rfl rfl rfl rfl ?_); clear hm; intro w hm; (try simp only [splice, List.set_cons_zero, List.set_cons_succ] at hm)) | ((with_reducible refine gb ?_); (first | refine mem_box hm rfl rfl rfl ?_ | refine mem_box1 hm rfl rfl rfl rfl ?_); clear hm; intro n w hm) | ((with_reducible refine ga ?_); refine mem_alloc hm rfl rfl ?_; clear hm; intro n w hm) | go_values | go_skip | go_guarded | go_step | go_upon | ((with_reducible refine bp ?_); go_back) | ((with_reducible refine up ?_); first | (simp only [Int.not_lt, Int.not_le] at *; go_simp) | (go_values <;> (try go_simp)) | (go_ite <;> go_prune <;> (try go_simp)) | (split <;> (first | (rename_i hx; exact (hx _ rfl).elim) | go_prune))))
        go_roundw
        case rel =>
          (try (first | ((repeat apply Exists.intro); refine ⟨?_, rfl⟩) | (repeat refine ex_any ?_)))
          refine ⟨k + 1, by omega, by go_num, fun _ => Lib.hid (fun j hj => ?_), by simp only [modB]; rw [(HD1 ()).out]; exact hm.drop (by repeat (first | exact List.Sublist.refl _ | refine List.Sublist.cons _ ?_))⟩
          by_cases hjk : j = k
          · subst hjk; exact (HO ()).out
          · exact (hall ()).out j (by omega)
        case measure => simp [intOf]; omega
    · obtain rfl : k = S.length := by omega
      have hn := HALL.out (hall ()).out
      have HN : Unit → Hid _ := fun _ => Lib.hid hn
      clear hn
      generalize hd0 : ds S.length = D0 at *
      have HD0 : Unit → Hid _ := fun _ => Lib.hid hd0
      clear hd0
      repeat' (first  | ((with_reducible refine gix ?_); first | refine mix rfl rfl rfl rfl ?_ | refine mixr rfl rfl rfl rfl ?_; (try simp only [Int.toNat_zero, Int.reduceToNat, Nat.reduceMul, Nat.zero_mul, Nat.one_mul, List.drop_succ_cons, List.drop_zero, List.take_succ_cons, List.take_zero])) | ((with_reducible refine gl ?_); first | refine ml hm rfl rfl rfl ?_ | refine mlw hm rfl rfl rfl ?_ | (refine mlr hm rfl rfl rfl ?_; try simp only [List.drop_succ_cons, List.drop_zero, List.take_succ_cons, List.take_zero])) | ((with_reducible refine gs ?_); (first | refine ms hm rfl rfl rfl rfl rfl ?_ | refine msw hm rfl rfl rfl rfl ?_ | refine msr hm rfl rfl rfl rfl ?_); clear hm; intro w hm; (try simp only [splice, List.set_cons_zero, List.set_cons_succ] at hm)) | ((with_reducible refine gb ?_); (first | refine mem_box hm rfl rfl rfl ?_ | refine mem_box1 hm rfl rfl rfl rfl ?_); clear hm; intro n w hm) | ((with_reducible refine ga ?_); refine mem_alloc hm rfl rfl ?_; clear hm; intro n w hm) | go_values | go_skip | go_guarded | go_step | go_upon | ((with_reducible refine bp ?_); go_back) | ((with_reducible refine up ?_); first | (simp only [Int.not_lt, Int.not_le] at *; go_simp) | (go_values <;> (try go_simp)) | (go_ite <;> go_prune <;> (try go_simp)) | (split <;> (first | (rename_i hx; exact (hx _ rfl).elim) | go_prune))))
      (try simp only [Exit.inBlock, Exit.then])
      (first | (refine ret1 rfl rfl (by (first | exact Res.tmp rfl | exact Res.atw hm rfl | exact Res.at hm rfl)) ?_) | (refine ret2 rfl rfl (by (first | exact Res.tmp rfl | exact Res.atw hm rfl | exact Res.at hm rfl)) (by (first | exact Res.tmp rfl | exact Res.atw hm rfl | exact Res.at hm rfl)) ?_) | (refine ret3 rfl rfl (by (first | exact Res.tmp rfl | exact Res.atw hm rfl | exact Res.at hm rfl)) (by (first | exact Res.tmp rfl | exact Res.atw hm rfl | exact Res.at hm rfl)) (by (first | exact Res.tmp rfl | exact Res.atw hm rfl | exact Res.at hm rfl)) ?_) | (refine ret4 rfl rfl (by (first | exact Res.tmp rfl | exact Res.atw hm rfl | exact Res.at hm rfl)) (by (first | exact Res.tmp rfl | exact Res.atw hm rfl | exact Res.at hm rfl)) (by (first | exact Res.tmp rfl | exact Res.atw hm rfl | exact Res.at hm rfl)) (by (first | exact Res.tmp rfl | exact Res.atw hm rfl | exact Res.at hm rfl)) ?_) | fail "ret")
      rw [(HN ()).out, (HD0 ()).out]
      exact ⟨rfl, hm.drop (by repeat (first | exact List.Sublist.refl _ | refine List.Sublist.cons _ ?_))⟩
set_option maxHeartbeats 4000000 in
theorem walk_FnExactDoDeeds {H : Type} {enc : TypeId × Value → H} {base : Nat} {spare : Nat → Bool} {held : Bool} {dd : DataW H} {ps : List MemPlace} (w0 : World) (a0 : List Int) (l0 : a0.length = 18) (i0 : ∀ x ∈ a0, I64 x) (a1 : Option Addr) (z1 c1 : Nat) (h1 : DataW.Trod enc Tryz.prog w0 base spare held 28 (.slice a1 z1 c1) dd ps) :
    Calls Tryz.prog 3 #[.agg (nums a0), .slice a1 z1 c1] w0 fun e w' => e = .returned (.bool true) ∧ Below w0.heap.size w0 w' := by
  obtain ⟨fuel, h1⟩ := h1
  change DataW.trod enc Tryz.prog w0 base spare held fuel 28 [.slice a1 z1 c1] = some (dd, ps) at h1
  obtain ⟨S, hO, -⟩ := old_steps (te := 48) (ti := 3) Tryz.underlying28 (by kernel_rfl) (by kernel_rfl) (by kernel_rfl) Tryz.underlying3 h1
  obtain ⟨A, cap, hA, hSm⟩ := hO.slice
  simp only [Value.slice.injEq] at hA
  obtain ⟨rfl, rfl, rfl⟩ := hA
  clear h1 i0
  have hZ := laws_szDeedS a1 S.length c1 1048576 (by omega) hSm
  by_cases hbig : 1048576 < S.length
  · rw [if_pos (by omega)] at hZ
    have HZ := Lib.hid hZ
    clear hZ
    go_enter Tryz.func3, Tryz.ntmps3
    have hm := Mem.start w0
    simp only [nums_map] at *
    have hdl : (a0.map iv).length = 18 := by simpa using l0
    repeat' (first | (go_at_call 4; refine mem_call hm (HZ.out _) ?_; clear hm; intro w hm; (try simp only [nums, List.map_cons, List.map_nil])) | ((with_reducible refine gix ?_); first | refine mix rfl rfl rfl rfl ?_ | refine mixr rfl rfl rfl rfl ?_; (try simp only [Int.toNat_zero, Int.reduceToNat, Nat.reduceMul, Nat.zero_mul, Nat.one_mul, List.drop_succ_cons, List.drop_zero, List.take_succ_cons, List.take_zero])) | ((with_reducible refine gl ?_); first | refine ml hm rfl rfl rfl ?_ | refine mlw hm rfl rfl rfl ?_ | (refine mlr hm rfl rfl rfl ?_; try simp only [List.drop_succ_cons, List.drop_zero, List.take_succ_cons, List.take_zero])) | ((with_reducible refine gs ?_); (first | refine ms hm rfl rfl rfl rfl rfl ?_ | refine msw hm rfl rfl rfl rfl ?_ | refine msr hm rfl rfl rfl rfl ?_); clear hm; intro w hm; (try simp only [splice, List.set_cons_zero, List.set_cons_succ] at hm)) | ((with_reducible refine gb ?_); (first | refine mem_box hm rfl rfl rfl ?_ | refine mem_box1 hm rfl rfl rfl rfl ?_); clear hm; intro n w hm) | ((with_reducible refine ga ?_); refine mem_alloc hm rfl rfl ?_; clear hm; intro n w hm) | go_values | go_skip | go_guarded | go_step | go_upon | ((with_reducible refine bp ?_); go_back) | ((with_reducible refine up ?_); first | (simp only [Int.not_lt, Int.not_le] at *; go_simp) | (go_values <;> (try go_simp)) | (go_ite <;> go_prune <;> (try go_simp)) | (split <;> (first | (rename_i hx; exact (hx _ rfl).elim) | go_prune))))
    (try simp only [Exit.inBlock, Exit.then])
    (first | (refine ret1 rfl rfl (by (first | exact Res.tmp rfl | exact Res.atw hm rfl | exact Res.at hm rfl)) ?_) | (refine ret2 rfl rfl (by (first | exact Res.tmp rfl | exact Res.atw hm rfl | exact Res.at hm rfl)) (by (first | exact Res.tmp rfl | exact Res.atw hm rfl | exact Res.at hm rfl)) ?_) | (refine ret3 rfl rfl (by (first | exact Res.tmp rfl | exact Res.atw hm rfl | exact Res.at hm rfl)) (by (first | exact Res.tmp rfl | exact Res.atw hm rfl | exact Res.at hm rfl)) (by (first | exact Res.tmp rfl | exact Res.atw hm rfl | exact Res.at hm rfl)) ?_) | (refine ret4 rfl rfl (by (first | exact Res.tmp rfl | exact Res.atw hm rfl | exact Res.at hm rfl)) (by (first | exact Res.tmp rfl | exact Res.atw hm rfl | exact Res.at hm rfl)) (by (first | exact Res.tmp rfl | exact Res.atw hm rfl | exact Res.at hm rfl)) (by (first | exact Res.tmp rfl | exact Res.atw hm rfl | exact Res.at hm rfl)) ?_) | fail "ret")
    exact ⟨rfl, hm.below⟩
  rw [if_neg (by omega)] at hZ
  have hT := laws_toDesk a0 l0
  have hTS := fun (w : World) (σ : List Blk) (hm : Mem w0 w σ) => laws_toDeedS (hO.next hm) (by omega)
  have hs := fun (w : World) (σ : List Blk) (g i cap : Nat) (more : List Value) (hm : Mem w0 w σ) (hA : At σ g ((S.flatMap stI).map iv ++ more) 45 i) => spec_DoDeeds (g := g) (i := i) (cap := cap) (more := more) a0 l0 S (by omega) hm
  have hi := fun (w : World) (σ : List Blk) (g i cap : Nat) (more : List Value) (hm : Mem w0 w σ) (hA : At σ g ((S.flatMap stI).map iv ++ more) 45 i) => impl_DoDeeds (g := g) (i := i) (cap := cap) (more := more) a0 l0 S (by omega) hm
  have hEq := fun (w : World) (σ : List Blk) (g1 g2 i1 i2 c1 c2 : Nat) (m1 m2 : List Value) (hm : Mem w0 w σ) (hA : At σ g1 ((S.flatMap stI).map iv ++ m1) 45 i1) (hB : At σ g2 ((S.flatMap stI).map iv ++ m2) 45 i2) => laws_eqDeedS (S := S) (g1 := g1) (g2 := g2) (i1 := i1) (i2 := i2) (c1 := c1) (c2 := c2) (m1 := m1) (m2 := m2) hm (by omega)
  have hV := dsV_len l0 S
  generalize dsV a0 S = V at *
  obtain ⟨D, nn, o⟩ := V
  simp only at hV hs hi
  have hE := laws_eqDesk D D hV hV
  rw [show decide (D = D) = true from decide_eq_true rfl] at hE
  have hDl : (D.map iv).length = 18 := by simpa using hV
  have hdl : (a0.map iv).length = 18 := by simpa using l0
  have hfl : ((S.flatMap stI).map iv).length = S.length * 4 := by rw [List.length_map, fm_len S (fun a _ => stI_len a)]
  generalize (S.flatMap stI).map iv = X at *
  clear hO
  have HZ := Lib.hid hZ
  have HT := Lib.hid hT
  have HTS := Lib.hid hTS
  have HS := Lib.hid hs
  have HI := Lib.hid hi
  have HE := Lib.hid hE
  have HEq := Lib.hid hEq
  clear hZ hT hTS hs hi hE hEq
  cases o
  all_goals
    go_enter Tryz.func3, Tryz.ntmps3
    have hm := Mem.start w0
    simp only [nums_map] at *
    repeat' (first | ((with_reducible refine gqw ?_); first | (refine qw_skipR (by decide +kernel) ?_) | fail | ((with_reducible refine gqwl ?_); first | refine qw_load hm rfl (by decide +kernel) rfl rfl rfl (by decide +kernel) (by decide +kernel) (fun _ _ _ _ h => h) ?_ | refine qw_loadW hm rfl (by decide +kernel) rfl rfl rfl (by decide +kernel) (by decide +kernel) (fun _ _ _ _ h => h) ?_ | (refine qw_loadR hm rfl (by decide +kernel) rfl rfl rfl (by decide +kernel) (by decide +kernel) (fun _ _ _ _ h => h) ?_; (try simp only [List.drop_succ_cons, List.drop_zero, List.take_succ_cons, List.take_zero]))) | (refine qw_pure hm (by decide +kernel) (by decide +kernel) rfl (by decide +kernel) (by decide +kernel) (fun _ _ _ _ h => h) (MS.any2 hm) ?_; intro hn K hK; go_simp; (try go_ints); (try simp [↓IntWalk.iteOmega, go_sem]); first | (refine hK _ ?_; clear hK K hn) | (apply Exists.intro; refine ⟨fun _ => ?_, hK _ ?_⟩; (first | rfl | done); clear hK K hn)) | (refine qw_not hm rfl (by decide +kernel) rfl (by decide +kernel) (by decide +kernel) (fun _ _ _ h => h) ?_) | refine qw_skip ?_) | ((with_reducible refine gqwn ?_); first | (refine qw_done (by decide +kernel) ?_; (try simp only [Act.put, List.setIfInBounds_toArray, List.set_cons_zero, List.set_cons_succ])) | refine qw_all (by decide +kernel) ?_) | ((with_reducible refine gaf ?_); first | exact af_end | refine af_skip (by decide +kernel) ?_ | refine af_go ?_ ?_) | ((with_reducible refine exit_go ?_); refine ⟨hm.drop (by first | exact List.Sublist.refl _ | exact List.sublist_cons_self _ _ | (repeat (first | exact List.Sublist.refl _ | (with_reducible refine List.Sublist.cons_cons _ ?_) | refine List.Sublist.cons _ ?_))), ?_⟩) | (go_at_call 4; refine mem_call hm (HZ.out _) ?_; clear hm; intro w hm; (try simp only [nums, List.map_cons, List.map_nil])) | (go_at_call 6; refine mem_call hm (HT.out _) ?_; clear hm; intro w hm; (try simp only [nums, List.map_cons, List.map_nil])) | (go_at_call 7; refine mem_callN hm (HTS.out _ _ hm) ?_; clear hm; intro g more len cap w hm hf hx; obtain rfl : len = S.length := (by omega); clear hf hx; (try simp only [])) | (go_at_call 5; refine mem_callM (HS.out _ _ _ _ _ _ hm inferInstance) ?_; clear hm; intro w hm; (try simp only [])) | (go_at_call 8; refine mem_callM (HI.out _ _ _ _ _ _ hm inferInstance) ?_; clear hm; intro w hm; (try simp only [])) | (go_at_call 9; refine mem_call hm (HE.out _) ?_; clear hm; intro w hm; (try simp only [nums, List.map_cons, List.map_nil])) | (go_at_call 10; refine mem_callM (HEq.out _ _ _ _ _ _ _ _ _ _ hm inferInstance inferInstance) ?_; clear hm; intro w hm; (try simp only [])) | ((with_reducible refine gd ?_); refine any_start hm (by kernel_rfl) ?_; clear hm; intro w hm) | ((with_reducible refine gix ?_); first | refine mix rfl rfl rfl rfl ?_ | refine mixr rfl rfl rfl rfl ?_; (try simp only [Int.toNat_zero, Int.reduceToNat, Nat.reduceMul, Nat.zero_mul, Nat.one_mul, List.drop_succ_cons, List.drop_zero, List.take_succ_cons, List.take_zero])) | ((with_reducible refine gl ?_); first | refine ml hm rfl rfl rfl ?_ | refine mlw hm rfl rfl rfl ?_ | (refine mlr hm rfl rfl rfl ?_; try simp only [List.drop_succ_cons, List.drop_zero, List.take_succ_cons, List.take_zero])) | ((with_reducible refine gs ?_); (first | refine ms hm rfl rfl rfl rfl rfl ?_ | refine msw hm rfl rfl rfl rfl ?_ | refine msr hm rfl rfl rfl rfl ?_); clear hm; intro w hm; (try simp only [splice, List.set_cons_zero, List.set_cons_succ] at hm)) | ((with_reducible refine gb ?_); (first | refine mem_box hm rfl rfl rfl ?_ | refine mem_box1 hm rfl rfl rfl rfl ?_); clear hm; intro n w hm) | ((with_reducible refine ga ?_); refine mem_alloc hm rfl rfl ?_; clear hm; intro n w hm) | go_values | go_skip | go_guarded | go_step | go_upon | ((with_reducible refine bp ?_); go_back) | ((with_reducible refine up ?_); first | (simp only [Int.not_lt, Int.not_le] at *; go_simp) | (go_values <;> (try go_simp)) | (go_ite <;> go_prune <;> (try go_simp)) | (split <;> (first | (rename_i hx; exact (hx _ rfl).elim) | go_prune))))
    (try simp only [Exit.inBlock, Exit.then])
    (first | (refine ret1 rfl rfl (by (first | exact Res.tmp rfl | exact Res.atw hm rfl | exact Res.at hm rfl)) ?_) | (refine ret2 rfl rfl (by (first | exact Res.tmp rfl | exact Res.atw hm rfl | exact Res.at hm rfl)) (by (first | exact Res.tmp rfl | exact Res.atw hm rfl | exact Res.at hm rfl)) ?_) | (refine ret3 rfl rfl (by (first | exact Res.tmp rfl | exact Res.atw hm rfl | exact Res.at hm rfl)) (by (first | exact Res.tmp rfl | exact Res.atw hm rfl | exact Res.at hm rfl)) (by (first | exact Res.tmp rfl | exact Res.atw hm rfl | exact Res.at hm rfl)) ?_) | (refine ret4 rfl rfl (by (first | exact Res.tmp rfl | exact Res.atw hm rfl | exact Res.at hm rfl)) (by (first | exact Res.tmp rfl | exact Res.atw hm rfl | exact Res.at hm rfl)) (by (first | exact Res.tmp rfl | exact Res.atw hm rfl | exact Res.at hm rfl)) (by (first | exact Res.tmp rfl | exact Res.atw hm rfl | exact Res.at hm rfl)) ?_) | fail "ret")
    exact ⟨rfl, hm.below⟩
set_option maxRecDepth 100000 in
theorem lifted_FnExactDoDeeds (os : Os) (started : os.Started) (H : Type) (enc : TypeId × Value → H) :
    ReturnsInHanded {} Tryz.checked os 3 .any (Rows.fnExactDoDeedsSpec.pre6 enc Tryz.prog Tryz.f3 Rows.fnExactDoDeedsRow.domain false) (Rows.fnExactDoDeedsSpec.post enc Tryz.prog Tryz.f3 false true false false) := by
  refine returnsInHanded_of_change (C := Tryz.checked) own started (by kernel_rfl) Tryz.func3
    (ChangeSpec.witness6 (enc := enc) (C := Tryz.checked) false ⟨#[], #[.agg #[.int .i64 0, .int .i64 0, .int .i64 0, .int .i64 0, .int .i64 0, .int .i64 0, .int .i64 0, .int .i64 0, .int .i64 0, .int .i64 0, .int .i64 0, .int .i64 0, .int .i64 0, .int .i64 0, .int .i64 0, .int .i64 0, .int .i64 0, .int .i64 0], .slice none 0 0], []⟩ 8 (by kernel_rfl) (by kernel_rfl) (by kernel_rfl) (by kernel_rfl)) ?_
  intro W base args ds gs before hval0 hW hcnd _
  have hval : ∀ (j : Nat) t v, Tryz.f3.params[j]? = some t → args[j]? = some v → Value.okWide Tryz.prog W .any base t v := hval0
  have hW' := hW
  obtain ⟨p, q, hA0, hV, rfl, hfz, hnd⟩ := hW
  have hA : DataW.TrodAll enc Tryz.prog W 0 (fun _ => true) true Tryz.f3.params.toList args.toList ds p := hA0
  rw [Tryz.params3] at hA hval
  obtain ⟨v0, vs0, d0, ds0, p0, q0, hargs, rfl, rfl, h0, r0⟩ := trodAll_cons hA
  obtain ⟨v1, vs1, d1, ds1, p1, q1, rfl, rfl, rfl, h1, r1⟩ := trodAll_cons r0
  obtain ⟨rfl, rfl, rfl⟩ := trodAll_nil r1
  obtain rfl : args = #[v0, v1] := by cases args; simp_all
  obtain ⟨rfl, rfl⟩ := trodVars_none hV
  obtain ⟨a0, rfl, l0, w0⟩ := open_row (n := 18) Tryz.underlying3 (by kernel_rfl) (by kernel_rfl) (by kernel_rfl) (hval 0 27 v0 rfl rfl) h0
  obtain ⟨a1, z1, c1, rfl⟩ := okWide_slice Tryz.underlying28 (hval 1 28 v1 rfl rfl)
  clear hA0 hval0
  refine (walk_FnExactDoDeeds W a0 l0 w0 a1 z1 c1 h1).mono fun e W' ⟨he, hb⟩ => ?_
  subst he
  exact ⟨_, rfl, post_law hW' rfl rfl rfl (by kernel_rfl) hb⟩
/-- FnExactDoDeeds: for every input the law returns true, and each argument reads as it read before. No condition. -/
theorem FnExactDoDeeds_holds : Rows.FnExactDoDeedsSaid :=
  OpenClaim.holds_of_wide 3 Tryz.f3 rfl rfl rfl rfl rfl rfl rfl ⟨rfl, rfl, rfl, rfl, rfl⟩ rfl rfl rfl rfl rfl (by kernel_rfl) Tryz.func3 (by kernel_rfl)
    (of_decide_eq_true (by kernel_rfl)) (by unfold Func.isWrapper; first | (rw [if_pos (by decide +kernel)]; kernel_rfl) | (rw [if_neg (by decide +kernel)]; exact ⟨rfl, rfl⟩))
    (fun os started H enc _ => lifted_FnExactDoDeeds os started H enc)
end Go.Proofs.YtelnajpjanmliaaGreat

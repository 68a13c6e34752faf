/-
  BestRoom of the program and of the reference.
-/
import Derived.Test.YtelnajpjanmliaaBest
set_option linter.unusedVariables false
set_option linter.unusedSimpArgs false
namespace Go.Proofs.Ytelnajpjanmliaa
open Go.RowKit Slm
/-- The mean of the room behind a direction. -/
def roomF (b : List Int) (d : Int) : Nat × Nat := meanF roomB (slideB 1 d.toNat b)
theorem roomF_isF {b : List Int} (hl : b.length = 16) (hok : okL b = true) : IsF (roomF b) (movesK 1 b 4) := by
  intro x hx
  obtain ⟨d, rfl, h1, h2, h3⟩ := mem_moves hl hok hx
  exact ⟨by omega, _, _, by rw [Int.toNat_natCast]; omega, rfl⟩
theorem roomF_S {b : List Int} (hl : b.length = 16) (hok : okL b = true) : ∀ d ∈ movesK 1 b 4, FrS (roomF b d) := by
  intro x hx
  obtain ⟨d, rfl, h1, h2, h3⟩ := mem_moves hl hok hx
  have hE := emptyL_len (slideB 1 d b)
  have hb := sumW_bd (f := roomB) (S := slideB 1 d b) (D := 40) (fun p _ => roomB_le _) (plc (slideB 1 d b)).length
  rw [List.take_length] at hb
  have hc := cutF_le (sumW roomB (slideB 1 d b) (plc (slideB 1 d b))) (10 * (emptyL (slideB 1 d b)).length)
  have hp := cutF_pos (x := sumW roomB (slideB 1 d b) (plc (slideB 1 d b))) (n := 10 * (emptyL (slideB 1 d b)).length) (by omega)
  unfold roomF meanF
  rw [Int.toNat_natCast]
  exact ⟨by omega, by omega, hp⟩
/-- BestRoom, told. -/
def bestRV (b : List Int) : (Int × (Nat × Nat)) × Bool := if (okL b && !decide (movesK 1 b 4 = [])) = true then (bestR (roomF b) (movesK 1 b 4), true) else ((0, (0, 0)), false)
theorem impl_isOver (b : List Int) (hl : b.length = 16) (hok : okL b = true) (w : World) : Calls Try.prog 45 #[.agg (nums b)] w fun e w' => e = .returned (.bool (decide (movesK 1 b 4 = []))) ∧ Below w.heap.size w w' := by
  have hM := impl_moves b hl hok
  have h4 := movesK_len 1 b 4
  have he : decide (movesK 1 b 4 = []) = decide ((movesK 1 b 4).length = 0) := by rw [decide_eq_decide, List.length_eq_zero_iff]
  rw [he]
  generalize movesK 1 b 4 = L at *
  have hxl : (L.map iv).length = L.length := List.length_map ..
  generalize L.map iv = X at *
  generalize L.length = k at *
  have HM := Lib.hid hM
  clear hM hok he
  go_enter Try.func45, Try.ntmps45
  have hm := Mem.start w
  simp only [nums_map] at *
  repeat' (first | (go_at_call 87; refine mem_callN hm (HM.out _) ?_; clear hm; intro g more len cap w hm hf hx; obtain rfl : len = k := (by omega); clear hf hx; (try simp only [])) | ((with_reducible refine gix ?_); first | refine mix rfl rfl rfl rfl ?_ | refine mixr rfl rfl rfl rfl ?_; (try simp only [Int.toNat_zero, Int.reduceToNat, Nat.reduceMul, Nat.zero_mul, Nat.one_mul, List.drop_succ_cons, List.drop_zero, List.take_succ_cons, List.take_zero])) | ((with_reducible refine gl ?_); first | refine ml hm rfl rfl rfl ?_ | refine mlw hm rfl rfl rfl ?_ | (refine mlr hm rfl rfl rfl ?_; try simp only [List.drop_succ_cons, List.drop_zero, List.take_succ_cons, List.take_zero])) | ((with_reducible refine gs ?_); (first | refine ms hm rfl rfl rfl rfl rfl ?_ | refine msw hm rfl rfl rfl rfl ?_ | refine msr hm rfl rfl rfl rfl ?_); clear hm; intro w hm; (try simp only [splice, List.set_cons_zero, List.set_cons_succ] at hm)) | ((with_reducible refine gb ?_); (first | refine mem_box hm rfl rfl rfl ?_ | refine mem_box1 hm rfl rfl rfl rfl ?_); clear hm; intro n w hm) | ((with_reducible refine ga ?_); refine mem_alloc hm rfl rfl ?_; clear hm; intro n w hm) | go_values | go_skip | go_guarded | go_step | go_upon | ((with_reducible refine bp ?_); go_back) | ((with_reducible refine up ?_); first | (simp only [Int.not_lt, Int.not_le] at *; go_simp) | (go_values <;> (try go_simp)) | (go_ite <;> go_prune <;> (try go_simp)) | (split <;> (first | (rename_i hx; exact (hx _ rfl).elim) | go_prune))))
  (try simp only [Exit.inBlock, Exit.then])
  (first | (refine ret1 rfl rfl (by (first | exact Res.tmp rfl | exact Res.atw hm rfl | exact Res.at hm rfl)) ?_) | (refine ret2 rfl rfl (by (first | exact Res.tmp rfl | exact Res.atw hm rfl | exact Res.at hm rfl)) (by (first | exact Res.tmp rfl | exact Res.atw hm rfl | exact Res.at hm rfl)) ?_) | (refine ret3 rfl rfl (by (first | exact Res.tmp rfl | exact Res.atw hm rfl | exact Res.at hm rfl)) (by (first | exact Res.tmp rfl | exact Res.atw hm rfl | exact Res.at hm rfl)) (by (first | exact Res.tmp rfl | exact Res.atw hm rfl | exact Res.at hm rfl)) ?_) | (refine ret4 rfl rfl (by (first | exact Res.tmp rfl | exact Res.atw hm rfl | exact Res.at hm rfl)) (by (first | exact Res.tmp rfl | exact Res.atw hm rfl | exact Res.at hm rfl)) (by (first | exact Res.tmp rfl | exact Res.atw hm rfl | exact Res.at hm rfl)) (by (first | exact Res.tmp rfl | exact Res.atw hm rfl | exact Res.at hm rfl)) ?_) | fail "ret")
  exact ⟨congrArg (fun q => Ending.returned (.bool q)) (by rw [Bool.eq_iff_iff]; simp), hm.below⟩
set_option maxHeartbeats 1000000 in
theorem impl_BestRoom (b : List Int) (hl : b.length = 16) (w : World) : Calls Try.prog 18 #[.agg (nums b)] w fun e w' => e = .returned (.tuple #[iv (bestRV b).1.1, frV (bestRV b).1.2, .bool (bestRV b).2]) ∧ Below w.heap.size w w' := by
  have hB := impl_IsBoard b hl
  unfold bestRV
  cases q1 : okL b
  · rw [q1] at hB
    simp only [Bool.false_and, Bool.false_eq_true, if_false, frV]
    have HB := Lib.hid hB
    clear hB q1
    go_enter Try.func18, Try.ntmps18
    have hm := Mem.start w
    simp only [nums_map] at *
    repeat' (first | (go_at_call 44; refine mem_call hm (HB.out _) ?_; clear hm; intro w hm; (try simp only [nums, List.map_cons, List.map_nil])) | ((with_reducible refine gix ?_); first | refine mix rfl rfl rfl rfl ?_ | refine mixr rfl rfl rfl rfl ?_; (try simp only [Int.toNat_zero, Int.reduceToNat, Nat.reduceMul, Nat.zero_mul, Nat.one_mul, List.drop_succ_cons, List.drop_zero, List.take_succ_cons, List.take_zero])) | ((with_reducible refine gl ?_); first | refine ml hm rfl rfl rfl ?_ | refine mlw hm rfl rfl rfl ?_ | (refine mlr hm rfl rfl rfl ?_; try simp only [List.drop_succ_cons, List.drop_zero, List.take_succ_cons, List.take_zero])) | ((with_reducible refine gs ?_); (first | refine ms hm rfl rfl rfl rfl rfl ?_ | refine msw hm rfl rfl rfl rfl ?_ | refine msr hm rfl rfl rfl rfl ?_); clear hm; intro w hm; (try simp only [splice, List.set_cons_zero, List.set_cons_succ] at hm)) | ((with_reducible refine gb ?_); (first | refine mem_box hm rfl rfl rfl ?_ | refine mem_box1 hm rfl rfl rfl rfl ?_); clear hm; intro n w hm) | ((with_reducible refine ga ?_); refine mem_alloc hm rfl rfl ?_; clear hm; intro n w hm) | go_values | go_skip | go_guarded | go_step | go_upon | ((with_reducible refine bp ?_); go_back) | ((with_reducible refine up ?_); first | (simp only [Int.not_lt, Int.not_le] at *; go_simp) | (go_values <;> (try go_simp)) | (go_ite <;> go_prune <;> (try go_simp)) | (split <;> (first | (rename_i hx; exact (hx _ rfl).elim) | go_prune))))
    (try simp only [Exit.inBlock, Exit.then])
    (first | (refine ret1 rfl rfl (by (first | exact Res.tmp rfl | exact Res.atw hm rfl | exact Res.at hm rfl)) ?_) | (refine ret2 rfl rfl (by (first | exact Res.tmp rfl | exact Res.atw hm rfl | exact Res.at hm rfl)) (by (first | exact Res.tmp rfl | exact Res.atw hm rfl | exact Res.at hm rfl)) ?_) | (refine ret3 rfl rfl (by (first | exact Res.tmp rfl | exact Res.atw hm rfl | exact Res.at hm rfl)) (by (first | exact Res.tmp rfl | exact Res.atw hm rfl | exact Res.at hm rfl)) (by (first | exact Res.tmp rfl | exact Res.atw hm rfl | exact Res.at hm rfl)) ?_) | (refine ret4 rfl rfl (by (first | exact Res.tmp rfl | exact Res.atw hm rfl | exact Res.at hm rfl)) (by (first | exact Res.tmp rfl | exact Res.atw hm rfl | exact Res.at hm rfl)) (by (first | exact Res.tmp rfl | exact Res.atw hm rfl | exact Res.at hm rfl)) (by (first | exact Res.tmp rfl | exact Res.atw hm rfl | exact Res.at hm rfl)) ?_) | fail "ret")
    exact ⟨rfl, hm.below⟩
  have hO := impl_isOver b hl q1
  rw [q1] at hB
  cases q2 : decide (movesK 1 b 4 = [])
  · rw [q2] at hO
    simp only [Bool.not_false, Bool.and_self, if_true]
    have hne : movesK 1 b 4 ≠ [] := of_decide_eq_false q2
    obtain ⟨hR, -⟩ := bestI_R (roomF_isF hl q1) hne
    have hMR := fun (wr : World) (d : Nat) (h : d ≤ 3) (hn : slideB 1 d b ≠ b) => impl_meanRoom d h b hl q1 hn wr
    have hBe := fun (w0 w : World) (σ : List Blk) (hm : Mem w0 w σ) => impl_best_room (bv := .agg (b.map iv).toArray) b hl q1 (roomF b) (roomF_S hl q1) hm (fun x hx wr σ' _ hm' => by
      obtain ⟨d, rfl, h1, h2, h3⟩ := mem_moves hl q1 hx
      have h := hMR wr d h1 h2
      simp only [nums_map] at h
      unfold roomF
      rw [Int.toNat_natCast]
      exact h.mono fun e w' ⟨he, hb⟩ => ⟨he, hm'.next hb⟩)
    rw [hR] at hBe
    generalize bestR (roomF b) (movesK 1 b 4) = V at *
    obtain ⟨va, v1, v2⟩ := V
    simp only [frV] at *
    have HB := Lib.hid hB
    have HO := Lib.hid hO
    have HBe := Lib.hid hBe
    clear hB hO hBe hMR q1 q2 hR hne
    go_enter Try.func18, Try.ntmps18
    have hm := Mem.start w
    simp only [nums_map] at *
    repeat' (first | (go_at_call 44; refine mem_call hm (HB.out _) ?_; clear hm; intro w hm; (try simp only [nums, List.map_cons, List.map_nil])) | (go_at_call 45; refine mem_call hm (HO.out _) ?_; clear hm; intro w hm; (try simp only [nums, List.map_cons, List.map_nil])) | (go_at_call 46; refine mem_callM (HBe.out _ _ _ hm) ?_; clear hm; intro w hm; (try simp only [])) | ((with_reducible refine gd ?_); refine mf_start1 3 1 hm (by kernel_rfl) (by kernel_rfl) rfl ?_; apply Exists.intro; intro hne; (repeat (first | ((with_reducible refine gfl ?_); first | refine fl rfl rfl rfl ?_ | refine flw rfl rfl rfl ?_ | (refine flr rfl rfl rfl ?_; try simp only [List.drop_succ_cons, List.drop_zero, List.take_succ_cons, List.take_zero])) | ((with_reducible refine gfs ?_); first | refine fs rfl rfl rfl rfl rfl ?_ | refine fsw rfl rfl rfl rfl ?_ | refine fsr rfl rfl rfl rfl ?_) | (refine wpF_step (by rfl) (hne _ (by decide)) ?_; intro hn K hK; go_simp; (try go_ints); (try simp [↓IntWalk.iteOmega, go_sem]); first | (refine hK _ ?_; clear hK K hn) | (apply Exists.intro; refine ⟨fun _ => ?_, hK _ ?_⟩; (first | fail | fail); clear hK K hn)))); refine wpF_nil ?_; clear hm hne; intro w hm; (try simp only [famEnd, modB, splice, List.set_cons_zero, List.set_cons_succ, set_iv] at hm)) | ((with_reducible refine gix ?_); first | refine mix rfl rfl rfl rfl ?_ | refine mixr rfl rfl rfl rfl ?_; (try simp only [Int.toNat_zero, Int.reduceToNat, Nat.reduceMul, Nat.zero_mul, Nat.one_mul, List.drop_succ_cons, List.drop_zero, List.take_succ_cons, List.take_zero])) | ((with_reducible refine gl ?_); first | refine ml hm rfl rfl rfl ?_ | refine mlw hm rfl rfl rfl ?_ | (refine mlr hm rfl rfl rfl ?_; try simp only [List.drop_succ_cons, List.drop_zero, List.take_succ_cons, List.take_zero])) | ((with_reducible refine gs ?_); (first | refine ms hm rfl rfl rfl rfl rfl ?_ | refine msw hm rfl rfl rfl rfl ?_ | refine msr hm rfl rfl rfl rfl ?_); clear hm; intro w hm; (try simp only [splice, List.set_cons_zero, List.set_cons_succ] at hm)) | ((with_reducible refine gb ?_); (first | refine mem_box hm rfl rfl rfl ?_ | refine mem_box1 hm rfl rfl rfl rfl ?_); clear hm; intro n w hm) | ((with_reducible refine ga ?_); refine mem_alloc hm rfl rfl ?_; clear hm; intro n w hm) | go_values | go_skip | go_guarded | go_step | go_upon | ((with_reducible refine bp ?_); go_back) | ((with_reducible refine up ?_); first | (simp only [Int.not_lt, Int.not_le] at *; go_simp) | (go_values <;> (try go_simp)) | (go_ite <;> go_prune <;> (try go_simp)) | (split <;> (first | (rename_i hx; exact (hx _ rfl).elim) | go_prune))))
    (try simp only [Exit.inBlock, Exit.then])
    (first | (refine ret1 rfl rfl (by (first | exact Res.tmp rfl | exact Res.atw hm rfl | exact Res.at hm rfl)) ?_) | (refine ret2 rfl rfl (by (first | exact Res.tmp rfl | exact Res.atw hm rfl | exact Res.at hm rfl)) (by (first | exact Res.tmp rfl | exact Res.atw hm rfl | exact Res.at hm rfl)) ?_) | (refine ret3 rfl rfl (by (first | exact Res.tmp rfl | exact Res.atw hm rfl | exact Res.at hm rfl)) (by (first | exact Res.tmp rfl | exact Res.atw hm rfl | exact Res.at hm rfl)) (by (first | exact Res.tmp rfl | exact Res.atw hm rfl | exact Res.at hm rfl)) ?_) | (refine ret4 rfl rfl (by (first | exact Res.tmp rfl | exact Res.atw hm rfl | exact Res.at hm rfl)) (by (first | exact Res.tmp rfl | exact Res.atw hm rfl | exact Res.at hm rfl)) (by (first | exact Res.tmp rfl | exact Res.atw hm rfl | exact Res.at hm rfl)) (by (first | exact Res.tmp rfl | exact Res.atw hm rfl | exact Res.at hm rfl)) ?_) | fail "ret")
    exact ⟨rfl, hm.below⟩
  · rw [q2] at hO
    simp only [Bool.not_true, Bool.and_false, Bool.false_eq_true, if_false, frV]
    have HB := Lib.hid hB
    have HO := Lib.hid hO
    clear hB hO q1 q2
    go_enter Try.func18, Try.ntmps18
    have hm := Mem.start w
    simp only [nums_map] at *
    repeat' (first | (go_at_call 44; refine mem_call hm (HB.out _) ?_; clear hm; intro w hm; (try simp only [nums, List.map_cons, List.map_nil])) | (go_at_call 45; refine mem_call hm (HO.out _) ?_; clear hm; intro w hm; (try simp only [nums, List.map_cons, List.map_nil])) | ((with_reducible refine gix ?_); first | refine mix rfl rfl rfl rfl ?_ | refine mixr rfl rfl rfl rfl ?_; (try simp only [Int.toNat_zero, Int.reduceToNat, Nat.reduceMul, Nat.zero_mul, Nat.one_mul, List.drop_succ_cons, List.drop_zero, List.take_succ_cons, List.take_zero])) | ((with_reducible refine gl ?_); first | refine ml hm rfl rfl rfl ?_ | refine mlw hm rfl rfl rfl ?_ | (refine mlr hm rfl rfl rfl ?_; try simp only [List.drop_succ_cons, List.drop_zero, List.take_succ_cons, List.take_zero])) | ((with_reducible refine gs ?_); (first | refine ms hm rfl rfl rfl rfl rfl ?_ | refine msw hm rfl rfl rfl rfl ?_ | refine msr hm rfl rfl rfl rfl ?_); clear hm; intro w hm; (try simp only [splice, List.set_cons_zero, List.set_cons_succ] at hm)) | ((with_reducible refine gb ?_); (first | refine mem_box hm rfl rfl rfl ?_ | refine mem_box1 hm rfl rfl rfl rfl ?_); clear hm; intro n w hm) | ((with_reducible refine ga ?_); refine mem_alloc hm rfl rfl ?_; clear hm; intro n w hm) | go_values | go_skip | go_guarded | go_step | go_upon | ((with_reducible refine bp ?_); go_back) | ((with_reducible refine up ?_); first | (simp only [Int.not_lt, Int.not_le] at *; go_simp) | (go_values <;> (try go_simp)) | (go_ite <;> go_prune <;> (try go_simp)) | (split <;> (first | (rename_i hx; exact (hx _ rfl).elim) | go_prune))))
    (try simp only [Exit.inBlock, Exit.then])
    (first | (refine ret1 rfl rfl (by (first | exact Res.tmp rfl | exact Res.atw hm rfl | exact Res.at hm rfl)) ?_) | (refine ret2 rfl rfl (by (first | exact Res.tmp rfl | exact Res.atw hm rfl | exact Res.at hm rfl)) (by (first | exact Res.tmp rfl | exact Res.atw hm rfl | exact Res.at hm rfl)) ?_) | (refine ret3 rfl rfl (by (first | exact Res.tmp rfl | exact Res.atw hm rfl | exact Res.at hm rfl)) (by (first | exact Res.tmp rfl | exact Res.atw hm rfl | exact Res.at hm rfl)) (by (first | exact Res.tmp rfl | exact Res.atw hm rfl | exact Res.at hm rfl)) ?_) | (refine ret4 rfl rfl (by (first | exact Res.tmp rfl | exact Res.atw hm rfl | exact Res.at hm rfl)) (by (first | exact Res.tmp rfl | exact Res.atw hm rfl | exact Res.at hm rfl)) (by (first | exact Res.tmp rfl | exact Res.atw hm rfl | exact Res.at hm rfl)) (by (first | exact Res.tmp rfl | exact Res.atw hm rfl | exact Res.at hm rfl)) ?_) | fail "ret")
    exact ⟨rfl, hm.below⟩
def stR9 (g : Int → Nat × Nat) (l : List Int) (k : Nat) : Int × (Nat × Nat) := (l.take k).foldl (bstR g) (0, (0, 0))
theorem stR9_succ (g : Int → Nat × Nat) {l : List Int} {k : Nat} (h : k < l.length) : stR9 g l (k + 1) = bstR g (stR9 g l k) l[k] := fold_take _ _ h
theorem stR9_end (g : Int → Nat × Nat) (l : List Int) : stR9 g l l.length = bestR g l := by rw [stR9, List.take_length, bestR]
theorem stR9_S {g : Int → Nat × Nat} {l : List Int} (h : ∀ d ∈ l, FrS (g d)) : ∀ k, (stR9 g l k).2 = (0, 0) ∨ FrS (stR9 g l k).2
  | 0 => .inl rfl
  | k + 1 => by
    by_cases hk : k < l.length
    · rw [stR9_succ g hk, bstR]
      split
      · exact .inr (h _ (List.getElem_mem hk))
      · exact stR9_S h k
    · have e : stR9 g l (k + 1) = stR9 g l k := by rw [stR9, stR9, List.take_of_length_le (by omega), List.take_of_length_le (by omega)]
      rw [e]
      exact stR9_S h k
set_option maxHeartbeats 1000000 in
theorem spec_BestRoom (b : List Int) (hl : b.length = 16) (w0 : World) : Calls Try.prog 17 #[.agg (nums b)] w0 fun e w' => e = .returned (.tuple #[iv (bestRV b).1.1, frV (bestRV b).1.2, .bool (bestRV b).2]) ∧ Below w0.heap.size w0 w' := by
  have hB := spec_l2Board b hl
  cases q1 : okL b
  · have e : bestRV b = ((0, (0, 0)), false) := by simp [bestRV, q1]
    rw [q1] at hB
    rw [e]
    simp only [frV]
    have HB := Lib.hid hB
    clear hB q1 e
    go_enter Try.func17, Try.ntmps17
    have hm := Mem.start w0
    simp only [nums_map] at *
    repeat' (first | (go_at_call 41; refine mem_call hm (HB.out _) ?_; clear hm; intro w hm; (try simp only [nums, List.map_cons, List.map_nil])) | ((with_reducible refine gix ?_); first | refine mix rfl rfl rfl rfl ?_ | refine mixr rfl rfl rfl rfl ?_; (try simp only [Int.toNat_zero, Int.reduceToNat, Nat.reduceMul, Nat.zero_mul, Nat.one_mul, List.drop_succ_cons, List.drop_zero, List.take_succ_cons, List.take_zero])) | ((with_reducible refine gl ?_); first | refine ml hm rfl rfl rfl ?_ | refine mlw hm rfl rfl rfl ?_ | (refine mlr hm rfl rfl rfl ?_; try simp only [List.drop_succ_cons, List.drop_zero, List.take_succ_cons, List.take_zero])) | ((with_reducible refine gs ?_); (first | refine ms hm rfl rfl rfl rfl rfl ?_ | refine msw hm rfl rfl rfl rfl ?_ | refine msr hm rfl rfl rfl rfl ?_); clear hm; intro w hm; (try simp only [splice, List.set_cons_zero, List.set_cons_succ] at hm)) | ((with_reducible refine gb ?_); (first | refine mem_box hm rfl rfl rfl ?_ | refine mem_box1 hm rfl rfl rfl rfl ?_); clear hm; intro n w hm) | ((with_reducible refine ga ?_); refine mem_alloc hm rfl rfl ?_; clear hm; intro n w hm) | go_values | go_skip | go_guarded | go_step | go_upon | ((with_reducible refine bp ?_); go_back) | ((with_reducible refine up ?_); first | (simp only [Int.not_lt, Int.not_le] at *; go_simp) | (go_values <;> (try go_simp)) | (go_ite <;> go_prune <;> (try go_simp)) | (split <;> (first | (rename_i hx; exact (hx _ rfl).elim) | go_prune))))
    (try simp only [Exit.inBlock, Exit.then])
    (first | (refine ret1 rfl rfl (by (first | exact Res.tmp rfl | exact Res.atw hm rfl | exact Res.at hm rfl)) ?_) | (refine ret2 rfl rfl (by (first | exact Res.tmp rfl | exact Res.atw hm rfl | exact Res.at hm rfl)) (by (first | exact Res.tmp rfl | exact Res.atw hm rfl | exact Res.at hm rfl)) ?_) | (refine ret3 rfl rfl (by (first | exact Res.tmp rfl | exact Res.atw hm rfl | exact Res.at hm rfl)) (by (first | exact Res.tmp rfl | exact Res.atw hm rfl | exact Res.at hm rfl)) (by (first | exact Res.tmp rfl | exact Res.atw hm rfl | exact Res.at hm rfl)) ?_) | (refine ret4 rfl rfl (by (first | exact Res.tmp rfl | exact Res.atw hm rfl | exact Res.at hm rfl)) (by (first | exact Res.tmp rfl | exact Res.atw hm rfl | exact Res.at hm rfl)) (by (first | exact Res.tmp rfl | exact Res.atw hm rfl | exact Res.at hm rfl)) (by (first | exact Res.tmp rfl | exact Res.atw hm rfl | exact Res.at hm rfl)) ?_) | fail "ret")
    exact ⟨rfl, hm.below⟩
  have e : bestRV b = (bestR (roomF b) (movesK 1 b 4), !decide (movesK 1 b 4 = [])) := by
    simp only [bestRV, q1, Bool.true_and]
    by_cases h : movesK 1 b 4 = []
    · simp [h, bestR]
    · simp [h]
  rw [e]
  have hM := spec_l2Moves b hl q1
  have h4 := movesK_len 1 b 4
  have hMv := fun (x : Int) (h : x ∈ movesK 1 b 4) => mem_moves hl q1 h
  have hMR : ∀ (x : Int), x ∈ movesK 1 b 4 → ∀ wr : World, Calls Try.prog 38 #[.agg (nums b), iv x] wr fun e w' => e = .returned (frV (roomF b x)) ∧ Below wr.heap.size wr w' := by
    intro x h wr
    obtain ⟨d, rfl, h1, h2, h3⟩ := mem_moves hl q1 h
    have h := spec_l9MeanRoom d h1 b hl q1 h2 wr
    unfold roomF
    rw [Int.toNat_natCast]
    exact h
  have hlen : (!decide (movesK 1 b 4 = [])) = decide (0 < (movesK 1 b 4).length) := by
    cases movesK 1 b 4 <;> simp
  rw [hlen]
  rw [← stR9_end]
  have hs0 : stR9 (roomF b) (movesK 1 b 4) 0 = (0, (0, 0)) := rfl
  have hsS := fun (k : Nat) (h : k < (movesK 1 b 4).length) => stR9_succ (roomF b) h
  have hS := roomF_S hl q1
  have hsF := stR9_S hS
  rw [q1] at hB
  generalize stR9 (roomF b) (movesK 1 b 4) = st at *
  generalize movesK 1 b 4 = L at *
  generalize roomF b = fg at *
  have HB := Lib.hid hB
  have HM := Lib.hid hM
  have HMR := Lib.hid hMR
  have HsS := Lib.hid hsS
  have HsF := Lib.hid hsF
  have HS := Lib.hid hS
  clear hB hM hMR hsS hsF hS q1 e hMv hlen
  go_enter Try.func17, Try.ntmps17
  have hm := Mem.start w0
  simp only [nums_map] at *
  repeat' (first | (go_at_call 41; refine mem_call hm (HB.out _) ?_; clear hm; intro w hm; (try simp only [nums, List.map_cons, List.map_nil])) | (go_at_call 42; refine mem_callN hm (HM.out _) ?_; clear hm; intro g more len cap w hm hf hx; (try simp only [])) | ((with_reducible refine gix ?_); first | refine mix rfl rfl rfl rfl ?_ | refine mixr rfl rfl rfl rfl ?_; (try simp only [Int.toNat_zero, Int.reduceToNat, Nat.reduceMul, Nat.zero_mul, Nat.one_mul, List.drop_succ_cons, List.drop_zero, List.take_succ_cons, List.take_zero])) | ((with_reducible refine gl ?_); first | refine ml hm rfl rfl rfl ?_ | refine mlw hm rfl rfl rfl ?_ | (refine mlr hm rfl rfl rfl ?_; try simp only [List.drop_succ_cons, List.drop_zero, List.take_succ_cons, List.take_zero])) | ((with_reducible refine gs ?_); (first | refine ms hm rfl rfl rfl rfl rfl ?_ | refine msw hm rfl rfl rfl rfl ?_ | refine msr hm rfl rfl rfl rfl ?_); clear hm; intro w hm; (try simp only [splice, List.set_cons_zero, List.set_cons_succ] at hm)) | ((with_reducible refine gb ?_); (first | refine mem_box hm rfl rfl rfl ?_ | refine mem_box1 hm rfl rfl rfl rfl ?_); clear hm; intro n w hm) | ((with_reducible refine ga ?_); refine mem_alloc hm rfl rfl ?_; clear hm; intro n w hm) | go_values | go_skip | go_guarded | go_step | go_upon | ((with_reducible refine bp ?_); go_back) | ((with_reducible refine up ?_); first | (simp only [Int.not_lt, Int.not_le] at *; go_simp) | (go_values <;> (try go_simp)) | (go_ite <;> go_prune <;> (try go_simp)) | (split <;> (first | (rename_i hx; exact (hx _ rfl).elim) | go_prune))))
  obtain rfl : len = L.length := by simp at hx; omega
  clear hf hx
  obtain ⟨τ, hτ, hm⟩ := Mem.sig hm
  go_loopw [6, 8] (fun at9 ix wr => ∃ k : Nat, k ≤ L.length ∧ ix = iv k ∧ at9 = iv (st k).1 ∧ Mem w0 wr (modB τ 0 [iv ((st k).2.1 : Nat), iv ((st k).2.2 : Nat)])) (fun _ ix _ => L.length - (intOf ix).toNat)
  case atStart => exact ⟨0, by omega, rfl, by rw [hs0], by rw [hs0]; subst hτ; exact hm⟩
  case round =>
    clear hm
    obtain ⟨k, hk, rfl, rfl, hm⟩ := hrel
    subst hτ
    simp only [modB] at hm
    by_cases hlt : k < L.length
    · have hpm : L[k] ∈ L := List.getElem_mem hlt
      have hv : (L.map iv ++ more)[k]? = some (iv L[k]) := by rw [List.getElem?_append_left (by simpa using hlt), List.getElem?_map, List.getElem?_eq_getElem hlt]; rfl
      have hxl : (L.map iv ++ more).length = L.length + more.length := by rw [List.length_append, List.length_map]
      have hCk := HMR.out L[k] hpm
      have hsk := HsS.out k hlt
      have hsf := HsF.out k
      have hgS := HS.out L[k] hpm
      rw [bstR] at hsk
      clear hpm
      generalize L[k] = x at *
      generalize hgx : fg x = gx at *
      clear hgx
      generalize hs1 : st (k + 1) = s1 at *
      have HS1 : Unit → Hid _ := fun _ => Lib.hid hs1
      clear hs1
      generalize st k = s at *
      generalize L.map iv ++ more = cs at *
      obtain ⟨sa, m0, m1⟩ := s
      obtain ⟨x0, x1⟩ := gx
      simp only at hsk hm hsf
      unfold frV at hCk
      simp only at hCk
      have HCk := Lib.hid hCk
      clear hCk
      by_cases hneg : m1 = 0
      · subst hneg
        rw [if_pos (.inl rfl)] at hsk
        subst hsk
        clear hsf hgS
        repeat' (first | (with_reducible rw [hv]) | ((with_reducible refine gd ?_); refine wp_region_var 6 7 9 40 hm (by kernel_rfl) (by decide +kernel) (by decide +kernel) rfl ?_; refine ⟨[iv x0, iv x1], ?_⟩; have hne := MS.any hm; (repeat (first | (refine nAv (by decide) rfl rfl ?_) | (refine nSv (by decide) (by decide) rfl rfl rfl (by intro d h; cases h; decide) (Nat.le_of_ble_eq_true rfl) ?_) | (refine nlate (Nat.ne_of_beq_eq_false rfl) (Nat.ne_of_beq_eq_false rfl) (by rfl) ?_; apply Exists.intro; refine ⟨fun p => ?_, ?_⟩; focus (refine ⟨by rfl, fun w hm => ?_⟩; go_simp; (try refine ⟨rfl, ?_⟩); first | done | exact ⟨rfl, rfl⟩ | rfl)) | (with_reducible rw [hv]) | (go_at_call 38; exact (HCk.out _)) | ((with_reducible refine gnl ?_); first | refine nl rfl rfl rfl ?_ | refine nlw rfl rfl rfl ?_ | (refine nlr rfl rfl rfl ?_; try simp only [List.drop_succ_cons, List.drop_zero, List.take_succ_cons, List.take_zero])) | (refine nstep (Nat.ne_of_beq_eq_false rfl) (Nat.ne_of_beq_eq_false rfl) (by rfl) hne ?_; intro hn K hK; go_simp; (try go_ints); (try simp [↓IntWalk.iteOmega, go_sem]); first | (refine hK _ ?_; clear hK K hn) | (apply Exists.intro; refine ⟨fun _ => ?_, hK _ ?_⟩; (first | (refine nAv (by decide) rfl rfl ?_) | (refine nSv (by decide) (by decide) rfl rfl rfl (by intro d h; cases h; decide) (Nat.le_of_ble_eq_true rfl) ?_) | (refine nlate (Nat.ne_of_beq_eq_false rfl) (Nat.ne_of_beq_eq_false rfl) (by rfl) ?_; apply Exists.intro; refine ⟨fun p => ?_, ?_⟩; focus (refine ⟨by rfl, fun w hm => ?_⟩; go_simp; (try refine ⟨rfl, ?_⟩); first | done | exact ⟨rfl, rfl⟩ | rfl)) | (with_reducible rw [hv]) | (go_at_call 38; exact (HCk.out _)) | fail); clear hK K hn)))); refine nnil ?_; clear hm hne; intro n w hm; (try simp only [Act.put, List.setIfInBounds_toArray, List.set_cons_zero, List.set_cons_succ])) | ((with_reducible refine gix ?_); first | refine mix rfl rfl rfl rfl ?_ | refine mixr rfl rfl rfl rfl ?_; (try simp only [Int.toNat_zero, Int.reduceToNat, Nat.reduceMul, Nat.zero_mul, Nat.one_mul, List.drop_succ_cons, List.drop_zero, List.take_succ_cons, List.take_zero])) | ((with_reducible refine gl ?_); first | refine ml hm rfl rfl rfl ?_ | refine mlw hm rfl rfl rfl ?_ | (refine mlr hm rfl rfl rfl ?_; try simp only [List.drop_succ_cons, List.drop_zero, List.take_succ_cons, List.take_zero])) | ((with_reducible refine gs ?_); (first | refine ms hm rfl rfl rfl rfl rfl ?_ | refine msw hm rfl rfl rfl rfl ?_ | refine msr hm rfl rfl rfl rfl ?_); clear hm; intro w hm; (try simp only [splice, List.set_cons_zero, List.set_cons_succ] at hm)) | ((with_reducible refine gb ?_); (first | refine mem_box hm rfl rfl rfl ?_ | refine mem_box1 hm rfl rfl rfl rfl ?_); clear hm; intro n w hm) | ((with_reducible refine ga ?_); refine mem_alloc hm rfl rfl ?_; clear hm; intro n w hm) | go_values | go_skip | go_guarded | go_step | go_upon | ((with_reducible refine bp ?_); go_back) | ((with_reducible refine up ?_); first | (simp only [Int.not_lt, Int.not_le] at *; go_simp) | (go_values <;> (try go_simp)) | (go_ite <;> go_prune <;> (try go_simp)) | (split <;> (first | (rename_i hx; exact (hx _ rfl).elim) | go_prune))))
        go_roundw
        case rel => (try (first | ((repeat apply Exists.intro); refine ⟨?_, rfl⟩) | (repeat refine ex_any ?_))); exact ⟨k + 1, by omega, by go_num, by rw [(HS1 ()).out], by simp only [modB]; rw [(HS1 ()).out]; exact hm.drop (by repeat (first | exact List.Sublist.refl _ | refine List.Sublist.cons _ ?_))⟩
        case measure => simp [intOf]; omega
      · have hFB : FrB (m0, m1) (x0, x1) := by
          rcases hsf with h | h
          · simp only [Prod.mk.injEq] at h; exact absurd h.2 hneg
          · exact h.both hgS
        have hLs := spec_l9Less _ _ hFB
        unfold frV at hLs
        simp only at hLs
        clear hFB hsf hgS
        have hneg2 : ¬ (m1 : Int) = 0 := by omega
        have hneg3 : ((m1 : Int) == 0) = false := by simpa using hneg
        cases hq : lessF (m0, m1) (x0, x1)
        · rw [if_neg (by rw [hq]; simp; omega)] at hsk
          subst hsk
          rw [hq] at hLs
          have HL := Lib.hid hLs
          clear hLs hq
          repeat' (first | (with_reducible rw [hv]) | ((with_reducible refine gd ?_); refine wp_region_var 6 7 9 40 hm (by kernel_rfl) (by decide +kernel) (by decide +kernel) rfl ?_; refine ⟨[iv x0, iv x1], ?_⟩; have hne := MS.any hm; (repeat (first | (refine nAv (by decide) rfl rfl ?_) | (refine nSv (by decide) (by decide) rfl rfl rfl (by intro d h; cases h; decide) (Nat.le_of_ble_eq_true rfl) ?_) | (refine nlate (Nat.ne_of_beq_eq_false rfl) (Nat.ne_of_beq_eq_false rfl) (by rfl) ?_; apply Exists.intro; refine ⟨fun p => ?_, ?_⟩; focus (refine ⟨by rfl, fun w hm => ?_⟩; go_simp; (try refine ⟨rfl, ?_⟩); first | done | exact ⟨rfl, rfl⟩ | rfl)) | (with_reducible rw [hv]) | (go_at_call 38; exact (HCk.out _)) | ((with_reducible refine gnl ?_); first | refine nl rfl rfl rfl ?_ | refine nlw rfl rfl rfl ?_ | (refine nlr rfl rfl rfl ?_; try simp only [List.drop_succ_cons, List.drop_zero, List.take_succ_cons, List.take_zero])) | (refine nstep (Nat.ne_of_beq_eq_false rfl) (Nat.ne_of_beq_eq_false rfl) (by rfl) hne ?_; intro hn K hK; go_simp; (try go_ints); (try simp [↓IntWalk.iteOmega, go_sem]); first | (refine hK _ ?_; clear hK K hn) | (apply Exists.intro; refine ⟨fun _ => ?_, hK _ ?_⟩; (first | (refine nAv (by decide) rfl rfl ?_) | (refine nSv (by decide) (by decide) rfl rfl rfl (by intro d h; cases h; decide) (Nat.le_of_ble_eq_true rfl) ?_) | (refine nlate (Nat.ne_of_beq_eq_false rfl) (Nat.ne_of_beq_eq_false rfl) (by rfl) ?_; apply Exists.intro; refine ⟨fun p => ?_, ?_⟩; focus (refine ⟨by rfl, fun w hm => ?_⟩; go_simp; (try refine ⟨rfl, ?_⟩); first | done | exact ⟨rfl, rfl⟩ | rfl)) | (with_reducible rw [hv]) | (go_at_call 38; exact (HCk.out _)) | fail); clear hK K hn)))); refine nnil ?_; clear hm hne; intro n w hm; (try simp only [Act.put, List.setIfInBounds_toArray, List.set_cons_zero, List.set_cons_succ])) | (go_at_call 43; refine mem_call hm (HL.out _) ?_; clear hm; intro w hm; (try simp only [nums, List.map_cons, List.map_nil])) | ((with_reducible refine gix ?_); first | refine mix rfl rfl rfl rfl ?_ | refine mixr rfl rfl rfl rfl ?_; (try simp only [Int.toNat_zero, Int.reduceToNat, Nat.reduceMul, Nat.zero_mul, Nat.one_mul, List.drop_succ_cons, List.drop_zero, List.take_succ_cons, List.take_zero])) | ((with_reducible refine gl ?_); first | refine ml hm rfl rfl rfl ?_ | refine mlw hm rfl rfl rfl ?_ | (refine mlr hm rfl rfl rfl ?_; try simp only [List.drop_succ_cons, List.drop_zero, List.take_succ_cons, List.take_zero])) | ((with_reducible refine gs ?_); (first | refine ms hm rfl rfl rfl rfl rfl ?_ | refine msw hm rfl rfl rfl rfl ?_ | refine msr hm rfl rfl rfl rfl ?_); clear hm; intro w hm; (try simp only [splice, List.set_cons_zero, List.set_cons_succ] at hm)) | ((with_reducible refine gb ?_); (first | refine mem_box hm rfl rfl rfl ?_ | refine mem_box1 hm rfl rfl rfl rfl ?_); clear hm; intro n w hm) | ((with_reducible refine ga ?_); refine mem_alloc hm rfl rfl ?_; clear hm; intro n w hm) | go_values | go_skip | go_guarded | go_step | go_upon | ((with_reducible refine bp ?_); go_back) | ((with_reducible refine up ?_); first | (simp only [Int.not_lt, Int.not_le] at *; go_simp) | (go_values <;> (try go_simp)) | (go_ite <;> go_prune <;> (try go_simp)) | (split <;> (first | (rename_i hx; exact (hx _ rfl).elim) | go_prune))))
          go_roundw
          case rel => (try (first | ((repeat apply Exists.intro); refine ⟨?_, rfl⟩) | (repeat refine ex_any ?_))); exact ⟨k + 1, by omega, by go_num, by rw [(HS1 ()).out], by simp only [modB]; rw [(HS1 ()).out]; exact hm.drop (by repeat (first | exact List.Sublist.refl _ | refine List.Sublist.cons _ ?_))⟩
          case measure => simp [intOf]; omega
        · rw [if_pos (.inr hq)] at hsk
          subst hsk
          rw [hq] at hLs
          have HL := Lib.hid hLs
          clear hLs hq
          repeat' (first | (with_reducible rw [hv]) | ((with_reducible refine gd ?_); refine wp_region_var 6 7 9 40 hm (by kernel_rfl) (by decide +kernel) (by decide +kernel) rfl ?_; refine ⟨[iv x0, iv x1], ?_⟩; have hne := MS.any hm; (repeat (first | (refine nAv (by decide) rfl rfl ?_) | (refine nSv (by decide) (by decide) rfl rfl rfl (by intro d h; cases h; decide) (Nat.le_of_ble_eq_true rfl) ?_) | (refine nlate (Nat.ne_of_beq_eq_false rfl) (Nat.ne_of_beq_eq_false rfl) (by rfl) ?_; apply Exists.intro; refine ⟨fun p => ?_, ?_⟩; focus (refine ⟨by rfl, fun w hm => ?_⟩; go_simp; (try refine ⟨rfl, ?_⟩); first | done | exact ⟨rfl, rfl⟩ | rfl)) | (with_reducible rw [hv]) | (go_at_call 38; exact (HCk.out _)) | ((with_reducible refine gnl ?_); first | refine nl rfl rfl rfl ?_ | refine nlw rfl rfl rfl ?_ | (refine nlr rfl rfl rfl ?_; try simp only [List.drop_succ_cons, List.drop_zero, List.take_succ_cons, List.take_zero])) | (refine nstep (Nat.ne_of_beq_eq_false rfl) (Nat.ne_of_beq_eq_false rfl) (by rfl) hne ?_; intro hn K hK; go_simp; (try go_ints); (try simp [↓IntWalk.iteOmega, go_sem]); first | (refine hK _ ?_; clear hK K hn) | (apply Exists.intro; refine ⟨fun _ => ?_, hK _ ?_⟩; (first | (refine nAv (by decide) rfl rfl ?_) | (refine nSv (by decide) (by decide) rfl rfl rfl (by intro d h; cases h; decide) (Nat.le_of_ble_eq_true rfl) ?_) | (refine nlate (Nat.ne_of_beq_eq_false rfl) (Nat.ne_of_beq_eq_false rfl) (by rfl) ?_; apply Exists.intro; refine ⟨fun p => ?_, ?_⟩; focus (refine ⟨by rfl, fun w hm => ?_⟩; go_simp; (try refine ⟨rfl, ?_⟩); first | done | exact ⟨rfl, rfl⟩ | rfl)) | (with_reducible rw [hv]) | (go_at_call 38; exact (HCk.out _)) | fail); clear hK K hn)))); refine nnil ?_; clear hm hne; intro n w hm; (try simp only [Act.put, List.setIfInBounds_toArray, List.set_cons_zero, List.set_cons_succ])) | (go_at_call 43; refine mem_call hm (HL.out _) ?_; clear hm; intro w hm; (try simp only [nums, List.map_cons, List.map_nil])) | ((with_reducible refine gix ?_); first | refine mix rfl rfl rfl rfl ?_ | refine mixr rfl rfl rfl rfl ?_; (try simp only [Int.toNat_zero, Int.reduceToNat, Nat.reduceMul, Nat.zero_mul, Nat.one_mul, List.drop_succ_cons, List.drop_zero, List.take_succ_cons, List.take_zero])) | ((with_reducible refine gl ?_); first | refine ml hm rfl rfl rfl ?_ | refine mlw hm rfl rfl rfl ?_ | (refine mlr hm rfl rfl rfl ?_; try simp only [List.drop_succ_cons, List.drop_zero, List.take_succ_cons, List.take_zero])) | ((with_reducible refine gs ?_); (first | refine ms hm rfl rfl rfl rfl rfl ?_ | refine msw hm rfl rfl rfl rfl ?_ | refine msr hm rfl rfl rfl rfl ?_); clear hm; intro w hm; (try simp only [splice, List.set_cons_zero, List.set_cons_succ] at hm)) | ((with_reducible refine gb ?_); (first | refine mem_box hm rfl rfl rfl ?_ | refine mem_box1 hm rfl rfl rfl rfl ?_); clear hm; intro n w hm) | ((with_reducible refine ga ?_); refine mem_alloc hm rfl rfl ?_; clear hm; intro n w hm) | go_values | go_skip | go_guarded | go_step | go_upon | ((with_reducible refine bp ?_); go_back) | ((with_reducible refine up ?_); first | (simp only [Int.not_lt, Int.not_le] at *; go_simp) | (go_values <;> (try go_simp)) | (go_ite <;> go_prune <;> (try go_simp)) | (split <;> (first | (rename_i hx; exact (hx _ rfl).elim) | go_prune))))
          go_roundw
          case rel => (try (first | ((repeat apply Exists.intro); refine ⟨?_, rfl⟩) | (repeat refine ex_any ?_))); exact ⟨k + 1, by omega, by go_num, by rw [(HS1 ()).out], by simp only [modB]; rw [(HS1 ()).out]; exact hm.drop (by repeat (first | exact List.Sublist.refl _ | refine List.Sublist.cons _ ?_))⟩
          case measure => simp [intOf]; omega
    · obtain rfl : k = L.length := by omega
      generalize hss : st L.length = s at *
      have HSS : Unit → Hid _ := fun _ => Lib.hid hss
      clear hss
      obtain ⟨sa, m0, m1⟩ := s
      simp only at hm
      repeat' (first | ((with_reducible refine gd ?_); refine mf_start1 6 2 hm (by kernel_rfl) (by kernel_rfl) rfl ?_; apply Exists.intro; intro hne; (repeat (first | ((with_reducible refine gfl ?_); first | refine fl rfl rfl rfl ?_ | refine flw rfl rfl rfl ?_ | (refine flr rfl rfl rfl ?_; try simp only [List.drop_succ_cons, List.drop_zero, List.take_succ_cons, List.take_zero])) | ((with_reducible refine gfs ?_); first | refine fs rfl rfl rfl rfl rfl ?_ | refine fsw rfl rfl rfl rfl ?_ | refine fsr rfl rfl rfl rfl ?_) | (refine wpF_step (by rfl) (hne _ (by decide)) ?_; intro hn K hK; go_simp; (try go_ints); (try simp [↓IntWalk.iteOmega, go_sem]); first | (refine hK _ ?_; clear hK K hn) | (apply Exists.intro; refine ⟨fun _ => ?_, hK _ ?_⟩; (first | fail | fail); clear hK K hn)))); refine wpF_nil ?_; clear hm hne; intro w hm; (try simp only [famEnd, modB, splice, List.set_cons_zero, List.set_cons_succ, set_iv] at hm)) | ((with_reducible refine gix ?_); first | refine mix rfl rfl rfl rfl ?_ | refine mixr rfl rfl rfl rfl ?_; (try simp only [Int.toNat_zero, Int.reduceToNat, Nat.reduceMul, Nat.zero_mul, Nat.one_mul, List.drop_succ_cons, List.drop_zero, List.take_succ_cons, List.take_zero])) | ((with_reducible refine gl ?_); first | refine ml hm rfl rfl rfl ?_ | refine mlw hm rfl rfl rfl ?_ | (refine mlr hm rfl rfl rfl ?_; try simp only [List.drop_succ_cons, List.drop_zero, List.take_succ_cons, List.take_zero])) | ((with_reducible refine gs ?_); (first | refine ms hm rfl rfl rfl rfl rfl ?_ | refine msw hm rfl rfl rfl rfl ?_ | refine msr hm rfl rfl rfl rfl ?_); clear hm; intro w hm; (try simp only [splice, List.set_cons_zero, List.set_cons_succ] at hm)) | ((with_reducible refine gb ?_); (first | refine mem_box hm rfl rfl rfl ?_ | refine mem_box1 hm rfl rfl rfl rfl ?_); clear hm; intro n w hm) | ((with_reducible refine ga ?_); refine mem_alloc hm rfl rfl ?_; clear hm; intro n w hm) | go_values | go_skip | go_guarded | go_step | go_upon | ((with_reducible refine bp ?_); go_back) | ((with_reducible refine up ?_); first | (simp only [Int.not_lt, Int.not_le] at *; go_simp) | (go_values <;> (try go_simp)) | (go_ite <;> go_prune <;> (try go_simp)) | (split <;> (first | (rename_i hx; exact (hx _ rfl).elim) | go_prune))))
      (try simp only [Exit.inBlock, Exit.then])
      (first | (refine ret1 rfl rfl (by (first | exact Res.tmp rfl | exact Res.atw hm rfl | exact Res.at hm rfl)) ?_) | (refine ret2 rfl rfl (by (first | exact Res.tmp rfl | exact Res.atw hm rfl | exact Res.at hm rfl)) (by (first | exact Res.tmp rfl | exact Res.atw hm rfl | exact Res.at hm rfl)) ?_) | (refine ret3 rfl rfl (by (first | exact Res.tmp rfl | exact Res.atw hm rfl | exact Res.at hm rfl)) (by (first | exact Res.tmp rfl | exact Res.atw hm rfl | exact Res.at hm rfl)) (by (first | exact Res.tmp rfl | exact Res.atw hm rfl | exact Res.at hm rfl)) ?_) | (refine ret4 rfl rfl (by (first | exact Res.tmp rfl | exact Res.atw hm rfl | exact Res.at hm rfl)) (by (first | exact Res.tmp rfl | exact Res.atw hm rfl | exact Res.at hm rfl)) (by (first | exact Res.tmp rfl | exact Res.atw hm rfl | exact Res.at hm rfl)) (by (first | exact Res.tmp rfl | exact Res.atw hm rfl | exact Res.at hm rfl)) ?_) | fail "ret")
      rw [(HSS ()).out]
      exact ⟨by first | rfl | simp [frV], hm.below⟩
end Go.Proofs.Ytelnajpjanmliaa

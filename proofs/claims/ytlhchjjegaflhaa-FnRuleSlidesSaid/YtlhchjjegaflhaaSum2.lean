/-
  Walks of SumBy, and of potentials.
-/
import Derived.Test.YtlhchjjegaflhaaSum
import Derived.Test.YtlhchjjegaflhaaFlat
set_option linter.unusedVariables false
set_option linter.unusedSimpArgs false
namespace Go.Proofs.Ytlhchjjegaflhaa
open Go.RowKit Slm
theorem sumK_succ (f : Int → Int) (b : List Int) (n : Nat) : sumK f b (n + 1) = sumK f b n + if 0 < atL b n then f (atL b n) else 0 := rfl
theorem flat_get {b : List Int} {k : Nat} (h : k < b.length) (more : List Value) : (b.map iv ++ more)[k]? = some (iv (atL b k)) := by
  rw [List.getElem?_append_left (by simpa using h)]; exact get_iv h
theorem impl_SumBy (b : List Int) (hl : b.length = 16) (rule : Int) (w0 : World) : Calls Try.prog 28 #[.agg (nums b), iv rule] w0 fun e w' => e = .returned (.tuple #[iv (sumByV b rule).1, .bool (sumByV b rule).2]) ∧ Below w0.heap.size w0 w' := by
  have hB := impl_IsBoard b hl
  have hR := impl_isRule rule
  have q1 : okL b = true ∨ okL b = false := by cases okL b <;> simp
  have q3 : inB rule 1 4 = true ∨ inB rule 1 4 = false := by cases inB rule 1 4 <;> simp
  rcases q1 with q1 | q1 <;> rcases q3 with q3 | q3
  case inl.inl =>
    have hv : sumByV b rule = (sumK (worthZ rule) b 16, true) := by simp [sumByV, q1, q3]
    rw [hv]
    rw [q1] at hB
    rw [q3] at hR
    have hF := impl_flat b hl
    have HF := Lib.hid hF
    have HB := Lib.hid hB
    have HR := Lib.hid hR
    have Q1 := Lib.hid q1
    clear hB hR hv q1 q3 hF
    generalize hX : sumK (worthZ rule) b 16 = X
    have HX := Lib.hid hX
    clear hX
    go_enter Try.func28, Try.ntmps28
    have hm := Mem.start w0
    simp only [nums_map]
    repeat' (first | (go_at_call 51; refine mem_call hm (HB.out _) ?_; clear hm; intro w hm; (try simp only [nums, List.map_cons, List.map_nil])) | (go_at_call 53; refine mem_call hm (HR.out _) ?_; clear hm; intro w hm; (try simp only [nums, List.map_cons, List.map_nil])) | (go_at_call 70; refine mem_callN hm (HF.out _) ?_; clear hm; intro g more len cap w hm hf hx; (try simp only [])) | ((with_reducible refine gix ?_); first | refine mix rfl rfl rfl rfl ?_ | refine mixr rfl rfl rfl rfl ?_; (try simp only [Int.toNat_zero, Int.reduceToNat, Nat.reduceMul, Nat.zero_mul, Nat.one_mul, List.drop_succ_cons, List.drop_zero, List.take_succ_cons, List.take_zero])) | ((with_reducible refine gl ?_); first | refine ml hm rfl rfl rfl ?_ | refine mlw hm rfl rfl rfl ?_ | (refine mlr hm rfl rfl rfl ?_; try simp only [List.drop_succ_cons, List.drop_zero, List.take_succ_cons, List.take_zero])) | ((with_reducible refine gs ?_); (first | refine ms hm rfl rfl rfl rfl rfl ?_ | refine msw hm rfl rfl rfl rfl ?_ | refine msr hm rfl rfl rfl rfl ?_); clear hm; intro w hm; (try simp only [splice, List.set_cons_zero, List.set_cons_succ] at hm)) | ((with_reducible refine gb ?_); (first | refine mem_box hm rfl rfl rfl ?_ | refine mem_box1 hm rfl rfl rfl rfl ?_); clear hm; intro n w hm) | ((with_reducible refine ga ?_); refine mem_alloc hm rfl rfl ?_; clear hm; intro n w hm) | go_values | go_skip | go_guarded | go_step | go_upon | ((with_reducible refine bp ?_); go_back) | ((with_reducible refine up ?_); first | (simp only [Int.not_lt, Int.not_le] at *; go_simp) | (go_values <;> (try go_simp)) | (go_ite <;> go_prune <;> (try go_simp)) | (split <;> (first | (rename_i hx; exact (hx _ rfl).elim) | go_prune))))
    obtain rfl : len = 16 := by simp at hx; omega
    obtain ⟨σ, hσ, hm⟩ := Mem.sig hm
    go_loopw [6, 20] (fun sm ix wr => ∃ k : Nat, k ≤ 16 ∧ ix = iv k ∧ sm = iv (sumK (worthZ rule) b k) ∧ Mem w0 wr σ) (fun _ ix _ => 16 - (intOf ix).toNat)
    case atStart => exact ⟨0, by omega, rfl, rfl, hm⟩
    case round =>
      clear hm hf hx
      obtain ⟨k, hk, rfl, rfl, hm⟩ := hrel
      subst hσ
      by_cases hlt : k < 16
      · have hv := flat_get (b := b) (k := k) (by omega) more
        have hn := sumK_succ (worthZ rule) b k
        have ha := atL_ok Q1.out k
        have hs := sumK_bd (f := worthZ rule) (fun t ht => by have := worthZ_bd rule ht; omega) Q1.out k
        generalize atL b k = t at *
        generalize sumK (worthZ rule) b k = sm at *
        obtain ⟨hs0, hs1⟩ := hs
        have hs2 : sm ≤ 100000000 := by omega
        clear hs1
        by_cases ht : 0 < t
        · have hW := impl_worthBy rule t (by omega)
          have hwb := worthZ_bd rule (t := t) (by omega)
          simp only [ht, if_true] at hn
          generalize worthZ rule t = wt at hW hwb hn
          obtain ⟨hw0, hw1⟩ := hwb
          have HW := Lib.hid hW
          have HN := Lib.hid hn
          clear hW hn ha
          repeat' (first | (go_at_call 71; refine mem_call hm (HW.out _) ?_; clear hm; intro w hm; (try simp only [nums, List.map_cons, List.map_nil])) | ((with_reducible refine gix ?_); first | refine mix rfl rfl rfl rfl ?_ | refine mixr rfl rfl rfl rfl ?_; (try simp only [Int.toNat_zero, Int.reduceToNat, Nat.reduceMul, Nat.zero_mul, Nat.one_mul, List.drop_succ_cons, List.drop_zero, List.take_succ_cons, List.take_zero])) | ((with_reducible refine gl ?_); first | refine ml hm rfl rfl rfl ?_ | refine mlw hm rfl rfl rfl ?_ | (refine mlr hm rfl rfl rfl ?_; try simp only [List.drop_succ_cons, List.drop_zero, List.take_succ_cons, List.take_zero])) | ((with_reducible refine gs ?_); (first | refine ms hm rfl rfl rfl rfl rfl ?_ | refine msw hm rfl rfl rfl rfl ?_ | refine msr hm rfl rfl rfl rfl ?_); clear hm; intro w hm; (try simp only [splice, List.set_cons_zero, List.set_cons_succ] at hm)) | ((with_reducible refine gb ?_); (first | refine mem_box hm rfl rfl rfl ?_ | refine mem_box1 hm rfl rfl rfl rfl ?_); clear hm; intro n w hm) | ((with_reducible refine ga ?_); refine mem_alloc hm rfl rfl ?_; clear hm; intro n w hm) | go_values | go_skip | go_guarded | go_step | go_upon | ((with_reducible refine bp ?_); go_back) | ((with_reducible refine up ?_); first | (simp only [Int.not_lt, Int.not_le] at *; go_simp) | (go_values <;> (try go_simp)) | (go_ite <;> go_prune <;> (try go_simp)) | (split <;> (first | (rename_i hx; exact (hx _ rfl).elim) | go_prune))))
          go_roundw
          case rel => (try (first | ((repeat apply Exists.intro); refine ⟨?_, rfl⟩) | (repeat refine ex_any ?_))); exact ⟨k + 1, by omega, by go_num, by rw [HN.out], hm⟩
          case measure => simp [intOf]; omega
        · simp only [ht, if_false] at hn
          have HN := Lib.hid hn
          clear hn ha
          repeat' (first  | ((with_reducible refine gix ?_); first | refine mix rfl rfl rfl rfl ?_ | refine mixr rfl rfl rfl rfl ?_; (try simp only [Int.toNat_zero, Int.reduceToNat, Nat.reduceMul, Nat.zero_mul, Nat.one_mul, List.drop_succ_cons, List.drop_zero, List.take_succ_cons, List.take_zero])) | ((with_reducible refine gl ?_); first | refine ml hm rfl rfl rfl ?_ | refine mlw hm rfl rfl rfl ?_ | (refine mlr hm rfl rfl rfl ?_; try simp only [List.drop_succ_cons, List.drop_zero, List.take_succ_cons, List.take_zero])) | ((with_reducible refine gs ?_); (first | refine ms hm rfl rfl rfl rfl rfl ?_ | refine msw hm rfl rfl rfl rfl ?_ | refine msr hm rfl rfl rfl rfl ?_); clear hm; intro w hm; (try simp only [splice, List.set_cons_zero, List.set_cons_succ] at hm)) | ((with_reducible refine gb ?_); (first | refine mem_box hm rfl rfl rfl ?_ | refine mem_box1 hm rfl rfl rfl rfl ?_); clear hm; intro n w hm) | ((with_reducible refine ga ?_); refine mem_alloc hm rfl rfl ?_; clear hm; intro n w hm) | go_values | go_skip | go_guarded | go_step | go_upon | ((with_reducible refine bp ?_); go_back) | ((with_reducible refine up ?_); first | (simp only [Int.not_lt, Int.not_le] at *; go_simp) | (go_values <;> (try go_simp)) | (go_ite <;> go_prune <;> (try go_simp)) | (split <;> (first | (rename_i hx; exact (hx _ rfl).elim) | go_prune))))
          go_roundw
          case rel => (try (first | ((repeat apply Exists.intro); refine ⟨?_, rfl⟩) | (repeat refine ex_any ?_))); exact ⟨k + 1, by omega, by go_num, by rw [HN.out]; simp, hm⟩
          case measure => simp [intOf]; omega
      · obtain rfl : k = 16 := by omega
        rw [HX.out]
        repeat' (first  | ((with_reducible refine gix ?_); first | refine mix rfl rfl rfl rfl ?_ | refine mixr rfl rfl rfl rfl ?_; (try simp only [Int.toNat_zero, Int.reduceToNat, Nat.reduceMul, Nat.zero_mul, Nat.one_mul, List.drop_succ_cons, List.drop_zero, List.take_succ_cons, List.take_zero])) | ((with_reducible refine gl ?_); first | refine ml hm rfl rfl rfl ?_ | refine mlw hm rfl rfl rfl ?_ | (refine mlr hm rfl rfl rfl ?_; try simp only [List.drop_succ_cons, List.drop_zero, List.take_succ_cons, List.take_zero])) | ((with_reducible refine gs ?_); (first | refine ms hm rfl rfl rfl rfl rfl ?_ | refine msw hm rfl rfl rfl rfl ?_ | refine msr hm rfl rfl rfl rfl ?_); clear hm; intro w hm; (try simp only [splice, List.set_cons_zero, List.set_cons_succ] at hm)) | ((with_reducible refine gb ?_); (first | refine mem_box hm rfl rfl rfl ?_ | refine mem_box1 hm rfl rfl rfl rfl ?_); clear hm; intro n w hm) | ((with_reducible refine ga ?_); refine mem_alloc hm rfl rfl ?_; clear hm; intro n w hm) | go_values | go_skip | go_guarded | go_step | go_upon | ((with_reducible refine bp ?_); go_back) | ((with_reducible refine up ?_); first | (simp only [Int.not_lt, Int.not_le] at *; go_simp) | (go_values <;> (try go_simp)) | (go_ite <;> go_prune <;> (try go_simp)) | (split <;> (first | (rename_i hx; exact (hx _ rfl).elim) | go_prune))))
        (try simp only [Exit.inBlock, Exit.then])
        (first | (refine ret1 rfl rfl (by (first | exact Res.tmp rfl | exact Res.atw hm rfl | exact Res.at hm rfl)) ?_) | (refine ret2 rfl rfl (by (first | exact Res.tmp rfl | exact Res.atw hm rfl | exact Res.at hm rfl)) (by (first | exact Res.tmp rfl | exact Res.atw hm rfl | exact Res.at hm rfl)) ?_) | (refine ret3 rfl rfl (by (first | exact Res.tmp rfl | exact Res.atw hm rfl | exact Res.at hm rfl)) (by (first | exact Res.tmp rfl | exact Res.atw hm rfl | exact Res.at hm rfl)) (by (first | exact Res.tmp rfl | exact Res.atw hm rfl | exact Res.at hm rfl)) ?_) | (refine ret4 rfl rfl (by (first | exact Res.tmp rfl | exact Res.atw hm rfl | exact Res.at hm rfl)) (by (first | exact Res.tmp rfl | exact Res.atw hm rfl | exact Res.at hm rfl)) (by (first | exact Res.tmp rfl | exact Res.atw hm rfl | exact Res.at hm rfl)) (by (first | exact Res.tmp rfl | exact Res.atw hm rfl | exact Res.at hm rfl)) ?_) | fail "ret")
        exact ⟨rfl, hm.below⟩
  all_goals
    have hv : sumByV b rule = (0, false) := by simp [sumByV, q1, q3]
    rw [hv]
    rw [q1] at hB
    rw [q3] at hR
    have HB := Lib.hid hB
    have HR := Lib.hid hR
    clear hB hR hv q1 q3
    go_enter Try.func28, Try.ntmps28
    have hm := Mem.start w0
    simp only [nums_map]
    repeat' (first | (go_at_call 51; refine mem_call hm (HB.out _) ?_; clear hm; intro w hm; (try simp only [nums, List.map_cons, List.map_nil])) | (go_at_call 53; refine mem_call hm (HR.out _) ?_; clear hm; intro w hm; (try simp only [nums, List.map_cons, List.map_nil])) | ((with_reducible refine gix ?_); first | refine mix rfl rfl rfl rfl ?_ | refine mixr rfl rfl rfl rfl ?_; (try simp only [Int.toNat_zero, Int.reduceToNat, Nat.reduceMul, Nat.zero_mul, Nat.one_mul, List.drop_succ_cons, List.drop_zero, List.take_succ_cons, List.take_zero])) | ((with_reducible refine gl ?_); first | refine ml hm rfl rfl rfl ?_ | refine mlw hm rfl rfl rfl ?_ | (refine mlr hm rfl rfl rfl ?_; try simp only [List.drop_succ_cons, List.drop_zero, List.take_succ_cons, List.take_zero])) | ((with_reducible refine gs ?_); (first | refine ms hm rfl rfl rfl rfl rfl ?_ | refine msw hm rfl rfl rfl rfl ?_ | refine msr hm rfl rfl rfl rfl ?_); clear hm; intro w hm; (try simp only [splice, List.set_cons_zero, List.set_cons_succ] at hm)) | ((with_reducible refine gb ?_); (first | refine mem_box hm rfl rfl rfl ?_ | refine mem_box1 hm rfl rfl rfl rfl ?_); clear hm; intro n w hm) | ((with_reducible refine ga ?_); refine mem_alloc hm rfl rfl ?_; clear hm; intro n w hm) | go_values | go_skip | go_guarded | go_step | go_upon | ((with_reducible refine bp ?_); go_back) | ((with_reducible refine up ?_); first | (simp only [Int.not_lt, Int.not_le] at *; go_simp) | (go_values <;> (try go_simp)) | (go_ite <;> go_prune <;> (try go_simp)) | (split <;> (first | (rename_i hx; exact (hx _ rfl).elim) | go_prune))))
    (try simp only [Exit.inBlock, Exit.then])
    (first | (refine ret1 rfl rfl (by (first | exact Res.tmp rfl | exact Res.atw hm rfl | exact Res.at hm rfl)) ?_) | (refine ret2 rfl rfl (by (first | exact Res.tmp rfl | exact Res.atw hm rfl | exact Res.at hm rfl)) (by (first | exact Res.tmp rfl | exact Res.atw hm rfl | exact Res.at hm rfl)) ?_) | (refine ret3 rfl rfl (by (first | exact Res.tmp rfl | exact Res.atw hm rfl | exact Res.at hm rfl)) (by (first | exact Res.tmp rfl | exact Res.atw hm rfl | exact Res.at hm rfl)) (by (first | exact Res.tmp rfl | exact Res.atw hm rfl | exact Res.at hm rfl)) ?_) | (refine ret4 rfl rfl (by (first | exact Res.tmp rfl | exact Res.atw hm rfl | exact Res.at hm rfl)) (by (first | exact Res.tmp rfl | exact Res.atw hm rfl | exact Res.at hm rfl)) (by (first | exact Res.tmp rfl | exact Res.atw hm rfl | exact Res.at hm rfl)) (by (first | exact Res.tmp rfl | exact Res.atw hm rfl | exact Res.at hm rfl)) ?_) | fail "ret")
    exact ⟨rfl, hm.below⟩
end Go.Proofs.Ytlhchjjegaflhaa

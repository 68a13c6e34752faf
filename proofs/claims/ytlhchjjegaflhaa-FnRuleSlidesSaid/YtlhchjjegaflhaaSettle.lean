/-
  Walks of SettleBy.
-/
import Derived.Test.YtlhchjjegaflhaaSlide
import Derived.Test.YtlhchjjegaflhaaSlide2
import Derived.Test.YtlhchjjegaflhaaCmp
import Derived.Test.YtlhchjjegaflhaaSmall
import Derived.Test.YtlhchjjegaflhaaSetMath
set_option linter.unusedVariables false
set_option linter.unusedSimpArgs false
namespace Go.Proofs.Ytlhchjjegaflhaa
open Go.RowKit Slm
def settleV (b : List Int) (d rule : Int) : List Int × Int × Bool := if (okL b && (inB d 0 3 && inB rule 1 4)) = true then ((settleF rule d.toNat 34 b 0).1, (((settleF rule d.toNat 34 b 0).2 : Nat) : Int), true) else ([0, 0, 0, 0, 0, 0, 0, 0, 0, 0, 0, 0, 0, 0, 0, 0], 0, false)
set_option maxHeartbeats 1000000 in
theorem spec_SettleBy (b : List Int) (hl : b.length = 16) (d rule : Int) (w0 : World) : Calls Try.prog 27 #[.agg (nums b), iv d, iv rule] w0 fun e w' => e = .returned (.tuple #[.agg (nums (settleV b d rule).1), iv (settleV b d rule).2.1, .bool (settleV b d rule).2.2]) ∧ Below w0.heap.size w0 w' := by
  have hB := spec_l2Board b hl
  have hD := spec_l2Side d
  have hR := spec_l10Rule rule
  have q1 : okL b = true ∨ okL b = false := by cases okL b <;> simp
  have q2 : inB d 0 3 = true ∨ inB d 0 3 = false := by cases inB d 0 3 <;> simp
  have q3 : inB rule 1 4 = true ∨ inB rule 1 4 = false := by cases inB rule 1 4 <;> simp
  rcases q1 with q1 | q1 <;> rcases q2 with q2 | q2 <;> rcases q3 with q3 | q3
  case inl.inl.inl =>
    obtain ⟨d0, d1⟩ := inB_iff.1 q2
    obtain ⟨dn, rfl⟩ : ∃ n : Nat, d = n := ⟨d.toNat, by omega⟩
    have hdn : dn ≤ 3 := by omega
    have hv : settleV b dn rule = ((settleF rule dn 34 b 0).1, (((settleF rule dn 34 b 0).2 : Nat) : Int), true) := by simp [settleV, q1, q2, q3]
    have hmu := mu_bd dn hl
    have hRl := settle_len rule dn 34 b 0
    rw [hv]
    rw [q1] at hB
    rw [q2] at hD
    rw [q3] at hR
    generalize hX : settleF rule dn 34 b 0 = X at *
    have HX : Unit → Hid (settleF rule dn (34 - 0) b 0 = X) := fun _ => Lib.hid hX
    have HB := Lib.hid hB
    have HD := Lib.hid hD
    have HR := Lib.hid hR
    have Q1 := Lib.hid q1
    have HMU := Lib.hid hmu
    clear hB hD hR hv hX q1 q2 q3 hmu
    go_enter Try.func27, Try.ntmps27
    have hm := Mem.start w0
    simp only [nums_map]
    repeat' (first | (go_at_call 55; refine mem_call hm (HB.out _) ?_; clear hm; intro w hm; (try simp only [nums, List.map_cons, List.map_nil])) | (go_at_call 56; refine mem_call hm (HD.out _) ?_; clear hm; intro w hm; (try simp only [nums, List.map_cons, List.map_nil])) | (go_at_call 57; refine mem_call hm (HR.out _) ?_; clear hm; intro w hm; (try simp only [nums, List.map_cons, List.map_nil])) | ((with_reducible refine gix ?_); first | refine mix rfl rfl rfl rfl ?_ | refine mixr rfl rfl rfl rfl ?_; (try simp only [Int.toNat_zero, Int.reduceToNat, Nat.reduceMul, Nat.zero_mul, Nat.one_mul, List.drop_succ_cons, List.drop_zero, List.take_succ_cons, List.take_zero])) | ((with_reducible refine gl ?_); first | refine ml hm rfl rfl rfl ?_ | refine mlw hm rfl rfl rfl ?_ | (refine mlr hm rfl rfl rfl ?_; try simp only [List.drop_succ_cons, List.drop_zero, List.take_succ_cons, List.take_zero])) | ((with_reducible refine gs ?_); (first | refine ms hm rfl rfl rfl rfl rfl ?_ | refine msw hm rfl rfl rfl rfl ?_ | refine msr hm rfl rfl rfl rfl ?_); clear hm; intro w hm; (try simp only [splice, List.set_cons_zero, List.set_cons_succ] at hm)) | ((with_reducible refine gb ?_); (first | refine mem_box hm rfl rfl rfl ?_ | refine mem_box1 hm rfl rfl rfl rfl ?_); clear hm; intro n w hm) | ((with_reducible refine ga ?_); refine mem_alloc hm rfl rfl ?_; clear hm; intro n w hm) | go_values | go_skip | go_guarded | go_step | go_upon | ((with_reducible refine bp ?_); go_back) | ((with_reducible refine up ?_); first | (simp only [Int.not_lt, Int.not_le] at *; go_simp) | (go_values <;> (try go_simp)) | (go_ite <;> go_prune <;> (try go_simp)) | (split <;> (first | (rename_i hx; exact (hx _ rfl).elim) | go_prune))))
    obtain ⟨σ, hσ, hm⟩ := Mem.sig hm
    go_loopw [9] (fun ct wr => ∃ (k : Nat) (c : List Int), k ≤ 33 ∧ ct = iv k ∧ c.length = 16 ∧ Hid (okL c = true) ∧ Hid (muB dn c + k ≤ 33) ∧ (Unit → Hid (settleF rule dn (34 - k) c k = X)) ∧ Mem w0 wr (modB σ 1 (c.map iv))) (fun ct _ => 34 - (intOf ct).toNat)
    case atStart => subst hσ; exact ⟨0, b, by omega, rfl, hl, Q1, HMU, HX, hm⟩
    case round =>
      clear hm
      obtain ⟨k, c, hk, rfl, hcl, HC, HK, HE, hm⟩ := hrel
      subst hσ
      simp only [modB] at hm
      have hS := spec_l10Slide dn hdn c hcl HC.out rule
      have hsl := slideB_len rule dn c
      rw [hcl] at hsl
      have hok2 := slideB_ok HC.out rule dn
      have hless := mu_less rule hdn hcl HC.out
      have hst := fun (f n : Nat) (h : slideB rule dn c = c) => settle_stop (rule := rule) (d := dn) (f := f) (b := c) (n := n) h
      have hgo := fun (f n : Nat) (h : ¬ slideB rule dn c = c) => settle_go (rule := rule) (d := dn) (f := f) (b := c) (n := n) h
      generalize slideB rule dn c = S at *
      have HS := Lib.hid hS
      have HO2 := Lib.hid hok2
      clear hS hok2
      by_cases hSc : S = c
      · have hdd : decide (S = c) = true := by simpa using hSc
        have HDD : Unit → Hid _ := fun _ => Lib.hid hdd
        have e : X = (c, k) := by rw [← (HE ()).out, show 34 - k = (33 - k) + 1 from by omega]; exact hst _ _ hSc
        clear hless hst hgo hdd hSc HE HX
        subst e
        repeat' (first | (go_at_call 58; refine mem_call hm (HS.out _) ?_; clear hm; intro w hm; (try simp only [nums, List.map_cons, List.map_nil])) | ((with_reducible refine gcmp ?_); refine mcmp ((HDD ()).out) (by first | exact .inl rfl | exact .inr rfl) rfl rfl rfl rfl ?_; (try simp only [cmpV, Bool.not_true, Bool.not_false])) | ((with_reducible refine gix ?_); first | refine mix rfl rfl rfl rfl ?_ | refine mixr rfl rfl rfl rfl ?_; (try simp only [Int.toNat_zero, Int.reduceToNat, Nat.reduceMul, Nat.zero_mul, Nat.one_mul, List.drop_succ_cons, List.drop_zero, List.take_succ_cons, List.take_zero])) | ((with_reducible refine gl ?_); first | refine ml hm rfl rfl rfl ?_ | refine mlw hm rfl rfl rfl ?_ | (refine mlr hm rfl rfl rfl ?_; try simp only [List.drop_succ_cons, List.drop_zero, List.take_succ_cons, List.take_zero])) | ((with_reducible refine gs ?_); (first | refine ms hm rfl rfl rfl rfl rfl ?_ | refine msw hm rfl rfl rfl rfl ?_ | refine msr hm rfl rfl rfl rfl ?_); clear hm; intro w hm; (try simp only [splice, List.set_cons_zero, List.set_cons_succ] at hm)) | ((with_reducible refine gb ?_); (first | refine mem_box hm rfl rfl rfl ?_ | refine mem_box1 hm rfl rfl rfl rfl ?_); clear hm; intro n w hm) | ((with_reducible refine ga ?_); refine mem_alloc hm rfl rfl ?_; clear hm; intro n w hm) | go_values | go_skip | go_guarded | go_step | go_upon | ((with_reducible refine bp ?_); go_back) | ((with_reducible refine up ?_); first | (simp only [Int.not_lt, Int.not_le] at *; go_simp) | (go_values <;> (try go_simp)) | (go_ite <;> go_prune <;> (try go_simp)) | (split <;> (first | (rename_i hx; exact (hx _ rfl).elim) | go_prune))))
        (try simp only [Exit.inBlock, Exit.then])
        (first | (refine ret1 rfl rfl (by (first | exact Res.tmp rfl | exact Res.atw hm rfl | exact Res.at hm rfl)) ?_) | (refine ret2 rfl rfl (by (first | exact Res.tmp rfl | exact Res.atw hm rfl | exact Res.at hm rfl)) (by (first | exact Res.tmp rfl | exact Res.atw hm rfl | exact Res.at hm rfl)) ?_) | (refine ret3 rfl rfl (by (first | exact Res.tmp rfl | exact Res.atw hm rfl | exact Res.at hm rfl)) (by (first | exact Res.tmp rfl | exact Res.atw hm rfl | exact Res.at hm rfl)) (by (first | exact Res.tmp rfl | exact Res.atw hm rfl | exact Res.at hm rfl)) ?_) | (refine ret4 rfl rfl (by (first | exact Res.tmp rfl | exact Res.atw hm rfl | exact Res.at hm rfl)) (by (first | exact Res.tmp rfl | exact Res.atw hm rfl | exact Res.at hm rfl)) (by (first | exact Res.tmp rfl | exact Res.atw hm rfl | exact Res.at hm rfl)) (by (first | exact Res.tmp rfl | exact Res.atw hm rfl | exact Res.at hm rfl)) ?_) | fail "ret")
        exact ⟨rfl, hm.below⟩
      · have hdd : decide (S = c) = false := by simpa using hSc
        have HDD : Unit → Hid _ := fun _ => Lib.hid hdd
        have hlt := hless hSc
        have hKo := HK.out
        have hk2 : k + 1 ≤ 33 := by omega
        have HK2 : Hid (muB dn S + (k + 1) ≤ 33) := Lib.hid (by omega)
        have HE2 : Unit → Hid (settleF rule dn (34 - (k + 1)) S (k + 1) = X) := fun _ => Lib.hid (by rw [← (HE ()).out, show 34 - k = (33 - k) + 1 from by omega, hgo _ _ hSc, show 33 - k = 34 - (k + 1) from by omega])
        clear hless hst hgo hdd hSc hlt hKo
        repeat' (first | (go_at_call 58; refine mem_call hm (HS.out _) ?_; clear hm; intro w hm; (try simp only [nums, List.map_cons, List.map_nil])) | ((with_reducible refine gcmp ?_); refine mcmp ((HDD ()).out) (by first | exact .inl rfl | exact .inr rfl) rfl rfl rfl rfl ?_; (try simp only [cmpV, Bool.not_true, Bool.not_false])) | ((with_reducible refine gix ?_); first | refine mix rfl rfl rfl rfl ?_ | refine mixr rfl rfl rfl rfl ?_; (try simp only [Int.toNat_zero, Int.reduceToNat, Nat.reduceMul, Nat.zero_mul, Nat.one_mul, List.drop_succ_cons, List.drop_zero, List.take_succ_cons, List.take_zero])) | ((with_reducible refine gl ?_); first | refine ml hm rfl rfl rfl ?_ | refine mlw hm rfl rfl rfl ?_ | (refine mlr hm rfl rfl rfl ?_; try simp only [List.drop_succ_cons, List.drop_zero, List.take_succ_cons, List.take_zero])) | ((with_reducible refine gs ?_); (first | refine ms hm rfl rfl rfl rfl rfl ?_ | refine msw hm rfl rfl rfl rfl ?_ | refine msr hm rfl rfl rfl rfl ?_); clear hm; intro w hm; (try simp only [splice, List.set_cons_zero, List.set_cons_succ] at hm)) | ((with_reducible refine gb ?_); (first | refine mem_box hm rfl rfl rfl ?_ | refine mem_box1 hm rfl rfl rfl rfl ?_); clear hm; intro n w hm) | ((with_reducible refine ga ?_); refine mem_alloc hm rfl rfl ?_; clear hm; intro n w hm) | go_values | go_skip | go_guarded | go_step | go_upon | ((with_reducible refine bp ?_); go_back) | ((with_reducible refine up ?_); first | (simp only [Int.not_lt, Int.not_le] at *; go_simp) | (go_values <;> (try go_simp)) | (go_ite <;> go_prune <;> (try go_simp)) | (split <;> (first | (rename_i hx; exact (hx _ rfl).elim) | go_prune))))
        go_roundw
        case rel => (try (first | ((repeat apply Exists.intro); refine ⟨?_, rfl⟩) | (repeat refine ex_any ?_))); exact ⟨k + 1, S, by omega, by go_num, hsl, HO2, HK2, HE2, hm.drop (by exact List.sublist_cons_self _ _)⟩
        case measure => simp [intOf]; omega
  all_goals
    have hv : settleV b d rule = ([0, 0, 0, 0, 0, 0, 0, 0, 0, 0, 0, 0, 0, 0, 0, 0], 0, false) := by simp [settleV, q1, q2, q3]
    rw [hv]
    rw [q1] at hB
    rw [q2] at hD
    rw [q3] at hR
    have HB := Lib.hid hB
    have HD := Lib.hid hD
    have HR := Lib.hid hR
    clear hB hD hR hv q1 q2 q3
    go_enter Try.func27, Try.ntmps27
    have hm := Mem.start w0
    simp only [nums_map]
    repeat' (first | (go_at_call 55; refine mem_call hm (HB.out _) ?_; clear hm; intro w hm; (try simp only [nums, List.map_cons, List.map_nil])) | (go_at_call 56; refine mem_call hm (HD.out _) ?_; clear hm; intro w hm; (try simp only [nums, List.map_cons, List.map_nil])) | (go_at_call 57; refine mem_call hm (HR.out _) ?_; clear hm; intro w hm; (try simp only [nums, List.map_cons, List.map_nil])) | ((with_reducible refine gix ?_); first | refine mix rfl rfl rfl rfl ?_ | refine mixr rfl rfl rfl rfl ?_; (try simp only [Int.toNat_zero, Int.reduceToNat, Nat.reduceMul, Nat.zero_mul, Nat.one_mul, List.drop_succ_cons, List.drop_zero, List.take_succ_cons, List.take_zero])) | ((with_reducible refine gl ?_); first | refine ml hm rfl rfl rfl ?_ | refine mlw hm rfl rfl rfl ?_ | (refine mlr hm rfl rfl rfl ?_; try simp only [List.drop_succ_cons, List.drop_zero, List.take_succ_cons, List.take_zero])) | ((with_reducible refine gs ?_); (first | refine ms hm rfl rfl rfl rfl rfl ?_ | refine msw hm rfl rfl rfl rfl ?_ | refine msr hm rfl rfl rfl rfl ?_); clear hm; intro w hm; (try simp only [splice, List.set_cons_zero, List.set_cons_succ] at hm)) | ((with_reducible refine gb ?_); (first | refine mem_box hm rfl rfl rfl ?_ | refine mem_box1 hm rfl rfl rfl rfl ?_); clear hm; intro n w hm) | ((with_reducible refine ga ?_); refine mem_alloc hm rfl rfl ?_; clear hm; intro n w hm) | go_values | go_skip | go_guarded | go_step | go_upon | ((with_reducible refine bp ?_); go_back) | ((with_reducible refine up ?_); first | (simp only [Int.not_lt, Int.not_le] at *; go_simp) | (go_values <;> (try go_simp)) | (go_ite <;> go_prune <;> (try go_simp)) | (split <;> (first | (rename_i hx; exact (hx _ rfl).elim) | go_prune))))
    (try simp only [Exit.inBlock, Exit.then])
    (first | (refine ret1 rfl rfl (by (first | exact Res.tmp rfl | exact Res.atw hm rfl | exact Res.at hm rfl)) ?_) | (refine ret2 rfl rfl (by (first | exact Res.tmp rfl | exact Res.atw hm rfl | exact Res.at hm rfl)) (by (first | exact Res.tmp rfl | exact Res.atw hm rfl | exact Res.at hm rfl)) ?_) | (refine ret3 rfl rfl (by (first | exact Res.tmp rfl | exact Res.atw hm rfl | exact Res.at hm rfl)) (by (first | exact Res.tmp rfl | exact Res.atw hm rfl | exact Res.at hm rfl)) (by (first | exact Res.tmp rfl | exact Res.atw hm rfl | exact Res.at hm rfl)) ?_) | (refine ret4 rfl rfl (by (first | exact Res.tmp rfl | exact Res.atw hm rfl | exact Res.at hm rfl)) (by (first | exact Res.tmp rfl | exact Res.atw hm rfl | exact Res.at hm rfl)) (by (first | exact Res.tmp rfl | exact Res.atw hm rfl | exact Res.at hm rfl)) (by (first | exact Res.tmp rfl | exact Res.atw hm rfl | exact Res.at hm rfl)) ?_) | fail "ret")
    exact ⟨rfl, hm.below⟩
set_option maxHeartbeats 1000000 in
theorem impl_SettleBy (b : List Int) (hl : b.length = 16) (d rule : Int) (w0 : World) : Calls Try.prog 26 #[.agg (nums b), iv d, iv rule] w0 fun e w' => e = .returned (.tuple #[.agg (nums (settleV b d rule).1), iv (settleV b d rule).2.1, .bool (settleV b d rule).2.2]) ∧ Below w0.heap.size w0 w' := by
  have hB := impl_IsBoard b hl
  have hD := impl_isDirection d
  have hR := impl_isRule rule
  have q1 : okL b = true ∨ okL b = false := by cases okL b <;> simp
  have q2 : inB d 0 3 = true ∨ inB d 0 3 = false := by cases inB d 0 3 <;> simp
  have q3 : inB rule 1 4 = true ∨ inB rule 1 4 = false := by cases inB rule 1 4 <;> simp
  rcases q1 with q1 | q1 <;> rcases q2 with q2 | q2 <;> rcases q3 with q3 | q3
  case inl.inl.inl =>
    obtain ⟨d0, d1⟩ := inB_iff.1 q2
    obtain ⟨dn, rfl⟩ : ∃ n : Nat, d = n := ⟨d.toNat, by omega⟩
    have hdn : dn ≤ 3 := by omega
    have hv : settleV b dn rule = ((settleF rule dn 34 b 0).1, (((settleF rule dn 34 b 0).2 : Nat) : Int), true) := by simp [settleV, q1, q2, q3]
    have hmu := mu_bd dn hl
    have hRl := settle_len rule dn 34 b 0
    rw [hv]
    rw [q1] at hB
    rw [q2] at hD
    rw [q3] at hR
    generalize hX : settleF rule dn 34 b 0 = X at *
    have HX : Unit → Hid (settleF rule dn (34 - 0) b 0 = X) := fun _ => Lib.hid hX
    have HB := Lib.hid hB
    have HD := Lib.hid hD
    have HR := Lib.hid hR
    have Q1 := Lib.hid q1
    have HMU := Lib.hid hmu
    clear hB hD hR hv hX q1 q2 q3 hmu
    go_enter Try.func26, Try.ntmps26
    have hm := Mem.start w0
    simp only [nums_map]
    repeat' (first | (go_at_call 51; refine mem_call hm (HB.out _) ?_; clear hm; intro w hm; (try simp only [nums, List.map_cons, List.map_nil])) | (go_at_call 52; refine mem_call hm (HD.out _) ?_; clear hm; intro w hm; (try simp only [nums, List.map_cons, List.map_nil])) | (go_at_call 53; refine mem_call hm (HR.out _) ?_; clear hm; intro w hm; (try simp only [nums, List.map_cons, List.map_nil])) | ((with_reducible refine gix ?_); first | refine mix rfl rfl rfl rfl ?_ | refine mixr rfl rfl rfl rfl ?_; (try simp only [Int.toNat_zero, Int.reduceToNat, Nat.reduceMul, Nat.zero_mul, Nat.one_mul, List.drop_succ_cons, List.drop_zero, List.take_succ_cons, List.take_zero])) | ((with_reducible refine gl ?_); first | refine ml hm rfl rfl rfl ?_ | refine mlw hm rfl rfl rfl ?_ | (refine mlr hm rfl rfl rfl ?_; try simp only [List.drop_succ_cons, List.drop_zero, List.take_succ_cons, List.take_zero])) | ((with_reducible refine gs ?_); (first | refine ms hm rfl rfl rfl rfl rfl ?_ | refine msw hm rfl rfl rfl rfl ?_ | refine msr hm rfl rfl rfl rfl ?_); clear hm; intro w hm; (try simp only [splice, List.set_cons_zero, List.set_cons_succ] at hm)) | ((with_reducible refine gb ?_); (first | refine mem_box hm rfl rfl rfl ?_ | refine mem_box1 hm rfl rfl rfl rfl ?_); clear hm; intro n w hm) | ((with_reducible refine ga ?_); refine mem_alloc hm rfl rfl ?_; clear hm; intro n w hm) | go_values | go_skip | go_guarded | go_step | go_upon | ((with_reducible refine bp ?_); go_back) | ((with_reducible refine up ?_); first | (simp only [Int.not_lt, Int.not_le] at *; go_simp) | (go_values <;> (try go_simp)) | (go_ite <;> go_prune <;> (try go_simp)) | (split <;> (first | (rename_i hx; exact (hx _ rfl).elim) | go_prune))))
    obtain ⟨σ, hσ, hm⟩ := Mem.sig hm
    go_loopw [9] (fun ct wr => ∃ (k : Nat) (c : List Int), k ≤ 33 ∧ ct = iv k ∧ c.length = 16 ∧ Hid (okL c = true) ∧ Hid (muB dn c + k ≤ 33) ∧ (Unit → Hid (settleF rule dn (34 - k) c k = X)) ∧ Mem w0 wr (modB σ 1 (c.map iv))) (fun ct _ => 34 - (intOf ct).toNat)
    case atStart => subst hσ; exact ⟨0, b, by omega, rfl, hl, Q1, HMU, HX, hm⟩
    case round =>
      clear hm
      obtain ⟨k, c, hk, rfl, hcl, HC, HK, HE, hm⟩ := hrel
      subst hσ
      simp only [modB] at hm
      have hS := impl_slideBy dn hdn c hcl HC.out rule
      have hsl := slideB_len rule dn c
      rw [hcl] at hsl
      have hok2 := slideB_ok HC.out rule dn
      have hless := mu_less rule hdn hcl HC.out
      have hst := fun (f n : Nat) (h : slideB rule dn c = c) => settle_stop (rule := rule) (d := dn) (f := f) (b := c) (n := n) h
      have hgo := fun (f n : Nat) (h : ¬ slideB rule dn c = c) => settle_go (rule := rule) (d := dn) (f := f) (b := c) (n := n) h
      generalize slideB rule dn c = S at *
      have HS := Lib.hid hS
      have HO2 := Lib.hid hok2
      clear hS hok2
      by_cases hSc : S = c
      · have hdd : decide (S = c) = true := by simpa using hSc
        have HDD : Unit → Hid _ := fun _ => Lib.hid hdd
        have e : X = (c, k) := by rw [← (HE ()).out, show 34 - k = (33 - k) + 1 from by omega]; exact hst _ _ hSc
        clear hless hst hgo hdd hSc HE HX
        subst e
        repeat' (first | (go_at_call 54; refine mem_call hm (HS.out _) ?_; clear hm; intro w hm; (try simp only [nums, List.map_cons, List.map_nil])) | ((with_reducible refine gcmp ?_); refine mcmp ((HDD ()).out) (by first | exact .inl rfl | exact .inr rfl) rfl rfl rfl rfl ?_; (try simp only [cmpV, Bool.not_true, Bool.not_false])) | ((with_reducible refine gix ?_); first | refine mix rfl rfl rfl rfl ?_ | refine mixr rfl rfl rfl rfl ?_; (try simp only [Int.toNat_zero, Int.reduceToNat, Nat.reduceMul, Nat.zero_mul, Nat.one_mul, List.drop_succ_cons, List.drop_zero, List.take_succ_cons, List.take_zero])) | ((with_reducible refine gl ?_); first | refine ml hm rfl rfl rfl ?_ | refine mlw hm rfl rfl rfl ?_ | (refine mlr hm rfl rfl rfl ?_; try simp only [List.drop_succ_cons, List.drop_zero, List.take_succ_cons, List.take_zero])) | ((with_reducible refine gs ?_); (first | refine ms hm rfl rfl rfl rfl rfl ?_ | refine msw hm rfl rfl rfl rfl ?_ | refine msr hm rfl rfl rfl rfl ?_); clear hm; intro w hm; (try simp only [splice, List.set_cons_zero, List.set_cons_succ] at hm)) | ((with_reducible refine gb ?_); (first | refine mem_box hm rfl rfl rfl ?_ | refine mem_box1 hm rfl rfl rfl rfl ?_); clear hm; intro n w hm) | ((with_reducible refine ga ?_); refine mem_alloc hm rfl rfl ?_; clear hm; intro n w hm) | go_values | go_skip | go_guarded | go_step | go_upon | ((with_reducible refine bp ?_); go_back) | ((with_reducible refine up ?_); first | (simp only [Int.not_lt, Int.not_le] at *; go_simp) | (go_values <;> (try go_simp)) | (go_ite <;> go_prune <;> (try go_simp)) | (split <;> (first | (rename_i hx; exact (hx _ rfl).elim) | go_prune))))
        (try simp only [Exit.inBlock, Exit.then])
        (first | (refine ret1 rfl rfl (by (first | exact Res.tmp rfl | exact Res.atw hm rfl | exact Res.at hm rfl)) ?_) | (refine ret2 rfl rfl (by (first | exact Res.tmp rfl | exact Res.atw hm rfl | exact Res.at hm rfl)) (by (first | exact Res.tmp rfl | exact Res.atw hm rfl | exact Res.at hm rfl)) ?_) | (refine ret3 rfl rfl (by (first | exact Res.tmp rfl | exact Res.atw hm rfl | exact Res.at hm rfl)) (by (first | exact Res.tmp rfl | exact Res.atw hm rfl | exact Res.at hm rfl)) (by (first | exact Res.tmp rfl | exact Res.atw hm rfl | exact Res.at hm rfl)) ?_) | (refine ret4 rfl rfl (by (first | exact Res.tmp rfl | exact Res.atw hm rfl | exact Res.at hm rfl)) (by (first | exact Res.tmp rfl | exact Res.atw hm rfl | exact Res.at hm rfl)) (by (first | exact Res.tmp rfl | exact Res.atw hm rfl | exact Res.at hm rfl)) (by (first | exact Res.tmp rfl | exact Res.atw hm rfl | exact Res.at hm rfl)) ?_) | fail "ret")
        exact ⟨rfl, hm.below⟩
      · have hdd : decide (S = c) = false := by simpa using hSc
        have HDD : Unit → Hid _ := fun _ => Lib.hid hdd
        have hlt := hless hSc
        have hKo := HK.out
        have hk2 : k + 1 ≤ 33 := by omega
        have HK2 : Hid (muB dn S + (k + 1) ≤ 33) := Lib.hid (by omega)
        have HE2 : Unit → Hid (settleF rule dn (34 - (k + 1)) S (k + 1) = X) := fun _ => Lib.hid (by rw [← (HE ()).out, show 34 - k = (33 - k) + 1 from by omega, hgo _ _ hSc, show 33 - k = 34 - (k + 1) from by omega])
        clear hless hst hgo hdd hSc hlt hKo
        repeat' (first | (go_at_call 54; refine mem_call hm (HS.out _) ?_; clear hm; intro w hm; (try simp only [nums, List.map_cons, List.map_nil])) | ((with_reducible refine gcmp ?_); refine mcmp ((HDD ()).out) (by first | exact .inl rfl | exact .inr rfl) rfl rfl rfl rfl ?_; (try simp only [cmpV, Bool.not_true, Bool.not_false])) | ((with_reducible refine gix ?_); first | refine mix rfl rfl rfl rfl ?_ | refine mixr rfl rfl rfl rfl ?_; (try simp only [Int.toNat_zero, Int.reduceToNat, Nat.reduceMul, Nat.zero_mul, Nat.one_mul, List.drop_succ_cons, List.drop_zero, List.take_succ_cons, List.take_zero])) | ((with_reducible refine gl ?_); first | refine ml hm rfl rfl rfl ?_ | refine mlw hm rfl rfl rfl ?_ | (refine mlr hm rfl rfl rfl ?_; try simp only [List.drop_succ_cons, List.drop_zero, List.take_succ_cons, List.take_zero])) | ((with_reducible refine gs ?_); (first | refine ms hm rfl rfl rfl rfl rfl ?_ | refine msw hm rfl rfl rfl rfl ?_ | refine msr hm rfl rfl rfl rfl ?_); clear hm; intro w hm; (try simp only [splice, List.set_cons_zero, List.set_cons_succ] at hm)) | ((with_reducible refine gb ?_); (first | refine mem_box hm rfl rfl rfl ?_ | refine mem_box1 hm rfl rfl rfl rfl ?_); clear hm; intro n w hm) | ((with_reducible refine ga ?_); refine mem_alloc hm rfl rfl ?_; clear hm; intro n w hm) | go_values | go_skip | go_guarded | go_step | go_upon | ((with_reducible refine bp ?_); go_back) | ((with_reducible refine up ?_); first | (simp only [Int.not_lt, Int.not_le] at *; go_simp) | (go_values <;> (try go_simp)) | (go_ite <;> go_prune <;> (try go_simp)) | (split <;> (first | (rename_i hx; exact (hx _ rfl).elim) | go_prune))))
        go_roundw
        case rel => (try (first | ((repeat apply Exists.intro); refine ⟨?_, rfl⟩) | (repeat refine ex_any ?_))); exact ⟨k + 1, S, by omega, by go_num, hsl, HO2, HK2, HE2, hm.drop (by exact List.sublist_cons_self _ _)⟩
        case measure => simp [intOf]; omega
  all_goals
    have hv : settleV b d rule = ([0, 0, 0, 0, 0, 0, 0, 0, 0, 0, 0, 0, 0, 0, 0, 0], 0, false) := by simp [settleV, q1, q2, q3]
    rw [hv]
    rw [q1] at hB
    rw [q2] at hD
    rw [q3] at hR
    have HB := Lib.hid hB
    have HD := Lib.hid hD
    have HR := Lib.hid hR
    clear hB hD hR hv q1 q2 q3
    go_enter Try.func26, Try.ntmps26
    have hm := Mem.start w0
    simp only [nums_map]
    repeat' (first | (go_at_call 51; refine mem_call hm (HB.out _) ?_; clear hm; intro w hm; (try simp only [nums, List.map_cons, List.map_nil])) | (go_at_call 52; refine mem_call hm (HD.out _) ?_; clear hm; intro w hm; (try simp only [nums, List.map_cons, List.map_nil])) | (go_at_call 53; refine mem_call hm (HR.out _) ?_; clear hm; intro w hm; (try simp only [nums, List.map_cons, List.map_nil])) | ((with_reducible refine gix ?_); first | refine mix rfl rfl rfl rfl ?_ | refine mixr rfl rfl rfl rfl ?_; (try simp only [Int.toNat_zero, Int.reduceToNat, Nat.reduceMul, Nat.zero_mul, Nat.one_mul, List.drop_succ_cons, List.drop_zero, List.take_succ_cons, List.take_zero])) | ((with_reducible refine gl ?_); first | refine ml hm rfl rfl rfl ?_ | refine mlw hm rfl rfl rfl ?_ | (refine mlr hm rfl rfl rfl ?_; try simp only [List.drop_succ_cons, List.drop_zero, List.take_succ_cons, List.take_zero])) | ((with_reducible refine gs ?_); (first | refine ms hm rfl rfl rfl rfl rfl ?_ | refine msw hm rfl rfl rfl rfl ?_ | refine msr hm rfl rfl rfl rfl ?_); clear hm; intro w hm; (try simp only [splice, List.set_cons_zero, List.set_cons_succ] at hm)) | ((with_reducible refine gb ?_); (first | refine mem_box hm rfl rfl rfl ?_ | refine mem_box1 hm rfl rfl rfl rfl ?_); clear hm; intro n w hm) | ((with_reducible refine ga ?_); refine mem_alloc hm rfl rfl ?_; clear hm; intro n w hm) | go_values | go_skip | go_guarded | go_step | go_upon | ((with_reducible refine bp ?_); go_back) | ((with_reducible refine up ?_); first | (simp only [Int.not_lt, Int.not_le] at *; go_simp) | (go_values <;> (try go_simp)) | (go_ite <;> go_prune <;> (try go_simp)) | (split <;> (first | (rename_i hx; exact (hx _ rfl).elim) | go_prune))))
    (try simp only [Exit.inBlock, Exit.then])
    (first | (refine ret1 rfl rfl (by (first | exact Res.tmp rfl | exact Res.atw hm rfl | exact Res.at hm rfl)) ?_) | (refine ret2 rfl rfl (by (first | exact Res.tmp rfl | exact Res.atw hm rfl | exact Res.at hm rfl)) (by (first | exact Res.tmp rfl | exact Res.atw hm rfl | exact Res.at hm rfl)) ?_) | (refine ret3 rfl rfl (by (first | exact Res.tmp rfl | exact Res.atw hm rfl | exact Res.at hm rfl)) (by (first | exact Res.tmp rfl | exact Res.atw hm rfl | exact Res.at hm rfl)) (by (first | exact Res.tmp rfl | exact Res.atw hm rfl | exact Res.at hm rfl)) ?_) | (refine ret4 rfl rfl (by (first | exact Res.tmp rfl | exact Res.atw hm rfl | exact Res.at hm rfl)) (by (first | exact Res.tmp rfl | exact Res.atw hm rfl | exact Res.at hm rfl)) (by (first | exact Res.tmp rfl | exact Res.atw hm rfl | exact Res.at hm rfl)) (by (first | exact Res.tmp rfl | exact Res.atw hm rfl | exact Res.at hm rfl)) ?_) | fail "ret")
    exact ⟨rfl, hm.below⟩
end Go.Proofs.Ytlhchjjegaflhaa

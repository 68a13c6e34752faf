/-
  Walks of deeds, of the program.
-/
import Derived.Test.YtelnajpjanmliaaDeedM
import Derived.Test.YtelnajpjanmliaaPick
set_option linter.unusedVariables false
set_option linter.unusedSimpArgs false
namespace Go.Proofs.Ytelnajpjanmliaa
open Go.RowKit Slm
theorem EqInts.four {P : Program} {t : TypeId} {f1 f2 f3 f4 : Field} {k1 k2 k3 k4 : IntKind} (ht : P.underlying t = some (.struct #[f1, f2, f3, f4])) (hp : P.stoodInHeld t = false) (n1 : f1.name ≠ "_") (n2 : f2.name ≠ "_") (n3 : f3.name ≠ "_") (n4 : f4.name ≠ "_")
    (o1 : f1.offset = 0) (o2 : f2.offset = 1) (o3 : f3.offset = 2) (o4 : f4.offset = 3) [IsCell P f1.type] (h1 : P.underlying f1.type = some (.int k1)) [IsCell P f2.type] (h2 : P.underlying f2.type = some (.int k2)) [IsCell P f3.type] (h3 : P.underlying f3.type = some (.int k3)) [IsCell P f4.type] (h4 : P.underlying f4.type = some (.int k4)) : EqInts P t 4 3 := ⟨fun d w xs ys hx hy => by
  obtain ⟨a, b, c, e, rfl⟩ := list4 hx
  obtain ⟨a', b', c', e', rfl⟩ := list4 hy
  have hF : P.fieldsOf t = #[f1, f2, f3, f4] := by simp [Program.fieldsOf, ht]
  have p1 := fun (x y z u : Int) (w : World) => part_cell (P := P) (e := f1.type) (cs := [x, y, z, u].map iv) (i := 0) (v := iv x) rfl w
  have p2 := fun (x y z u : Int) (w : World) => part_cell (P := P) (e := f2.type) (cs := [x, y, z, u].map iv) (i := 1) (v := iv y) rfl w
  have p3 := fun (x y z u : Int) (w : World) => part_cell (P := P) (e := f3.type) (cs := [x, y, z, u].map iv) (i := 2) (v := iv z) rfl w
  have p4 := fun (x y z u : Int) (w : World) => part_cell (P := P) (e := f4.type) (cs := [x, y, z, u].map iv) (i := 3) (v := iv u) rfl w
  simp only [nums, List.map_cons, List.map_nil] at p1 p2 p3 p4
  have e1 := fun w => run_equalIn_int w (d + 2) f1.type .i64 k1 a a' h1
  have e2 := fun w => run_equalIn_int w (d + 2) f2.type .i64 k2 b b' h2
  have e3 := fun w => run_equalIn_int w (d + 2) f3.type .i64 k3 c c' h3
  have e4 := fun w => run_equalIn_int w (d + 2) f4.type .i64 k4 e e' h4
  have e1' := fun w => run_equalIn_int w (d + 1) f1.type .i64 k1 a a' h1
  have e2' := fun w => run_equalIn_int w (d + 1) f2.type .i64 k2 b b' h2
  have e3' := fun w => run_equalIn_int w (d + 1) f3.type .i64 k3 c c' h3
  have e4' := fun w => run_equalIn_int w (d + 1) f4.type .i64 k4 e e' h4
  rw [show d + 3 = (d + 2) + 1 from rfl, run_equalIn_struct w _ t _ _ (by rw [hF]; exact ht) hp, hF]
  simp only [Op.eqFields, n1, n2, n3, n4, ne_eq, not_false_eq_true, if_true, o1, o2, o3, o4, Sem.run_bind, nums, List.map_cons, List.map_nil, p1, p2, p3, p4, Result.andThen_ok, e1, e2, e3, e4, e1', e2', e3', e4']
  by_cases q1 : a = a' <;> by_cases q2 : b = b' <;> by_cases q3 : c = c' <;> by_cases q4 : e = e' <;> simp_all⟩
instance : EqInts Try.prog 36 4 3 := EqInts.four Try.underlying36 (by kernel_rfl) (by decide) (by decide) (by decide) (by decide) rfl rfl rfl rfl Try.underlying3 Try.underlying3 Try.underlying3 Try.underlying3
theorem impl_isMove0 (b : List Int) (hl : b.length = 16) (hok : okL b = true) (d : Nat) (hd : d ≤ 3) (w0 : World) : Calls Try.prog 30 #[.agg (nums b), iv d] w0 fun e w' => e = .returned (.bool (!decide (slideB 1 d b = b))) ∧ Below w0.heap.size w0 w' := by
  have hB := impl_IsBoard b hl
  have hD := impl_isDirection d
  rw [hok] at hB
  rw [show inB (d : Int) 0 3 = true from inB_iff.2 (by omega)] at hD
  have hG := fun (w0 w : World) (σ : List Blk) (g i c : Nat) (more : List Value) (hm : Mem w0 w σ) (hA : At σ g (iv d :: more) 3 i) => impl_slides1 (c := c) (more := more) (g := g) (i := i) d hd b hl hok hm
  have hsl := slideB_len 1 d b
  rw [hl] at hsl
  generalize slideB 1 d b = S at *
  have HG := Lib.hid hG
  have HB := Lib.hid hB
  have HD := Lib.hid hD
  clear hG hB hD hok
  cases hq : decide (S = b)
  all_goals
    have HQ : Unit → Hid _ := fun _ => Lib.hid hq
    clear hq
    go_enter Try.func30, Try.ntmps30
    have hm := Mem.start w0
    simp only [nums_map] at *
    repeat' (first | ((with_reducible refine gqw ?_); first | (refine qw_skipR (by decide +kernel) ?_) | ((with_reducible refine gqwc ?_); refine qw_cmp (HQ ()).out (.inr rfl) hm rfl (by decide +kernel) rfl rfl rfl rfl (by decide +kernel) (by decide +kernel) (fun _ _ _ _ h => h) ?_) | ((with_reducible refine gqwl ?_); first | refine qw_load hm rfl (by decide +kernel) rfl rfl rfl (by decide +kernel) (by decide +kernel) (fun _ _ _ _ h => h) ?_ | refine qw_loadW hm rfl (by decide +kernel) rfl rfl rfl (by decide +kernel) (by decide +kernel) (fun _ _ _ _ h => h) ?_ | (refine qw_loadR hm rfl (by decide +kernel) rfl rfl rfl (by decide +kernel) (by decide +kernel) (fun _ _ _ _ h => h) ?_; (try simp only [List.drop_succ_cons, List.drop_zero, List.take_succ_cons, List.take_zero]))) | (refine qw_pure hm (by decide +kernel) (by decide +kernel) rfl (by decide +kernel) (by decide +kernel) (fun _ _ _ _ h => h) (MS.any2 hm) ?_; intro hn K hK; go_simp; (try go_ints); (try simp [↓IntWalk.iteOmega, go_sem]); first | (refine hK _ ?_; clear hK K hn) | (apply Exists.intro; refine ⟨fun _ => ?_, hK _ ?_⟩; (first | rfl | done); clear hK K hn)) | (refine qw_not hm rfl (by decide +kernel) rfl (by decide +kernel) (by decide +kernel) (fun _ _ _ h => h) ?_) | refine qw_skip ?_) | ((with_reducible refine gqwn ?_); first | (refine qw_done (by decide +kernel) ?_; (try simp only [Act.put, List.setIfInBounds_toArray, List.set_cons_zero, List.set_cons_succ])) | refine qw_all (by decide +kernel) ?_) | ((with_reducible refine gaf ?_); first | exact af_end | refine af_skip (by decide +kernel) ?_ | refine af_go ?_ ?_) | ((with_reducible refine exit_go ?_); refine ⟨hm.drop (by first | exact List.Sublist.refl _ | exact List.sublist_cons_self _ _ | (repeat (first | exact List.Sublist.refl _ | (with_reducible refine List.Sublist.cons_cons _ ?_) | refine List.Sublist.cons _ ?_))), ?_⟩) | (go_at_call 44; refine mem_call hm (HB.out _) ?_; clear hm; intro w hm; (try simp only [nums, List.map_cons, List.map_nil])) | (go_at_call 63; refine mem_call hm (HD.out _) ?_; clear hm; intro w hm; (try simp only [nums, List.map_cons, List.map_nil])) | (go_at_call 64; refine mem_callM (HG.out _ _ _ _ _ _ _ hm inferInstance) ?_; clear hm; intro w hm; (try simp only [])) | ((with_reducible refine gbs ?_); refine mbs hm rfl rfl rfl ?_; clear hm; intro n w hm; (try simp only [List.flatMap_cons, List.flatMap_nil, Value.cells, List.append_nil, List.cons_append, List.nil_append] at hm)) | ((with_reducible refine gap ?_); refine map_ hm rfl rfl rfl rfl hf0 ?_; clear hm; intro g cap more w hm hf; simp only [Nat.zero_mul, List.take_zero, List.nil_append] at hm hf; (try simp only [List.eraseIdx_cons_succ, List.eraseIdx_cons_zero, Nat.zero_add, Nat.reduceAdd, Nat.reduceSub, Nat.reduceLT, if_true, if_false] at hm)) | ((with_reducible refine gcmp ?_); refine mcmp ((HQ ()).out) (by first | exact .inl rfl | exact .inr rfl) rfl rfl rfl rfl ?_; (try simp only [cmpV, Bool.not_true, Bool.not_false])) | ((with_reducible refine gd ?_); refine any_start hm (by kernel_rfl) ?_; clear hm; intro w hm) | ((with_reducible refine gix ?_); first | refine mix rfl rfl rfl rfl ?_ | refine mixr rfl rfl rfl rfl ?_; (try simp only [Int.toNat_zero, Int.reduceToNat, Nat.reduceMul, Nat.zero_mul, Nat.one_mul, List.drop_succ_cons, List.drop_zero, List.take_succ_cons, List.take_zero])) | ((with_reducible refine gl ?_); first | refine ml hm rfl rfl rfl ?_ | refine mlw hm rfl rfl rfl ?_ | (refine mlr hm rfl rfl rfl ?_; try simp only [List.drop_succ_cons, List.drop_zero, List.take_succ_cons, List.take_zero])) | ((with_reducible refine gs ?_); (first | refine ms hm rfl rfl rfl rfl rfl ?_ | refine msw hm rfl rfl rfl rfl ?_ | refine msr hm rfl rfl rfl rfl ?_); clear hm; intro w hm; (try simp only [splice, List.set_cons_zero, List.set_cons_succ] at hm)) | ((with_reducible refine gb ?_); (first | refine mem_box hm rfl rfl rfl ?_ | refine mem_box1 hm rfl rfl rfl rfl ?_); clear hm; intro n w hm) | ((with_reducible refine ga ?_); refine mem_alloc hm rfl rfl ?_; clear hm; intro n w hm) | go_values | go_skip | go_guarded | go_step | go_upon | ((with_reducible refine bp ?_); go_back) | ((with_reducible refine up ?_); first | (simp only [Int.not_lt, Int.not_le] at *; go_simp) | (go_values <;> (try go_simp)) | (go_ite <;> go_prune <;> (try go_simp)) | (split <;> (first | (rename_i hx; exact (hx _ rfl).elim) | go_prune))))
    all_goals
      (try simp only [Exit.inBlock, Exit.then])
      (first | (refine ret1 rfl rfl (by (first | exact Res.tmp rfl | exact Res.atw hm rfl | exact Res.at hm rfl)) ?_) | (refine ret2 rfl rfl (by (first | exact Res.tmp rfl | exact Res.atw hm rfl | exact Res.at hm rfl)) (by (first | exact Res.tmp rfl | exact Res.atw hm rfl | exact Res.at hm rfl)) ?_) | (refine ret3 rfl rfl (by (first | exact Res.tmp rfl | exact Res.atw hm rfl | exact Res.at hm rfl)) (by (first | exact Res.tmp rfl | exact Res.atw hm rfl | exact Res.at hm rfl)) (by (first | exact Res.tmp rfl | exact Res.atw hm rfl | exact Res.at hm rfl)) ?_) | (refine ret4 rfl rfl (by (first | exact Res.tmp rfl | exact Res.atw hm rfl | exact Res.at hm rfl)) (by (first | exact Res.tmp rfl | exact Res.atw hm rfl | exact Res.at hm rfl)) (by (first | exact Res.tmp rfl | exact Res.atw hm rfl | exact Res.at hm rfl)) (by (first | exact Res.tmp rfl | exact Res.atw hm rfl | exact Res.at hm rfl)) ?_) | fail "ret")
      exact ⟨rfl, hm.below⟩
theorem impl_isMoveD (b : List Int) (hl : b.length = 16) (hok : okL b = true) (d : Int) (w : World) : Calls Try.prog 30 #[.agg (nums b), iv d] w fun e w' => e = .returned (.bool ((slV b d).2.2 && !decide ((slV b d).1 = b))) ∧ Below w.heap.size w w' := by
  have hB := impl_IsBoard b hl
  have hD := impl_isDirection d
  cases q2 : inB d 0 3
  · have e : slV b d = (z16d, 0, false) := by simp only [slV, q2, Bool.false_eq_true, if_false]
    rw [hok] at hB
    rw [q2] at hD
    rw [e]
    simp only [Bool.false_and]
    have HB := Lib.hid hB
    have HD := Lib.hid hD
    clear hB hD hok q2 e
    go_enter Try.func30, Try.ntmps30
    have hm := Mem.start w
    simp only [nums_map] at *
    repeat' (first | ((with_reducible refine gqw ?_); first | (refine qw_skipR (by decide +kernel) ?_) | fail | ((with_reducible refine gqwl ?_); first | refine qw_load hm rfl (by decide +kernel) rfl rfl rfl (by decide +kernel) (by decide +kernel) (fun _ _ _ _ h => h) ?_ | refine qw_loadW hm rfl (by decide +kernel) rfl rfl rfl (by decide +kernel) (by decide +kernel) (fun _ _ _ _ h => h) ?_ | (refine qw_loadR hm rfl (by decide +kernel) rfl rfl rfl (by decide +kernel) (by decide +kernel) (fun _ _ _ _ h => h) ?_; (try simp only [List.drop_succ_cons, List.drop_zero, List.take_succ_cons, List.take_zero]))) | (refine qw_pure hm (by decide +kernel) (by decide +kernel) rfl (by decide +kernel) (by decide +kernel) (fun _ _ _ _ h => h) (MS.any2 hm) ?_; intro hn K hK; go_simp; (try go_ints); (try simp [↓IntWalk.iteOmega, go_sem]); first | (refine hK _ ?_; clear hK K hn) | (apply Exists.intro; refine ⟨fun _ => ?_, hK _ ?_⟩; (first | rfl | done); clear hK K hn)) | (refine qw_not hm rfl (by decide +kernel) rfl (by decide +kernel) (by decide +kernel) (fun _ _ _ h => h) ?_) | refine qw_skip ?_) | ((with_reducible refine gqwn ?_); first | (refine qw_done (by decide +kernel) ?_; (try simp only [Act.put, List.setIfInBounds_toArray, List.set_cons_zero, List.set_cons_succ])) | refine qw_all (by decide +kernel) ?_) | ((with_reducible refine gaf ?_); first | exact af_end | refine af_skip (by decide +kernel) ?_ | refine af_go ?_ ?_) | ((with_reducible refine exit_go ?_); refine ⟨hm.drop (by first | exact List.Sublist.refl _ | exact List.sublist_cons_self _ _ | (repeat (first | exact List.Sublist.refl _ | (with_reducible refine List.Sublist.cons_cons _ ?_) | refine List.Sublist.cons _ ?_))), ?_⟩) | (go_at_call 44; refine mem_call hm (HB.out _) ?_; clear hm; intro w hm; (try simp only [nums, List.map_cons, List.map_nil])) | (go_at_call 63; refine mem_call hm (HD.out _) ?_; clear hm; intro w hm; (try simp only [nums, List.map_cons, List.map_nil])) | ((with_reducible refine gd ?_); refine any_start hm (by kernel_rfl) ?_; clear hm; intro w hm) | ((with_reducible refine gix ?_); first | refine mix rfl rfl rfl rfl ?_ | refine mixr rfl rfl rfl rfl ?_; (try simp only [Int.toNat_zero, Int.reduceToNat, Nat.reduceMul, Nat.zero_mul, Nat.one_mul, List.drop_succ_cons, List.drop_zero, List.take_succ_cons, List.take_zero])) | ((with_reducible refine gl ?_); first | refine ml hm rfl rfl rfl ?_ | refine mlw hm rfl rfl rfl ?_ | (refine mlr hm rfl rfl rfl ?_; try simp only [List.drop_succ_cons, List.drop_zero, List.take_succ_cons, List.take_zero])) | ((with_reducible refine gs ?_); (first | refine ms hm rfl rfl rfl rfl rfl ?_ | refine msw hm rfl rfl rfl rfl ?_ | refine msr hm rfl rfl rfl rfl ?_); clear hm; intro w hm; (try simp only [splice, List.set_cons_zero, List.set_cons_succ] at hm)) | ((with_reducible refine gb ?_); (first | refine mem_box hm rfl rfl rfl ?_ | refine mem_box1 hm rfl rfl rfl rfl ?_); clear hm; intro n w hm) | ((with_reducible refine ga ?_); refine mem_alloc hm rfl rfl ?_; clear hm; intro n w hm) | go_values | go_skip | go_guarded | go_step | go_upon | ((with_reducible refine bp ?_); go_back) | ((with_reducible refine up ?_); first | (simp only [Int.not_lt, Int.not_le] at *; go_simp) | (go_values <;> (try go_simp)) | (go_ite <;> go_prune <;> (try go_simp)) | (split <;> (first | (rename_i hx; exact (hx _ rfl).elim) | go_prune))))
    (try simp only [Exit.inBlock, Exit.then])
    (first | (refine ret1 rfl rfl (by (first | exact Res.tmp rfl | exact Res.atw hm rfl | exact Res.at hm rfl)) ?_) | (refine ret2 rfl rfl (by (first | exact Res.tmp rfl | exact Res.atw hm rfl | exact Res.at hm rfl)) (by (first | exact Res.tmp rfl | exact Res.atw hm rfl | exact Res.at hm rfl)) ?_) | (refine ret3 rfl rfl (by (first | exact Res.tmp rfl | exact Res.atw hm rfl | exact Res.at hm rfl)) (by (first | exact Res.tmp rfl | exact Res.atw hm rfl | exact Res.at hm rfl)) (by (first | exact Res.tmp rfl | exact Res.atw hm rfl | exact Res.at hm rfl)) ?_) | (refine ret4 rfl rfl (by (first | exact Res.tmp rfl | exact Res.atw hm rfl | exact Res.at hm rfl)) (by (first | exact Res.tmp rfl | exact Res.atw hm rfl | exact Res.at hm rfl)) (by (first | exact Res.tmp rfl | exact Res.atw hm rfl | exact Res.at hm rfl)) (by (first | exact Res.tmp rfl | exact Res.atw hm rfl | exact Res.at hm rfl)) ?_) | fail "ret")
    exact ⟨rfl, hm.below⟩
  obtain ⟨n, rfl⟩ := Int.eq_ofNat_of_zero_le (inB_iff.1 q2).1
  have hn : n ≤ 3 := by have := (inB_iff.1 q2).2; omega
  have e : slV b n = (slideB 1 n b, scoreB n b, true) := by simp only [slV, q2, if_true, Int.toNat_natCast]
  rw [e]
  have h := impl_isMove0 b hl hok n hn w
  simp only [Bool.true_and]
  exact h
end Go.Proofs.Ytelnajpjanmliaa

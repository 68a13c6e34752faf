/-
  The law on MergeOf: for every input it returns true, and each argument reads as it read before. No condition.
-/
import Derived.Test.YtapdlongffmihaaRules0
set_option linter.unusedVariables false
set_option linter.unusedSimpArgs false
namespace Go.Proofs.Ytapdlongffmihaa
open Go.ChangeShapes Go.WideShapes Go.ChangeAt Go.RowKit Slm
open Go.ChangeMaps (open_string shut_string)
def mergeV (r s t : Int) : Value := if (inB r 1 4 && (inB s 1 17 && inB t 1 17)) = true then .tuple #[iv (mergeZ r s t), .bool (decide (0 < mergeZ r s t))] else .tuple #[iv 0, .bool false]
theorem spec_MergeOf (r s t : Int) (w : World) : Calls Try.prog 24 #[iv r, iv s, iv t] w fun e w' => e = .returned (mergeV r s t) ∧ Below w.heap.size w w' := by
  cases hb : inB r 1 4 <;> cases hs : inB s 1 17 <;> cases hc : inB t 1 17
  case true.true.true =>
    have hx := inB_iff.1 hs
    have hy := inB_iff.1 hc
    go_enter Try.func24, Try.ntmps24
    have hm := Mem.start w
    repeat' (first | (go_at_call 57; refine mem_call hm (spec_l10Rule _ _) ?_; clear hm; intro w hm; simp only [hb]) | (go_at_call 58; refine mem_call hm (spec_l2Tile _ _) ?_; clear hm; intro w hm; simp only [hs, hc]) | (go_at_call 65; refine mem_call hm (spec_l10Merge _ _ _ (by omega) (by omega) _) ?_; clear hm; intro w hm; (try simp only [nums, List.map_cons, List.map_nil])) | ((with_reducible refine gl ?_); first | refine ml hm rfl rfl rfl ?_ | (refine mlr hm rfl rfl rfl ?_; try simp only [List.drop_succ_cons, List.drop_zero, List.take_succ_cons, List.take_zero])) | ((with_reducible refine gs ?_); (first | refine ms hm rfl rfl rfl rfl rfl ?_ | refine msr hm rfl rfl rfl rfl ?_); clear hm; intro w hm; (try simp only [splice, List.set_cons_zero, List.set_cons_succ] at hm)) | ((with_reducible refine gb ?_); (first | refine mem_box hm rfl rfl rfl ?_ | refine mem_box1 hm rfl rfl rfl rfl ?_); clear hm; intro n w hm) | ((with_reducible refine ga ?_); refine mem_alloc hm rfl rfl ?_; clear hm; intro n w hm) | ((with_reducible refine wp_loop_rounds 18 ?_); rw [rounds_succ]) | (with_reducible rw [rounds_succ]) | go_values | go_skip | go_guarded | go_step | go_upon | ((with_reducible refine bp ?_); go_back) | ((with_reducible refine up ?_); first | (simp only [Int.not_lt, Int.not_le] at *; go_simp) | (go_values <;> (try go_simp)) | (go_ite <;> go_prune <;> (try go_simp)) | (split <;> (first | (rename_i hx; exact (hx _ rfl).elim) | go_prune))))
    (try simp only [Exit.inBlock, Exit.then])
    (first | (refine ret1 rfl rfl (by (first | exact Res.tmp rfl | exact Res.at hm rfl)) ?_) | (refine ret2 rfl rfl (by (first | exact Res.tmp rfl | exact Res.at hm rfl)) (by (first | exact Res.tmp rfl | exact Res.at hm rfl)) ?_) | (refine ret3 rfl rfl (by (first | exact Res.tmp rfl | exact Res.at hm rfl)) (by (first | exact Res.tmp rfl | exact Res.at hm rfl)) (by (first | exact Res.tmp rfl | exact Res.at hm rfl)) ?_) | fail "ret")
    exact ⟨by simp [mergeV, hb, hs, hc], hm.below⟩
  all_goals
    go_enter Try.func24, Try.ntmps24
    have hm := Mem.start w
    repeat' (first | (go_at_call 57; refine mem_call hm (spec_l10Rule _ _) ?_; clear hm; intro w hm; simp only [hb]) | (go_at_call 58; refine mem_call hm (spec_l2Tile _ _) ?_; clear hm; intro w hm; simp only [hs, hc]) | ((with_reducible refine gl ?_); first | refine ml hm rfl rfl rfl ?_ | (refine mlr hm rfl rfl rfl ?_; try simp only [List.drop_succ_cons, List.drop_zero, List.take_succ_cons, List.take_zero])) | ((with_reducible refine gs ?_); (first | refine ms hm rfl rfl rfl rfl rfl ?_ | refine msr hm rfl rfl rfl rfl ?_); clear hm; intro w hm; (try simp only [splice, List.set_cons_zero, List.set_cons_succ] at hm)) | ((with_reducible refine gb ?_); (first | refine mem_box hm rfl rfl rfl ?_ | refine mem_box1 hm rfl rfl rfl rfl ?_); clear hm; intro n w hm) | ((with_reducible refine ga ?_); refine mem_alloc hm rfl rfl ?_; clear hm; intro n w hm) | ((with_reducible refine wp_loop_rounds 18 ?_); rw [rounds_succ]) | (with_reducible rw [rounds_succ]) | go_values | go_skip | go_guarded | go_step | go_upon | ((with_reducible refine bp ?_); go_back) | ((with_reducible refine up ?_); first | (simp only [Int.not_lt, Int.not_le] at *; go_simp) | (go_values <;> (try go_simp)) | (go_ite <;> go_prune <;> (try go_simp)) | (split <;> (first | (rename_i hx; exact (hx _ rfl).elim) | go_prune))))
    (try simp only [Exit.inBlock, Exit.then])
    (first | (refine ret1 rfl rfl (by (first | exact Res.tmp rfl | exact Res.at hm rfl)) ?_) | (refine ret2 rfl rfl (by (first | exact Res.tmp rfl | exact Res.at hm rfl)) (by (first | exact Res.tmp rfl | exact Res.at hm rfl)) ?_) | (refine ret3 rfl rfl (by (first | exact Res.tmp rfl | exact Res.at hm rfl)) (by (first | exact Res.tmp rfl | exact Res.at hm rfl)) (by (first | exact Res.tmp rfl | exact Res.at hm rfl)) ?_) | fail "ret")
    exact ⟨by simp [mergeV, hb, hs, hc], hm.below⟩
theorem impl_MergeOf (r s t : Int) (w : World) : Calls Try.prog 25 #[iv r, iv s, iv t] w fun e w' => e = .returned (mergeV r s t) ∧ Below w.heap.size w w' := by
  cases hb : inB r 1 4 <;> cases hs : inB s 1 17 <;> cases hc : inB t 1 17
  case true.true.true =>
    have hx := inB_iff.1 hs
    have hy := inB_iff.1 hc
    go_enter Try.func25, Try.ntmps25
    have hm := Mem.start w
    repeat' (first | (go_at_call 60; refine mem_call hm (impl_isRule _ _) ?_; clear hm; intro w hm; simp only [hb]) | (go_at_call 61; refine mem_call hm (impl_isTile _ _) ?_; clear hm; intro w hm; simp only [hs, hc]) | (go_at_call 66; refine mem_call hm (impl_mergeOf _ _ _ (by omega) (by omega) _) ?_; clear hm; intro w hm; (try simp only [nums, List.map_cons, List.map_nil])) | ((with_reducible refine gl ?_); first | refine ml hm rfl rfl rfl ?_ | (refine mlr hm rfl rfl rfl ?_; try simp only [List.drop_succ_cons, List.drop_zero, List.take_succ_cons, List.take_zero])) | ((with_reducible refine gs ?_); (first | refine ms hm rfl rfl rfl rfl rfl ?_ | refine msr hm rfl rfl rfl rfl ?_); clear hm; intro w hm; (try simp only [splice, List.set_cons_zero, List.set_cons_succ] at hm)) | ((with_reducible refine gb ?_); (first | refine mem_box hm rfl rfl rfl ?_ | refine mem_box1 hm rfl rfl rfl rfl ?_); clear hm; intro n w hm) | ((with_reducible refine ga ?_); refine mem_alloc hm rfl rfl ?_; clear hm; intro n w hm) | ((with_reducible refine wp_loop_rounds 18 ?_); rw [rounds_succ]) | (with_reducible rw [rounds_succ]) | go_values | go_skip | go_guarded | go_step | go_upon | ((with_reducible refine bp ?_); go_back) | ((with_reducible refine up ?_); first | (simp only [Int.not_lt, Int.not_le] at *; go_simp) | (go_values <;> (try go_simp)) | (go_ite <;> go_prune <;> (try go_simp)) | (split <;> (first | (rename_i hx; exact (hx _ rfl).elim) | go_prune))))
    (try simp only [Exit.inBlock, Exit.then])
    (first | (refine ret1 rfl rfl (by (first | exact Res.tmp rfl | exact Res.at hm rfl)) ?_) | (refine ret2 rfl rfl (by (first | exact Res.tmp rfl | exact Res.at hm rfl)) (by (first | exact Res.tmp rfl | exact Res.at hm rfl)) ?_) | (refine ret3 rfl rfl (by (first | exact Res.tmp rfl | exact Res.at hm rfl)) (by (first | exact Res.tmp rfl | exact Res.at hm rfl)) (by (first | exact Res.tmp rfl | exact Res.at hm rfl)) ?_) | fail "ret")
    exact ⟨by simp [mergeV, hb, hs, hc], hm.below⟩
  all_goals
    go_enter Try.func25, Try.ntmps25
    have hm := Mem.start w
    repeat' (first | (go_at_call 60; refine mem_call hm (impl_isRule _ _) ?_; clear hm; intro w hm; simp only [hb]) | (go_at_call 61; refine mem_call hm (impl_isTile _ _) ?_; clear hm; intro w hm; simp only [hs, hc]) | ((with_reducible refine gl ?_); first | refine ml hm rfl rfl rfl ?_ | (refine mlr hm rfl rfl rfl ?_; try simp only [List.drop_succ_cons, List.drop_zero, List.take_succ_cons, List.take_zero])) | ((with_reducible refine gs ?_); (first | refine ms hm rfl rfl rfl rfl rfl ?_ | refine msr hm rfl rfl rfl rfl ?_); clear hm; intro w hm; (try simp only [splice, List.set_cons_zero, List.set_cons_succ] at hm)) | ((with_reducible refine gb ?_); (first | refine mem_box hm rfl rfl rfl ?_ | refine mem_box1 hm rfl rfl rfl rfl ?_); clear hm; intro n w hm) | ((with_reducible refine ga ?_); refine mem_alloc hm rfl rfl ?_; clear hm; intro n w hm) | ((with_reducible refine wp_loop_rounds 18 ?_); rw [rounds_succ]) | (with_reducible rw [rounds_succ]) | go_values | go_skip | go_guarded | go_step | go_upon | ((with_reducible refine bp ?_); go_back) | ((with_reducible refine up ?_); first | (simp only [Int.not_lt, Int.not_le] at *; go_simp) | (go_values <;> (try go_simp)) | (go_ite <;> go_prune <;> (try go_simp)) | (split <;> (first | (rename_i hx; exact (hx _ rfl).elim) | go_prune))))
    (try simp only [Exit.inBlock, Exit.then])
    (first | (refine ret1 rfl rfl (by (first | exact Res.tmp rfl | exact Res.at hm rfl)) ?_) | (refine ret2 rfl rfl (by (first | exact Res.tmp rfl | exact Res.at hm rfl)) (by (first | exact Res.tmp rfl | exact Res.at hm rfl)) ?_) | (refine ret3 rfl rfl (by (first | exact Res.tmp rfl | exact Res.at hm rfl)) (by (first | exact Res.tmp rfl | exact Res.at hm rfl)) (by (first | exact Res.tmp rfl | exact Res.at hm rfl)) ?_) | fail "ret")
    exact ⟨by simp [mergeV, hb, hs, hc], hm.below⟩
theorem walk_FnExactMergeOf (a0 : Int) (w0 : I64 a0) (a1 : Int) (w1 : I64 a1) (a2 : Int) (w2 : I64 a2) (w : World) : Calls Try.prog 7 #[iv a0, iv a1, iv a2] w fun e w' => e = .returned (.bool true) ∧ Below w.heap.size w w' := by
  have hs := spec_MergeOf a0 a1 a2
  have hi := impl_MergeOf a0 a1 a2
  unfold mergeV at hs hi
  split at hs
  all_goals
    rename_i hb
    simp only [hb] at hi
    have HS := Lib.hid hs
    have HI := Lib.hid hi
    clear hs hi hb
    go_enter Try.func7, Try.ntmps7
    have hm := Mem.start w
    repeat' (first | (go_at_call 24; refine mem_call hm (HS.out _) ?_; clear hm; intro w hm; (try simp only [nums, List.map_cons, List.map_nil])) | (go_at_call 25; refine mem_call hm (HI.out _) ?_; clear hm; intro w hm; (try simp only [nums, List.map_cons, List.map_nil])) | ((with_reducible refine gl ?_); first | refine ml hm rfl rfl rfl ?_ | (refine mlr hm rfl rfl rfl ?_; try simp only [List.drop_succ_cons, List.drop_zero, List.take_succ_cons, List.take_zero])) | ((with_reducible refine gs ?_); (first | refine ms hm rfl rfl rfl rfl rfl ?_ | refine msr hm rfl rfl rfl rfl ?_); clear hm; intro w hm; (try simp only [splice, List.set_cons_zero, List.set_cons_succ] at hm)) | ((with_reducible refine gb ?_); (first | refine mem_box hm rfl rfl rfl ?_ | refine mem_box1 hm rfl rfl rfl rfl ?_); clear hm; intro n w hm) | ((with_reducible refine ga ?_); refine mem_alloc hm rfl rfl ?_; clear hm; intro n w hm) | ((with_reducible refine wp_loop_rounds 18 ?_); rw [rounds_succ]) | (with_reducible rw [rounds_succ]) | go_values | go_skip | go_guarded | go_step | go_upon | ((with_reducible refine bp ?_); go_back) | ((with_reducible refine up ?_); first | (simp only [Int.not_lt, Int.not_le] at *; go_simp) | (go_values <;> (try go_simp)) | (go_ite <;> go_prune <;> (try go_simp)) | (split <;> (first | (rename_i hx; exact (hx _ rfl).elim) | go_prune))))
    (try simp only [Exit.inBlock, Exit.then])
    (first | (refine ret1 rfl rfl (by (first | exact Res.tmp rfl | exact Res.at hm rfl)) ?_) | (refine ret2 rfl rfl (by (first | exact Res.tmp rfl | exact Res.at hm rfl)) (by (first | exact Res.tmp rfl | exact Res.at hm rfl)) ?_) | (refine ret3 rfl rfl (by (first | exact Res.tmp rfl | exact Res.at hm rfl)) (by (first | exact Res.tmp rfl | exact Res.at hm rfl)) (by (first | exact Res.tmp rfl | exact Res.at hm rfl)) ?_) | fail "ret")
    exact ⟨rfl, hm.below⟩
set_option maxRecDepth 100000 in
theorem lifted_FnExactMergeOf (os : Os) (started : os.Started) (H : Type) (enc : TypeId × Value → H) :
    ReturnsInHanded {} Try.checked os 7 .any (Rows.fnExactMergeOfSpec.pre6 enc Try.prog Try.f7 Rows.fnExactMergeOfRow.domain false) (Rows.fnExactMergeOfSpec.post enc Try.prog Try.f7 false true false false) := by
  refine returnsInHanded_of_change (C := Try.checked) own started (by kernel_rfl) Try.func7
    (ChangeSpec.witness6 (enc := enc) (C := Try.checked) false ⟨#[], #[.int .i64 0, .int .i64 0, .int .i64 0], []⟩ 8 (by kernel_rfl) (by kernel_rfl) (by kernel_rfl) (by kernel_rfl)) ?_
  intro W base args ds gs before hval0 hW hcnd _
  have hval : ∀ (j : Nat) t v, Try.f7.params[j]? = some t → args[j]? = some v → Value.okWide Try.prog W .any base t v := hval0
  have hW' := hW
  obtain ⟨p, q, hA0, hV, rfl, hfz, hnd⟩ := hW
  have hA : DataW.TrodAll enc Try.prog W 0 (fun _ => true) true Try.f7.params.toList args.toList ds p := hA0
  rw [Try.params7] at hA hval
  obtain ⟨v0, vs0, d0, ds0, p0, q0, hargs, rfl, rfl, h0, r0⟩ := trodAll_cons hA
  obtain ⟨v1, vs1, d1, ds1, p1, q1, rfl, rfl, rfl, h1, r1⟩ := trodAll_cons r0
  obtain ⟨v2, vs2, d2, ds2, p2, q2, rfl, rfl, rfl, h2, r2⟩ := trodAll_cons r1
  obtain ⟨rfl, rfl, rfl⟩ := trodAll_nil r2
  obtain rfl : args = #[v0, v1, v2] := by cases args; simp_all
  obtain ⟨rfl, rfl⟩ := trodVars_none hV
  obtain ⟨a0, rfl, rfl, rfl, w0⟩ := open_int Try.underlying3 (hval 0 3 v0 rfl rfl) h0
  obtain ⟨a1, rfl, rfl, rfl, w1⟩ := open_int Try.underlying3 (hval 1 3 v1 rfl rfl) h1
  obtain ⟨a2, rfl, rfl, rfl, w2⟩ := open_int Try.underlying3 (hval 2 3 v2 rfl rfl) h2
  clear hA0 hval0
  refine (walk_FnExactMergeOf a0 w0 a1 w1 a2 w2 W).mono fun e W' ⟨he, hb⟩ => ?_
  subst he
  exact ⟨_, rfl, post_law hW' rfl rfl rfl (by kernel_rfl) hb⟩
/-- FnExactMergeOf: for every input the law returns true, and each argument reads as it read before. No condition. -/
theorem FnExactMergeOf_holds : Rows.FnExactMergeOfSaid :=
  OpenClaim.holds_of_wide 7 Try.f7 rfl rfl rfl rfl rfl rfl rfl ⟨rfl, rfl, rfl, rfl, rfl⟩ rfl rfl rfl rfl rfl (by kernel_rfl) Try.func7 (by kernel_rfl)
    (of_decide_eq_true (by kernel_rfl)) (by unfold Func.isWrapper; first | (rw [if_pos (by decide +kernel)]; kernel_rfl) | (rw [if_neg (by decide +kernel)]; exact ⟨rfl, rfl⟩))
    (fun os started H enc _ => lifted_FnExactMergeOf os started H enc)
end Go.Proofs.Ytapdlongffmihaa

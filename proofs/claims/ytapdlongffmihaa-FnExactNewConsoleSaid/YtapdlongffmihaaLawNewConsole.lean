/-
  The law on NewConsole: for every input it returns true, and each argument reads as it read before. No condition.
-/
import Derived.Test.YtapdlongffmihaaDesk
set_option linter.unusedVariables false
set_option linter.unusedSimpArgs false
namespace Go.Proofs.Ytapdlongffmihaa
open Go.ChangeShapes Go.WideShapes Go.ChangeAt Go.RowKit Slm
open Go.ChangeMaps (open_string shut_string)
theorem walk_FnExactNewConsole (a0 : List Int) (l0 : a0.length = 18) (w0 : ∀ x ∈ a0, I64 x) (w : World) : Calls Try.prog 11 #[.agg (nums a0)] w fun e w' => e = .returned (.bool true) ∧ Below w.heap.size w w' := by
  clear w0
  have hT := laws_toDesk a0 l0
  have hS := spec_NewConsole a0 l0
  have hI := impl_NewConsole a0 l0
  unfold newConsoleV at hS hI
  generalize deskB a0 = q at hS hI
  have h1 := laws_eqConsole a0 a0 l0 l0 ⟨#[]⟩ ⟨#[]⟩ ⟨#[]⟩ ⟨#[]⟩ 0 0
  have h2 := laws_eqConsole (List.replicate 18 0) (List.replicate 18 0) rfl rfl ⟨#[]⟩ ⟨#[]⟩ ⟨#[]⟩ ⟨#[]⟩ 0 0
  simp only [decide_true, Bool.and_true, conV] at h1 h2
  obtain ⟨bb, p, cn, rfl, hbb⟩ := list18 l0
  clear l0
  obtain ⟨a0, a1, a2, a3, b0, b1, b2, b3, c0, c1, c2, c3, d0, d1, d2, d3, rfl⟩ := list16 hbb
  clear hbb
  simp only [nums, List.map_cons, List.map_nil, List.cons_append, List.nil_append, List.replicate_succ, List.replicate_zero] at *
  have HT := Lib.hid hT
  have HS := Lib.hid hS
  have HI := Lib.hid hI
  have H1 := Lib.hid h1
  have H2 := Lib.hid h2
  clear hT hS hI h1 h2
  cases q
  · go_enter Try.func11, Try.ntmps11
    have hm := Mem.start w
    repeat' (first | (go_at_call 22; refine mem_call hm (HT.out _) ?_; clear hm; intro w hm; (try simp only [nums, List.map_cons, List.map_nil])) | (go_at_call 38; refine mem_call hm (HS.out _) ?_; clear hm; intro w hm; (try simp only [nums, List.map_cons, List.map_nil])) | (go_at_call 39; refine mem_call hm (HI.out _) ?_; clear hm; intro w hm; (try simp only [nums, List.map_cons, List.map_nil])) | (go_at_call 40; refine mem_call hm (H2.out _) ?_; clear hm; intro w hm; (try simp only [nums, List.map_cons, List.map_nil])) | ((with_reducible refine gl ?_); first | refine ml hm rfl rfl rfl ?_ | (refine mlr hm rfl rfl rfl ?_; try simp only [List.drop_succ_cons, List.drop_zero, List.take_succ_cons, List.take_zero])) | ((with_reducible refine gs ?_); (first | refine ms hm rfl rfl rfl rfl rfl ?_ | refine msr hm rfl rfl rfl rfl ?_); clear hm; intro w hm; (try simp only [splice, List.set_cons_zero, List.set_cons_succ] at hm)) | ((with_reducible refine gb ?_); (first | refine mem_box hm rfl rfl rfl ?_ | refine mem_box1 hm rfl rfl rfl rfl ?_); clear hm; intro n w hm) | ((with_reducible refine ga ?_); refine mem_alloc hm rfl rfl ?_; clear hm; intro n w hm) | ((with_reducible refine wp_loop_rounds 18 ?_); rw [rounds_succ]) | (with_reducible rw [rounds_succ]) | go_values | go_skip | go_guarded | go_step | go_upon | ((with_reducible refine bp ?_); go_back) | ((with_reducible refine up ?_); first | (simp only [Int.not_lt, Int.not_le] at *; go_simp) | (go_values <;> (try go_simp)) | (go_ite <;> go_prune <;> (try go_simp)) | (split <;> (first | (rename_i hx; exact (hx _ rfl).elim) | go_prune))))
    (try simp only [Exit.inBlock, Exit.then])
    (first | (refine ret1 rfl rfl (by (first | exact Res.tmp rfl | exact Res.at hm rfl)) ?_) | (refine ret2 rfl rfl (by (first | exact Res.tmp rfl | exact Res.at hm rfl)) (by (first | exact Res.tmp rfl | exact Res.at hm rfl)) ?_) | (refine ret3 rfl rfl (by (first | exact Res.tmp rfl | exact Res.at hm rfl)) (by (first | exact Res.tmp rfl | exact Res.at hm rfl)) (by (first | exact Res.tmp rfl | exact Res.at hm rfl)) ?_) | fail "ret")
    exact ⟨rfl, hm.below⟩
  · go_enter Try.func11, Try.ntmps11
    have hm := Mem.start w
    repeat' (first | (go_at_call 22; refine mem_call hm (HT.out _) ?_; clear hm; intro w hm; (try simp only [nums, List.map_cons, List.map_nil])) | (go_at_call 38; refine mem_call hm (HS.out _) ?_; clear hm; intro w hm; (try simp only [nums, List.map_cons, List.map_nil])) | (go_at_call 39; refine mem_call hm (HI.out _) ?_; clear hm; intro w hm; (try simp only [nums, List.map_cons, List.map_nil])) | (go_at_call 40; refine mem_call hm (H1.out _) ?_; clear hm; intro w hm; (try simp only [nums, List.map_cons, List.map_nil])) | ((with_reducible refine gl ?_); first | refine ml hm rfl rfl rfl ?_ | (refine mlr hm rfl rfl rfl ?_; try simp only [List.drop_succ_cons, List.drop_zero, List.take_succ_cons, List.take_zero])) | ((with_reducible refine gs ?_); (first | refine ms hm rfl rfl rfl rfl rfl ?_ | refine msr hm rfl rfl rfl rfl ?_); clear hm; intro w hm; (try simp only [splice, List.set_cons_zero, List.set_cons_succ] at hm)) | ((with_reducible refine gb ?_); (first | refine mem_box hm rfl rfl rfl ?_ | refine mem_box1 hm rfl rfl rfl rfl ?_); clear hm; intro n w hm) | ((with_reducible refine ga ?_); refine mem_alloc hm rfl rfl ?_; clear hm; intro n w hm) | ((with_reducible refine wp_loop_rounds 18 ?_); rw [rounds_succ]) | (with_reducible rw [rounds_succ]) | go_values | go_skip | go_guarded | go_step | go_upon | ((with_reducible refine bp ?_); go_back) | ((with_reducible refine up ?_); first | (simp only [Int.not_lt, Int.not_le] at *; go_simp) | (go_values <;> (try go_simp)) | (go_ite <;> go_prune <;> (try go_simp)) | (split <;> (first | (rename_i hx; exact (hx _ rfl).elim) | go_prune))))
    (try simp only [Exit.inBlock, Exit.then])
    (first | (refine ret1 rfl rfl (by (first | exact Res.tmp rfl | exact Res.at hm rfl)) ?_) | (refine ret2 rfl rfl (by (first | exact Res.tmp rfl | exact Res.at hm rfl)) (by (first | exact Res.tmp rfl | exact Res.at hm rfl)) ?_) | (refine ret3 rfl rfl (by (first | exact Res.tmp rfl | exact Res.at hm rfl)) (by (first | exact Res.tmp rfl | exact Res.at hm rfl)) (by (first | exact Res.tmp rfl | exact Res.at hm rfl)) ?_) | fail "ret")
    exact ⟨rfl, hm.below⟩
set_option maxRecDepth 100000 in
theorem lifted_FnExactNewConsole (os : Os) (started : os.Started) (H : Type) (enc : TypeId × Value → H) :
    ReturnsInHanded {} Try.checked os 11 .any (Rows.fnExactNewConsoleSpec.pre6 enc Try.prog Try.f11 Rows.fnExactNewConsoleRow.domain false) (Rows.fnExactNewConsoleSpec.post enc Try.prog Try.f11 false true false false) := by
  refine returnsInHanded_of_change (C := Try.checked) own started (by kernel_rfl) Try.func11
    (ChangeSpec.witness6 (enc := enc) (C := Try.checked) false ⟨#[], #[.agg #[.int .i64 0, .int .i64 0, .int .i64 0, .int .i64 0, .int .i64 0, .int .i64 0, .int .i64 0, .int .i64 0, .int .i64 0, .int .i64 0, .int .i64 0, .int .i64 0, .int .i64 0, .int .i64 0, .int .i64 0, .int .i64 0, .int .i64 0, .int .i64 0]], []⟩ 8 (by kernel_rfl) (by kernel_rfl) (by kernel_rfl) (by kernel_rfl)) ?_
  intro W base args ds gs before hval0 hW hcnd _
  have hval : ∀ (j : Nat) t v, Try.f11.params[j]? = some t → args[j]? = some v → Value.okWide Try.prog W .any base t v := hval0
  have hW' := hW
  obtain ⟨p, q, hA0, hV, rfl, hfz, hnd⟩ := hW
  have hA : DataW.TrodAll enc Try.prog W 0 (fun _ => true) true Try.f11.params.toList args.toList ds p := hA0
  rw [Try.params11] at hA hval
  obtain ⟨v0, vs0, d0, ds0, p0, q0, hargs, rfl, rfl, h0, r0⟩ := trodAll_cons hA
  obtain ⟨rfl, rfl, rfl⟩ := trodAll_nil r0
  obtain rfl : args = #[v0] := by cases args; simp_all
  obtain ⟨rfl, rfl⟩ := trodVars_none hV
  obtain ⟨a0, rfl, l0, w0⟩ := open_row (n := 18) Try.underlying3 (by kernel_rfl) (by kernel_rfl) (by kernel_rfl) (hval 0 40 v0 rfl rfl) h0
  clear hA0 hval0
  refine (walk_FnExactNewConsole a0 l0 w0 W).mono fun e W' ⟨he, hb⟩ => ?_
  subst he
  exact ⟨_, rfl, post_law hW' rfl rfl rfl (by kernel_rfl) hb⟩
/-- FnExactNewConsole: for every input the law returns true, and each argument reads as it read before. No condition. -/
theorem FnExactNewConsole_holds : Rows.FnExactNewConsoleSaid :=
  OpenClaim.holds_of_wide 11 Try.f11 rfl rfl rfl rfl rfl rfl rfl ⟨rfl, rfl, rfl, rfl, rfl⟩ rfl rfl rfl rfl rfl (by kernel_rfl) Try.func11 (by kernel_rfl)
    (of_decide_eq_true (by kernel_rfl)) (by unfold Func.isWrapper; first | (rw [if_pos (by decide +kernel)]; kernel_rfl) | (rw [if_neg (by decide +kernel)]; exact ⟨rfl, rfl⟩))
    (fun os started H enc _ => lifted_FnExactNewConsole os started H enc)
end Go.Proofs.Ytapdlongffmihaa

/-
  The law on ReplayText: for every input it returns true, and each argument reads as it read before. No condition.
-/
import Derived.Test.YthcjokgjiknheaaRText
set_option linter.unusedVariables false
set_option linter.unusedSimpArgs false
namespace Go.Proofs.Ythcjokgjiknheaa
open Go.ChangeShapes Go.WideShapes Go.ChangeAt Go.RowKit Slm
open Go.ChangeMaps (open_string shut_string)
theorem walk_FnExactReplayText {H : Type} {enc : TypeId × Value → H} {spare : Nat → Bool} {held : Bool} (w0 : World) (a0 : List Value) (g0 : LeafAt enc Try.prog w0 0 spare held (leafs Try.prog 6 28) a0) :
    Calls Try.prog 11 #[.agg a0.toArray] w0 fun e w' => e = .returned (.bool true) ∧ Below w0.heap.size w0 w' := by
  obtain ⟨b, v, S, rfl, hb, hO⟩ := open_replay (t := 28) (te := 53) (ti := 3) (tl := 26) (by kernel_rfl) Try.underlying26 (by kernel_rfl) (by kernel_rfl) (by kernel_rfl) Try.underlying3 g0
  obtain ⟨A, vc, rfl, hlen⟩ := hO.slice
  have hZ := laws_szReplay b hb A S.length vc 1048576 (by omega) hlen
  have hrl : (b.map iv ++ [Value.slice A S.length vc]).length = 17 := by simp [hb]
  by_cases hbig : (1048576 : Int) < S.length
  · rw [if_pos hbig] at hZ
    have HZ := Lib.hid hZ
    clear hZ hO
    generalize b.map iv ++ [Value.slice A S.length vc] = rc at *
    go_enter Try.func11, Try.ntmps11
    have hm := Mem.start w0
    repeat' (first | (go_at_call 13; refine mem_call hm (HZ.out _) ?_; clear hm; intro w hm; (try simp only [nums, List.map_cons, List.map_nil])) | ((with_reducible refine gix ?_); first | refine mix rfl rfl rfl rfl ?_ | refine mixr rfl rfl rfl rfl ?_; (try simp only [Int.toNat_zero, Int.reduceToNat, Nat.reduceMul, Nat.zero_mul, Nat.one_mul, List.drop_succ_cons, List.drop_zero, List.take_succ_cons, List.take_zero])) | ((with_reducible refine gl ?_); first | refine ml hm rfl rfl rfl ?_ | refine mlw hm rfl rfl rfl ?_ | (refine mlr hm rfl rfl rfl ?_; try simp only [List.drop_succ_cons, List.drop_zero, List.take_succ_cons, List.take_zero])) | ((with_reducible refine gs ?_); (first | refine ms hm rfl rfl rfl rfl rfl ?_ | refine msw hm rfl rfl rfl rfl ?_ | refine msr hm rfl rfl rfl rfl ?_); clear hm; intro w hm; (try simp only [splice, List.set_cons_zero, List.set_cons_succ] at hm)) | ((with_reducible refine gb ?_); (first | refine mem_box hm rfl rfl rfl ?_ | refine mem_box1 hm rfl rfl rfl rfl ?_); clear hm; intro n w hm) | ((with_reducible refine ga ?_); refine mem_alloc hm rfl rfl ?_; clear hm; intro n w hm) | go_values | go_skip | go_guarded | go_step | go_upon | ((with_reducible refine bp ?_); go_back) | ((with_reducible refine up ?_); first | (simp only [Int.not_lt, Int.not_le] at *; go_simp) | (go_values <;> (try go_simp)) | (go_ite <;> go_prune <;> (try go_simp)) | (split <;> (first | (rename_i hx; exact (hx _ rfl).elim) | go_prune))))
    (try simp only [Exit.inBlock, Exit.then])
    (first | (refine ret1 rfl rfl (by (first | exact Res.tmp rfl | exact Res.atw hm rfl | exact Res.at hm rfl)) ?_) | (refine ret2 rfl rfl (by (first | exact Res.tmp rfl | exact Res.atw hm rfl | exact Res.at hm rfl)) (by (first | exact Res.tmp rfl | exact Res.atw hm rfl | exact Res.at hm rfl)) ?_) | (refine ret3 rfl rfl (by (first | exact Res.tmp rfl | exact Res.atw hm rfl | exact Res.at hm rfl)) (by (first | exact Res.tmp rfl | exact Res.atw hm rfl | exact Res.at hm rfl)) (by (first | exact Res.tmp rfl | exact Res.atw hm rfl | exact Res.at hm rfl)) ?_) | (refine ret4 rfl rfl (by (first | exact Res.tmp rfl | exact Res.atw hm rfl | exact Res.at hm rfl)) (by (first | exact Res.tmp rfl | exact Res.atw hm rfl | exact Res.at hm rfl)) (by (first | exact Res.tmp rfl | exact Res.atw hm rfl | exact Res.at hm rfl)) (by (first | exact Res.tmp rfl | exact Res.atw hm rfl | exact Res.at hm rfl)) ?_) | fail "ret")
    exact ⟨rfl, hm.below⟩
  · rw [if_neg hbig] at hZ
    have hT := fun (w : World) (σ : List Blk) (hm : Mem w0 w σ) => laws_toReplay b hb (OldSteps.next hm hO) (by omega)
    have hs := fun (w : World) (σ : List Blk) (g i cap : Nat) (more : List Value) (hm : Mem w0 w σ) (h : At σ g ((S.flatMap stI).map iv ++ more) 55 i) => spec_ReplayText (g := g) (i := i) (more := more) (cap := cap) b hb S hm
    have hi := fun (w : World) (σ : List Blk) (g i cap : Nat) (more : List Value) (hm : Mem w0 w σ) (h : At σ g ((S.flatMap stI).map iv ++ more) 55 i) => impl_ReplayText (g := g) (i := i) (more := more) (cap := cap) b hb S hm
    have hE := fun (w : World) (σ : List Blk) (g1 g2 i1 i2 k1 k2 : Nat) (m1 m2 : List Value) (hm : Mem w0 w σ) (h1 : At σ g1 ((S.flatMap stI).map iv ++ m1) 55 i1) (h2 : At σ g2 ((S.flatMap stI).map iv ++ m2) 55 i2) => laws_eqReplay_own (g1 := g1) (g2 := g2) (i1 := i1) (i2 := i2) (k1 := k1) (k2 := k2) (m1 := m1) (m2 := m2) b hb hm (by omega)
    generalize valR b S = q at *
    generalize textR b S = t at *
    have HZ := Lib.hid hZ
    have HT := Lib.hid hT
    have HS := Lib.hid hs
    have HI := Lib.hid hi
    have HE := Lib.hid hE
    clear hZ hO hT hs hi hE
    generalize b.map iv ++ [Value.slice A S.length vc] = rc at *
    go_enter Try.func11, Try.ntmps11
    have hm := Mem.start w0
    have hxl : ((S.flatMap stI).map iv).length = S.length * 4 := by rw [List.length_map, fm_len S (fun a _ => stI_len a)]
    repeat' (first | (go_at_call 13; refine mem_call hm (HZ.out _) ?_; clear hm; intro w hm; (try simp only [nums, List.map_cons, List.map_nil])) | ((with_reducible refine gd ?_); refine wp_region_callF 2 37 55 ((S.flatMap stI).map iv) (S.length) (fun u => .agg (b.map iv ++ [u]).toArray) hm (by kernel_rfl) (by decide +kernel) (by decide +kernel) ?_; have hne := MS.any hm; (repeat (first | (refine nA rfl (by rfl) (fun w hm => ?_) ?_; focus (dsimp only at hm; show makeUpon Try.prog _ _ _ _ _; go_simp; exact make_slF (by decide) (by first | assumption | omega) hm (HT.out _ _ hm))) | (refine nlate (Nat.ne_of_beq_eq_false rfl) (Nat.ne_of_beq_eq_false rfl) (by rfl) ?_; apply Exists.intro; refine ⟨fun p => ?_, ?_⟩; focus (obtain ⟨g, more, cap⟩ := p; refine ⟨by rfl, fun w hm => ?_⟩; dsimp only at hm; go_simp; (try refine ⟨rfl, ?_⟩); first | done | exact ⟨rfl, rfl⟩ | rfl | exact HE.out _ _ _ _ _ _ _ _ _ _ hm inferInstance inferInstance)) | fail | ((with_reducible refine gnl ?_); first | refine nl rfl rfl rfl ?_ | refine nlw rfl rfl rfl ?_ | (refine nlr rfl rfl rfl ?_; try simp only [List.drop_succ_cons, List.drop_zero, List.take_succ_cons, List.take_zero])) | (refine nstep (Nat.ne_of_beq_eq_false rfl) (Nat.ne_of_beq_eq_false rfl) (by rfl) hne ?_; intro hn K hK; go_simp; (try go_ints); (try simp [↓IntWalk.iteOmega, go_sem]); first | (refine hK _ ?_; clear hK K hn) | (apply Exists.intro; refine ⟨fun _ => ?_, hK _ ?_⟩; (first | (refine nA rfl (by rfl) (fun w hm => ?_) ?_; focus (dsimp only at hm; show makeUpon Try.prog _ _ _ _ _; go_simp; exact make_slF (by decide) (by first | assumption | omega) hm (HT.out _ _ hm))) | (refine nlate (Nat.ne_of_beq_eq_false rfl) (Nat.ne_of_beq_eq_false rfl) (by rfl) ?_; apply Exists.intro; refine ⟨fun p => ?_, ?_⟩; focus (obtain ⟨g, more, cap⟩ := p; refine ⟨by rfl, fun w hm => ?_⟩; dsimp only at hm; go_simp; (try refine ⟨rfl, ?_⟩); first | done | exact ⟨rfl, rfl⟩ | rfl | exact HE.out _ _ _ _ _ _ _ _ _ _ hm inferInstance inferInstance)) | fail | fail); clear hK K hn)))); refine nnil ?_; clear hm hne; intro g more cap w hm; (try simp only [Act.put, List.setIfInBounds_toArray, List.set_cons_zero, List.set_cons_succ])) | (go_at_call 15; refine mem_callNF hm (HT.out _ _ hm) ?_; clear hm; intro g more len cap w hm hf hx; obtain rfl : len = S.length := (by rw [List.length_map, fm_len S (fun a _ => stI_len a)] at hx; omega); clear hf hx; (try simp only [])) | (go_at_call 36; refine mem_callM (HS.out _ _ _ _ _ _ hm inferInstance) ?_; clear hm; intro w hm; (try simp only [])) | (go_at_call 37; refine mem_callM (HI.out _ _ _ _ _ _ hm inferInstance) ?_; clear hm; intro w hm; (try simp only [])) | (go_at_call 17; refine mem_callM (HE.out _ _ _ _ _ _ _ _ _ _ hm inferInstance inferInstance) ?_; clear hm; intro w hm; (try simp only [])) | ((with_reducible refine gix ?_); first | refine mix rfl rfl rfl rfl ?_ | refine mixr rfl rfl rfl rfl ?_; (try simp only [Int.toNat_zero, Int.reduceToNat, Nat.reduceMul, Nat.zero_mul, Nat.one_mul, List.drop_succ_cons, List.drop_zero, List.take_succ_cons, List.take_zero])) | ((with_reducible refine gl ?_); first | refine ml hm rfl rfl rfl ?_ | refine mlw hm rfl rfl rfl ?_ | (refine mlr hm rfl rfl rfl ?_; try simp only [List.drop_succ_cons, List.drop_zero, List.take_succ_cons, List.take_zero])) | ((with_reducible refine gs ?_); (first | refine ms hm rfl rfl rfl rfl rfl ?_ | refine msw hm rfl rfl rfl rfl ?_ | refine msr hm rfl rfl rfl rfl ?_); clear hm; intro w hm; (try simp only [splice, List.set_cons_zero, List.set_cons_succ] at hm)) | ((with_reducible refine gb ?_); (first | refine mem_box hm rfl rfl rfl ?_ | refine mem_box1 hm rfl rfl rfl rfl ?_); clear hm; intro n w hm) | ((with_reducible refine ga ?_); refine mem_alloc hm rfl rfl ?_; clear hm; intro n w hm) | go_values | go_skip | go_guarded | go_step | go_upon | ((with_reducible refine bp ?_); go_back) | ((with_reducible refine up ?_); first | (simp only [Int.not_lt, Int.not_le] at *; go_simp) | (go_values <;> (try go_simp)) | (go_ite <;> go_prune <;> (try go_simp)) | (split <;> (first | (rename_i hx; exact (hx _ rfl).elim) | go_prune))))
    all_goals
      (try simp only [Exit.inBlock, Exit.then])
      (first | (refine ret1 rfl rfl (by (first | exact Res.tmp rfl | exact Res.atw hm rfl | exact Res.at hm rfl)) ?_) | (refine ret2 rfl rfl (by (first | exact Res.tmp rfl | exact Res.atw hm rfl | exact Res.at hm rfl)) (by (first | exact Res.tmp rfl | exact Res.atw hm rfl | exact Res.at hm rfl)) ?_) | (refine ret3 rfl rfl (by (first | exact Res.tmp rfl | exact Res.atw hm rfl | exact Res.at hm rfl)) (by (first | exact Res.tmp rfl | exact Res.atw hm rfl | exact Res.at hm rfl)) (by (first | exact Res.tmp rfl | exact Res.atw hm rfl | exact Res.at hm rfl)) ?_) | (refine ret4 rfl rfl (by (first | exact Res.tmp rfl | exact Res.atw hm rfl | exact Res.at hm rfl)) (by (first | exact Res.tmp rfl | exact Res.atw hm rfl | exact Res.at hm rfl)) (by (first | exact Res.tmp rfl | exact Res.atw hm rfl | exact Res.at hm rfl)) (by (first | exact Res.tmp rfl | exact Res.atw hm rfl | exact Res.at hm rfl)) ?_) | fail "ret")
      exact ⟨rfl, hm.below⟩
set_option maxRecDepth 100000 in
theorem lifted_FnExactReplayText (os : Os) (started : os.Started) (H : Type) (enc : TypeId × Value → H) :
    ReturnsInHanded {} Try.checked os 11 .any (Rows.fnExactReplayTextSpec.pre6 enc Try.prog Try.f11 Rows.fnExactReplayTextRow.domain false) (Rows.fnExactReplayTextSpec.post enc Try.prog Try.f11 false true false false) := by
  refine returnsInHanded_of_change (C := Try.checked) own started (by kernel_rfl) Try.func11
    (ChangeSpec.witness6 (enc := enc) (C := Try.checked) false ⟨#[], #[.agg #[.int .i64 0, .int .i64 0, .int .i64 0, .int .i64 0, .int .i64 0, .int .i64 0, .int .i64 0, .int .i64 0, .int .i64 0, .int .i64 0, .int .i64 0, .int .i64 0, .int .i64 0, .int .i64 0, .int .i64 0, .int .i64 0, .slice none 0 0]], []⟩ 8 (by kernel_rfl) (by kernel_rfl) (by kernel_rfl) (by kernel_rfl)) ?_
  intro W base args ds gs before hval0 hW hcnd _
  have hval : ∀ (j : Nat) t v, Try.f11.params[j]? = some t → args[j]? = some v → Value.okWide Try.prog W .any base t v := hval0
  have hW' := hW
  obtain ⟨p, q, hA0, hV, rfl, hfz, hnd⟩ := hW
  have hA : DataW.TrodAll enc Try.prog W 0 (fun _ => true) true Try.f11.params.toList args.toList ds p := hA0
  rw [Try.params11] at hA hval
  obtain ⟨v0, vs0, d0, ds0, p0, q0, hargs, rfl, rfl, h0, r0⟩ := trodAll_cons hA
  obtain ⟨rfl, rfl, rfl⟩ := trodAll_nil r0
  obtain rfl : args = #[v0] := by cases args; simp_all
  obtain ⟨rfl, rfl⟩ := trodVars_none hV
  obtain ⟨a0, rfl, g0⟩ := open_leafs (by kernel_rfl) (by kernel_rfl) (hval 0 28 v0 rfl rfl) h0
  clear hA0 hval0
  refine (walk_FnExactReplayText W a0 g0).mono fun e W' ⟨he, hb⟩ => ?_
  subst he
  exact ⟨_, rfl, post_law hW' rfl rfl rfl (by kernel_rfl) hb⟩
/-- FnExactReplayText: for every input the law returns true, and each argument reads as it read before. No condition. -/
theorem FnExactReplayText_holds : Rows.FnExactReplayTextSaid :=
  OpenClaim.holds_of_wide 11 Try.f11 rfl rfl rfl rfl rfl rfl rfl ⟨rfl, rfl, rfl, rfl, rfl⟩ rfl rfl rfl rfl rfl (by kernel_rfl) Try.func11 (by kernel_rfl)
    (of_decide_eq_true (by kernel_rfl)) (by unfold Func.isWrapper; first | (rw [if_pos (by decide +kernel)]; kernel_rfl) | (rw [if_neg (by decide +kernel)]; exact ⟨rfl, rfl⟩))
    (fun os started H enc _ => lifted_FnExactReplayText os started H enc)
end Go.Proofs.Ythcjokgjiknheaa

/-
  Walks of the desks: valid ones, new ones, the same ones.
-/
import Derived.Test.YtapdlongffmihaaEq
set_option linter.unusedVariables false
set_option linter.unusedSimpArgs false
namespace Go.Proofs.Ytapdlongffmihaa
open Go.RowKit Slm
/-- A desk is valid. -/
def deskB (d : List Int) : Bool := okL (d.take 16) && (inB (d.getD 16 0) 0 9999999 && inB (d.getD 17 0) 0 1000)
theorem laws_toDesk (d : List Int) (hl : d.length = 18) (w : World) : Calls Try.prog 22 #[.agg (nums d)] w fun e w' => e = .returned (.agg (nums d)) ∧ Below w.heap.size w w' := by
  obtain ⟨bb, p, cn, rfl, hbb⟩ := list18 hl
  clear hl
  obtain ⟨a0, a1, a2, a3, b0, b1, b2, b3, c0, c1, c2, c3, d0, d1, d2, d3, rfl⟩ := list16 hbb
  clear hbb
  simp only [nums, List.map_cons, List.map_nil, List.cons_append, List.nil_append]
  go_enter Try.func22, Try.ntmps22
  have hm := Mem.start w
  repeat' (first | (go_at_call 27; refine mem_call hm (laws_toBoard [_, _, _, _, _, _, _, _, _, _, _, _, _, _, _, _] rfl _) ?_; clear hm; intro w hm; (try simp only [nums, List.map_cons, List.map_nil])) | ((with_reducible refine gl ?_); first | refine ml hm rfl rfl rfl ?_ | (refine mlr hm rfl rfl rfl ?_; try simp only [List.drop_succ_cons, List.drop_zero, List.take_succ_cons, List.take_zero])) | ((with_reducible refine gs ?_); (first | refine ms hm rfl rfl rfl rfl rfl ?_ | refine msr hm rfl rfl rfl rfl ?_); clear hm; intro w hm; (try simp only [splice, List.set_cons_zero, List.set_cons_succ] at hm)) | ((with_reducible refine gb ?_); (first | refine mem_box hm rfl rfl rfl ?_ | refine mem_box1 hm rfl rfl rfl rfl ?_); clear hm; intro n w hm) | ((with_reducible refine ga ?_); refine mem_alloc hm rfl rfl ?_; clear hm; intro n w hm) | ((with_reducible refine wp_loop_rounds 18 ?_); rw [rounds_succ]) | (with_reducible rw [rounds_succ]) | go_values | go_skip | go_guarded | go_step | go_upon | ((with_reducible refine bp ?_); go_back) | ((with_reducible refine up ?_); first | (simp only [Int.not_lt, Int.not_le] at *; go_simp) | (go_values <;> (try go_simp)) | (go_ite <;> go_prune <;> (try go_simp)) | (split <;> (first | (rename_i hx; exact (hx _ rfl).elim) | go_prune))))
  (try simp only [Exit.inBlock, Exit.then])
  (first | (refine ret1 rfl rfl (by (first | exact Res.tmp rfl | exact Res.at hm rfl)) ?_) | (refine ret2 rfl rfl (by (first | exact Res.tmp rfl | exact Res.at hm rfl)) (by (first | exact Res.tmp rfl | exact Res.at hm rfl)) ?_) | (refine ret3 rfl rfl (by (first | exact Res.tmp rfl | exact Res.at hm rfl)) (by (first | exact Res.tmp rfl | exact Res.at hm rfl)) (by (first | exact Res.tmp rfl | exact Res.at hm rfl)) ?_) | fail "ret")
  exact ⟨rfl, hm.below⟩
theorem spec_l12Good (d : List Int) (hl : d.length = 18) (w : World) : Calls Try.prog 63 #[.agg (nums d)] w fun e w' => e = .returned (.bool (deskB d)) ∧ Below w.heap.size w w' := by
  obtain ⟨bb, p, cn, rfl, hbb⟩ := list18 hl
  clear hl
  obtain ⟨a0, a1, a2, a3, b0, b1, b2, b3, c0, c1, c2, c3, d0, d1, d2, d3, rfl⟩ := list16 hbb
  clear hbb
  simp only [nums, List.map_cons, List.map_nil, List.cons_append, List.nil_append]
  have hB : ∀ w, Calls Try.prog 67 #[.agg (nums [a0, a1, a2, a3, b0, b1, b2, b3, c0, c1, c2, c3, d0, d1, d2, d3])] w _ := fun w => spec_l2Board [a0, a1, a2, a3, b0, b1, b2, b3, c0, c1, c2, c3, d0, d1, d2, d3] rfl w
  have hP := spec_l1In p 0 9999999
  have hN := spec_l1In cn 0 1000
  rw [show deskB [a0, a1, a2, a3, b0, b1, b2, b3, c0, c1, c2, c3, d0, d1, d2, d3, p, cn] = (okL [a0, a1, a2, a3, b0, b1, b2, b3, c0, c1, c2, c3, d0, d1, d2, d3] && (inB p 0 9999999 && inB cn 0 1000)) from rfl]
  generalize okL [a0, a1, a2, a3, b0, b1, b2, b3, c0, c1, c2, c3, d0, d1, d2, d3] = q1 at hB ⊢
  generalize inB p 0 9999999 = q2 at hP ⊢
  generalize inB cn 0 1000 = q3 at hN ⊢
  have HB := Lib.hid hB
  have HP := Lib.hid hP
  have HN := Lib.hid hN
  clear hB hP hN
  cases q1 <;> cases q2 <;> cases q3
  all_goals
    go_enter Try.func63, Try.ntmps63
    have hm := Mem.start w
    repeat' (first | (go_at_call 67; refine mem_call hm (HB.out _) ?_; clear hm; intro w hm; (try simp only [nums, List.map_cons, List.map_nil])) | (go_at_call 51; (first | (with_reducible refine mem_call hm (HP.out _) ?_) | (with_reducible refine mem_call hm (HN.out _) ?_)); clear hm; intro w hm; simp only []) | ((with_reducible refine gl ?_); first | refine ml hm rfl rfl rfl ?_ | (refine mlr hm rfl rfl rfl ?_; try simp only [List.drop_succ_cons, List.drop_zero, List.take_succ_cons, List.take_zero])) | ((with_reducible refine gs ?_); (first | refine ms hm rfl rfl rfl rfl rfl ?_ | refine msr hm rfl rfl rfl rfl ?_); clear hm; intro w hm; (try simp only [splice, List.set_cons_zero, List.set_cons_succ] at hm)) | ((with_reducible refine gb ?_); (first | refine mem_box hm rfl rfl rfl ?_ | refine mem_box1 hm rfl rfl rfl rfl ?_); clear hm; intro n w hm) | ((with_reducible refine ga ?_); refine mem_alloc hm rfl rfl ?_; clear hm; intro n w hm) | ((with_reducible refine wp_loop_rounds 18 ?_); rw [rounds_succ]) | (with_reducible rw [rounds_succ]) | go_values | go_skip | go_guarded | go_step | go_upon | ((with_reducible refine bp ?_); go_back) | ((with_reducible refine up ?_); first | (simp only [Int.not_lt, Int.not_le] at *; go_simp) | (go_values <;> (try go_simp)) | (go_ite <;> go_prune <;> (try go_simp)) | (split <;> (first | (rename_i hx; exact (hx _ rfl).elim) | go_prune))))
    (try simp only [Exit.inBlock, Exit.then])
    (first | (refine ret1 rfl rfl (by (first | exact Res.tmp rfl | exact Res.at hm rfl)) ?_) | (refine ret2 rfl rfl (by (first | exact Res.tmp rfl | exact Res.at hm rfl)) (by (first | exact Res.tmp rfl | exact Res.at hm rfl)) ?_) | (refine ret3 rfl rfl (by (first | exact Res.tmp rfl | exact Res.at hm rfl)) (by (first | exact Res.tmp rfl | exact Res.at hm rfl)) (by (first | exact Res.tmp rfl | exact Res.at hm rfl)) ?_) | fail "ret")
    exact ⟨rfl, hm.below⟩
theorem impl_IsDesk (d : List Int) (hl : d.length = 18) (w : World) : Calls Try.prog 23 #[.agg (nums d)] w fun e w' => e = .returned (.bool (deskB d)) ∧ Below w.heap.size w w' := by
  obtain ⟨bb, p, cn, rfl, hbb⟩ := list18 hl
  clear hl
  obtain ⟨a0, a1, a2, a3, b0, b1, b2, b3, c0, c1, c2, c3, d0, d1, d2, d3, rfl⟩ := list16 hbb
  clear hbb
  simp only [nums, List.map_cons, List.map_nil, List.cons_append, List.nil_append]
  have hB : ∀ w, Calls Try.prog 64 #[.agg (nums [a0, a1, a2, a3, b0, b1, b2, b3, c0, c1, c2, c3, d0, d1, d2, d3])] w _ := fun w => impl_IsBoard [a0, a1, a2, a3, b0, b1, b2, b3, c0, c1, c2, c3, d0, d1, d2, d3] rfl w
  have hP := impl_in p 0 9999999
  have hN := impl_in cn 0 1000
  rw [show deskB [a0, a1, a2, a3, b0, b1, b2, b3, c0, c1, c2, c3, d0, d1, d2, d3, p, cn] = (okL [a0, a1, a2, a3, b0, b1, b2, b3, c0, c1, c2, c3, d0, d1, d2, d3] && (inB p 0 9999999 && inB cn 0 1000)) from rfl]
  generalize okL [a0, a1, a2, a3, b0, b1, b2, b3, c0, c1, c2, c3, d0, d1, d2, d3] = q1 at hB ⊢
  generalize inB p 0 9999999 = q2 at hP ⊢
  generalize inB cn 0 1000 = q3 at hN ⊢
  have HB := Lib.hid hB
  have HP := Lib.hid hP
  have HN := Lib.hid hN
  clear hB hP hN
  cases q1 <;> cases q2 <;> cases q3
  all_goals
    go_enter Try.func23, Try.ntmps23
    have hm := Mem.start w
    repeat' (first | (go_at_call 64; refine mem_call hm (HB.out _) ?_; clear hm; intro w hm; (try simp only [nums, List.map_cons, List.map_nil])) | (go_at_call 56; (first | (with_reducible refine mem_call hm (HP.out _) ?_) | (with_reducible refine mem_call hm (HN.out _) ?_)); clear hm; intro w hm; simp only []) | ((with_reducible refine gl ?_); first | refine ml hm rfl rfl rfl ?_ | (refine mlr hm rfl rfl rfl ?_; try simp only [List.drop_succ_cons, List.drop_zero, List.take_succ_cons, List.take_zero])) | ((with_reducible refine gs ?_); (first | refine ms hm rfl rfl rfl rfl rfl ?_ | refine msr hm rfl rfl rfl rfl ?_); clear hm; intro w hm; (try simp only [splice, List.set_cons_zero, List.set_cons_succ] at hm)) | ((with_reducible refine gb ?_); (first | refine mem_box hm rfl rfl rfl ?_ | refine mem_box1 hm rfl rfl rfl rfl ?_); clear hm; intro n w hm) | ((with_reducible refine ga ?_); refine mem_alloc hm rfl rfl ?_; clear hm; intro n w hm) | ((with_reducible refine wp_loop_rounds 18 ?_); rw [rounds_succ]) | (with_reducible rw [rounds_succ]) | go_values | go_skip | go_guarded | go_step | go_upon | ((with_reducible refine bp ?_); go_back) | ((with_reducible refine up ?_); first | (simp only [Int.not_lt, Int.not_le] at *; go_simp) | (go_values <;> (try go_simp)) | (go_ite <;> go_prune <;> (try go_simp)) | (split <;> (first | (rename_i hx; exact (hx _ rfl).elim) | go_prune))))
    (try simp only [Exit.inBlock, Exit.then])
    (first | (refine ret1 rfl rfl (by (first | exact Res.tmp rfl | exact Res.at hm rfl)) ?_) | (refine ret2 rfl rfl (by (first | exact Res.tmp rfl | exact Res.at hm rfl)) (by (first | exact Res.tmp rfl | exact Res.at hm rfl)) ?_) | (refine ret3 rfl rfl (by (first | exact Res.tmp rfl | exact Res.at hm rfl)) (by (first | exact Res.tmp rfl | exact Res.at hm rfl)) (by (first | exact Res.tmp rfl | exact Res.at hm rfl)) ?_) | fail "ret")
    exact ⟨rfl, hm.below⟩
theorem spec_IsDesk (d : List Int) (hl : d.length = 18) (w : World) : Calls Try.prog 21 #[.agg (nums d)] w fun e w' => e = .returned (.bool (deskB d)) ∧ Below w.heap.size w w' := by
  obtain ⟨bb, p, cn, rfl, hbb⟩ := list18 hl
  clear hl
  obtain ⟨a0, a1, a2, a3, b0, b1, b2, b3, c0, c1, c2, c3, d0, d1, d2, d3, rfl⟩ := list16 hbb
  clear hbb
  simp only [nums, List.map_cons, List.map_nil, List.cons_append, List.nil_append]
  go_enter Try.func21, Try.ntmps21
  have hm := Mem.start w
  repeat' (first | (go_at_call 63; refine mem_call hm (spec_l12Good [_, _, _, _, _, _, _, _, _, _, _, _, _, _, _, _, _, _] rfl _) ?_; clear hm; intro w hm; (try simp only [nums, List.map_cons, List.map_nil])) | ((with_reducible refine gl ?_); first | refine ml hm rfl rfl rfl ?_ | (refine mlr hm rfl rfl rfl ?_; try simp only [List.drop_succ_cons, List.drop_zero, List.take_succ_cons, List.take_zero])) | ((with_reducible refine gs ?_); (first | refine ms hm rfl rfl rfl rfl rfl ?_ | refine msr hm rfl rfl rfl rfl ?_); clear hm; intro w hm; (try simp only [splice, List.set_cons_zero, List.set_cons_succ] at hm)) | ((with_reducible refine gb ?_); (first | refine mem_box hm rfl rfl rfl ?_ | refine mem_box1 hm rfl rfl rfl rfl ?_); clear hm; intro n w hm) | ((with_reducible refine ga ?_); refine mem_alloc hm rfl rfl ?_; clear hm; intro n w hm) | ((with_reducible refine wp_loop_rounds 18 ?_); rw [rounds_succ]) | (with_reducible rw [rounds_succ]) | go_values | go_skip | go_guarded | go_step | go_upon | ((with_reducible refine bp ?_); go_back) | ((with_reducible refine up ?_); first | (simp only [Int.not_lt, Int.not_le] at *; go_simp) | (go_values <;> (try go_simp)) | (go_ite <;> go_prune <;> (try go_simp)) | (split <;> (first | (rename_i hx; exact (hx _ rfl).elim) | go_prune))))
  (try simp only [Exit.inBlock, Exit.then])
  (first | (refine ret1 rfl rfl (by (first | exact Res.tmp rfl | exact Res.at hm rfl)) ?_) | (refine ret2 rfl rfl (by (first | exact Res.tmp rfl | exact Res.at hm rfl)) (by (first | exact Res.tmp rfl | exact Res.at hm rfl)) ?_) | (refine ret3 rfl rfl (by (first | exact Res.tmp rfl | exact Res.at hm rfl)) (by (first | exact Res.tmp rfl | exact Res.at hm rfl)) (by (first | exact Res.tmp rfl | exact Res.at hm rfl)) ?_) | fail "ret")
  exact ⟨rfl, hm.below⟩
def newDeskV (b : List Int) : Value := if okL b = true then .tuple #[.agg (nums (b ++ [0, 0])), .bool true] else .tuple #[.agg (nums [0, 0, 0, 0, 0, 0, 0, 0, 0, 0, 0, 0, 0, 0, 0, 0, 0, 0]), .bool false]
theorem spec_NewDesk (b : List Int) (hl : b.length = 16) (w : World) : Calls Try.prog 26 #[.agg (nums b)] w fun e w' => e = .returned (newDeskV b) ∧ Below w.heap.size w w' := by
  obtain ⟨a0, a1, a2, a3, b0, b1, b2, b3, c0, c1, c2, c3, d0, d1, d2, d3, rfl⟩ := list16 hl
  clear hl
  simp only [nums, List.map_cons, List.map_nil]
  have hB : ∀ w, Calls Try.prog 67 #[.agg (nums [a0, a1, a2, a3, b0, b1, b2, b3, c0, c1, c2, c3, d0, d1, d2, d3])] w _ := fun w => spec_l2Board [a0, a1, a2, a3, b0, b1, b2, b3, c0, c1, c2, c3, d0, d1, d2, d3] rfl w
  unfold newDeskV
  generalize okL [a0, a1, a2, a3, b0, b1, b2, b3, c0, c1, c2, c3, d0, d1, d2, d3] = q1 at hB ⊢
  have HB := Lib.hid hB
  clear hB
  cases q1
  all_goals
    go_enter Try.func26, Try.ntmps26
    have hm := Mem.start w
    repeat' (first | (go_at_call 67; refine mem_call hm (HB.out _) ?_; clear hm; intro w hm; (try simp only [nums, List.map_cons, List.map_nil])) | ((with_reducible refine gl ?_); first | refine ml hm rfl rfl rfl ?_ | (refine mlr hm rfl rfl rfl ?_; try simp only [List.drop_succ_cons, List.drop_zero, List.take_succ_cons, List.take_zero])) | ((with_reducible refine gs ?_); (first | refine ms hm rfl rfl rfl rfl rfl ?_ | refine msr hm rfl rfl rfl rfl ?_); clear hm; intro w hm; (try simp only [splice, List.set_cons_zero, List.set_cons_succ] at hm)) | ((with_reducible refine gb ?_); (first | refine mem_box hm rfl rfl rfl ?_ | refine mem_box1 hm rfl rfl rfl rfl ?_); clear hm; intro n w hm) | ((with_reducible refine ga ?_); refine mem_alloc hm rfl rfl ?_; clear hm; intro n w hm) | ((with_reducible refine wp_loop_rounds 18 ?_); rw [rounds_succ]) | (with_reducible rw [rounds_succ]) | go_values | go_skip | go_guarded | go_step | go_upon | ((with_reducible refine bp ?_); go_back) | ((with_reducible refine up ?_); first | (simp only [Int.not_lt, Int.not_le] at *; go_simp) | (go_values <;> (try go_simp)) | (go_ite <;> go_prune <;> (try go_simp)) | (split <;> (first | (rename_i hx; exact (hx _ rfl).elim) | go_prune))))
    (try simp only [Exit.inBlock, Exit.then])
    (first | (refine ret1 rfl rfl (by (first | exact Res.tmp rfl | exact Res.at hm rfl)) ?_) | (refine ret2 rfl rfl (by (first | exact Res.tmp rfl | exact Res.at hm rfl)) (by (first | exact Res.tmp rfl | exact Res.at hm rfl)) ?_) | (refine ret3 rfl rfl (by (first | exact Res.tmp rfl | exact Res.at hm rfl)) (by (first | exact Res.tmp rfl | exact Res.at hm rfl)) (by (first | exact Res.tmp rfl | exact Res.at hm rfl)) ?_) | fail "ret")
    exact ⟨rfl, hm.below⟩
theorem impl_NewDesk (b : List Int) (hl : b.length = 16) (w : World) : Calls Try.prog 28 #[.agg (nums b)] w fun e w' => e = .returned (newDeskV b) ∧ Below w.heap.size w w' := by
  obtain ⟨a0, a1, a2, a3, b0, b1, b2, b3, c0, c1, c2, c3, d0, d1, d2, d3, rfl⟩ := list16 hl
  clear hl
  simp only [nums, List.map_cons, List.map_nil]
  have hB : ∀ w, Calls Try.prog 64 #[.agg (nums [a0, a1, a2, a3, b0, b1, b2, b3, c0, c1, c2, c3, d0, d1, d2, d3])] w _ := fun w => impl_IsBoard [a0, a1, a2, a3, b0, b1, b2, b3, c0, c1, c2, c3, d0, d1, d2, d3] rfl w
  unfold newDeskV
  generalize okL [a0, a1, a2, a3, b0, b1, b2, b3, c0, c1, c2, c3, d0, d1, d2, d3] = q1 at hB ⊢
  have HB := Lib.hid hB
  clear hB
  cases q1
  all_goals
    go_enter Try.func28, Try.ntmps28
    have hm := Mem.start w
    repeat' (first | (go_at_call 64; refine mem_call hm (HB.out _) ?_; clear hm; intro w hm; (try simp only [nums, List.map_cons, List.map_nil])) | ((with_reducible refine gl ?_); first | refine ml hm rfl rfl rfl ?_ | (refine mlr hm rfl rfl rfl ?_; try simp only [List.drop_succ_cons, List.drop_zero, List.take_succ_cons, List.take_zero])) | ((with_reducible refine gs ?_); (first | refine ms hm rfl rfl rfl rfl rfl ?_ | refine msr hm rfl rfl rfl rfl ?_); clear hm; intro w hm; (try simp only [splice, List.set_cons_zero, List.set_cons_succ] at hm)) | ((with_reducible refine gb ?_); (first | refine mem_box hm rfl rfl rfl ?_ | refine mem_box1 hm rfl rfl rfl rfl ?_); clear hm; intro n w hm) | ((with_reducible refine ga ?_); refine mem_alloc hm rfl rfl ?_; clear hm; intro n w hm) | ((with_reducible refine wp_loop_rounds 18 ?_); rw [rounds_succ]) | (with_reducible rw [rounds_succ]) | go_values | go_skip | go_guarded | go_step | go_upon | ((with_reducible refine bp ?_); go_back) | ((with_reducible refine up ?_); first | (simp only [Int.not_lt, Int.not_le] at *; go_simp) | (go_values <;> (try go_simp)) | (go_ite <;> go_prune <;> (try go_simp)) | (split <;> (first | (rename_i hx; exact (hx _ rfl).elim) | go_prune))))
    (try simp only [Exit.inBlock, Exit.then])
    (first | (refine ret1 rfl rfl (by (first | exact Res.tmp rfl | exact Res.at hm rfl)) ?_) | (refine ret2 rfl rfl (by (first | exact Res.tmp rfl | exact Res.at hm rfl)) (by (first | exact Res.tmp rfl | exact Res.at hm rfl)) ?_) | (refine ret3 rfl rfl (by (first | exact Res.tmp rfl | exact Res.at hm rfl)) (by (first | exact Res.tmp rfl | exact Res.at hm rfl)) (by (first | exact Res.tmp rfl | exact Res.at hm rfl)) ?_) | fail "ret")
    exact ⟨rfl, hm.below⟩
theorem laws_eqDesk (d e : List Int) (hd : d.length = 18) (he : e.length = 18) (w : World) : Calls Try.prog 29 #[.agg (nums d), .agg (nums e)] w fun e' w' => e' = .returned (.bool (decide (d = e))) ∧ Below w.heap.size w w' := by
  obtain ⟨db, dp, dc, rfl, hdb⟩ := list18 hd
  obtain ⟨eb, ep, ec, rfl, heb⟩ := list18 he
  clear hd he
  have hB := laws_eqBoard db eb hdb heb
  have hq : decide (db ++ [dp, dc] = eb ++ [ep, ec]) = (decide (db = eb) && (decide (dp = ep) && decide (dc = ec))) := by
    rw [Bool.eq_iff_iff]
    simp only [decide_eq_true_eq, Bool.and_eq_true]
    exact ⟨fun h => by
      have h1 := List.append_inj h (by omega)
      simpa using h1, fun ⟨h1, h2, h3⟩ => by rw [h1, h2, h3]⟩
  rw [hq]
  obtain ⟨a0, a1, a2, a3, b0, b1, b2, b3, c0, c1, c2, c3, d0, d1, d2, d3, rfl⟩ := list16 hdb
  obtain ⟨x0, x1, x2, x3, y0, y1, y2, y3, z0, z1, z2, z3, t0, t1, t2, t3, rfl⟩ := list16 heb
  clear hdb heb hq
  generalize decide ([a0, a1, a2, a3, b0, b1, b2, b3, c0, c1, c2, c3, d0, d1, d2, d3] = [x0, x1, x2, x3, y0, y1, y2, y3, z0, z1, z2, z3, t0, t1, t2, t3]) = q1 at hB ⊢
  simp only [nums, List.map_cons, List.map_nil, List.cons_append, List.nil_append] at hB ⊢
  have HB := Lib.hid hB
  clear hB
  cases q1 <;> by_cases h2 : dp = ep <;> by_cases h3 : dc = ec
  all_goals
    go_enter Try.func29, Try.ntmps29
    have hm := Mem.start w
    repeat' (first | (go_at_call 69; refine mem_call hm (HB.out _) ?_; clear hm; intro w hm; (try simp only [nums, List.map_cons, List.map_nil])) | ((with_reducible refine gl ?_); first | refine ml hm rfl rfl rfl ?_ | (refine mlr hm rfl rfl rfl ?_; try simp only [List.drop_succ_cons, List.drop_zero, List.take_succ_cons, List.take_zero])) | ((with_reducible refine gs ?_); (first | refine ms hm rfl rfl rfl rfl rfl ?_ | refine msr hm rfl rfl rfl rfl ?_); clear hm; intro w hm; (try simp only [splice, List.set_cons_zero, List.set_cons_succ] at hm)) | ((with_reducible refine gb ?_); (first | refine mem_box hm rfl rfl rfl ?_ | refine mem_box1 hm rfl rfl rfl rfl ?_); clear hm; intro n w hm) | ((with_reducible refine ga ?_); refine mem_alloc hm rfl rfl ?_; clear hm; intro n w hm) | ((with_reducible refine wp_loop_rounds 18 ?_); rw [rounds_succ]) | (with_reducible rw [rounds_succ]) | go_values | go_skip | go_guarded | go_step | go_upon | ((with_reducible refine bp ?_); go_back) | ((with_reducible refine up ?_); first | (simp only [Int.not_lt, Int.not_le] at *; go_simp) | (go_values <;> (try go_simp)) | (go_ite <;> go_prune <;> (try go_simp)) | (split <;> (first | (rename_i hx; exact (hx _ rfl).elim) | go_prune))))
    (try simp only [Exit.inBlock, Exit.then])
    (first | (refine ret1 rfl rfl (by (first | exact Res.tmp rfl | exact Res.at hm rfl)) ?_) | (refine ret2 rfl rfl (by (first | exact Res.tmp rfl | exact Res.at hm rfl)) (by (first | exact Res.tmp rfl | exact Res.at hm rfl)) ?_) | (refine ret3 rfl rfl (by (first | exact Res.tmp rfl | exact Res.at hm rfl)) (by (first | exact Res.tmp rfl | exact Res.at hm rfl)) (by (first | exact Res.tmp rfl | exact Res.at hm rfl)) ?_) | fail "ret")
    exact ⟨by simp [h2, h3], hm.below⟩
theorem laws_eqLog (d1 p1 d2 p2 : ByteArray) (n1 n2 : Int) (w : World) : Calls Try.prog 74 #[.agg #[.string d1, .string p1, iv n1], .agg #[.string d2, .string p2, iv n2]] w fun e' w' => e' = .returned (.bool (decide (d1 = d2) && (decide (p1 = p2) && decide (n1 = n2)))) ∧ Below w.heap.size w w' := by
  have e1 := str_eq d1 d2
  have e2 := str_eq p1 p2
  have h1 : decide (d1 = d2) = true ∨ decide (d1 = d2) = false := by cases decide (d1 = d2) <;> simp
  have h2 : decide (p1 = p2) = true ∨ decide (p1 = p2) = false := by cases decide (p1 = p2) <;> simp
  by_cases h3 : n1 = n2 <;> rcases h1 with h1 | h1 <;> rcases h2 with h2 | h2
  all_goals
    rw [h1] at e1
    rw [h2] at e2
    have H1 := Lib.hid h1
    have H2 := Lib.hid h2
    clear h1 h2
    go_enter Try.func74, Try.ntmps74
    have hm := Mem.start w
    repeat' (first  | ((with_reducible refine gl ?_); first | refine ml hm rfl rfl rfl ?_ | (refine mlr hm rfl rfl rfl ?_; try simp only [List.drop_succ_cons, List.drop_zero, List.take_succ_cons, List.take_zero])) | ((with_reducible refine gs ?_); (first | refine ms hm rfl rfl rfl rfl rfl ?_ | refine msr hm rfl rfl rfl rfl ?_); clear hm; intro w hm; (try simp only [splice, List.set_cons_zero, List.set_cons_succ] at hm)) | ((with_reducible refine gb ?_); (first | refine mem_box hm rfl rfl rfl ?_ | refine mem_box1 hm rfl rfl rfl rfl ?_); clear hm; intro n w hm) | ((with_reducible refine ga ?_); refine mem_alloc hm rfl rfl ?_; clear hm; intro n w hm) | ((with_reducible refine wp_loop_rounds 18 ?_); rw [rounds_succ]) | (with_reducible rw [rounds_succ]) | go_values | go_skip | go_guarded | go_step | go_upon | ((with_reducible refine bp ?_); go_back) | ((with_reducible refine up ?_); first | (simp only [Int.not_lt, Int.not_le] at *; go_simp) | (go_values <;> (try go_simp)) | (go_ite <;> go_prune <;> (try go_simp)) | (split <;> (first | (rename_i hx; exact (hx _ rfl).elim) | go_prune))))
    (try simp only [Exit.inBlock, Exit.then])
    (first | (refine ret1 rfl rfl (by (first | exact Res.tmp rfl | exact Res.at hm rfl)) ?_) | (refine ret2 rfl rfl (by (first | exact Res.tmp rfl | exact Res.at hm rfl)) (by (first | exact Res.tmp rfl | exact Res.at hm rfl)) ?_) | (refine ret3 rfl rfl (by (first | exact Res.tmp rfl | exact Res.at hm rfl)) (by (first | exact Res.tmp rfl | exact Res.at hm rfl)) (by (first | exact Res.tmp rfl | exact Res.at hm rfl)) ?_) | fail "ret")
    exact ⟨by rw [H1.out, H2.out]; simp [h3], hm.below⟩
/-- An empty string. -/
abbrev es : Value := .string ⟨#[]⟩
def newConsoleV (d : List Int) : Value := if deskB d = true then .tuple #[.agg ((d.map iv) ++ [es, es, iv 0]).toArray, .bool true] else .tuple #[.agg (((List.replicate 18 0).map iv) ++ [es, es, iv 0]).toArray, .bool false]
theorem spec_NewConsole (d : List Int) (hl : d.length = 18) (w : World) : Calls Try.prog 38 #[.agg (nums d)] w fun e w' => e = .returned (newConsoleV d) ∧ Below w.heap.size w w' := by
  have hB : ∀ w, Calls Try.prog 63 #[.agg (nums d)] w _ := fun w => spec_l12Good d hl w
  unfold newConsoleV
  generalize deskB d = q1 at hB ⊢
  revert hB
  obtain ⟨bb, p, cn, rfl, hbb⟩ := list18 hl
  clear hl
  obtain ⟨a0, a1, a2, a3, b0, b1, b2, b3, c0, c1, c2, c3, d0, d1, d2, d3, rfl⟩ := list16 hbb
  clear hbb
  simp only [nums, List.map_cons, List.map_nil, List.cons_append, List.nil_append]
  intro hB
  have HB := Lib.hid hB
  clear hB
  cases q1
  all_goals
    go_enter Try.func38, Try.ntmps38
    have hm := Mem.start w
    repeat' (first | (go_at_call 63; refine mem_call hm (HB.out _) ?_; clear hm; intro w hm; (try simp only [nums, List.map_cons, List.map_nil])) | ((with_reducible refine gl ?_); first | refine ml hm rfl rfl rfl ?_ | (refine mlr hm rfl rfl rfl ?_; try simp only [List.drop_succ_cons, List.drop_zero, List.take_succ_cons, List.take_zero])) | ((with_reducible refine gs ?_); (first | refine ms hm rfl rfl rfl rfl rfl ?_ | refine msr hm rfl rfl rfl rfl ?_); clear hm; intro w hm; (try simp only [splice, List.set_cons_zero, List.set_cons_succ] at hm)) | ((with_reducible refine gb ?_); (first | refine mem_box hm rfl rfl rfl ?_ | refine mem_box1 hm rfl rfl rfl rfl ?_); clear hm; intro n w hm) | ((with_reducible refine ga ?_); refine mem_alloc hm rfl rfl ?_; clear hm; intro n w hm) | ((with_reducible refine wp_loop_rounds 18 ?_); rw [rounds_succ]) | (with_reducible rw [rounds_succ]) | go_values | go_skip | go_guarded | go_step | go_upon | ((with_reducible refine bp ?_); go_back) | ((with_reducible refine up ?_); first | (simp only [Int.not_lt, Int.not_le] at *; go_simp) | (go_values <;> (try go_simp)) | (go_ite <;> go_prune <;> (try go_simp)) | (split <;> (first | (rename_i hx; exact (hx _ rfl).elim) | go_prune))))
    (try simp only [Exit.inBlock, Exit.then])
    (first | (refine ret1 rfl rfl (by (first | exact Res.tmp rfl | exact Res.at hm rfl)) ?_) | (refine ret2 rfl rfl (by (first | exact Res.tmp rfl | exact Res.at hm rfl)) (by (first | exact Res.tmp rfl | exact Res.at hm rfl)) ?_) | (refine ret3 rfl rfl (by (first | exact Res.tmp rfl | exact Res.at hm rfl)) (by (first | exact Res.tmp rfl | exact Res.at hm rfl)) (by (first | exact Res.tmp rfl | exact Res.at hm rfl)) ?_) | fail "ret")
    exact ⟨rfl, hm.below⟩
theorem impl_NewConsole (d : List Int) (hl : d.length = 18) (w : World) : Calls Try.prog 39 #[.agg (nums d)] w fun e w' => e = .returned (newConsoleV d) ∧ Below w.heap.size w w' := by
  have hB : ∀ w, Calls Try.prog 23 #[.agg (nums d)] w _ := fun w => impl_IsDesk d hl w
  unfold newConsoleV
  generalize deskB d = q1 at hB ⊢
  revert hB
  obtain ⟨bb, p, cn, rfl, hbb⟩ := list18 hl
  clear hl
  obtain ⟨a0, a1, a2, a3, b0, b1, b2, b3, c0, c1, c2, c3, d0, d1, d2, d3, rfl⟩ := list16 hbb
  clear hbb
  simp only [nums, List.map_cons, List.map_nil, List.cons_append, List.nil_append]
  intro hB
  have HB := Lib.hid hB
  clear hB
  cases q1
  all_goals
    go_enter Try.func39, Try.ntmps39
    have hm := Mem.start w
    repeat' (first | (go_at_call 23; refine mem_call hm (HB.out _) ?_; clear hm; intro w hm; (try simp only [nums, List.map_cons, List.map_nil])) | ((with_reducible refine gl ?_); first | refine ml hm rfl rfl rfl ?_ | (refine mlr hm rfl rfl rfl ?_; try simp only [List.drop_succ_cons, List.drop_zero, List.take_succ_cons, List.take_zero])) | ((with_reducible refine gs ?_); (first | refine ms hm rfl rfl rfl rfl rfl ?_ | refine msr hm rfl rfl rfl rfl ?_); clear hm; intro w hm; (try simp only [splice, List.set_cons_zero, List.set_cons_succ] at hm)) | ((with_reducible refine gb ?_); (first | refine mem_box hm rfl rfl rfl ?_ | refine mem_box1 hm rfl rfl rfl rfl ?_); clear hm; intro n w hm) | ((with_reducible refine ga ?_); refine mem_alloc hm rfl rfl ?_; clear hm; intro n w hm) | ((with_reducible refine wp_loop_rounds 18 ?_); rw [rounds_succ]) | (with_reducible rw [rounds_succ]) | go_values | go_skip | go_guarded | go_step | go_upon | ((with_reducible refine bp ?_); go_back) | ((with_reducible refine up ?_); first | (simp only [Int.not_lt, Int.not_le] at *; go_simp) | (go_values <;> (try go_simp)) | (go_ite <;> go_prune <;> (try go_simp)) | (split <;> (first | (rename_i hx; exact (hx _ rfl).elim) | go_prune))))
    (try simp only [Exit.inBlock, Exit.then])
    (first | (refine ret1 rfl rfl (by (first | exact Res.tmp rfl | exact Res.at hm rfl)) ?_) | (refine ret2 rfl rfl (by (first | exact Res.tmp rfl | exact Res.at hm rfl)) (by (first | exact Res.tmp rfl | exact Res.at hm rfl)) ?_) | (refine ret3 rfl rfl (by (first | exact Res.tmp rfl | exact Res.at hm rfl)) (by (first | exact Res.tmp rfl | exact Res.at hm rfl)) (by (first | exact Res.tmp rfl | exact Res.at hm rfl)) ?_) | fail "ret")
    exact ⟨rfl, hm.below⟩
/-- A console's value. -/
def conV (d : List Int) (a b : ByteArray) (n : Int) : Value := .agg ((d.map iv) ++ [.string a, .string b, iv n]).toArray
theorem laws_eqConsole (d e : List Int) (hd : d.length = 18) (he : e.length = 18) (d1 p1 d2 p2 : ByteArray) (n1 n2 : Int) (w : World) : Calls Try.prog 40 #[conV d d1 p1 n1, conV e d2 p2 n2] w fun e' w' => e' = .returned (.bool (decide (d = e) && (decide (d1 = d2) && (decide (p1 = p2) && decide (n1 = n2))))) ∧ Below w.heap.size w w' := by
  have hD := laws_eqDesk d e hd he
  have hL := laws_eqLog d1 p1 d2 p2 n1 n2
  generalize decide (d = e) = q1 at hD ⊢
  generalize (decide (d1 = d2) && (decide (p1 = p2) && decide (n1 = n2))) = q2 at hL ⊢
  obtain ⟨db, dp, dc, rfl, hdb⟩ := list18 hd
  obtain ⟨eb, ep, ec, rfl, heb⟩ := list18 he
  obtain ⟨a0, a1, a2, a3, b0, b1, b2, b3, c0, c1, c2, c3, d0, d1', d2', d3, rfl⟩ := list16 hdb
  obtain ⟨x0, x1, x2, x3, y0, y1, y2, y3, z0, z1, z2, z3, t0, t1, t2, t3, rfl⟩ := list16 heb
  clear hd he hdb heb
  simp only [conV, nums, List.map_cons, List.map_nil, List.cons_append, List.nil_append] at hD ⊢
  have HD := Lib.hid hD
  have HL := Lib.hid hL
  clear hD hL
  cases q1 <;> cases q2
  all_goals
    go_enter Try.func40, Try.ntmps40
    have hm := Mem.start w
    repeat' (first | (go_at_call 29; refine mem_call hm (HD.out _) ?_; clear hm; intro w hm; (try simp only [nums, List.map_cons, List.map_nil])) | (go_at_call 74; refine mem_call hm (HL.out _) ?_; clear hm; intro w hm; (try simp only [nums, List.map_cons, List.map_nil])) | ((with_reducible refine gl ?_); first | refine ml hm rfl rfl rfl ?_ | (refine mlr hm rfl rfl rfl ?_; try simp only [List.drop_succ_cons, List.drop_zero, List.take_succ_cons, List.take_zero])) | ((with_reducible refine gs ?_); (first | refine ms hm rfl rfl rfl rfl rfl ?_ | refine msr hm rfl rfl rfl rfl ?_); clear hm; intro w hm; (try simp only [splice, List.set_cons_zero, List.set_cons_succ] at hm)) | ((with_reducible refine gb ?_); (first | refine mem_box hm rfl rfl rfl ?_ | refine mem_box1 hm rfl rfl rfl rfl ?_); clear hm; intro n w hm) | ((with_reducible refine ga ?_); refine mem_alloc hm rfl rfl ?_; clear hm; intro n w hm) | ((with_reducible refine wp_loop_rounds 18 ?_); rw [rounds_succ]) | (with_reducible rw [rounds_succ]) | go_values | go_skip | go_guarded | go_step | go_upon | ((with_reducible refine bp ?_); go_back) | ((with_reducible refine up ?_); first | (simp only [Int.not_lt, Int.not_le] at *; go_simp) | (go_values <;> (try go_simp)) | (go_ite <;> go_prune <;> (try go_simp)) | (split <;> (first | (rename_i hx; exact (hx _ rfl).elim) | go_prune))))
    (try simp only [Exit.inBlock, Exit.then])
    (first | (refine ret1 rfl rfl (by (first | exact Res.tmp rfl | exact Res.at hm rfl)) ?_) | (refine ret2 rfl rfl (by (first | exact Res.tmp rfl | exact Res.at hm rfl)) (by (first | exact Res.tmp rfl | exact Res.at hm rfl)) ?_) | (refine ret3 rfl rfl (by (first | exact Res.tmp rfl | exact Res.at hm rfl)) (by (first | exact Res.tmp rfl | exact Res.at hm rfl)) (by (first | exact Res.tmp rfl | exact Res.at hm rfl)) ?_) | fail "ret")
    exact ⟨rfl, hm.below⟩
end Go.Proofs.Ytapdlongffmihaa

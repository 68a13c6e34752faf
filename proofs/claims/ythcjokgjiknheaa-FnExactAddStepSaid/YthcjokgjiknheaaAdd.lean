/-
  AddStep.
-/
import Derived.Test.YthcjokgjiknheaaUndo
set_option linter.unusedVariables false
set_option linter.unusedSimpArgs false
namespace Go.Proofs.Ythcjokgjiknheaa
open Go.RowKit Slm
theorem stpAt_snoc {S : List Stp} (t : Stp) {k : Nat} (h : k < S.length) : stpAt (S ++ [t]) k = stpAt S k := by
  simp [stpAt, List.getElem?_append_left h]
theorem bdK_snoc (b : List Int) (S : List Stp) (t : Stp) : ∀ k, k ≤ S.length → bdK b (S ++ [t]) k = bdK b S k
  | 0, _ => rfl
  | k + 1, h => by rw [bdK, bdK, bdK_snoc b S t k (by omega), stpAt_snoc t (by omega)]
theorem okK_snoc (b : List Int) (S : List Stp) (t : Stp) : ∀ k, k ≤ S.length → okK b (S ++ [t]) k = okK b S k
  | 0, _ => rfl
  | k + 1, h => by rw [okK, okK, okK_snoc b S t k (by omega), isK, isK, bdK_snoc b S t k (by omega), stpAt_snoc t (by omega)]
theorem stpAt_last (S : List Stp) (t : Stp) : stpAt (S ++ [t]) S.length = t := by simp [stpAt]
/-- Whether t is a step behind the last of them. -/
def lastB (b : List Int) (S : List Stp) (t : Stp) : Bool := stpB (bdK b S S.length) t.1 t.2.1 t.2.2.1 t.2.2.2
def addQ (b : List Int) (S : List Stp) (t : Stp) : Bool := valR b S && (decide (S.length < 40) && lastB b S t)
theorem valR_snoc (b : List Int) (S : List Stp) (t : Stp) : valR b (S ++ [t]) = addQ b S t := by
  have h1 : okK b (S ++ [t]) (S.length + 1) = (okK b S S.length && lastB b S t) := by
    rw [okK, okK_snoc b S t _ (Nat.le_refl _), isK, bdK_snoc b S t _ (Nat.le_refl _), stpAt_last]; rfl
  have h2 : (S ++ [t]).length = S.length + 1 := by simp
  rw [valR, addQ, valR, h2, h1]
  by_cases hl : S.length < 40
  · have e1 : S.length + 1 ≤ 40 := by omega
    have e2 : S.length ≤ 40 := by omega
    simp only [decide_eq_true hl, decide_eq_true e1, decide_eq_true e2, Bool.true_and, Bool.and_assoc]
  · have e1 : ¬ S.length + 1 ≤ 40 := by omega
    simp only [decide_eq_false hl, decide_eq_false e1, Bool.false_and, Bool.and_false]
set_option maxHeartbeats 2000000 in
theorem spec_AddStep_no {w0 w : World} {σ : List Blk} {g i cap : Nat} {more : List Value} (b : List Int) (hl : b.length = 16) (S : List Stp) (hm : Mem w0 w σ) [At σ g ((S.flatMap stI).map iv ++ more) 55 i] (d r c t : Int) (hq : addQ b S (d, r, c, t) = false) :
    Calls Try.prog 33 #[.agg (b.map iv ++ [Value.slice (some ⟨g, 0, none⟩) S.length cap]).toArray, .agg #[iv d, iv r, iv c, iv t]] w fun e w' => e = .returned (.tuple #[.agg (z16.map iv ++ [Value.slice none 0 0]).toArray, .bool false]) ∧ Mem w0 w' σ := by
  have hA := fun (w : World) (τ : List Blk) (j : Nat) (hm : Mem w0 w τ) (h : At τ g ((S.flatMap stI).map iv ++ more) 55 j) => spec_l11Boards (g := g) (more := more) (i := j) (cap := cap) b hl S hm
  cases hv : valR b S
  · have e3 : bdsR b S = [] := by simp [bdsR, hv]
    rw [hv, e3] at hA
    generalize sumR b S = sm at *
    generalize hcs : (S.flatMap stI).map iv ++ more = cs at *
    have h16 : ((b.map iv ++ [Value.slice (some ⟨g, 0, none⟩) S.length cap]).take 16) = b.map iv := List.take_left' (by simpa using hl)
    have hv16 : (b.map iv ++ [Value.slice (some ⟨g, 0, none⟩) S.length cap])[16]? = some (Value.slice (some ⟨g, 0, none⟩) S.length cap) := by rw [List.getElem?_append_right (by simp [hl])]; simp [hl]
    have hl17 : (b.map iv ++ [Value.slice (some ⟨g, 0, none⟩) S.length cap]).length = 17 := by simp [hl]
    generalize b.map iv ++ [Value.slice (some ⟨g, 0, none⟩) S.length cap] = rc at *
    have HA := Lib.hid hA
    clear hA hcs hq hv e3
    go_enter Try.func33, Try.ntmps33
    repeat' (first | (go_at_call 43; refine mem_callF (F := fun u => .tuple #[u, iv sm, .bool false]) (HA.out _ _ _ hm inferInstance) ?_; clear hm; intro g2 more2 len2 cap2 w hm hf hx; (try simp only [])) | ((with_reducible refine gix ?_); first | refine mix rfl rfl rfl rfl ?_ | refine mixr rfl rfl rfl rfl ?_; (try simp only [Int.toNat_zero, Int.reduceToNat, Nat.reduceMul, Nat.zero_mul, Nat.one_mul, List.drop_succ_cons, List.drop_zero, List.take_succ_cons, List.take_zero])) | ((with_reducible refine gl ?_); first | refine ml hm rfl rfl rfl ?_ | refine mlw hm rfl rfl rfl ?_ | (refine mlr hm rfl rfl rfl ?_; try simp only [List.drop_succ_cons, List.drop_zero, List.take_succ_cons, List.take_zero])) | ((with_reducible refine gs ?_); (first | refine ms hm rfl rfl rfl rfl rfl ?_ | refine msw hm rfl rfl rfl rfl ?_ | refine msr hm rfl rfl rfl rfl ?_); clear hm; intro w hm; (try simp only [splice, List.set_cons_zero, List.set_cons_succ] at hm)) | ((with_reducible refine gb ?_); (first | refine mem_box hm rfl rfl rfl ?_ | refine mem_box1 hm rfl rfl rfl rfl ?_); clear hm; intro n w hm) | ((with_reducible refine ga ?_); refine mem_alloc hm rfl rfl ?_; clear hm; intro n w hm) | go_values | go_skip | go_guarded | go_step | go_upon | ((with_reducible refine bp ?_); go_back) | ((with_reducible refine up ?_); first | (simp only [Int.not_lt, Int.not_le] at *; go_simp) | (go_values <;> (try go_simp)) | (go_ite <;> go_prune <;> (try go_simp)) | (split <;> (first | (rename_i hx; exact (hx _ rfl).elim) | go_prune))))
    (try simp only [Exit.inBlock, Exit.then])
    (first | (refine ret1 rfl rfl (by (first | exact Res.tmp rfl | exact Res.atw hm rfl | exact Res.at hm rfl)) ?_) | (refine ret2 rfl rfl (by (first | exact Res.tmp rfl | exact Res.atw hm rfl | exact Res.at hm rfl)) (by (first | exact Res.tmp rfl | exact Res.atw hm rfl | exact Res.at hm rfl)) ?_) | (refine ret3 rfl rfl (by (first | exact Res.tmp rfl | exact Res.atw hm rfl | exact Res.at hm rfl)) (by (first | exact Res.tmp rfl | exact Res.atw hm rfl | exact Res.at hm rfl)) (by (first | exact Res.tmp rfl | exact Res.atw hm rfl | exact Res.at hm rfl)) ?_) | (refine ret4 rfl rfl (by (first | exact Res.tmp rfl | exact Res.atw hm rfl | exact Res.at hm rfl)) (by (first | exact Res.tmp rfl | exact Res.atw hm rfl | exact Res.at hm rfl)) (by (first | exact Res.tmp rfl | exact Res.atw hm rfl | exact Res.at hm rfl)) (by (first | exact Res.tmp rfl | exact Res.atw hm rfl | exact Res.at hm rfl)) ?_) | fail "ret")
    exact ⟨rfl, hm.drop (by repeat (first | exact List.Sublist.refl _ | refine List.Sublist.cons _ ?_))⟩
  · have hn40 := valR_len hv
    have e3 : bdsR b S = bdsK b S S.length := by simp [bdsR, hv]
    rw [hv, e3] at hA
    have hfl := bdsK_flat hl S S.length
    have hxl : (((bdsK b S S.length).flatten).map iv).length = (S.length + 1) * 16 := by rw [List.length_map, hfl]
    generalize sumR b S = sm at *
    by_cases h40 : S.length < 40
    · have hlast : lastB b S (d, r, c, t) = false := by
        have := hq; rw [addQ, hv, decide_eq_true h40] at this; simpa using this
      have hrow := fun more => bdsK_row hl S S.length S.length (Nat.le_refl _) more
      have hbl := bdK_len hl S S.length
      have hvv := hv
      simp only [valR, Bool.and_eq_true, decide_eq_true_eq] at hvv
      have hbo := bdK_ok hvv.1 S S.length hvv.2.2
      have hD := spec_l5Do (bdK b S S.length) hbl hbo d r c t
      rw [show stpB (bdK b S S.length) d r c t = false from hlast] at hD
      simp only [nums_map] at hD
      generalize hd1 : doB (bdK b S S.length) d r c t = Z at *
      generalize doS (bdK b S S.length) d r c t = zs at *
      have hZl : Z.length = 16 := by rw [← hd1, doB, show stpB (bdK b S S.length) d r c t = false from hlast]; rfl
      generalize bdK b S S.length = B at *
      generalize ((bdsK b S S.length).flatten).map iv = X at *
      have hcl : ∀ more, (X ++ more).length = (S.length + 1) * 16 + more.length := fun more => by rw [List.length_append, hxl]
      generalize hcs : (S.flatMap stI).map iv ++ more = cs at *
      have h16 : ((b.map iv ++ [Value.slice (some ⟨g, 0, none⟩) S.length cap]).take 16) = b.map iv := List.take_left' (by simpa using hl)
      have hv16 : (b.map iv ++ [Value.slice (some ⟨g, 0, none⟩) S.length cap])[16]? = some (Value.slice (some ⟨g, 0, none⟩) S.length cap) := by rw [List.getElem?_append_right (by simp [hl])]; simp [hl]
      have hl17 : (b.map iv ++ [Value.slice (some ⟨g, 0, none⟩) S.length cap]).length = 17 := by simp [hl]
      generalize b.map iv ++ [Value.slice (some ⟨g, 0, none⟩) S.length cap] = rc at *
      have HA := Lib.hid hA
      have HD := Lib.hid hD
      have HR := Lib.hid hrow
      have HC := Lib.hid hcl
      clear hA hD hcs hq hv e3 hvv hfl hrow hcl hd1 hlast hbo
      go_enter Try.func33, Try.ntmps33
      repeat' (first | ((with_reducible refine gqw ?_); first | (with_reducible rw [hr]) | ((with_reducible refine gqwl ?_); first | refine qw_load hm rfl (by decide +kernel) rfl rfl rfl (by decide +kernel) (by decide +kernel) (fun _ _ _ _ h => h) ?_ | refine qw_loadW hm rfl (by decide +kernel) rfl rfl rfl (by decide +kernel) (by decide +kernel) (fun _ _ _ _ h => h) ?_ | (refine qw_loadR hm rfl (by decide +kernel) rfl rfl rfl (by decide +kernel) (by decide +kernel) (fun _ _ _ _ h => h) ?_; (try simp only [List.drop_succ_cons, List.drop_zero, List.take_succ_cons, List.take_zero]))) | (refine qw_pure hm (by decide +kernel) (by decide +kernel) rfl (by decide +kernel) (by decide +kernel) (fun _ _ _ _ h => h) (MS.any2 hm) ?_; intro hn K hK; go_simp; (try go_ints); (try simp [↓IntWalk.iteOmega, go_sem]); first | (refine hK _ ?_; clear hK K hn) | (apply Exists.intro; refine ⟨fun _ => ?_, hK _ ?_⟩; (first | rfl | done); clear hK K hn)) | (refine qw_not hm rfl (by decide +kernel) rfl (by decide +kernel) (by decide +kernel) (fun _ _ _ h => h) ?_) | refine qw_skip ?_) | ((with_reducible refine gqwn ?_); first | (refine qw_done (by decide +kernel) ?_; (try simp only [Act.put, List.setIfInBounds_toArray, List.set_cons_zero, List.set_cons_succ])) | refine qw_all (by decide +kernel) ?_) | ((with_reducible refine gaf ?_); first | exact af_end | refine af_skip (by decide +kernel) ?_ | refine af_go ?_ ?_) | ((with_reducible refine exit_go ?_); refine ⟨hm.drop (by first | exact List.Sublist.refl _ | exact List.sublist_cons_self _ _ | (repeat (first | exact List.Sublist.refl _ | (with_reducible refine List.Sublist.cons_cons _ ?_) | refine List.Sublist.cons _ ?_))), ?_⟩) | (with_reducible rw [hr]) | (go_at_call 43; refine mem_callF (F := fun u => .tuple #[u, iv sm, .bool true]) (HA.out _ _ _ hm inferInstance) ?_; clear hm; intro g2 more2 len2 cap2 w hm hf hx; obtain rfl : len2 = S.length + 1 := (by omega); have hr := HR.out more2; have hcl := HC.out more2; (try simp only [])) | (go_at_call 57; refine mem_call hm (HD.out _) ?_; clear hm; intro w hm; (try simp only [nums, List.map_cons, List.map_nil])) | ((with_reducible refine gd ?_); refine any_startE 0 hm (by kernel_rfl) ?_; clear hm; intro w hm; simp only [List.eraseIdx_cons_succ, List.eraseIdx_cons_zero]) | ((with_reducible refine gix ?_); first | refine mix rfl rfl rfl rfl ?_ | refine mixr rfl rfl rfl rfl ?_; (try simp only [Int.toNat_zero, Int.reduceToNat, Nat.reduceMul, Nat.zero_mul, Nat.one_mul, List.drop_succ_cons, List.drop_zero, List.take_succ_cons, List.take_zero])) | ((with_reducible refine gl ?_); first | refine ml hm rfl rfl rfl ?_ | refine mlw hm rfl rfl rfl ?_ | (refine mlr hm rfl rfl rfl ?_; try simp only [List.drop_succ_cons, List.drop_zero, List.take_succ_cons, List.take_zero])) | ((with_reducible refine gs ?_); (first | refine ms hm rfl rfl rfl rfl rfl ?_ | refine msw hm rfl rfl rfl rfl ?_ | refine msr hm rfl rfl rfl rfl ?_); clear hm; intro w hm; (try simp only [splice, List.set_cons_zero, List.set_cons_succ] at hm)) | ((with_reducible refine gb ?_); (first | refine mem_box hm rfl rfl rfl ?_ | refine mem_box1 hm rfl rfl rfl rfl ?_); clear hm; intro n w hm) | ((with_reducible refine ga ?_); refine mem_alloc hm rfl rfl ?_; clear hm; intro n w hm) | go_values | go_skip | go_guarded | go_step | go_upon | ((with_reducible refine bp ?_); go_back) | ((with_reducible refine up ?_); first | (simp only [Int.not_lt, Int.not_le] at *; go_simp) | (go_values <;> (try go_simp)) | (go_ite <;> go_prune <;> (try go_simp)) | (split <;> (first | (rename_i hx; exact (hx _ rfl).elim) | go_prune))))
      all_goals
        (try simp only [Exit.inBlock, Exit.then])
        (first | (refine ret1 rfl rfl (by (first | exact Res.tmp rfl | exact Res.atw hm rfl | exact Res.at hm rfl)) ?_) | (refine ret2 rfl rfl (by (first | exact Res.tmp rfl | exact Res.atw hm rfl | exact Res.at hm rfl)) (by (first | exact Res.tmp rfl | exact Res.atw hm rfl | exact Res.at hm rfl)) ?_) | (refine ret3 rfl rfl (by (first | exact Res.tmp rfl | exact Res.atw hm rfl | exact Res.at hm rfl)) (by (first | exact Res.tmp rfl | exact Res.atw hm rfl | exact Res.at hm rfl)) (by (first | exact Res.tmp rfl | exact Res.atw hm rfl | exact Res.at hm rfl)) ?_) | (refine ret4 rfl rfl (by (first | exact Res.tmp rfl | exact Res.atw hm rfl | exact Res.at hm rfl)) (by (first | exact Res.tmp rfl | exact Res.atw hm rfl | exact Res.at hm rfl)) (by (first | exact Res.tmp rfl | exact Res.atw hm rfl | exact Res.at hm rfl)) (by (first | exact Res.tmp rfl | exact Res.atw hm rfl | exact Res.at hm rfl)) ?_) | fail "ret")
        exact ⟨rfl, hm.drop (by repeat (first | exact List.Sublist.refl _ | refine List.Sublist.cons _ ?_))⟩
    · generalize ((bdsK b S S.length).flatten).map iv = X at *
      generalize hcs : (S.flatMap stI).map iv ++ more = cs at *
      have h16 : ((b.map iv ++ [Value.slice (some ⟨g, 0, none⟩) S.length cap]).take 16) = b.map iv := List.take_left' (by simpa using hl)
      have hv16 : (b.map iv ++ [Value.slice (some ⟨g, 0, none⟩) S.length cap])[16]? = some (Value.slice (some ⟨g, 0, none⟩) S.length cap) := by rw [List.getElem?_append_right (by simp [hl])]; simp [hl]
      have hl17 : (b.map iv ++ [Value.slice (some ⟨g, 0, none⟩) S.length cap]).length = 17 := by simp [hl]
      generalize b.map iv ++ [Value.slice (some ⟨g, 0, none⟩) S.length cap] = rc at *
      have HA := Lib.hid hA
      clear hA hcs hq hv e3 hfl
      go_enter Try.func33, Try.ntmps33
      repeat' (first | (go_at_call 43; refine mem_callF (F := fun u => .tuple #[u, iv sm, .bool true]) (HA.out _ _ _ hm inferInstance) ?_; clear hm; intro g2 more2 len2 cap2 w hm hf hx; (try simp only [])) | ((with_reducible refine gix ?_); first | refine mix rfl rfl rfl rfl ?_ | refine mixr rfl rfl rfl rfl ?_; (try simp only [Int.toNat_zero, Int.reduceToNat, Nat.reduceMul, Nat.zero_mul, Nat.one_mul, List.drop_succ_cons, List.drop_zero, List.take_succ_cons, List.take_zero])) | ((with_reducible refine gl ?_); first | refine ml hm rfl rfl rfl ?_ | refine mlw hm rfl rfl rfl ?_ | (refine mlr hm rfl rfl rfl ?_; try simp only [List.drop_succ_cons, List.drop_zero, List.take_succ_cons, List.take_zero])) | ((with_reducible refine gs ?_); (first | refine ms hm rfl rfl rfl rfl rfl ?_ | refine msw hm rfl rfl rfl rfl ?_ | refine msr hm rfl rfl rfl rfl ?_); clear hm; intro w hm; (try simp only [splice, List.set_cons_zero, List.set_cons_succ] at hm)) | ((with_reducible refine gb ?_); (first | refine mem_box hm rfl rfl rfl ?_ | refine mem_box1 hm rfl rfl rfl rfl ?_); clear hm; intro n w hm) | ((with_reducible refine ga ?_); refine mem_alloc hm rfl rfl ?_; clear hm; intro n w hm) | go_values | go_skip | go_guarded | go_step | go_upon | ((with_reducible refine bp ?_); go_back) | ((with_reducible refine up ?_); first | (simp only [Int.not_lt, Int.not_le] at *; go_simp) | (go_values <;> (try go_simp)) | (go_ite <;> go_prune <;> (try go_simp)) | (split <;> (first | (rename_i hx; exact (hx _ rfl).elim) | go_prune))))
      (try simp only [Exit.inBlock, Exit.then])
      (first | (refine ret1 rfl rfl (by (first | exact Res.tmp rfl | exact Res.atw hm rfl | exact Res.at hm rfl)) ?_) | (refine ret2 rfl rfl (by (first | exact Res.tmp rfl | exact Res.atw hm rfl | exact Res.at hm rfl)) (by (first | exact Res.tmp rfl | exact Res.atw hm rfl | exact Res.at hm rfl)) ?_) | (refine ret3 rfl rfl (by (first | exact Res.tmp rfl | exact Res.atw hm rfl | exact Res.at hm rfl)) (by (first | exact Res.tmp rfl | exact Res.atw hm rfl | exact Res.at hm rfl)) (by (first | exact Res.tmp rfl | exact Res.atw hm rfl | exact Res.at hm rfl)) ?_) | (refine ret4 rfl rfl (by (first | exact Res.tmp rfl | exact Res.atw hm rfl | exact Res.at hm rfl)) (by (first | exact Res.tmp rfl | exact Res.atw hm rfl | exact Res.at hm rfl)) (by (first | exact Res.tmp rfl | exact Res.atw hm rfl | exact Res.at hm rfl)) (by (first | exact Res.tmp rfl | exact Res.atw hm rfl | exact Res.at hm rfl)) ?_) | fail "ret")
      exact ⟨rfl, hm.drop (by repeat (first | exact List.Sublist.refl _ | refine List.Sublist.cons _ ?_))⟩
theorem snocS (S : List Stp) (d r c t : Int) : ((S ++ [(d, r, c, t)]).flatMap stI).map iv = (S.flatMap stI).map iv ++ [iv d, iv r, iv c, iv t] := by
  rw [List.flatMap_append, List.map_append]; rfl
set_option maxHeartbeats 2000000 in
theorem spec_AddStep_ok {w0 w : World} {σ : List Blk} {g i cap : Nat} {more : List Value} (b : List Int) (hl : b.length = 16) (S : List Stp) (hm : Mem w0 w σ) [At σ g ((S.flatMap stI).map iv ++ more) 55 i] (hcap : S.length ≤ cap) (d r c t : Int) (hq : addQ b S (d, r, c, t) = true) :
    Calls Try.prog 33 #[.agg (b.map iv ++ [Value.slice (some ⟨g, 0, none⟩) S.length cap]).toArray, .agg #[iv d, iv r, iv c, iv t]] w fun e w' => ∃ u, e = .returned (.tuple #[.agg (b.map iv ++ [u]).toArray, .bool true]) ∧ Sl w0 w' u 55 4 (((S ++ [(d, r, c, t)]).flatMap stI).map iv) σ := by
  have hA := fun (w : World) (τ : List Blk) (j : Nat) (hm : Mem w0 w τ) (h : At τ g ((S.flatMap stI).map iv ++ more) 55 j) => spec_l11Boards (g := g) (more := more) (i := j) (cap := cap) b hl S hm
  simp only [addQ, Bool.and_eq_true, decide_eq_true_eq] at hq
  obtain ⟨hv, h40, hlast⟩ := hq
  have e3 : bdsR b S = bdsK b S S.length := by simp [bdsR, hv]
  rw [hv, e3] at hA
  have hfl := bdsK_flat hl S S.length
  have hxl : (((bdsK b S S.length).flatten).map iv).length = (S.length + 1) * 16 := by rw [List.length_map, hfl]
  generalize sumR b S = sm at *
  have hrow := fun more => bdsK_row hl S S.length S.length (Nat.le_refl _) more
  have hbl := bdK_len hl S S.length
  have hvv := hv
  simp only [valR, Bool.and_eq_true, decide_eq_true_eq] at hvv
  have hbo := bdK_ok hvv.1 S S.length hvv.2.2
  have hD := spec_l5Do (bdK b S S.length) hbl hbo d r c t
  rw [show stpB (bdK b S S.length) d r c t = true from hlast] at hD
  simp only [nums_map] at hD
  have hU := fun (w : World) (τ : List Blk) (j : Nat) (hm : Mem w0 w τ) (h : At τ g ((S.flatMap stI).map iv ++ more) 55 j) => spec_l11Cut (g := g) (more := more) (i := j) (cap := cap) b hl S hm S.length (Nat.le_refl _) (by omega) hcap
  rw [List.take_length] at hU
  rw [snocS]
  have hSl : ((S.flatMap stI).map iv).length = S.length * 4 := by rw [List.length_map, fm_len (s := 4) S (fun a _ => stI_len a)]
  generalize hd1 : doB (bdK b S S.length) d r c t = Z at *
  generalize doS (bdK b S S.length) d r c t = zs at *
  have hZl : Z.length = 16 := by rw [← hd1, doB, if_pos (show stpB (bdK b S S.length) d r c t = true from hlast)]; exact nextB_len hbl _ _ _ _
  generalize bdK b S S.length = B at *
  generalize ((bdsK b S S.length).flatten).map iv = X at *
  have hcl : ∀ more, (X ++ more).length = (S.length + 1) * 16 + more.length := fun more => by rw [List.length_append, hxl]
  generalize hcs : (S.flatMap stI).map iv ++ more = cs at *
  generalize (S.flatMap stI).map iv = SS at *
  obtain ⟨a0, a1, a2, a3, b0, b1, b2, b3, c0, c1, c2, c3, d0, d1, d2, d3, rfl⟩ := list16 hl
  clear hl
  simp only [List.map_cons, List.map_nil, List.cons_append, List.nil_append] at *
  have HA := Lib.hid hA
  have HD := Lib.hid hD
  have HU := Lib.hid hU
  have HR := Lib.hid hrow
  have HC := Lib.hid hcl
  clear hA hD hU hcs hv e3 hvv hfl hrow hcl hd1 hlast hbo
  go_enter Try.func33, Try.ntmps33
  repeat' (first | ((with_reducible refine gqw ?_); first | (with_reducible rw [hr]) | ((with_reducible refine gqwl ?_); first | refine qw_load hm rfl (by decide +kernel) rfl rfl rfl (by decide +kernel) (by decide +kernel) (fun _ _ _ _ h => h) ?_ | refine qw_loadW hm rfl (by decide +kernel) rfl rfl rfl (by decide +kernel) (by decide +kernel) (fun _ _ _ _ h => h) ?_ | (refine qw_loadR hm rfl (by decide +kernel) rfl rfl rfl (by decide +kernel) (by decide +kernel) (fun _ _ _ _ h => h) ?_; (try simp only [List.drop_succ_cons, List.drop_zero, List.take_succ_cons, List.take_zero]))) | (refine qw_pure hm (by decide +kernel) (by decide +kernel) rfl (by decide +kernel) (by decide +kernel) (fun _ _ _ _ h => h) (MS.any2 hm) ?_; intro hn K hK; go_simp; (try go_ints); (try simp [↓IntWalk.iteOmega, go_sem]); first | (refine hK _ ?_; clear hK K hn) | (apply Exists.intro; refine ⟨fun _ => ?_, hK _ ?_⟩; (first | rfl | done); clear hK K hn)) | (refine qw_not hm rfl (by decide +kernel) rfl (by decide +kernel) (by decide +kernel) (fun _ _ _ h => h) ?_) | refine qw_skip ?_) | ((with_reducible refine gqwn ?_); first | (refine qw_done (by decide +kernel) ?_; (try simp only [Act.put, List.setIfInBounds_toArray, List.set_cons_zero, List.set_cons_succ])) | refine qw_all (by decide +kernel) ?_) | ((with_reducible refine gaf ?_); first | exact af_end | refine af_skip (by decide +kernel) ?_ | refine af_go ?_ ?_) | ((with_reducible refine exit_go ?_); refine ⟨hm.drop (by first | exact List.Sublist.refl _ | exact List.sublist_cons_self _ _ | (repeat (first | exact List.Sublist.refl _ | (with_reducible refine List.Sublist.cons_cons _ ?_) | refine List.Sublist.cons _ ?_))), ?_⟩) | (with_reducible rw [hr]) | (go_at_call 43; refine mem_callF (F := fun u => .tuple #[u, iv sm, .bool true]) (HA.out _ _ _ hm inferInstance) ?_; clear hm; intro g2 more2 len2 cap2 w hm hf hx; obtain rfl : len2 = S.length + 1 := (by omega); have hr := HR.out more2; have hcl := HC.out more2; (try simp only [])) | (go_at_call 57; refine mem_call hm (HD.out _) ?_; clear hm; intro w hm; (try simp only [nums, List.map_cons, List.map_nil])) | (go_at_call 53; refine mem_callF (F := fun u => .agg #[iv a0, iv a1, iv a2, iv a3, iv b0, iv b1, iv b2, iv b3, iv c0, iv c1, iv c2, iv c3, iv d0, iv d1, iv d2, iv d3, u]) (HU.out _ _ _ hm inferInstance) ?_; clear hm hx; intro g2 more2 len3 cap2 w hm hf hx; obtain rfl : len3 = S.length := (by omega); (try simp only [])) | ((with_reducible refine gbs ?_); refine mbs hm rfl rfl rfl ?_; clear hm; intro n w hm; (try simp only [List.flatMap_cons, List.flatMap_nil, Value.cells, List.append_nil, List.cons_append, List.nil_append] at hm)) | ((with_reducible refine gap ?_); refine map_ hm rfl rfl rfl rfl hf ?_; clear hm hf; intro g cap more w hm hf; rw [List.take_left' hx] at hm hf; (try simp only [List.eraseIdx_cons_succ, List.eraseIdx_cons_zero, Nat.zero_add, Nat.reduceAdd, Nat.reduceSub, Nat.reduceLT, if_true, if_false] at hm)) | ((with_reducible refine gd ?_); refine any_startE 0 hm (by kernel_rfl) ?_; clear hm; intro w hm; simp only [List.eraseIdx_cons_succ, List.eraseIdx_cons_zero]) | ((with_reducible refine gix ?_); first | refine mix rfl rfl rfl rfl ?_ | refine mixr rfl rfl rfl rfl ?_; (try simp only [Int.toNat_zero, Int.reduceToNat, Nat.reduceMul, Nat.zero_mul, Nat.one_mul, List.drop_succ_cons, List.drop_zero, List.take_succ_cons, List.take_zero])) | ((with_reducible refine gl ?_); first | refine ml hm rfl rfl rfl ?_ | refine mlw hm rfl rfl rfl ?_ | (refine mlr hm rfl rfl rfl ?_; try simp only [List.drop_succ_cons, List.drop_zero, List.take_succ_cons, List.take_zero])) | ((with_reducible refine gs ?_); (first | refine ms hm rfl rfl rfl rfl rfl ?_ | refine msw hm rfl rfl rfl rfl ?_ | refine msr hm rfl rfl rfl rfl ?_); clear hm; intro w hm; (try simp only [splice, List.set_cons_zero, List.set_cons_succ] at hm)) | ((with_reducible refine gb ?_); (first | refine mem_box hm rfl rfl rfl ?_ | refine mem_box1 hm rfl rfl rfl rfl ?_); clear hm; intro n w hm) | ((with_reducible refine ga ?_); refine mem_alloc hm rfl rfl ?_; clear hm; intro n w hm) | go_values | go_skip | go_guarded | go_step | go_upon | ((with_reducible refine bp ?_); go_back) | ((with_reducible refine up ?_); first | (simp only [Int.not_lt, Int.not_le] at *; go_simp) | (go_values <;> (try go_simp)) | (go_ite <;> go_prune <;> (try go_simp)) | (split <;> (first | (rename_i hx; exact (hx _ rfl).elim) | go_prune))))
  all_goals
    (try simp only [Exit.inBlock, Exit.then])
    (first | (refine ret1 rfl rfl (by (first | exact Res.tmp rfl | exact Res.atw hm rfl | exact Res.at hm rfl)) ?_) | (refine ret2 rfl rfl (by (first | exact Res.tmp rfl | exact Res.atw hm rfl | exact Res.at hm rfl)) (by (first | exact Res.tmp rfl | exact Res.atw hm rfl | exact Res.at hm rfl)) ?_) | (refine ret3 rfl rfl (by (first | exact Res.tmp rfl | exact Res.atw hm rfl | exact Res.at hm rfl)) (by (first | exact Res.tmp rfl | exact Res.atw hm rfl | exact Res.at hm rfl)) (by (first | exact Res.tmp rfl | exact Res.atw hm rfl | exact Res.at hm rfl)) ?_) | (refine ret4 rfl rfl (by (first | exact Res.tmp rfl | exact Res.atw hm rfl | exact Res.at hm rfl)) (by (first | exact Res.tmp rfl | exact Res.atw hm rfl | exact Res.at hm rfl)) (by (first | exact Res.tmp rfl | exact Res.atw hm rfl | exact Res.at hm rfl)) (by (first | exact Res.tmp rfl | exact Res.atw hm rfl | exact Res.at hm rfl)) ?_) | fail "ret")
    exact ⟨_, rfl, (Sl.of hm hf (by rw [List.length_append, hSl]; simp; omega)).drop (by repeat (first | exact List.Sublist.refl _ | refine List.Sublist.cons _ ?_))⟩
end Go.Proofs.Ythcjokgjiknheaa

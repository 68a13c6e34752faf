/-
  Walks of the reference: a board along a snake.
-/
import Derived.Test.YtelnajpjanmliaaSnakeX
import Derived.Test.YtelnajpjanmliaaSnake2
set_option linter.unusedVariables false
set_option linter.unusedSimpArgs false
namespace Go.Proofs.Ytelnajpjanmliaa
open Go.RowKit Slm
theorem dsc_len_succ (b : List Int) (s : Nat) : (dscB b (s + 1)).length = (dscB b s).length + cntB b (17 - s) := by rw [dscB, List.length_append, List.length_replicate]
theorem dsc_prefix (b : List Int) : ∀ s j, (dscB b s).length ≤ (dscB b (s + j)).length
  | s, 0 => Nat.le_refl _
  | s, j + 1 => by rw [← Nat.add_assoc, dsc_len_succ]; have := dsc_prefix b s j; omega
theorem dsc_le {b : List Int} (hl : b.length = 16) (h : okL b = true) {s : Nat} (hs : s ≤ 17) : (dscB b s).length ≤ 16 := by
  obtain ⟨j, hj⟩ := Nat.le.dest hs
  have h1 := dsc_prefix b s j
  rw [hj] at h1
  have h2 := allD_len hl h
  rw [allD, List.length_append] at h2
  omega
theorem dsc_app (b : List Int) : ∀ s j, ∃ r, dscB b (s + j) = dscB b s ++ r
  | s, 0 => ⟨[], by simp⟩
  | s, j + 1 => by
    obtain ⟨r, hr⟩ := dsc_app b s j
    exact ⟨r ++ List.replicate (cntB b (17 - (s + j))) ((17 - (s + j) : Nat) : Int), by rw [← Nat.add_assoc, dscB, hr, List.append_assoc]⟩
/-- What comes at a place of the descending list. -/
theorem allD_at {b : List Int} {s i : Nat} (hs : s < 17) (hi : i < cntB b (17 - s)) : (allD b).getD ((dscB b s).length + i) 0 = ((17 - s : Nat) : Int) := by
  obtain ⟨r, hr⟩ := dsc_app b (s + 1) (17 - (s + 1))
  rw [show s + 1 + (17 - (s + 1)) = 17 from by omega] at hr
  rw [allD, hr, dscB, List.append_assoc, List.append_assoc, List.getD_eq_getElem?_getD, List.getElem?_append_right (by omega), Nat.add_sub_cancel_left, List.getElem?_append_left (by simpa using hi), List.getElem?_replicate, if_pos hi]
  rfl
theorem allD_rest {b : List Int} (i : Nat) (h : (dscB b 17).length ≤ i) : (allD b).getD i 0 = 0 := by
  rw [allD, List.getD_eq_getElem?_getD, List.getElem?_append_right h, List.getElem?_replicate]
  split <;> rfl
theorem spec_CountTiles_no (b : List Int) (hl : b.length = 16) (hok : okL b = false) (w : World) : Calls Try.prog 147 #[.agg (nums b)] w fun e w' => e = .returned (.tuple #[.agg (nums (cnK b 0)), .bool false]) ∧ Below w.heap.size w w' := by
  have hB := spec_l2Board b hl
  rw [hok] at hB
  simp only [cnK]
  have HB := Lib.hid hB
  clear hB hok
  go_enter Try.func147, Try.ntmps147
  have hm := Mem.start w
  simp only [nums_map] at *
  repeat' (first | (go_at_call 41; refine mem_call hm (HB.out _) ?_; clear hm; intro w hm; (try simp only [nums, List.map_cons, List.map_nil])) | ((with_reducible refine gix ?_); first | refine mix rfl rfl rfl rfl ?_ | refine mixr rfl rfl rfl rfl ?_; (try simp only [Int.toNat_zero, Int.reduceToNat, Nat.reduceMul, Nat.zero_mul, Nat.one_mul, List.drop_succ_cons, List.drop_zero, List.take_succ_cons, List.take_zero])) | ((with_reducible refine gl ?_); first | refine ml hm rfl rfl rfl ?_ | refine mlw hm rfl rfl rfl ?_ | (refine mlr hm rfl rfl rfl ?_; try simp only [List.drop_succ_cons, List.drop_zero, List.take_succ_cons, List.take_zero])) | ((with_reducible refine gs ?_); (first | refine ms hm rfl rfl rfl rfl rfl ?_ | refine msw hm rfl rfl rfl rfl ?_ | refine msr hm rfl rfl rfl rfl ?_); clear hm; intro w hm; (try simp only [splice, List.set_cons_zero, List.set_cons_succ] at hm)) | ((with_reducible refine gb ?_); (first | refine mem_box hm rfl rfl rfl ?_ | refine mem_box1 hm rfl rfl rfl rfl ?_); clear hm; intro n w hm) | ((with_reducible refine ga ?_); refine mem_alloc hm rfl rfl ?_; clear hm; intro n w hm) | go_values | go_skip | go_guarded | go_step | go_upon | ((with_reducible refine bp ?_); go_back) | ((with_reducible refine up ?_); first | (simp only [Int.not_lt, Int.not_le] at *; go_simp) | (go_values <;> (try go_simp)) | (go_ite <;> go_prune <;> (try go_simp)) | (split <;> (first | (rename_i hx; exact (hx _ rfl).elim) | go_prune))))
  (try simp only [Exit.inBlock, Exit.then])
  (first | (refine ret1 rfl rfl (by (first | exact Res.tmp rfl | exact Res.atw hm rfl | exact Res.at hm rfl)) ?_) | (refine ret2 rfl rfl (by (first | exact Res.tmp rfl | exact Res.atw hm rfl | exact Res.at hm rfl)) (by (first | exact Res.tmp rfl | exact Res.atw hm rfl | exact Res.at hm rfl)) ?_) | (refine ret3 rfl rfl (by (first | exact Res.tmp rfl | exact Res.atw hm rfl | exact Res.at hm rfl)) (by (first | exact Res.tmp rfl | exact Res.atw hm rfl | exact Res.at hm rfl)) (by (first | exact Res.tmp rfl | exact Res.atw hm rfl | exact Res.at hm rfl)) ?_) | (refine ret4 rfl rfl (by (first | exact Res.tmp rfl | exact Res.atw hm rfl | exact Res.at hm rfl)) (by (first | exact Res.tmp rfl | exact Res.atw hm rfl | exact Res.at hm rfl)) (by (first | exact Res.tmp rfl | exact Res.atw hm rfl | exact Res.at hm rfl)) (by (first | exact Res.tmp rfl | exact Res.atw hm rfl | exact Res.at hm rfl)) ?_) | fail "ret")
  exact ⟨rfl, hm.below⟩
set_option maxHeartbeats 1000000 in
theorem spec_SnakeBoard (b : List Int) (hl : b.length = 16) (k : Int) (w0 : World) : Calls Try.prog 102 #[.agg (nums b), iv k] w0 fun e w' => e = .returned (.tuple #[.agg (nums (snakeV b k).1), .bool (snakeV b k).2]) ∧ Below w0.heap.size w0 w' := by
  have hK := spec_l3Form k
  unfold snakeV
  cases q1 : okL b
  · have hT := spec_CountTiles_no b hl q1
    simp only [Bool.false_and, Bool.false_eq_true, if_false, z16f]
    simp only [cnK] at hT
    have HT := Lib.hid hT
    clear hT hK q1
    go_enter Try.func102, Try.ntmps102
    have hm := Mem.start w0
    simp only [nums_map] at *
    repeat' (first | (go_at_call 147; refine mem_call hm (HT.out _) ?_; clear hm; intro w hm; (try simp only [nums, List.map_cons, List.map_nil])) | ((with_reducible refine gix ?_); first | refine mix rfl rfl rfl rfl ?_ | refine mixr rfl rfl rfl rfl ?_; (try simp only [Int.toNat_zero, Int.reduceToNat, Nat.reduceMul, Nat.zero_mul, Nat.one_mul, List.drop_succ_cons, List.drop_zero, List.take_succ_cons, List.take_zero])) | ((with_reducible refine gl ?_); first | refine ml hm rfl rfl rfl ?_ | refine mlw hm rfl rfl rfl ?_ | (refine mlr hm rfl rfl rfl ?_; try simp only [List.drop_succ_cons, List.drop_zero, List.take_succ_cons, List.take_zero])) | ((with_reducible refine gs ?_); (first | refine ms hm rfl rfl rfl rfl rfl ?_ | refine msw hm rfl rfl rfl rfl ?_ | refine msr hm rfl rfl rfl rfl ?_); clear hm; intro w hm; (try simp only [splice, List.set_cons_zero, List.set_cons_succ] at hm)) | ((with_reducible refine gb ?_); (first | refine mem_box hm rfl rfl rfl ?_ | refine mem_box1 hm rfl rfl rfl rfl ?_); clear hm; intro n w hm) | ((with_reducible refine ga ?_); refine mem_alloc hm rfl rfl ?_; clear hm; intro n w hm) | go_values | go_skip | go_guarded | go_step | go_upon | ((with_reducible refine bp ?_); go_back) | ((with_reducible refine up ?_); first | (simp only [Int.not_lt, Int.not_le] at *; go_simp) | (go_values <;> (try go_simp)) | (go_ite <;> go_prune <;> (try go_simp)) | (split <;> (first | (rename_i hx; exact (hx _ rfl).elim) | go_prune))))
    (try simp only [Exit.inBlock, Exit.then])
    (first | (refine ret1 rfl rfl (by (first | exact Res.tmp rfl | exact Res.atw hm rfl | exact Res.at hm rfl)) ?_) | (refine ret2 rfl rfl (by (first | exact Res.tmp rfl | exact Res.atw hm rfl | exact Res.at hm rfl)) (by (first | exact Res.tmp rfl | exact Res.atw hm rfl | exact Res.at hm rfl)) ?_) | (refine ret3 rfl rfl (by (first | exact Res.tmp rfl | exact Res.atw hm rfl | exact Res.at hm rfl)) (by (first | exact Res.tmp rfl | exact Res.atw hm rfl | exact Res.at hm rfl)) (by (first | exact Res.tmp rfl | exact Res.atw hm rfl | exact Res.at hm rfl)) ?_) | (refine ret4 rfl rfl (by (first | exact Res.tmp rfl | exact Res.atw hm rfl | exact Res.at hm rfl)) (by (first | exact Res.tmp rfl | exact Res.atw hm rfl | exact Res.at hm rfl)) (by (first | exact Res.tmp rfl | exact Res.atw hm rfl | exact Res.at hm rfl)) (by (first | exact Res.tmp rfl | exact Res.atw hm rfl | exact Res.at hm rfl)) ?_) | fail "ret")
    exact ⟨rfl, hm.below⟩
  have hT := spec_CountTiles_ok b hl q1
  have hTl := cnK_len b 16
  have hTb : ((cnK b 16).map iv).length = 18 := by simpa using hTl
  cases q2 : inB k 0 7
  · rw [q2] at hK
    simp only [Bool.and_false, Bool.false_eq_true, if_false, z16f]
    generalize cnK b 16 = C at *
    have HT := Lib.hid hT
    have HK := Lib.hid hK
    clear hT hK q1 q2
    go_enter Try.func102, Try.ntmps102
    have hm := Mem.start w0
    simp only [nums_map] at *
    repeat' (first | (go_at_call 147; refine mem_call hm (HT.out _) ?_; clear hm; intro w hm; (try simp only [nums, List.map_cons, List.map_nil])) | (go_at_call 145; refine mem_call hm (HK.out _) ?_; clear hm; intro w hm; (try simp only [nums, List.map_cons, List.map_nil])) | ((with_reducible refine gix ?_); first | refine mix rfl rfl rfl rfl ?_ | refine mixr rfl rfl rfl rfl ?_; (try simp only [Int.toNat_zero, Int.reduceToNat, Nat.reduceMul, Nat.zero_mul, Nat.one_mul, List.drop_succ_cons, List.drop_zero, List.take_succ_cons, List.take_zero])) | ((with_reducible refine gl ?_); first | refine ml hm rfl rfl rfl ?_ | refine mlw hm rfl rfl rfl ?_ | (refine mlr hm rfl rfl rfl ?_; try simp only [List.drop_succ_cons, List.drop_zero, List.take_succ_cons, List.take_zero])) | ((with_reducible refine gs ?_); (first | refine ms hm rfl rfl rfl rfl rfl ?_ | refine msw hm rfl rfl rfl rfl ?_ | refine msr hm rfl rfl rfl rfl ?_); clear hm; intro w hm; (try simp only [splice, List.set_cons_zero, List.set_cons_succ] at hm)) | ((with_reducible refine gb ?_); (first | refine mem_box hm rfl rfl rfl ?_ | refine mem_box1 hm rfl rfl rfl rfl ?_); clear hm; intro n w hm) | ((with_reducible refine ga ?_); refine mem_alloc hm rfl rfl ?_; clear hm; intro n w hm) | go_values | go_skip | go_guarded | go_step | go_upon | ((with_reducible refine bp ?_); go_back) | ((with_reducible refine up ?_); first | (simp only [Int.not_lt, Int.not_le] at *; go_simp) | (go_values <;> (try go_simp)) | (go_ite <;> go_prune <;> (try go_simp)) | (split <;> (first | (rename_i hx; exact (hx _ rfl).elim) | go_prune))))
    (try simp only [Exit.inBlock, Exit.then])
    (first | (refine ret1 rfl rfl (by (first | exact Res.tmp rfl | exact Res.atw hm rfl | exact Res.at hm rfl)) ?_) | (refine ret2 rfl rfl (by (first | exact Res.tmp rfl | exact Res.atw hm rfl | exact Res.at hm rfl)) (by (first | exact Res.tmp rfl | exact Res.atw hm rfl | exact Res.at hm rfl)) ?_) | (refine ret3 rfl rfl (by (first | exact Res.tmp rfl | exact Res.atw hm rfl | exact Res.at hm rfl)) (by (first | exact Res.tmp rfl | exact Res.atw hm rfl | exact Res.at hm rfl)) (by (first | exact Res.tmp rfl | exact Res.atw hm rfl | exact Res.at hm rfl)) ?_) | (refine ret4 rfl rfl (by (first | exact Res.tmp rfl | exact Res.atw hm rfl | exact Res.at hm rfl)) (by (first | exact Res.tmp rfl | exact Res.atw hm rfl | exact Res.at hm rfl)) (by (first | exact Res.tmp rfl | exact Res.atw hm rfl | exact Res.at hm rfl)) (by (first | exact Res.tmp rfl | exact Res.atw hm rfl | exact Res.at hm rfl)) ?_) | fail "ret")
    exact ⟨rfl, hm.below⟩
  obtain ⟨nk, rfl⟩ := Int.eq_ofNat_of_zero_le (inB_iff.1 q2).1
  have hk7 : nk ≤ 7 := by have := (inB_iff.1 q2).2; omega
  have hSn := spec_l7Snake nk hk7
  have hcg := snK_get nk (by omega)
  have hcl := snK_len nk 16
  have hbd := fun (i : Nat) (hi : i < 16) => snC_bd hk7 hi
  have hpd : ∀ i, (4 * (snC nk i).1 + (snC nk i).2).toNat = snP nk i := fun _ => rfl
  have hSt : ∀ i, sbK nk (fun i => (allD b).getD i 0) (i + 1) = (sbK nk (fun i => (allD b).getD i 0) i).set (snP nk i) ((allD b).getD i 0) := fun _ => rfl
  have hS0 : sbK nk (fun i => (allD b).getD i 0) 0 = [0, 0, 0, 0, 0, 0, 0, 0, 0, 0, 0, 0, 0, 0, 0, 0] := rfl
  have hSl := sbK_len nk (fun i => (allD b).getD i 0)
  have hend : sbK nk (fun i => (allD b).getD i 0) 16 = sbK nk (fun i => (allD b).getD i 0) (dscB b 17).length := by
    have h1 := dsc_le hl q1 (s := 17) (by omega)
    have := sbK_zero hk7 (V := fun i => (allD b).getD i 0) (n := (dscB b 17).length) (16 - (dscB b 17).length) (by omega) (fun i h _ => allD_rest i h)
    rwa [show (dscB b 17).length + (16 - (dscB b 17).length) = 16 from by omega] at this
  have hda := fun (s i : Nat) (hs : s < 17) (hi : i < cntB b (17 - s)) => allD_at hs hi
  have hds := dsc_len_succ b
  have hdl := fun (s : Nat) (hs : s ≤ 17) => dsc_le hl q1 hs
  have hd0 : (dscB b 0).length = 0 := rfl
  have hcn := fun (t : Nat) (ht : t < 18) => cnK_cnt hl q1 ht
  rw [q2] at hK
  simp only [Bool.and_self, if_true, Int.toNat_natCast]
  rw [hend]
  clear hend
  generalize hsb : sbK nk (fun i => (allD b).getD i 0) = sb at *
  generalize hsc : snC nk = sc at *
  generalize snP nk = sp at *
  generalize snK nk 16 = sk at *
  generalize hC : cnK b 16 = C at *
  have hcv : ∀ t, t < 18 → (C.map iv)[t]? = some (iv (cntB b t : Nat)) := fun t ht => by
    rw [List.getElem?_map, List.getElem?_eq_getElem (show t < C.length by omega), ← hcn t ht, List.getD_eq_getElem?_getD, List.getElem?_eq_getElem (show t < C.length by omega)]; rfl
  generalize cntB b = cn at *
  generalize hdd : (fun s => (dscB b s).length) = dl at *
  have hdd2 : ∀ s, (dscB b s).length = dl s := fun s => by rw [← hdd]
  simp only [hdd2] at *
  have hckl : (sk.map iv).length = 32 := by simpa using hcl
  have hck : ∀ i, i < 16 → ((sk.map iv).drop (i * 2)).take 2 = [iv (sc i).1, iv (sc i).2] := fun i hi => by rw [← List.map_drop, ← List.map_take, hcg i hi]; rfl
  clear hcg hcl hsc hcn hC hdd hdd2 hsb
  have HT := Lib.hid hT
  have HK := Lib.hid hK
  have HSn := Lib.hid hSn
  have HBD := Lib.hid hbd
  have HPD := Lib.hid hpd
  have HSt := Lib.hid hSt
  have HSl := Lib.hid hSl
  have HDA := Lib.hid hda
  have HDS := Lib.hid hds
  have HDL := Lib.hid hdl
  have HCV := Lib.hid hcv
  have HCK := Lib.hid hck
  clear hT hK hSn hbd hpd hSt hSl hda hds hdl hcv hck q1 q2
  go_enter Try.func102, Try.ntmps102
  have hm := Mem.start w0
  simp only [nums_map] at *
  repeat' (first | (go_at_call 147; refine mem_call hm (HT.out _) ?_; clear hm; intro w hm; (try simp only [nums, List.map_cons, List.map_nil])) | (go_at_call 145; refine mem_call hm (HK.out _) ?_; clear hm; intro w hm; (try simp only [nums, List.map_cons, List.map_nil])) | (go_at_call 148; refine mem_call hm (HSn.out _) ?_; clear hm; intro w hm; (try simp only [nums, List.map_cons, List.map_nil])) | ((with_reducible refine gix ?_); first | refine mix rfl rfl rfl rfl ?_ | refine mixr rfl rfl rfl rfl ?_; (try simp only [Int.toNat_zero, Int.reduceToNat, Nat.reduceMul, Nat.zero_mul, Nat.one_mul, List.drop_succ_cons, List.drop_zero, List.take_succ_cons, List.take_zero])) | ((with_reducible refine gl ?_); first | refine ml hm rfl rfl rfl ?_ | refine mlw hm rfl rfl rfl ?_ | (refine mlr hm rfl rfl rfl ?_; try simp only [List.drop_succ_cons, List.drop_zero, List.take_succ_cons, List.take_zero])) | ((with_reducible refine gs ?_); (first | refine ms hm rfl rfl rfl rfl rfl ?_ | refine msw hm rfl rfl rfl rfl ?_ | refine msr hm rfl rfl rfl rfl ?_); clear hm; intro w hm; (try simp only [splice, List.set_cons_zero, List.set_cons_succ] at hm)) | ((with_reducible refine gb ?_); (first | refine mem_box hm rfl rfl rfl ?_ | refine mem_box1 hm rfl rfl rfl rfl ?_); clear hm; intro n w hm) | ((with_reducible refine ga ?_); refine mem_alloc hm rfl rfl ?_; clear hm; intro n w hm) | go_values | go_skip | go_guarded | go_step | go_upon | ((with_reducible refine bp ?_); go_back) | ((with_reducible refine up ?_); first | (simp only [Int.not_lt, Int.not_le] at *; go_simp) | (go_values <;> (try go_simp)) | (go_ite <;> go_prune <;> (try go_simp)) | (split <;> (first | (rename_i hx; exact (hx _ rfl).elim) | go_prune))))
  generalize hskv : sk.map iv = skv at *
  generalize hCv : C.map iv = Cv at *
  clear hskv hCv
  obtain ⟨τ, hτ, hm⟩ := Mem.sig hm
  go_loopw [10, 11, 12] (fun n t _ wr => ∃ s : Nat, s ≤ 17 ∧ t = iv ((17 - s : Nat) : Int) ∧ n = iv (dl s : Nat) ∧ Mem w0 wr (modB τ 1 ((sb (dl s)).map iv))) (fun _ t _ _ => (intOf t).toNat)
  case atStart => exact ⟨0, by omega, rfl, by rw [hd0]; rfl, by rw [hd0, hS0]; subst hτ; exact hm⟩
  case round =>
    clear hm
    obtain ⟨s, hs, rfl, rfl, hm⟩ := hrel
    by_cases hlt : s < 17
    · have hdt : decide (0 < 17 - s) = true := by simp; omega
      have htp : 0 < ((17 - s : Nat) : Int) := by omega
      have hds := HDS.out s
      have hdl := HDL.out (s + 1) (by omega)
      have hcv := HCV.out (17 - s) (by omega)
      have hda := fun i hi => HDA.out s i hlt hi
      have hs18 : 17 - s < 18 := by omega
      generalize hct : cn (17 - s) = ct at *
      have htn : (((17 - s : Nat) : Int)).toNat = 17 - s := by omega
      subst hτ
      simp only [modB] at hm
      generalize hsd : dl s = d0 at *
      have HSD : Unit → Hid _ := fun _ => Lib.hid hsd
      have HDs : Unit → Hid _ := fun _ => Lib.hid hds
      have HDa := Lib.hid hda
      have hd16 : d0 + ct ≤ 16 := by omega
      clear hsd hds hda hct
      have hlF := HSl.out d0
      generalize hf0 : sb d0 = F0 at *
      have HF0 : Unit → Hid _ := fun _ => Lib.hid hf0
      clear hf0
      have hlFb : (F0.map iv).length = 16 := by simpa using hlF
      repeat' (first  | ((with_reducible refine gix ?_); first | refine mix rfl rfl rfl rfl ?_ | refine mixr rfl rfl rfl rfl ?_; (try simp only [Int.toNat_zero, Int.reduceToNat, Nat.reduceMul, Nat.zero_mul, Nat.one_mul, List.drop_succ_cons, List.drop_zero, List.take_succ_cons, List.take_zero])) | ((with_reducible refine gl ?_); first | refine ml hm rfl rfl rfl ?_ | refine mlw hm rfl rfl rfl ?_ | (refine mlr hm rfl rfl rfl ?_; try simp only [List.drop_succ_cons, List.drop_zero, List.take_succ_cons, List.take_zero])) | ((with_reducible refine gs ?_); (first | refine ms hm rfl rfl rfl rfl rfl ?_ | refine msw hm rfl rfl rfl rfl ?_ | refine msr hm rfl rfl rfl rfl ?_); clear hm; intro w hm; (try simp only [splice, List.set_cons_zero, List.set_cons_succ] at hm)) | ((with_reducible refine gb ?_); (first | refine mem_box hm rfl rfl rfl ?_ | refine mem_box1 hm rfl rfl rfl rfl ?_); clear hm; intro n w hm) | ((with_reducible refine ga ?_); refine mem_alloc hm rfl rfl ?_; clear hm; intro n w hm) | go_values | go_skip | go_guarded | go_step | go_upon | ((with_reducible refine bp ?_); go_back) | ((with_reducible refine up ?_); first | (simp only [Int.not_lt, Int.not_le] at *; go_simp) | (go_values <;> (try go_simp)) | (go_ite <;> go_prune <;> (try go_simp)) | (split <;> (first | (rename_i hx; exact (hx _ rfl).elim) | go_prune))))
      obtain ⟨τ, hτ, hm⟩ := Mem.sig hm
      go_loopw [10, 12] (fun n i wr => ∃ j : Nat, j ≤ ct ∧ i = iv j ∧ n = iv ((d0 + j : Nat) : Int) ∧ Mem w0 wr (modB τ 1 ((sb (d0 + j)).map iv))) (fun _ i _ => ct - (intOf i).toNat)
      case atStart => exact ⟨0, by omega, rfl, by simp, by rw [Nat.add_zero, (HF0 ()).out]; subst hτ; exact hm⟩
      case round =>
        clear hm
        obtain ⟨j, hj, rfl, rfl, hm⟩ := hrel
        subst hτ
        simp only [modB] at hm
        by_cases hjt : j < ct
        · have hd15 : d0 + j < 16 := by omega
          have hrow := HCK.out (d0 + j) hd15
          obtain ⟨hb1, hb2⟩ := HBD.out (d0 + j) hd15
          have hval := HDa.out j hjt
          have hsj := HSt.out (d0 + j)
          have hpd := HPD.out (d0 + j)
          rw [hval] at hsj
          have hl1 := HSl.out (d0 + j)
          obtain ⟨r1, hr1⟩ := Int.eq_ofNat_of_zero_le hb1.1
          obtain ⟨c1, hc1⟩ := Int.eq_ofNat_of_zero_le hb2.1
          rw [hr1, hc1] at hrow hpd
          rw [hr1] at hb1
          rw [hc1] at hb2
          rw [show (4 * (r1 : Int) + (c1 : Int)).toNat = 4 * r1 + c1 from by omega] at hpd
          rw [← hpd] at hsj
          have hP := spec_l2Put r1 c1 (by omega) (by omega) ((17 - s : Nat) : Int) (sb (d0 + j)) hl1
          rw [← hsj] at hP
          have hl2 := HSl.out (d0 + j + 1)
          clear hb1 hb2 hval hpd hr1 hc1 hsj
          generalize hff : sb (d0 + j + 1) = F1 at *
          have HFF : Unit → Hid _ := fun _ => Lib.hid hff
          clear hff
          generalize sb (d0 + j) = F at *
          have hl3 : (F.map iv).length = 16 := by simpa using hl1
          have hl4 : (F1.map iv).length = 16 := by simpa using hl2
          have hdj : ((d0 + j : Nat) : Int) < 16 := by omega
          simp only [nums, List.map_cons, List.map_nil] at hP
          (try simp only [nums_map] at hP)
          have HP := Lib.hid hP
          clear hP
          repeat' (first | (with_reducible rw [hrow]) | ((with_reducible refine gd ?_); refine mf_start1 6 1 hm (by kernel_rfl) (by kernel_rfl) rfl ?_; apply Exists.intro; intro hne; (repeat (first | ((with_reducible refine gfl ?_); first | refine fl rfl rfl rfl ?_ | refine flw rfl rfl rfl ?_ | (refine flr rfl rfl rfl ?_; try simp only [List.drop_succ_cons, List.drop_zero, List.take_succ_cons, List.take_zero])) | ((with_reducible refine gfs ?_); first | refine fs rfl rfl rfl rfl rfl ?_ | refine fsw rfl rfl rfl rfl ?_ | refine fsr rfl rfl rfl rfl ?_) | (refine wpF_step (by rfl) (hne _ (by decide)) ?_; intro hn K hK; go_simp; (try go_ints); (try simp [↓IntWalk.iteOmega, go_sem]); first | (refine hK _ ?_; clear hK K hn) | (apply Exists.intro; refine ⟨fun _ => ?_, hK _ ?_⟩; (first | (with_reducible rw [hrow]) | (go_at_call 124; exact (HP.out _)) | fail); clear hK K hn)))); refine wpF_nil ?_; clear hm hne; intro w hm; (try simp only [famEnd, modB, splice, List.set_cons_zero, List.set_cons_succ, set_iv] at hm)) | ((with_reducible refine gix ?_); first | refine mix rfl rfl rfl rfl ?_ | refine mixr rfl rfl rfl rfl ?_; (try simp only [Int.toNat_zero, Int.reduceToNat, Nat.reduceMul, Nat.zero_mul, Nat.one_mul, List.drop_succ_cons, List.drop_zero, List.take_succ_cons, List.take_zero])) | ((with_reducible refine gl ?_); first | refine ml hm rfl rfl rfl ?_ | refine mlw hm rfl rfl rfl ?_ | (refine mlr hm rfl rfl rfl ?_; try simp only [List.drop_succ_cons, List.drop_zero, List.take_succ_cons, List.take_zero])) | ((with_reducible refine gs ?_); (first | refine ms hm rfl rfl rfl rfl rfl ?_ | refine msw hm rfl rfl rfl rfl ?_ | refine msr hm rfl rfl rfl rfl ?_); clear hm; intro w hm; (try simp only [splice, List.set_cons_zero, List.set_cons_succ] at hm)) | ((with_reducible refine gb ?_); (first | refine mem_box hm rfl rfl rfl ?_ | refine mem_box1 hm rfl rfl rfl rfl ?_); clear hm; intro n w hm) | ((with_reducible refine ga ?_); refine mem_alloc hm rfl rfl ?_; clear hm; intro n w hm) | go_values | go_skip | go_guarded | go_step | go_upon | ((with_reducible refine bp ?_); go_back) | ((with_reducible refine up ?_); first | (simp only [Int.not_lt, Int.not_le] at *; go_simp) | (go_values <;> (try go_simp)) | (go_ite <;> go_prune <;> (try go_simp)) | (split <;> (first | (rename_i hx; exact (hx _ rfl).elim) | go_prune))))
          go_roundw
          case rel => (try (first | ((repeat apply Exists.intro); refine ⟨?_, rfl⟩) | (repeat refine ex_any ?_))); exact ⟨j + 1, by omega, by go_num, by rw [← Nat.add_assoc]; go_num, by simp only [modB]; rw [← Nat.add_assoc, (HFF ()).out]; exact hm.drop (by repeat (first | exact List.Sublist.refl _ | refine List.Sublist.cons _ ?_))⟩
          case measure => simp [intOf]; omega
        · obtain rfl : j = ct := by omega
          generalize hff : sb (d0 + j) = F1 at *
          have HFF : Unit → Hid _ := fun _ => Lib.hid hff
          clear hff
          repeat' (first  | ((with_reducible refine gix ?_); first | refine mix rfl rfl rfl rfl ?_ | refine mixr rfl rfl rfl rfl ?_; (try simp only [Int.toNat_zero, Int.reduceToNat, Nat.reduceMul, Nat.zero_mul, Nat.one_mul, List.drop_succ_cons, List.drop_zero, List.take_succ_cons, List.take_zero])) | ((with_reducible refine gl ?_); first | refine ml hm rfl rfl rfl ?_ | refine mlw hm rfl rfl rfl ?_ | (refine mlr hm rfl rfl rfl ?_; try simp only [List.drop_succ_cons, List.drop_zero, List.take_succ_cons, List.take_zero])) | ((with_reducible refine gs ?_); (first | refine ms hm rfl rfl rfl rfl rfl ?_ | refine msw hm rfl rfl rfl rfl ?_ | refine msr hm rfl rfl rfl rfl ?_); clear hm; intro w hm; (try simp only [splice, List.set_cons_zero, List.set_cons_succ] at hm)) | ((with_reducible refine gb ?_); (first | refine mem_box hm rfl rfl rfl ?_ | refine mem_box1 hm rfl rfl rfl rfl ?_); clear hm; intro n w hm) | ((with_reducible refine ga ?_); refine mem_alloc hm rfl rfl ?_; clear hm; intro n w hm) | go_values | go_skip | go_guarded | go_step | go_upon | ((with_reducible refine bp ?_); go_back) | ((with_reducible refine up ?_); first | (simp only [Int.not_lt, Int.not_le] at *; go_simp) | (go_values <;> (try go_simp)) | (go_ite <;> go_prune <;> (try go_simp)) | (split <;> (first | (rename_i hx; exact (hx _ rfl).elim) | go_prune))))
          go_roundw
          case rel => (try (first | ((repeat apply Exists.intro); refine ⟨?_, rfl⟩) | (repeat refine ex_any ?_))); exact ⟨s + 1, by omega, by first | rfl | (congr 1; omega) | go_num, by rw [(HDs ()).out]; first | rfl | simp, by simp only [modB]; rw [(HDs ()).out, (HFF ()).out]; exact hm.drop (by repeat (first | exact List.Sublist.refl _ | refine List.Sublist.cons _ ?_))⟩
          case measure => simp [intOf]; omega
    · obtain rfl : s = 17 := by omega
      subst hτ
      simp only [modB] at hm
      have hl4 := HSl.out (dl 17)
      generalize hff : sb (dl 17) = F at *
      have HFF : Unit → Hid _ := fun _ => Lib.hid hff
      clear hff
      have hl3 : (F.map iv).length = 16 := by simpa using hl4
      repeat' (first  | ((with_reducible refine gix ?_); first | refine mix rfl rfl rfl rfl ?_ | refine mixr rfl rfl rfl rfl ?_; (try simp only [Int.toNat_zero, Int.reduceToNat, Nat.reduceMul, Nat.zero_mul, Nat.one_mul, List.drop_succ_cons, List.drop_zero, List.take_succ_cons, List.take_zero])) | ((with_reducible refine gl ?_); first | refine ml hm rfl rfl rfl ?_ | refine mlw hm rfl rfl rfl ?_ | (refine mlr hm rfl rfl rfl ?_; try simp only [List.drop_succ_cons, List.drop_zero, List.take_succ_cons, List.take_zero])) | ((with_reducible refine gs ?_); (first | refine ms hm rfl rfl rfl rfl rfl ?_ | refine msw hm rfl rfl rfl rfl ?_ | refine msr hm rfl rfl rfl rfl ?_); clear hm; intro w hm; (try simp only [splice, List.set_cons_zero, List.set_cons_succ] at hm)) | ((with_reducible refine gb ?_); (first | refine mem_box hm rfl rfl rfl ?_ | refine mem_box1 hm rfl rfl rfl rfl ?_); clear hm; intro n w hm) | ((with_reducible refine ga ?_); refine mem_alloc hm rfl rfl ?_; clear hm; intro n w hm) | go_values | go_skip | go_guarded | go_step | go_upon | ((with_reducible refine bp ?_); go_back) | ((with_reducible refine up ?_); first | (simp only [Int.not_lt, Int.not_le] at *; go_simp) | (go_values <;> (try go_simp)) | (go_ite <;> go_prune <;> (try go_simp)) | (split <;> (first | (rename_i hx; exact (hx _ rfl).elim) | go_prune))))
      (try simp only [Exit.inBlock, Exit.then])
      (first | (refine ret1 rfl rfl (by (first | exact Res.tmp rfl | exact Res.atw hm rfl | exact Res.at hm rfl)) ?_) | (refine ret2 rfl rfl (by (first | exact Res.tmp rfl | exact Res.atw hm rfl | exact Res.at hm rfl)) (by (first | exact Res.tmp rfl | exact Res.atw hm rfl | exact Res.at hm rfl)) ?_) | (refine ret3 rfl rfl (by (first | exact Res.tmp rfl | exact Res.atw hm rfl | exact Res.at hm rfl)) (by (first | exact Res.tmp rfl | exact Res.atw hm rfl | exact Res.at hm rfl)) (by (first | exact Res.tmp rfl | exact Res.atw hm rfl | exact Res.at hm rfl)) ?_) | (refine ret4 rfl rfl (by (first | exact Res.tmp rfl | exact Res.atw hm rfl | exact Res.at hm rfl)) (by (first | exact Res.tmp rfl | exact Res.atw hm rfl | exact Res.at hm rfl)) (by (first | exact Res.tmp rfl | exact Res.atw hm rfl | exact Res.at hm rfl)) (by (first | exact Res.tmp rfl | exact Res.atw hm rfl | exact Res.at hm rfl)) ?_) | fail "ret")
      rw [(HFF ()).out]
      exact ⟨rfl, hm.below⟩
end Go.Proofs.Ytelnajpjanmliaa

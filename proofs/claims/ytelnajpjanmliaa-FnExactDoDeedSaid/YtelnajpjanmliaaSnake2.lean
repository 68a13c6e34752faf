/-
  Walks of the program: a board along a snake.
-/
import Derived.Test.YtelnajpjanmliaaSnakeM
import Derived.Test.YtelnajpjanmliaaFormS
import Derived.Test.YtelnajpjanmliaaFlat
import Derived.Test.YtelnajpjanmliaaOrder
set_option linter.unusedVariables false
set_option linter.unusedSimpArgs false
namespace Go.Proofs.Ytelnajpjanmliaa
open Go.RowKit Slm Go.Sort
theorem splice_app {a m v : List Value} (h : v.length = a.length) : splice (a ++ m) 0 v = v ++ m := by
  apply List.ext_getElem?
  intro i
  rw [splice_get _ _ _ _ (by rw [List.length_append]; omega)]
  by_cases hi : i < v.length
  · rw [if_pos (by omega), List.getElem?_append_left hi]; simp
  · rw [if_neg (by omega), List.getElem?_append_right (by omega), List.getElem?_append_right (by omega), h]
theorem slices_Sort_app {w0 w : World} {σ : List Blk} {g i n cap : Nat} {t : TypeId} {zs : List Int} {more : List Value} (hm : Mem w0 w σ) [hA : At σ g (zs.map iv ++ more) t i] (hn : zs.length = n) (hb : n ≤ 1000) :
    Calls Try.prog 59 #[.slice (some ⟨g, 0, none⟩) n cap] w fun e w' => e = .returned (.tuple #[]) ∧ Mem w0 w' (σ.set i ⟨g, (zs.mergeSort fun x y => decide (x ≤ y)).map iv ++ more, t⟩) := by
  subst hn
  have hH : Holds (Value.int .i64) w g 0 zs.toArray := fun j hj => by
    have hj' : j < zs.length := by simpa using hj
    have h1 := hm.cell (.of hA.out) j
    rw [List.getElem?_append_left (by simpa using hj'), List.getElem?_map, List.getElem?_eq_getElem hj'] at h1
    rw [Nat.zero_add]
    refine ⟨?_, hm.frozen (.of hA.out) j⟩
    rw [h1]
    simp [hj']
  refine (Try.slices_Sort_int g 0 cap zs w hH (hm.lt (.of hA.out)) (by omega)).mono fun e w' ⟨he, q, os, hw⟩ => ⟨he, ?_⟩
  have hlen : (zs.mergeSort fun x y => decide (x ≤ y)).length = zs.toArray.size := by simp
  rw [Lib.putRow_eq_setCells (Value.int .i64) w g 0 zs.toArray _ q hH hlen] at hw
  subst hw
  have h1 : Mem w0 (w.drewN q) σ := hm.next (below_drewN (Below.refl _ _) q)
  have h2 := h1.sets (.of hA.out) (o := 0) (vs := (zs.mergeSort fun x y => decide (x ≤ y)).map iv) (Upd.of_set hA.out)
  rw [splice_app (by simp)] at h2
  refine h2.next ?_
  have := Lib.below_grow _ ((w.drewN q).setCells g 0 ((zs.mergeSort fun x y => decide (x ≤ y)).map iv)) (Nat.le_refl _) 0 os
  rwa [World.drewN_zero] at this
/-- A board along a snake, told. -/
def snakeV (b : List Int) (k : Int) : List Int × Bool := if (okL b && inB k 0 7) = true then (sbK k.toNat (fun i => (allD b).getD i 0) 16, true) else (z16f, false)
set_option maxHeartbeats 1000000 in
theorem impl_SnakeBoard (b : List Int) (hl : b.length = 16) (k : Int) (w0 : World) : Calls Try.prog 35 #[.agg (nums b), iv k] w0 fun e w' => e = .returned (.tuple #[.agg (nums (snakeV b k).1), .bool (snakeV b k).2]) ∧ Below w0.heap.size w0 w' := by
  have hB := impl_IsBoard b hl
  have hK := impl_isForm k
  unfold snakeV
  cases q1 : okL b
  · rw [q1] at hB
    simp only [Bool.false_and, Bool.false_eq_true, if_false, z16f]
    have HB := Lib.hid hB
    clear hB hK q1
    go_enter Try.func35, Try.ntmps35
    have hm := Mem.start w0
    simp only [nums_map] at *
    repeat' (first | (go_at_call 44; refine mem_call hm (HB.out _) ?_; clear hm; intro w hm; (try simp only [nums, List.map_cons, List.map_nil])) | ((with_reducible refine gix ?_); first | refine mix rfl rfl rfl rfl ?_ | refine mixr rfl rfl rfl rfl ?_; (try simp only [Int.toNat_zero, Int.reduceToNat, Nat.reduceMul, Nat.zero_mul, Nat.one_mul, List.drop_succ_cons, List.drop_zero, List.take_succ_cons, List.take_zero])) | ((with_reducible refine gl ?_); first | refine ml hm rfl rfl rfl ?_ | refine mlw hm rfl rfl rfl ?_ | (refine mlr hm rfl rfl rfl ?_; try simp only [List.drop_succ_cons, List.drop_zero, List.take_succ_cons, List.take_zero])) | ((with_reducible refine gs ?_); (first | refine ms hm rfl rfl rfl rfl rfl ?_ | refine msw hm rfl rfl rfl rfl ?_ | refine msr hm rfl rfl rfl rfl ?_); clear hm; intro w hm; (try simp only [splice, List.set_cons_zero, List.set_cons_succ] at hm)) | ((with_reducible refine gb ?_); (first | refine mem_box hm rfl rfl rfl ?_ | refine mem_box1 hm rfl rfl rfl rfl ?_); clear hm; intro n w hm) | ((with_reducible refine ga ?_); refine mem_alloc hm rfl rfl ?_; clear hm; intro n w hm) | go_values | go_skip | go_guarded | go_step | go_upon | ((with_reducible refine bp ?_); go_back) | ((with_reducible refine up ?_); first | (simp only [Int.not_lt, Int.not_le] at *; go_simp) | (go_values <;> (try go_simp)) | (go_ite <;> go_prune <;> (try go_simp)) | (split <;> (first | (rename_i hx; exact (hx _ rfl).elim) | go_prune))))
    (try simp only [Exit.inBlock, Exit.then])
    (first | (refine ret1 rfl rfl (by (first | exact Res.tmp rfl | exact Res.atw hm rfl | exact Res.at hm rfl)) ?_) | (refine ret2 rfl rfl (by (first | exact Res.tmp rfl | exact Res.atw hm rfl | exact Res.at hm rfl)) (by (first | exact Res.tmp rfl | exact Res.atw hm rfl | exact Res.at hm rfl)) ?_) | (refine ret3 rfl rfl (by (first | exact Res.tmp rfl | exact Res.atw hm rfl | exact Res.at hm rfl)) (by (first | exact Res.tmp rfl | exact Res.atw hm rfl | exact Res.at hm rfl)) (by (first | exact Res.tmp rfl | exact Res.atw hm rfl | exact Res.at hm rfl)) ?_) | (refine ret4 rfl rfl (by (first | exact Res.tmp rfl | exact Res.atw hm rfl | exact Res.at hm rfl)) (by (first | exact Res.tmp rfl | exact Res.atw hm rfl | exact Res.at hm rfl)) (by (first | exact Res.tmp rfl | exact Res.atw hm rfl | exact Res.at hm rfl)) (by (first | exact Res.tmp rfl | exact Res.atw hm rfl | exact Res.at hm rfl)) ?_) | fail "ret")
    exact ⟨rfl, hm.below⟩
  cases q2 : inB k 0 7
  · rw [q1] at hB
    rw [q2] at hK
    simp only [Bool.and_false, Bool.false_eq_true, if_false, z16f]
    have HB := Lib.hid hB
    have HK := Lib.hid hK
    clear hB hK q1 q2
    go_enter Try.func35, Try.ntmps35
    have hm := Mem.start w0
    simp only [nums_map] at *
    repeat' (first | (go_at_call 44; refine mem_call hm (HB.out _) ?_; clear hm; intro w hm; (try simp only [nums, List.map_cons, List.map_nil])) | (go_at_call 68; refine mem_call hm (HK.out _) ?_; clear hm; intro w hm; (try simp only [nums, List.map_cons, List.map_nil])) | ((with_reducible refine gix ?_); first | refine mix rfl rfl rfl rfl ?_ | refine mixr rfl rfl rfl rfl ?_; (try simp only [Int.toNat_zero, Int.reduceToNat, Nat.reduceMul, Nat.zero_mul, Nat.one_mul, List.drop_succ_cons, List.drop_zero, List.take_succ_cons, List.take_zero])) | ((with_reducible refine gl ?_); first | refine ml hm rfl rfl rfl ?_ | refine mlw hm rfl rfl rfl ?_ | (refine mlr hm rfl rfl rfl ?_; try simp only [List.drop_succ_cons, List.drop_zero, List.take_succ_cons, List.take_zero])) | ((with_reducible refine gs ?_); (first | refine ms hm rfl rfl rfl rfl rfl ?_ | refine msw hm rfl rfl rfl rfl ?_ | refine msr hm rfl rfl rfl rfl ?_); clear hm; intro w hm; (try simp only [splice, List.set_cons_zero, List.set_cons_succ] at hm)) | ((with_reducible refine gb ?_); (first | refine mem_box hm rfl rfl rfl ?_ | refine mem_box1 hm rfl rfl rfl rfl ?_); clear hm; intro n w hm) | ((with_reducible refine ga ?_); refine mem_alloc hm rfl rfl ?_; clear hm; intro n w hm) | go_values | go_skip | go_guarded | go_step | go_upon | ((with_reducible refine bp ?_); go_back) | ((with_reducible refine up ?_); first | (simp only [Int.not_lt, Int.not_le] at *; go_simp) | (go_values <;> (try go_simp)) | (go_ite <;> go_prune <;> (try go_simp)) | (split <;> (first | (rename_i hx; exact (hx _ rfl).elim) | go_prune))))
    (try simp only [Exit.inBlock, Exit.then])
    (first | (refine ret1 rfl rfl (by (first | exact Res.tmp rfl | exact Res.atw hm rfl | exact Res.at hm rfl)) ?_) | (refine ret2 rfl rfl (by (first | exact Res.tmp rfl | exact Res.atw hm rfl | exact Res.at hm rfl)) (by (first | exact Res.tmp rfl | exact Res.atw hm rfl | exact Res.at hm rfl)) ?_) | (refine ret3 rfl rfl (by (first | exact Res.tmp rfl | exact Res.atw hm rfl | exact Res.at hm rfl)) (by (first | exact Res.tmp rfl | exact Res.atw hm rfl | exact Res.at hm rfl)) (by (first | exact Res.tmp rfl | exact Res.atw hm rfl | exact Res.at hm rfl)) ?_) | (refine ret4 rfl rfl (by (first | exact Res.tmp rfl | exact Res.atw hm rfl | exact Res.at hm rfl)) (by (first | exact Res.tmp rfl | exact Res.atw hm rfl | exact Res.at hm rfl)) (by (first | exact Res.tmp rfl | exact Res.atw hm rfl | exact Res.at hm rfl)) (by (first | exact Res.tmp rfl | exact Res.atw hm rfl | exact Res.at hm rfl)) ?_) | fail "ret")
    exact ⟨rfl, hm.below⟩
  obtain ⟨nk, rfl⟩ := Int.eq_ofNat_of_zero_le (inB_iff.1 q2).1
  have hk7 : nk ≤ 7 := by have := (inB_iff.1 q2).2; omega
  have hF := impl_flat b hl
  have hSo := fun (w0 w : World) (σ : List Blk) (g i cap : Nat) (more : List Value) (hm : Mem w0 w σ) (hA : At σ g (b.map iv ++ more) 3 i) => slices_Sort_app (g := g) (i := i) (cap := cap) (more := more) hm hl (by omega)
  have hSn := impl_snake nk hk7
  have hsg := fun (i : Nat) (hi : i < 16) => sort_get hl q1 hi
  have hml : (b.mergeSort fun x y => decide (x ≤ y)).length = 16 := by simp [hl]
  have hcg := snK_get nk (by omega)
  have hcl := snK_len nk 16
  have hSt : ∀ i, sbK nk (fun i => (allD b).getD i 0) (i + 1) = (sbK nk (fun i => (allD b).getD i 0) i).set (snP nk i) ((allD b).getD i 0) := fun _ => rfl
  have hS0 : sbK nk (fun i => (allD b).getD i 0) 0 = [0, 0, 0, 0, 0, 0, 0, 0, 0, 0, 0, 0, 0, 0, 0, 0] := rfl
  have hSl := sbK_len nk (fun i => (allD b).getD i 0)
  have hbd := fun (i : Nat) (hi : i < 16) => snC_bd hk7 hi
  have hpl := fun (i : Nat) (hi : i < 16) => snP_lt hk7 hi
  have hpd : ∀ i, (4 * (snC nk i).1 + (snC nk i).2).toNat = snP nk i := fun _ => rfl
  have hbl : (b.map iv).length = 16 := by simpa using hl
  rw [q1] at hB
  rw [q2] at hK
  simp only [Bool.and_self, if_true, Int.toNat_natCast]
  generalize sbK nk (fun i => (allD b).getD i 0) = sb at *
  generalize (b.mergeSort fun x y => decide (x ≤ y)) = so at *
  generalize (fun i => (allD b).getD i 0) = vv at *
  generalize hsc : snC nk = sc at *
  generalize snP nk = sp at *
  generalize snK nk 16 = sk at *
  have hckl : (sk.map iv).length = 32 := by simpa using hcl
  have hck : ∀ i, i < 16 → ((sk.map iv).drop (i * 2)).take 2 = [iv (sc i).1, iv (sc i).2] := fun i hi => by rw [← List.map_drop, ← List.map_take, hcg i hi]; rfl
  have hsv : ∀ i, i < 16 → ∀ more : List Value, (so.map iv ++ more)[15 - i]? = some (iv ((allD b).getD i 0)) := fun i hi more => by
    rw [List.getElem?_append_left (by rw [List.length_map]; omega), List.getElem?_map, hsg i hi]; rfl
  have hsol : (so.map iv).length = 16 := by simpa using hml
  clear hcg hsg hml hcl hsc
  generalize hskv : sk.map iv = skv at *
  generalize hsov : so.map iv = sov at *
  have HB := Lib.hid hB
  have HK := Lib.hid hK
  have HF := Lib.hid hF
  have HSo := Lib.hid hSo
  have HSn := Lib.hid hSn
  have HSt := Lib.hid hSt
  have HSl := Lib.hid hSl
  have HBD := Lib.hid hbd
  have HPL := Lib.hid hpl
  have HPD := Lib.hid hpd
  have HCK := Lib.hid hck
  have HSV := Lib.hid hsv
  clear hB hK hF hSo hSn hSt hSl hbd hpl hpd hck hsv hskv hsov q1 q2
  go_enter Try.func35, Try.ntmps35
  have hm := Mem.start w0
  (try simp only [nums_map] at *)
  repeat' (first | (go_at_call 44; refine mem_call hm (HB.out _) ?_; clear hm; intro w hm; (try simp only [nums, List.map_cons, List.map_nil])) | (go_at_call 68; refine mem_call hm (HK.out _) ?_; clear hm; intro w hm; (try simp only [nums, List.map_cons, List.map_nil])) | (go_at_call 70; refine mem_callN hm (HF.out _) ?_; clear hm; intro g more len cap w hm hf hx; obtain rfl : len = 16 := (by omega); clear hf hx; (try simp only [])) | (go_at_call 59; refine mem_callM (HSo.out _ _ _ _ _ _ _ hm inferInstance) ?_; clear hm; intro w hm; (try simp only []); (try simp only [List.set_cons_zero, List.set_cons_succ] at hm)) | (go_at_call 71; refine mem_call hm (HSn.out _) ?_; clear hm; intro w hm; (try simp only [nums, List.map_cons, List.map_nil])) | ((with_reducible refine gix ?_); first | refine mix rfl rfl rfl rfl ?_ | refine mixr rfl rfl rfl rfl ?_; (try simp only [Int.toNat_zero, Int.reduceToNat, Nat.reduceMul, Nat.zero_mul, Nat.one_mul, List.drop_succ_cons, List.drop_zero, List.take_succ_cons, List.take_zero])) | ((with_reducible refine gl ?_); first | refine ml hm rfl rfl rfl ?_ | refine mlw hm rfl rfl rfl ?_ | (refine mlr hm rfl rfl rfl ?_; try simp only [List.drop_succ_cons, List.drop_zero, List.take_succ_cons, List.take_zero])) | ((with_reducible refine gs ?_); (first | refine ms hm rfl rfl rfl rfl rfl ?_ | refine msw hm rfl rfl rfl rfl ?_ | refine msr hm rfl rfl rfl rfl ?_); clear hm; intro w hm; (try simp only [splice, List.set_cons_zero, List.set_cons_succ] at hm)) | ((with_reducible refine gb ?_); (first | refine mem_box hm rfl rfl rfl ?_ | refine mem_box1 hm rfl rfl rfl rfl ?_); clear hm; intro n w hm) | ((with_reducible refine ga ?_); refine mem_alloc hm rfl rfl ?_; clear hm; intro n w hm) | go_values | go_skip | go_guarded | go_step | go_upon | ((with_reducible refine bp ?_); go_back) | ((with_reducible refine up ?_); first | (simp only [Int.not_lt, Int.not_le] at *; go_simp) | (go_values <;> (try go_simp)) | (go_ite <;> go_prune <;> (try go_simp)) | (split <;> (first | (rename_i hx; exact (hx _ rfl).elim) | go_prune))))
  obtain ⟨τ, hτ, hm⟩ := Mem.sig hm
  go_loopw [26] (fun ix wr => ∃ j : Nat, j ≤ 16 ∧ ix = iv j ∧ Mem w0 wr (modB τ 0 ((sb j).map iv))) (fun ix _ => 16 - (intOf ix).toNat)
  case atStart => exact ⟨0, by omega, rfl, by rw [hS0]; subst hτ; exact hm⟩
  case round =>
    clear hm
    obtain ⟨j, hj, rfl, hm⟩ := hrel
    subst hτ
    simp only [modB] at hm
    by_cases hlt : j < 16
    · have hv := HCK.out j hlt
      have hv2 := HSV.out j hlt more
      obtain ⟨hb1, hb2⟩ := HBD.out j hlt
      have hA := fun (n : Nat) => impl_at n _ _ hb1 hb2
      rw [HPD.out] at hA
      have hq := HPL.out j hlt
      have hsj := HSt.out j
      have hl1 := HSl.out j
      clear hb1 hb2
      generalize sp j = q at *
      generalize (sc j).1 = r1 at *
      generalize (sc j).2 = c1 at *
      generalize (allD b).getD j 0 = x at *
      have hl3 : ((sb j).map iv).length = 16 := by simpa using hl1
      generalize hF1 : sb (j + 1) = F1 at *
      have HF1 : Unit → Hid _ := fun _ => Lib.hid hF1
      clear hF1
      generalize sb j = F0 at *
      have HSJ : Unit → Hid _ := fun _ => Lib.hid hsj
      clear hsj
      have hxl2 : (sov ++ more).length = 16 + more.length := by rw [List.length_append, hsol]
      generalize sov ++ more = cs at *
      simp only [nums, List.map_cons, List.map_nil] at hA
      have HA := Lib.hid hA
      clear hA
      repeat' (first | (with_reducible rw [hv]) | ((with_reducible refine gd ?_); refine mf_start1 8 1 hm (by kernel_rfl) (by kernel_rfl) rfl ?_; apply Exists.intro; intro hne; (repeat (first | ((with_reducible refine gfl ?_); first | refine fl rfl rfl rfl ?_ | refine flw rfl rfl rfl ?_ | (refine flr rfl rfl rfl ?_; try simp only [List.drop_succ_cons, List.drop_zero, List.take_succ_cons, List.take_zero])) | ((with_reducible refine gfs ?_); first | refine fs rfl rfl rfl rfl rfl ?_ | refine fsw rfl rfl rfl rfl ?_ | refine fsr rfl rfl rfl rfl ?_) | (refine wpF_step (by rfl) (hne _ (by decide)) ?_; intro hn K hK; go_simp; (try go_ints); (try simp [↓IntWalk.iteOmega, go_sem]); first | (refine hK _ ?_; clear hK K hn) | (apply Exists.intro; refine ⟨fun _ => ?_, hK _ ?_⟩; (first | (go_at_call 67; exact (HA.out _ _)) | fail); clear hK K hn)))); refine wpF_nil ?_; clear hm hne; intro w hm; (try simp only [famEnd, modB, splice, List.set_cons_zero, List.set_cons_succ, set_iv] at hm)) | ((with_reducible refine gix ?_); first | refine mix rfl rfl rfl rfl ?_ | refine mixr rfl rfl rfl rfl ?_; (try simp only [Int.toNat_zero, Int.reduceToNat, Nat.reduceMul, Nat.zero_mul, Nat.one_mul, List.drop_succ_cons, List.drop_zero, List.take_succ_cons, List.take_zero])) | ((with_reducible refine gl ?_); first | refine ml hm rfl rfl rfl ?_ | refine mlw hm rfl rfl rfl ?_ | (refine mlr hm rfl rfl rfl ?_; try simp only [List.drop_succ_cons, List.drop_zero, List.take_succ_cons, List.take_zero])) | ((with_reducible refine gs ?_); (first | refine ms hm rfl rfl rfl rfl rfl ?_ | refine msw hm rfl rfl rfl rfl ?_ | refine msr hm rfl rfl rfl rfl ?_); clear hm; intro w hm; (try simp only [splice, List.set_cons_zero, List.set_cons_succ] at hm)) | ((with_reducible refine gb ?_); (first | refine mem_box hm rfl rfl rfl ?_ | refine mem_box1 hm rfl rfl rfl rfl ?_); clear hm; intro n w hm) | ((with_reducible refine ga ?_); refine mem_alloc hm rfl rfl ?_; clear hm; intro n w hm) | go_values | go_skip | go_guarded | go_step | go_upon | ((with_reducible refine bp ?_); go_back) | ((with_reducible refine up ?_); first | (simp only [Int.not_lt, Int.not_le] at *; go_simp) | (go_values <;> (try go_simp)) | (go_ite <;> go_prune <;> (try go_simp)) | (split <;> (first | (rename_i hx; exact (hx _ rfl).elim) | go_prune))))
      go_roundw
      case rel => (try (first | ((repeat apply Exists.intro); refine ⟨?_, rfl⟩) | (repeat refine ex_any ?_))); exact ⟨j + 1, by omega, by go_num, by simp only [modB]; rw [(HF1 ()).out, (HSJ ()).out]; exact hm.drop (by repeat (first | exact List.Sublist.refl _ | refine List.Sublist.cons _ ?_))⟩
      case measure => simp [intOf]; omega
    · obtain rfl : j = 16 := by omega
      generalize hff : sb 16 = F at *
      have HFF : Unit → Hid _ := fun _ => Lib.hid hff
      clear hff
      have hl1 : F.length = 16 := by rw [← (HFF ()).out]; exact HSl.out 16
      have hl3 : (F.map iv).length = 16 := by simpa using hl1
      repeat' (first  | ((with_reducible refine gix ?_); first | refine mix rfl rfl rfl rfl ?_ | refine mixr rfl rfl rfl rfl ?_; (try simp only [Int.toNat_zero, Int.reduceToNat, Nat.reduceMul, Nat.zero_mul, Nat.one_mul, List.drop_succ_cons, List.drop_zero, List.take_succ_cons, List.take_zero])) | ((with_reducible refine gl ?_); first | refine ml hm rfl rfl rfl ?_ | refine mlw hm rfl rfl rfl ?_ | (refine mlr hm rfl rfl rfl ?_; try simp only [List.drop_succ_cons, List.drop_zero, List.take_succ_cons, List.take_zero])) | ((with_reducible refine gs ?_); (first | refine ms hm rfl rfl rfl rfl rfl ?_ | refine msw hm rfl rfl rfl rfl ?_ | refine msr hm rfl rfl rfl rfl ?_); clear hm; intro w hm; (try simp only [splice, List.set_cons_zero, List.set_cons_succ] at hm)) | ((with_reducible refine gb ?_); (first | refine mem_box hm rfl rfl rfl ?_ | refine mem_box1 hm rfl rfl rfl rfl ?_); clear hm; intro n w hm) | ((with_reducible refine ga ?_); refine mem_alloc hm rfl rfl ?_; clear hm; intro n w hm) | go_values | go_skip | go_guarded | go_step | go_upon | ((with_reducible refine bp ?_); go_back) | ((with_reducible refine up ?_); first | (simp only [Int.not_lt, Int.not_le] at *; go_simp) | (go_values <;> (try go_simp)) | (go_ite <;> go_prune <;> (try go_simp)) | (split <;> (first | (rename_i hx; exact (hx _ rfl).elim) | go_prune))))
      (try simp only [Exit.inBlock, Exit.then])
      (first | (refine ret1 rfl rfl (by (first | exact Res.tmp rfl | exact Res.atw hm rfl | exact Res.at hm rfl)) ?_) | (refine ret2 rfl rfl (by (first | exact Res.tmp rfl | exact Res.atw hm rfl | exact Res.at hm rfl)) (by (first | exact Res.tmp rfl | exact Res.atw hm rfl | exact Res.at hm rfl)) ?_) | (refine ret3 rfl rfl (by (first | exact Res.tmp rfl | exact Res.atw hm rfl | exact Res.at hm rfl)) (by (first | exact Res.tmp rfl | exact Res.atw hm rfl | exact Res.at hm rfl)) (by (first | exact Res.tmp rfl | exact Res.atw hm rfl | exact Res.at hm rfl)) ?_) | (refine ret4 rfl rfl (by (first | exact Res.tmp rfl | exact Res.atw hm rfl | exact Res.at hm rfl)) (by (first | exact Res.tmp rfl | exact Res.atw hm rfl | exact Res.at hm rfl)) (by (first | exact Res.tmp rfl | exact Res.atw hm rfl | exact Res.at hm rfl)) (by (first | exact Res.tmp rfl | exact Res.atw hm rfl | exact Res.at hm rfl)) ?_) | fail "ret")
      rw [(HFF ()).out]
      exact ⟨rfl, hm.below⟩
end Go.Proofs.Ytelnajpjanmliaa

/-
  Walks of FirstParting and CommonSteps.
-/
import Derived.Test.YthcjokgjiknheaaReplay2
set_option linter.unusedVariables false
set_option linter.unusedSimpArgs false
namespace Go.Proofs.Ythcjokgjiknheaa
open Go.RowKit Slm
/-- The first place at which the boards of two replays differ, -1 if there is none. -/
def partZ (b : List Int) (S : List Stp) (c : List Int) (U : List Stp) : Int := ixZ (fun k => !decide (bdK b S k = bdK c U k)) (List.range (min (S.length + 1) (U.length + 1)))
def partK (b : List Int) (S : List Stp) (c : List Int) (U : List Stp) : Int := if (valR b S && valR c U) = true ∧ 0 ≤ partZ b S c U then partZ b S c U else 0
def partQ (b : List Int) (S : List Stp) (c : List Int) (U : List Stp) : Bool := (valR b S && valR c U) && decide (0 ≤ partZ b S c U)
theorem partZ_here {b : List Int} {S : List Stp} {c : List Int} {U : List Stp} {k : Nat} (hk : k < min (S.length + 1) (U.length + 1)) (h : ¬ bdK b S k = bdK c U k) (hall : ∀ j, j < k → bdK b S j = bdK c U j) : partZ b S c U = k := by
  unfold partZ
  refine ixZ_here (by simpa using hk) ?_ (fun j hj => ?_)
  · simp [h]
  · simp [hall j hj]
theorem partZ_none {b : List Int} {S : List Stp} {c : List Int} {U : List Stp} (hall : ∀ j, j < min (S.length + 1) (U.length + 1) → bdK b S j = bdK c U j) : partZ b S c U = -1 := by
  unfold partZ
  refine ixZ_none (fun j hj => ?_)
  simp only [List.length_range] at hj
  simp [hall j hj]
theorem spec_boards_ok {w0 w : World} {σ : List Blk} {g i cap : Nat} {more : List Value} (b : List Int) (hl : b.length = 16) (S : List Stp) (hm : Mem w0 w σ) [At σ g ((S.flatMap stI).map iv ++ more) 55 i] (hv : valR b S = true) :
    Calls Try.prog 43 #[.agg (b.map iv ++ [Value.slice (some ⟨g, 0, none⟩) S.length cap]).toArray] w fun e w' => ∃ u, e = .returned (.tuple #[u, iv (sumK2 b S S.length), .bool true]) ∧ Sl w0 w' u 31 16 (((bdsK b S S.length).flatten).map iv) σ := by
  have := spec_l11Boards (g := g) (i := i) (cap := cap) (more := more) b hl S hm
  rw [hv, show bdsR b S = bdsK b S S.length by simp [bdsR, hv], show sumR b S = sumK2 b S S.length by simp [sumR, hv]] at this
  exact this
theorem spec_boards_no {w0 w : World} {σ : List Blk} {g i cap : Nat} {more : List Value} (b : List Int) (hl : b.length = 16) (S : List Stp) (hm : Mem w0 w σ) [At σ g ((S.flatMap stI).map iv ++ more) 55 i] (hv : valR b S = false) :
    Calls Try.prog 43 #[.agg (b.map iv ++ [Value.slice (some ⟨g, 0, none⟩) S.length cap]).toArray] w fun e w' => ∃ u, e = .returned (.tuple #[u, iv 0, .bool false]) ∧ Sl w0 w' u 31 16 [] σ := by
  have := spec_l11Boards (g := g) (i := i) (cap := cap) (more := more) b hl S hm
  rw [hv, show bdsR b S = [] by simp [bdsR, hv], show sumR b S = 0 by simp [sumR, hv]] at this
  exact this
set_option maxHeartbeats 2000000 in
theorem spec_FirstParting {w0 w : World} {σ : List Blk} {g i cap gc ic capc : Nat} {more morec : List Value} (b : List Int) (hl : b.length = 16) (S : List Stp) (c : List Int) (hlc : c.length = 16) (U : List Stp) (hm : Mem w0 w σ) [hAt1 : At σ g ((S.flatMap stI).map iv ++ more) 55 i] [hAt2 : At σ gc ((U.flatMap stI).map iv ++ morec) 55 ic] (hq1 : valR b S = true) (hq2 : valR c U = true) :
    Calls Try.prog 21 #[.agg (b.map iv ++ [Value.slice (some ⟨g, 0, none⟩) S.length cap]).toArray, .agg (c.map iv ++ [Value.slice (some ⟨gc, 0, none⟩) U.length capc]).toArray] w fun e w' => e = .returned (.tuple #[iv (partK b S c U), .bool (partQ b S c U)]) ∧ Mem w0 w' σ := by
  have hA := fun (w : World) (τ : List Blk) (j : Nat) (hm : Mem w0 w τ) (h : At τ g ((S.flatMap stI).map iv ++ more) 55 j) => spec_boards_ok (g := g) (more := more) (i := j) (cap := cap) b hl S hm hq1
  have hC := fun (w : World) (τ : List Blk) (j : Nat) (hm : Mem w0 w τ) (h : At τ gc ((U.flatMap stI).map iv ++ morec) 55 j) => spec_boards_ok (g := gc) (more := morec) (i := j) (cap := capc) c hlc U hm hq2
  have e1 : partK b S c U = if 0 ≤ partZ b S c U then partZ b S c U else 0 := by simp [partK, hq1, hq2]
  have e2 : partQ b S c U = decide (0 ≤ partZ b S c U) := by simp [partQ, hq1, hq2]
  rw [e1, e2]
  have hn1 := valR_le hq1
  have hn2 := valR_le hq2
  have hf1 := bdsK_flat hl S S.length
  have hf2 := bdsK_flat hlc U U.length
  have hrow1 := fun k hk more => bdsK_row hl S S.length k hk more
  have hrow2 := fun k hk more => bdsK_row hlc U U.length k hk more
  have hbl1 := fun k => bdK_len hl S k
  have hbl2 := fun k => bdK_len hlc U k
  have hx1 : (((bdsK b S S.length).flatten).map iv).length = (S.length + 1) * 16 := by rw [List.length_map, hf1]
  have hx2 : (((bdsK c U U.length).flatten).map iv).length = (U.length + 1) * 16 := by rw [List.length_map, hf2]
  have hc1 : ∀ more, (((bdsK b S S.length).flatten).map iv ++ more).length = (S.length + 1) * 16 + more.length := fun more => by rw [List.length_append, hx1]
  have hc2 : ∀ more, (((bdsK c U U.length).flatten).map iv ++ more).length = (U.length + 1) * 16 + more.length := fun more => by rw [List.length_append, hx2]
  generalize hX1 : ((bdsK b S S.length).flatten).map iv = X1 at *
  generalize hX2 : ((bdsK c U U.length).flatten).map iv = X2 at *
  generalize sumK2 b S S.length = sm1 at *
  generalize sumK2 c U U.length = sm2 at *
  generalize hcs1 : (S.flatMap stI).map iv ++ more = cs1 at *
  generalize hcs2 : (U.flatMap stI).map iv ++ morec = cs2 at *
  have h16 : ((b.map iv ++ [Value.slice (some ⟨g, 0, none⟩) S.length cap]).take 16) = b.map iv := List.take_left' (by simpa using hl)
  have hv16 : (b.map iv ++ [Value.slice (some ⟨g, 0, none⟩) S.length cap])[16]? = some (Value.slice (some ⟨g, 0, none⟩) S.length cap) := by rw [List.getElem?_append_right (by simp [hl])]; simp [hl]
  have hl17 : (b.map iv ++ [Value.slice (some ⟨g, 0, none⟩) S.length cap]).length = 17 := by simp [hl]
  have h16c : ((c.map iv ++ [Value.slice (some ⟨gc, 0, none⟩) U.length capc]).take 16) = c.map iv := List.take_left' (by simpa using hlc)
  have hv16c : (c.map iv ++ [Value.slice (some ⟨gc, 0, none⟩) U.length capc])[16]? = some (Value.slice (some ⟨gc, 0, none⟩) U.length capc) := by rw [List.getElem?_append_right (by simp [hlc])]; simp [hlc]
  have hl17c : (c.map iv ++ [Value.slice (some ⟨gc, 0, none⟩) U.length capc]).length = 17 := by simp [hlc]
  generalize hrc : b.map iv ++ [Value.slice (some ⟨g, 0, none⟩) S.length cap] = rb at *
  generalize hrcc : c.map iv ++ [Value.slice (some ⟨gc, 0, none⟩) U.length capc] = rcc at *
  have HA := Lib.hid hA
  have HC := Lib.hid hC
  have HR1 := Lib.hid hrow1
  have HR2 := Lib.hid hrow2
  have HC1 := Lib.hid hc1
  have HC2 := Lib.hid hc2
  have HL1 := Lib.hid hbl1
  have HL2 := Lib.hid hbl2
  clear hA hC hrow1 hrow2 hc1 hc2 hbl1 hbl2 hcs1 hcs2 hrc hrcc hX1 hX2 hq1 hq2 e1 e2 hf1 hf2
  go_enter Try.func21, Try.ntmps21
  repeat' (first | (go_at_call 43; with_reducible refine mem_callF (F := fun u => .tuple #[u, iv sm1, .bool true]) (HA.out _ _ _ hm inferInstance) ?_; clear hm; intro g1 m1 l1 k1 w hm hf hx; obtain rfl : l1 = S.length + 1 := (by omega); clear hf hx; (try simp only [])) | (go_at_call 43; with_reducible refine mem_callF (F := fun u => .tuple #[u, iv sm2, .bool true]) (HC.out _ _ _ hm inferInstance) ?_; clear hm; intro g2 m2 l2 k2 w hm hf hx; obtain rfl : l2 = U.length + 1 := (by omega); clear hf hx; (try simp only [])) | ((with_reducible refine gix ?_); first | refine mix rfl rfl rfl rfl ?_ | refine mixr rfl rfl rfl rfl ?_; (try simp only [Int.toNat_zero, Int.reduceToNat, Nat.reduceMul, Nat.zero_mul, Nat.one_mul, List.drop_succ_cons, List.drop_zero, List.take_succ_cons, List.take_zero])) | ((with_reducible refine gl ?_); first | refine ml hm rfl rfl rfl ?_ | refine mlw hm rfl rfl rfl ?_ | (refine mlr hm rfl rfl rfl ?_; try simp only [List.drop_succ_cons, List.drop_zero, List.take_succ_cons, List.take_zero])) | ((with_reducible refine gs ?_); (first | refine ms hm rfl rfl rfl rfl rfl ?_ | refine msw hm rfl rfl rfl rfl ?_ | refine msr hm rfl rfl rfl rfl ?_); clear hm; intro w hm; (try simp only [splice, List.set_cons_zero, List.set_cons_succ] at hm)) | ((with_reducible refine gb ?_); (first | refine mem_box hm rfl rfl rfl ?_ | refine mem_box1 hm rfl rfl rfl rfl ?_); clear hm; intro n w hm) | ((with_reducible refine ga ?_); refine mem_alloc hm rfl rfl ?_; clear hm; intro n w hm) | go_values | go_skip | go_guarded | go_step | go_upon | ((with_reducible refine bp ?_); go_back) | ((with_reducible refine up ?_); first | (simp only [Int.not_lt, Int.not_le] at *; go_simp) | (go_values <;> (try go_simp)) | (go_ite <;> go_prune <;> (try go_simp)) | (split <;> (first | (rename_i hx; exact (hx _ rfl).elim) | go_prune))))
  obtain ⟨τ, hτ, hm⟩ := Mem.sig hm
  go_loopw [12] (fun ix wr => ∃ k : Nat, k ≤ min (S.length + 1) (U.length + 1) ∧ ix = iv k ∧ (Unit → Hid (∀ j, j < k → bdK b S j = bdK c U j)) ∧ Mem w0 wr τ) (fun ix _ => S.length + 1 - (intOf ix).toNat)
  case atStart => exact ⟨0, by omega, rfl, fun _ => Lib.hid (by intro j h; omega), hm⟩
  case round =>
    clear hm
    obtain ⟨k, hk, rfl, HK, hm⟩ := hrel
    subst hτ
    have hc1 := HC1.out m1
    have hc2 := HC2.out m2
    by_cases hlt : k < min (S.length + 1) (U.length + 1)
    · have hr1 := HR1.out k (by omega) m1
      have hr2 := HR2.out k (by omega) m2
      have hbk1 := HL1.out k
      have hbk2 := HL2.out k
      have hlt1 : k < S.length + 1 := by omega
      have hlt2 : k < U.length + 1 := by omega
      by_cases hd : bdK b S k = bdK c U k
      · have hdd : decide (bdK b S k = bdK c U k) = true := by simpa using hd
        have HD : Unit → Hid _ := fun _ => Lib.hid hd
        have HDD : Unit → Hid _ := fun _ => Lib.hid hdd
        clear hd hdd
        generalize hB1 : bdK b S k = B1 at *
        generalize hB2 : bdK c U k = B2 at *
        have HB1 : Unit → Hid _ := fun _ => Lib.hid hB1
        have HB2 : Unit → Hid _ := fun _ => Lib.hid hB2
        clear hB1 hB2
        repeat' (first | (with_reducible rw [hr1]) | (with_reducible rw [hr2]) | ((with_reducible refine gd ?_); refine mf_start (st := []) hm (by kernel_rfl) (by kernel_rfl) rfl ?_; intro hne; (repeat (first | (with_reducible rw [hr1]) | (with_reducible rw [hr2]) | ((with_reducible refine gcmpF ?_); refine fcmp ((HDD ()).out) (by first | exact .inl rfl | exact .inr rfl) rfl rfl rfl rfl ?_; (try simp only [cmpV, Bool.not_true, Bool.not_false])) | ((with_reducible refine gfl ?_); first | refine fl rfl rfl rfl ?_ | refine flw rfl rfl rfl ?_ | (refine flr rfl rfl rfl ?_; try simp only [List.drop_succ_cons, List.drop_zero, List.take_succ_cons, List.take_zero])) | ((with_reducible refine gfs ?_); first | refine fs rfl rfl rfl rfl rfl ?_ | refine fsw rfl rfl rfl rfl ?_ | refine fsr rfl rfl rfl rfl ?_) | (refine wpF_step (by rfl) (hne _ (by decide)) ?_; intro hn K hK; go_simp; (try go_ints); (try simp [↓IntWalk.iteOmega, go_sem]); first | (refine hK _ ?_; clear hK K hn) | (apply Exists.intro; refine ⟨fun _ => ?_, hK _ ?_⟩; (first | (with_reducible rw [hr1]) | (with_reducible rw [hr2]) | fail); clear hK K hn)))); refine wpF_nil ?_; clear hm hne; intro w hm; (try simp only [famEnd, modB, splice, List.set_cons_zero, List.set_cons_succ, set_iv] at hm)) | ((with_reducible refine gix ?_); first | refine mix rfl rfl rfl rfl ?_ | refine mixr rfl rfl rfl rfl ?_; (try simp only [Int.toNat_zero, Int.reduceToNat, Nat.reduceMul, Nat.zero_mul, Nat.one_mul, List.drop_succ_cons, List.drop_zero, List.take_succ_cons, List.take_zero])) | ((with_reducible refine gl ?_); first | refine ml hm rfl rfl rfl ?_ | refine mlw hm rfl rfl rfl ?_ | (refine mlr hm rfl rfl rfl ?_; try simp only [List.drop_succ_cons, List.drop_zero, List.take_succ_cons, List.take_zero])) | ((with_reducible refine gs ?_); (first | refine ms hm rfl rfl rfl rfl rfl ?_ | refine msw hm rfl rfl rfl rfl ?_ | refine msr hm rfl rfl rfl rfl ?_); clear hm; intro w hm; (try simp only [splice, List.set_cons_zero, List.set_cons_succ] at hm)) | ((with_reducible refine gb ?_); (first | refine mem_box hm rfl rfl rfl ?_ | refine mem_box1 hm rfl rfl rfl rfl ?_); clear hm; intro n w hm) | ((with_reducible refine ga ?_); refine mem_alloc hm rfl rfl ?_; clear hm; intro n w hm) | go_values | go_skip | go_guarded | go_step | go_upon | ((with_reducible refine bp ?_); go_back) | ((with_reducible refine up ?_); first | (simp only [Int.not_lt, Int.not_le] at *; go_simp) | (go_values <;> (try go_simp)) | (go_ite <;> go_prune <;> (try go_simp)) | (split <;> (first | (rename_i hx; exact (hx _ rfl).elim) | go_prune))))
        go_roundw
        case rel =>
          (try (first | ((repeat apply Exists.intro); refine ⟨?_, rfl⟩) | (repeat refine ex_any ?_)))
          refine ⟨k + 1, by omega, by go_num, fun _ => Lib.hid (fun j h => ?_), hm⟩
          by_cases hj : j = k
          · subst hj; rw [(HB1 ()).out, (HB2 ()).out]; exact (HD ()).out
          · exact (HK ()).out j (by omega)
        case measure => simp [intOf]; omega
      · have hz := partZ_here hlt hd (HK ()).out
        have hz1 : (if 0 ≤ partZ b S c U then partZ b S c U else 0) = (k : Int) := by rw [hz]; simp
        have hz2 : decide (0 ≤ partZ b S c U) = true := by rw [hz]; simp
        have HZ1 : Unit → Hid _ := fun _ => Lib.hid hz1
        have HZ2 : Unit → Hid _ := fun _ => Lib.hid hz2
        have hdd : decide (bdK b S k = bdK c U k) = false := by simpa using hd
        have HDD : Unit → Hid _ := fun _ => Lib.hid hdd
        clear hd hdd hz hz1 hz2
        generalize bdK b S k = B1 at *
        generalize bdK c U k = B2 at *
        repeat' (first | (with_reducible rw [hr1]) | (with_reducible rw [hr2]) | ((with_reducible refine gd ?_); refine mf_start (st := []) hm (by kernel_rfl) (by kernel_rfl) rfl ?_; intro hne; (repeat (first | (with_reducible rw [hr1]) | (with_reducible rw [hr2]) | ((with_reducible refine gcmpF ?_); refine fcmp ((HDD ()).out) (by first | exact .inl rfl | exact .inr rfl) rfl rfl rfl rfl ?_; (try simp only [cmpV, Bool.not_true, Bool.not_false])) | ((with_reducible refine gfl ?_); first | refine fl rfl rfl rfl ?_ | refine flw rfl rfl rfl ?_ | (refine flr rfl rfl rfl ?_; try simp only [List.drop_succ_cons, List.drop_zero, List.take_succ_cons, List.take_zero])) | ((with_reducible refine gfs ?_); first | refine fs rfl rfl rfl rfl rfl ?_ | refine fsw rfl rfl rfl rfl ?_ | refine fsr rfl rfl rfl rfl ?_) | (refine wpF_step (by rfl) (hne _ (by decide)) ?_; intro hn K hK; go_simp; (try go_ints); (try simp [↓IntWalk.iteOmega, go_sem]); first | (refine hK _ ?_; clear hK K hn) | (apply Exists.intro; refine ⟨fun _ => ?_, hK _ ?_⟩; (first | (with_reducible rw [hr1]) | (with_reducible rw [hr2]) | fail); clear hK K hn)))); refine wpF_nil ?_; clear hm hne; intro w hm; (try simp only [famEnd, modB, splice, List.set_cons_zero, List.set_cons_succ, set_iv] at hm)) | ((with_reducible refine gix ?_); first | refine mix rfl rfl rfl rfl ?_ | refine mixr rfl rfl rfl rfl ?_; (try simp only [Int.toNat_zero, Int.reduceToNat, Nat.reduceMul, Nat.zero_mul, Nat.one_mul, List.drop_succ_cons, List.drop_zero, List.take_succ_cons, List.take_zero])) | ((with_reducible refine gl ?_); first | refine ml hm rfl rfl rfl ?_ | refine mlw hm rfl rfl rfl ?_ | (refine mlr hm rfl rfl rfl ?_; try simp only [List.drop_succ_cons, List.drop_zero, List.take_succ_cons, List.take_zero])) | ((with_reducible refine gs ?_); (first | refine ms hm rfl rfl rfl rfl rfl ?_ | refine msw hm rfl rfl rfl rfl ?_ | refine msr hm rfl rfl rfl rfl ?_); clear hm; intro w hm; (try simp only [splice, List.set_cons_zero, List.set_cons_succ] at hm)) | ((with_reducible refine gb ?_); (first | refine mem_box hm rfl rfl rfl ?_ | refine mem_box1 hm rfl rfl rfl rfl ?_); clear hm; intro n w hm) | ((with_reducible refine ga ?_); refine mem_alloc hm rfl rfl ?_; clear hm; intro n w hm) | go_values | go_skip | go_guarded | go_step | go_upon | ((with_reducible refine bp ?_); go_back) | ((with_reducible refine up ?_); first | (simp only [Int.not_lt, Int.not_le] at *; go_simp) | (go_values <;> (try go_simp)) | (go_ite <;> go_prune <;> (try go_simp)) | (split <;> (first | (rename_i hx; exact (hx _ rfl).elim) | go_prune))))
        (try simp only [Exit.inBlock, Exit.then])
        (first | (refine ret1 rfl rfl (by (first | exact Res.tmp rfl | exact Res.atw hm rfl | exact Res.at hm rfl)) ?_) | (refine ret2 rfl rfl (by (first | exact Res.tmp rfl | exact Res.atw hm rfl | exact Res.at hm rfl)) (by (first | exact Res.tmp rfl | exact Res.atw hm rfl | exact Res.at hm rfl)) ?_) | (refine ret3 rfl rfl (by (first | exact Res.tmp rfl | exact Res.atw hm rfl | exact Res.at hm rfl)) (by (first | exact Res.tmp rfl | exact Res.atw hm rfl | exact Res.at hm rfl)) (by (first | exact Res.tmp rfl | exact Res.atw hm rfl | exact Res.at hm rfl)) ?_) | (refine ret4 rfl rfl (by (first | exact Res.tmp rfl | exact Res.atw hm rfl | exact Res.at hm rfl)) (by (first | exact Res.tmp rfl | exact Res.atw hm rfl | exact Res.at hm rfl)) (by (first | exact Res.tmp rfl | exact Res.atw hm rfl | exact Res.at hm rfl)) (by (first | exact Res.tmp rfl | exact Res.atw hm rfl | exact Res.at hm rfl)) ?_) | fail "ret")
        rw [(HZ1 ()).out, (HZ2 ()).out]
        exact ⟨rfl, hm.drop (by repeat (first | exact List.Sublist.refl _ | refine List.Sublist.cons _ ?_))⟩
    · have hz := partZ_none (fun j hj => (HK ()).out j (by omega))
      have hz1 : (if 0 ≤ partZ b S c U then partZ b S c U else 0) = 0 := by rw [hz]; simp
      have hz2 : decide (0 ≤ partZ b S c U) = false := by rw [hz]; simp
      have HZ1 : Unit → Hid _ := fun _ => Lib.hid hz1
      have HZ2 : Unit → Hid _ := fun _ => Lib.hid hz2
      clear hz hz1 hz2
      have hge : ¬ ((k : Int) < S.length + 1 ∧ (k : Int) < U.length + 1) := by omega
      repeat' (first  | ((with_reducible refine gix ?_); first | refine mix rfl rfl rfl rfl ?_ | refine mixr rfl rfl rfl rfl ?_; (try simp only [Int.toNat_zero, Int.reduceToNat, Nat.reduceMul, Nat.zero_mul, Nat.one_mul, List.drop_succ_cons, List.drop_zero, List.take_succ_cons, List.take_zero])) | ((with_reducible refine gl ?_); first | refine ml hm rfl rfl rfl ?_ | refine mlw hm rfl rfl rfl ?_ | (refine mlr hm rfl rfl rfl ?_; try simp only [List.drop_succ_cons, List.drop_zero, List.take_succ_cons, List.take_zero])) | ((with_reducible refine gs ?_); (first | refine ms hm rfl rfl rfl rfl rfl ?_ | refine msw hm rfl rfl rfl rfl ?_ | refine msr hm rfl rfl rfl rfl ?_); clear hm; intro w hm; (try simp only [splice, List.set_cons_zero, List.set_cons_succ] at hm)) | ((with_reducible refine gb ?_); (first | refine mem_box hm rfl rfl rfl ?_ | refine mem_box1 hm rfl rfl rfl rfl ?_); clear hm; intro n w hm) | ((with_reducible refine ga ?_); refine mem_alloc hm rfl rfl ?_; clear hm; intro n w hm) | go_values | go_skip | go_guarded | go_step | go_upon | ((with_reducible refine bp ?_); go_back) | ((with_reducible refine up ?_); first | (simp only [Int.not_lt, Int.not_le] at *; go_simp) | (go_values <;> (try go_simp)) | (go_ite <;> go_prune <;> (try go_simp)) | (split <;> (first | (rename_i hx; exact (hx _ rfl).elim) | go_prune))))
      all_goals
        (try simp only [Exit.inBlock, Exit.then])
        (first | (refine ret1 rfl rfl (by (first | exact Res.tmp rfl | exact Res.atw hm rfl | exact Res.at hm rfl)) ?_) | (refine ret2 rfl rfl (by (first | exact Res.tmp rfl | exact Res.atw hm rfl | exact Res.at hm rfl)) (by (first | exact Res.tmp rfl | exact Res.atw hm rfl | exact Res.at hm rfl)) ?_) | (refine ret3 rfl rfl (by (first | exact Res.tmp rfl | exact Res.atw hm rfl | exact Res.at hm rfl)) (by (first | exact Res.tmp rfl | exact Res.atw hm rfl | exact Res.at hm rfl)) (by (first | exact Res.tmp rfl | exact Res.atw hm rfl | exact Res.at hm rfl)) ?_) | (refine ret4 rfl rfl (by (first | exact Res.tmp rfl | exact Res.atw hm rfl | exact Res.at hm rfl)) (by (first | exact Res.tmp rfl | exact Res.atw hm rfl | exact Res.at hm rfl)) (by (first | exact Res.tmp rfl | exact Res.atw hm rfl | exact Res.at hm rfl)) (by (first | exact Res.tmp rfl | exact Res.atw hm rfl | exact Res.at hm rfl)) ?_) | fail "ret")
        rw [(HZ1 ()).out, (HZ2 ()).out]
        exact ⟨rfl, hm.drop (by repeat (first | exact List.Sublist.refl _ | refine List.Sublist.cons _ ?_))⟩
set_option maxHeartbeats 2000000 in
theorem impl_FirstParting {w0 w : World} {σ : List Blk} {g i cap gc ic capc : Nat} {more morec : List Value} (b : List Int) (hl : b.length = 16) (S : List Stp) (c : List Int) (hlc : c.length = 16) (U : List Stp) (hm : Mem w0 w σ) [hAt1 : At σ g ((S.flatMap stI).map iv ++ more) 55 i] [hAt2 : At σ gc ((U.flatMap stI).map iv ++ morec) 55 ic] (hq1 : valR b S = true) (hq2 : valR c U = true) :
    Calls Try.prog 22 #[.agg (b.map iv ++ [Value.slice (some ⟨g, 0, none⟩) S.length cap]).toArray, .agg (c.map iv ++ [Value.slice (some ⟨gc, 0, none⟩) U.length capc]).toArray] w fun e w' => e = .returned (.tuple #[iv (partK b S c U), .bool (partQ b S c U)]) ∧ Mem w0 w' σ := by
  have hA := fun (w : World) (τ : List Blk) (j : Nat) (hm : Mem w0 w τ) (h : At τ g ((S.flatMap stI).map iv ++ more) 55 j) => impl_boards (g := g) (more := more) (i := j) (cap := cap) b hl S hm hq1
  have hC := fun (w : World) (τ : List Blk) (j : Nat) (hm : Mem w0 w τ) (h : At τ gc ((U.flatMap stI).map iv ++ morec) 55 j) => impl_boards (g := gc) (more := morec) (i := j) (cap := capc) c hlc U hm hq2
  have e1 : partK b S c U = if 0 ≤ partZ b S c U then partZ b S c U else 0 := by simp [partK, hq1, hq2]
  have e2 : partQ b S c U = decide (0 ≤ partZ b S c U) := by simp [partQ, hq1, hq2]
  rw [e1, e2]
  have hn1 := valR_le hq1
  have hn2 := valR_le hq2
  have hf1 := bdsK_flat hl S S.length
  have hf2 := bdsK_flat hlc U U.length
  have hrow1 := fun k hk more => bdsK_row hl S S.length k hk more
  have hrow2 := fun k hk more => bdsK_row hlc U U.length k hk more
  have hbl1 := fun k => bdK_len hl S k
  have hbl2 := fun k => bdK_len hlc U k
  have hx1 : (((bdsK b S S.length).flatten).map iv).length = (S.length + 1) * 16 := by rw [List.length_map, hf1]
  have hx2 : (((bdsK c U U.length).flatten).map iv).length = (U.length + 1) * 16 := by rw [List.length_map, hf2]
  have hc1 : ∀ more, (((bdsK b S S.length).flatten).map iv ++ more).length = (S.length + 1) * 16 + more.length := fun more => by rw [List.length_append, hx1]
  have hc2 : ∀ more, (((bdsK c U U.length).flatten).map iv ++ more).length = (U.length + 1) * 16 + more.length := fun more => by rw [List.length_append, hx2]
  generalize hX1 : ((bdsK b S S.length).flatten).map iv = X1 at *
  generalize hX2 : ((bdsK c U U.length).flatten).map iv = X2 at *
  generalize sumK2 b S S.length = sm1 at *
  generalize sumK2 c U U.length = sm2 at *
  generalize hcs1 : (S.flatMap stI).map iv ++ more = cs1 at *
  generalize hcs2 : (U.flatMap stI).map iv ++ morec = cs2 at *
  have h16 : ((b.map iv ++ [Value.slice (some ⟨g, 0, none⟩) S.length cap]).take 16) = b.map iv := List.take_left' (by simpa using hl)
  have hv16 : (b.map iv ++ [Value.slice (some ⟨g, 0, none⟩) S.length cap])[16]? = some (Value.slice (some ⟨g, 0, none⟩) S.length cap) := by rw [List.getElem?_append_right (by simp [hl])]; simp [hl]
  have hl17 : (b.map iv ++ [Value.slice (some ⟨g, 0, none⟩) S.length cap]).length = 17 := by simp [hl]
  have h16c : ((c.map iv ++ [Value.slice (some ⟨gc, 0, none⟩) U.length capc]).take 16) = c.map iv := List.take_left' (by simpa using hlc)
  have hv16c : (c.map iv ++ [Value.slice (some ⟨gc, 0, none⟩) U.length capc])[16]? = some (Value.slice (some ⟨gc, 0, none⟩) U.length capc) := by rw [List.getElem?_append_right (by simp [hlc])]; simp [hlc]
  have hl17c : (c.map iv ++ [Value.slice (some ⟨gc, 0, none⟩) U.length capc]).length = 17 := by simp [hlc]
  generalize hrc : b.map iv ++ [Value.slice (some ⟨g, 0, none⟩) S.length cap] = rb at *
  generalize hrcc : c.map iv ++ [Value.slice (some ⟨gc, 0, none⟩) U.length capc] = rcc at *
  have HA := Lib.hid hA
  have HC := Lib.hid hC
  have HR1 := Lib.hid hrow1
  have HR2 := Lib.hid hrow2
  have HC1 := Lib.hid hc1
  have HC2 := Lib.hid hc2
  have HL1 := Lib.hid hbl1
  have HL2 := Lib.hid hbl2
  clear hA hC hrow1 hrow2 hc1 hc2 hbl1 hbl2 hcs1 hcs2 hrc hrcc hX1 hX2 hq1 hq2 e1 e2 hf1 hf2
  go_enter Try.func22, Try.ntmps22
  repeat' (first | (go_at_call 45; with_reducible refine mem_callF (F := fun u => .tuple #[u, .bool true]) (HA.out _ _ _ hm inferInstance) ?_; clear hm; intro g1 m1 l1 k1 w hm hf hx; obtain rfl : l1 = S.length + 1 := (by omega); clear hf hx; (try simp only [])) | (go_at_call 45; with_reducible refine mem_callF (F := fun u => .tuple #[u, .bool true]) (HC.out _ _ _ hm inferInstance) ?_; clear hm; intro g2 m2 l2 k2 w hm hf hx; obtain rfl : l2 = U.length + 1 := (by omega); clear hf hx; (try simp only [])) | ((with_reducible refine gix ?_); first | refine mix rfl rfl rfl rfl ?_ | refine mixr rfl rfl rfl rfl ?_; (try simp only [Int.toNat_zero, Int.reduceToNat, Nat.reduceMul, Nat.zero_mul, Nat.one_mul, List.drop_succ_cons, List.drop_zero, List.take_succ_cons, List.take_zero])) | ((with_reducible refine gl ?_); first | refine ml hm rfl rfl rfl ?_ | refine mlw hm rfl rfl rfl ?_ | (refine mlr hm rfl rfl rfl ?_; try simp only [List.drop_succ_cons, List.drop_zero, List.take_succ_cons, List.take_zero])) | ((with_reducible refine gs ?_); (first | refine ms hm rfl rfl rfl rfl rfl ?_ | refine msw hm rfl rfl rfl rfl ?_ | refine msr hm rfl rfl rfl rfl ?_); clear hm; intro w hm; (try simp only [splice, List.set_cons_zero, List.set_cons_succ] at hm)) | ((with_reducible refine gb ?_); (first | refine mem_box hm rfl rfl rfl ?_ | refine mem_box1 hm rfl rfl rfl rfl ?_); clear hm; intro n w hm) | ((with_reducible refine ga ?_); refine mem_alloc hm rfl rfl ?_; clear hm; intro n w hm) | go_values | go_skip | go_guarded | go_step | go_upon | ((with_reducible refine bp ?_); go_back) | ((with_reducible refine up ?_); first | (simp only [Int.not_lt, Int.not_le] at *; go_simp) | (go_values <;> (try go_simp)) | (go_ite <;> go_prune <;> (try go_simp)) | (split <;> (first | (rename_i hx; exact (hx _ rfl).elim) | go_prune))))
  obtain ⟨τ, hτ, hm⟩ := Mem.sig hm
  go_loopw [32] (fun ix wr => ∃ k : Nat, k ≤ min (S.length + 1) (U.length + 1) ∧ ix = iv k ∧ (Unit → Hid (∀ j, j < k → bdK b S j = bdK c U j)) ∧ Mem w0 wr τ) (fun ix _ => S.length + 1 - (intOf ix).toNat)
  case atStart => exact ⟨0, by omega, rfl, fun _ => Lib.hid (by intro j h; omega), hm⟩
  case round =>
    clear hm
    obtain ⟨k, hk, rfl, HK, hm⟩ := hrel
    subst hτ
    have hc1 := HC1.out m1
    have hc2 := HC2.out m2
    by_cases hlt : k < min (S.length + 1) (U.length + 1)
    · have hr1 := HR1.out k (by omega) m1
      have hr2 := HR2.out k (by omega) m2
      have hbk1 := HL1.out k
      have hbk2 := HL2.out k
      have hlt1 : k < S.length + 1 := by omega
      have hlt2 : k < U.length + 1 := by omega
      by_cases hd : bdK b S k = bdK c U k
      · have hdd : decide (bdK b S k = bdK c U k) = true := by simpa using hd
        have HD : Unit → Hid _ := fun _ => Lib.hid hd
        have HDD : Unit → Hid _ := fun _ => Lib.hid hdd
        clear hd hdd
        generalize hB1 : bdK b S k = B1 at *
        generalize hB2 : bdK c U k = B2 at *
        have HB1 : Unit → Hid _ := fun _ => Lib.hid hB1
        have HB2 : Unit → Hid _ := fun _ => Lib.hid hB2
        clear hB1 hB2
        repeat' (first | (with_reducible rw [hr1]) | (with_reducible rw [hr2]) | ((with_reducible refine gd ?_); refine mf_start (st := []) hm (by kernel_rfl) (by kernel_rfl) rfl ?_; intro hne; (repeat (first | (with_reducible rw [hr1]) | (with_reducible rw [hr2]) | ((with_reducible refine gcmpF ?_); refine fcmp ((HDD ()).out) (by first | exact .inl rfl | exact .inr rfl) rfl rfl rfl rfl ?_; (try simp only [cmpV, Bool.not_true, Bool.not_false])) | ((with_reducible refine gfl ?_); first | refine fl rfl rfl rfl ?_ | refine flw rfl rfl rfl ?_ | (refine flr rfl rfl rfl ?_; try simp only [List.drop_succ_cons, List.drop_zero, List.take_succ_cons, List.take_zero])) | ((with_reducible refine gfs ?_); first | refine fs rfl rfl rfl rfl rfl ?_ | refine fsw rfl rfl rfl rfl ?_ | refine fsr rfl rfl rfl rfl ?_) | (refine wpF_step (by rfl) (hne _ (by decide)) ?_; intro hn K hK; go_simp; (try go_ints); (try simp [↓IntWalk.iteOmega, go_sem]); first | (refine hK _ ?_; clear hK K hn) | (apply Exists.intro; refine ⟨fun _ => ?_, hK _ ?_⟩; (first | (with_reducible rw [hr1]) | (with_reducible rw [hr2]) | fail); clear hK K hn)))); refine wpF_nil ?_; clear hm hne; intro w hm; (try simp only [famEnd, modB, splice, List.set_cons_zero, List.set_cons_succ, set_iv] at hm)) | ((with_reducible refine gix ?_); first | refine mix rfl rfl rfl rfl ?_ | refine mixr rfl rfl rfl rfl ?_; (try simp only [Int.toNat_zero, Int.reduceToNat, Nat.reduceMul, Nat.zero_mul, Nat.one_mul, List.drop_succ_cons, List.drop_zero, List.take_succ_cons, List.take_zero])) | ((with_reducible refine gl ?_); first | refine ml hm rfl rfl rfl ?_ | refine mlw hm rfl rfl rfl ?_ | (refine mlr hm rfl rfl rfl ?_; try simp only [List.drop_succ_cons, List.drop_zero, List.take_succ_cons, List.take_zero])) | ((with_reducible refine gs ?_); (first | refine ms hm rfl rfl rfl rfl rfl ?_ | refine msw hm rfl rfl rfl rfl ?_ | refine msr hm rfl rfl rfl rfl ?_); clear hm; intro w hm; (try simp only [splice, List.set_cons_zero, List.set_cons_succ] at hm)) | ((with_reducible refine gb ?_); (first | refine mem_box hm rfl rfl rfl ?_ | refine mem_box1 hm rfl rfl rfl rfl ?_); clear hm; intro n w hm) | ((with_reducible refine ga ?_); refine mem_alloc hm rfl rfl ?_; clear hm; intro n w hm) | go_values | go_skip | go_guarded | go_step | go_upon | ((with_reducible refine bp ?_); go_back) | ((with_reducible refine up ?_); first | (simp only [Int.not_lt, Int.not_le] at *; go_simp) | (go_values <;> (try go_simp)) | (go_ite <;> go_prune <;> (try go_simp)) | (split <;> (first | (rename_i hx; exact (hx _ rfl).elim) | go_prune))))
        go_roundw
        case rel =>
          (try (first | ((repeat apply Exists.intro); refine ⟨?_, rfl⟩) | (repeat refine ex_any ?_)))
          refine ⟨k + 1, by omega, by go_num, fun _ => Lib.hid (fun j h => ?_), hm⟩
          by_cases hj : j = k
          · subst hj; rw [(HB1 ()).out, (HB2 ()).out]; exact (HD ()).out
          · exact (HK ()).out j (by omega)
        case measure => simp [intOf]; omega
      · have hz := partZ_here hlt hd (HK ()).out
        have hz1 : (if 0 ≤ partZ b S c U then partZ b S c U else 0) = (k : Int) := by rw [hz]; simp
        have hz2 : decide (0 ≤ partZ b S c U) = true := by rw [hz]; simp
        have HZ1 : Unit → Hid _ := fun _ => Lib.hid hz1
        have HZ2 : Unit → Hid _ := fun _ => Lib.hid hz2
        have hdd : decide (bdK b S k = bdK c U k) = false := by simpa using hd
        have HDD : Unit → Hid _ := fun _ => Lib.hid hdd
        clear hd hdd hz hz1 hz2
        generalize bdK b S k = B1 at *
        generalize bdK c U k = B2 at *
        repeat' (first | (with_reducible rw [hr1]) | (with_reducible rw [hr2]) | ((with_reducible refine gd ?_); refine mf_start (st := []) hm (by kernel_rfl) (by kernel_rfl) rfl ?_; intro hne; (repeat (first | (with_reducible rw [hr1]) | (with_reducible rw [hr2]) | ((with_reducible refine gcmpF ?_); refine fcmp ((HDD ()).out) (by first | exact .inl rfl | exact .inr rfl) rfl rfl rfl rfl ?_; (try simp only [cmpV, Bool.not_true, Bool.not_false])) | ((with_reducible refine gfl ?_); first | refine fl rfl rfl rfl ?_ | refine flw rfl rfl rfl ?_ | (refine flr rfl rfl rfl ?_; try simp only [List.drop_succ_cons, List.drop_zero, List.take_succ_cons, List.take_zero])) | ((with_reducible refine gfs ?_); first | refine fs rfl rfl rfl rfl rfl ?_ | refine fsw rfl rfl rfl rfl ?_ | refine fsr rfl rfl rfl rfl ?_) | (refine wpF_step (by rfl) (hne _ (by decide)) ?_; intro hn K hK; go_simp; (try go_ints); (try simp [↓IntWalk.iteOmega, go_sem]); first | (refine hK _ ?_; clear hK K hn) | (apply Exists.intro; refine ⟨fun _ => ?_, hK _ ?_⟩; (first | (with_reducible rw [hr1]) | (with_reducible rw [hr2]) | fail); clear hK K hn)))); refine wpF_nil ?_; clear hm hne; intro w hm; (try simp only [famEnd, modB, splice, List.set_cons_zero, List.set_cons_succ, set_iv] at hm)) | ((with_reducible refine gix ?_); first | refine mix rfl rfl rfl rfl ?_ | refine mixr rfl rfl rfl rfl ?_; (try simp only [Int.toNat_zero, Int.reduceToNat, Nat.reduceMul, Nat.zero_mul, Nat.one_mul, List.drop_succ_cons, List.drop_zero, List.take_succ_cons, List.take_zero])) | ((with_reducible refine gl ?_); first | refine ml hm rfl rfl rfl ?_ | refine mlw hm rfl rfl rfl ?_ | (refine mlr hm rfl rfl rfl ?_; try simp only [List.drop_succ_cons, List.drop_zero, List.take_succ_cons, List.take_zero])) | ((with_reducible refine gs ?_); (first | refine ms hm rfl rfl rfl rfl rfl ?_ | refine msw hm rfl rfl rfl rfl ?_ | refine msr hm rfl rfl rfl rfl ?_); clear hm; intro w hm; (try simp only [splice, List.set_cons_zero, List.set_cons_succ] at hm)) | ((with_reducible refine gb ?_); (first | refine mem_box hm rfl rfl rfl ?_ | refine mem_box1 hm rfl rfl rfl rfl ?_); clear hm; intro n w hm) | ((with_reducible refine ga ?_); refine mem_alloc hm rfl rfl ?_; clear hm; intro n w hm) | go_values | go_skip | go_guarded | go_step | go_upon | ((with_reducible refine bp ?_); go_back) | ((with_reducible refine up ?_); first | (simp only [Int.not_lt, Int.not_le] at *; go_simp) | (go_values <;> (try go_simp)) | (go_ite <;> go_prune <;> (try go_simp)) | (split <;> (first | (rename_i hx; exact (hx _ rfl).elim) | go_prune))))
        (try simp only [Exit.inBlock, Exit.then])
        (first | (refine ret1 rfl rfl (by (first | exact Res.tmp rfl | exact Res.atw hm rfl | exact Res.at hm rfl)) ?_) | (refine ret2 rfl rfl (by (first | exact Res.tmp rfl | exact Res.atw hm rfl | exact Res.at hm rfl)) (by (first | exact Res.tmp rfl | exact Res.atw hm rfl | exact Res.at hm rfl)) ?_) | (refine ret3 rfl rfl (by (first | exact Res.tmp rfl | exact Res.atw hm rfl | exact Res.at hm rfl)) (by (first | exact Res.tmp rfl | exact Res.atw hm rfl | exact Res.at hm rfl)) (by (first | exact Res.tmp rfl | exact Res.atw hm rfl | exact Res.at hm rfl)) ?_) | (refine ret4 rfl rfl (by (first | exact Res.tmp rfl | exact Res.atw hm rfl | exact Res.at hm rfl)) (by (first | exact Res.tmp rfl | exact Res.atw hm rfl | exact Res.at hm rfl)) (by (first | exact Res.tmp rfl | exact Res.atw hm rfl | exact Res.at hm rfl)) (by (first | exact Res.tmp rfl | exact Res.atw hm rfl | exact Res.at hm rfl)) ?_) | fail "ret")
        rw [(HZ1 ()).out, (HZ2 ()).out]
        exact ⟨rfl, hm.drop (by repeat (first | exact List.Sublist.refl _ | refine List.Sublist.cons _ ?_))⟩
    · have hz := partZ_none (fun j hj => (HK ()).out j (by omega))
      have hz1 : (if 0 ≤ partZ b S c U then partZ b S c U else 0) = 0 := by rw [hz]; simp
      have hz2 : decide (0 ≤ partZ b S c U) = false := by rw [hz]; simp
      have HZ1 : Unit → Hid _ := fun _ => Lib.hid hz1
      have HZ2 : Unit → Hid _ := fun _ => Lib.hid hz2
      clear hz hz1 hz2
      have hge : ¬ ((k : Int) < S.length + 1 ∧ (k : Int) < U.length + 1) := by omega
      repeat' (first  | ((with_reducible refine gix ?_); first | refine mix rfl rfl rfl rfl ?_ | refine mixr rfl rfl rfl rfl ?_; (try simp only [Int.toNat_zero, Int.reduceToNat, Nat.reduceMul, Nat.zero_mul, Nat.one_mul, List.drop_succ_cons, List.drop_zero, List.take_succ_cons, List.take_zero])) | ((with_reducible refine gl ?_); first | refine ml hm rfl rfl rfl ?_ | refine mlw hm rfl rfl rfl ?_ | (refine mlr hm rfl rfl rfl ?_; try simp only [List.drop_succ_cons, List.drop_zero, List.take_succ_cons, List.take_zero])) | ((with_reducible refine gs ?_); (first | refine ms hm rfl rfl rfl rfl rfl ?_ | refine msw hm rfl rfl rfl rfl ?_ | refine msr hm rfl rfl rfl rfl ?_); clear hm; intro w hm; (try simp only [splice, List.set_cons_zero, List.set_cons_succ] at hm)) | ((with_reducible refine gb ?_); (first | refine mem_box hm rfl rfl rfl ?_ | refine mem_box1 hm rfl rfl rfl rfl ?_); clear hm; intro n w hm) | ((with_reducible refine ga ?_); refine mem_alloc hm rfl rfl ?_; clear hm; intro n w hm) | go_values | go_skip | go_guarded | go_step | go_upon | ((with_reducible refine bp ?_); go_back) | ((with_reducible refine up ?_); first | (simp only [Int.not_lt, Int.not_le] at *; go_simp) | (go_values <;> (try go_simp)) | (go_ite <;> go_prune <;> (try go_simp)) | (split <;> (first | (rename_i hx; exact (hx _ rfl).elim) | go_prune))))
      all_goals
        (try simp only [Exit.inBlock, Exit.then])
        (first | (refine ret1 rfl rfl (by (first | exact Res.tmp rfl | exact Res.atw hm rfl | exact Res.at hm rfl)) ?_) | (refine ret2 rfl rfl (by (first | exact Res.tmp rfl | exact Res.atw hm rfl | exact Res.at hm rfl)) (by (first | exact Res.tmp rfl | exact Res.atw hm rfl | exact Res.at hm rfl)) ?_) | (refine ret3 rfl rfl (by (first | exact Res.tmp rfl | exact Res.atw hm rfl | exact Res.at hm rfl)) (by (first | exact Res.tmp rfl | exact Res.atw hm rfl | exact Res.at hm rfl)) (by (first | exact Res.tmp rfl | exact Res.atw hm rfl | exact Res.at hm rfl)) ?_) | (refine ret4 rfl rfl (by (first | exact Res.tmp rfl | exact Res.atw hm rfl | exact Res.at hm rfl)) (by (first | exact Res.tmp rfl | exact Res.atw hm rfl | exact Res.at hm rfl)) (by (first | exact Res.tmp rfl | exact Res.atw hm rfl | exact Res.at hm rfl)) (by (first | exact Res.tmp rfl | exact Res.atw hm rfl | exact Res.at hm rfl)) ?_) | fail "ret")
        rw [(HZ1 ()).out, (HZ2 ()).out]
        exact ⟨rfl, hm.drop (by repeat (first | exact List.Sublist.refl _ | refine List.Sublist.cons _ ?_))⟩
set_option maxHeartbeats 1000000 in
theorem spec_FirstParting_no {w0 w : World} {σ : List Blk} {g i cap gc ic capc : Nat} {more morec : List Value} (b : List Int) (hl : b.length = 16) (S : List Stp) (c : List Int) (hlc : c.length = 16) (U : List Stp) (hm : Mem w0 w σ) [hAt1 : At σ g ((S.flatMap stI).map iv ++ more) 55 i] [hAt2 : At σ gc ((U.flatMap stI).map iv ++ morec) 55 ic] (hq : (valR b S && valR c U) = false) :
    Calls Try.prog 21 #[.agg (b.map iv ++ [Value.slice (some ⟨g, 0, none⟩) S.length cap]).toArray, .agg (c.map iv ++ [Value.slice (some ⟨gc, 0, none⟩) U.length capc]).toArray] w fun e w' => e = .returned (.tuple #[iv (partK b S c U), .bool (partQ b S c U)]) ∧ Mem w0 w' σ := by
  have e1 : partK b S c U = 0 := by simp [partK, hq]
  have e2 : partQ b S c U = false := by simp [partQ, hq]
  rw [e1, e2]
  clear e1 e2
  cases hq1 : valR b S <;> cases hq2 : valR c U
  case true.true => rw [hq1, hq2] at hq; cases hq
  case false.false =>
    have hA := fun (w : World) (τ : List Blk) (j : Nat) (hm : Mem w0 w τ) (h : At τ g ((S.flatMap stI).map iv ++ more) 55 j) => spec_boards_no (g := g) (more := more) (i := j) (cap := cap) b hl S hm hq1
    have hC := fun (w : World) (τ : List Blk) (j : Nat) (hm : Mem w0 w τ) (h : At τ gc ((U.flatMap stI).map iv ++ morec) 55 j) => spec_boards_no (g := gc) (more := morec) (i := j) (cap := capc) c hlc U hm hq2
    generalize ((bdsK b S S.length).flatten).map iv = X1 at *
    generalize ((bdsK c U U.length).flatten).map iv = X2 at *
    generalize sumK2 b S S.length = sm1 at *
    generalize sumK2 c U U.length = sm2 at *
    generalize hcs1 : (S.flatMap stI).map iv ++ more = cs1 at *
    generalize hcs2 : (U.flatMap stI).map iv ++ morec = cs2 at *
    have h16 : ((b.map iv ++ [Value.slice (some ⟨g, 0, none⟩) S.length cap]).take 16) = b.map iv := List.take_left' (by simpa using hl)
    have hv16 : (b.map iv ++ [Value.slice (some ⟨g, 0, none⟩) S.length cap])[16]? = some (Value.slice (some ⟨g, 0, none⟩) S.length cap) := by rw [List.getElem?_append_right (by simp [hl])]; simp [hl]
    have hl17 : (b.map iv ++ [Value.slice (some ⟨g, 0, none⟩) S.length cap]).length = 17 := by simp [hl]
    have h16c : ((c.map iv ++ [Value.slice (some ⟨gc, 0, none⟩) U.length capc]).take 16) = c.map iv := List.take_left' (by simpa using hlc)
    have hv16c : (c.map iv ++ [Value.slice (some ⟨gc, 0, none⟩) U.length capc])[16]? = some (Value.slice (some ⟨gc, 0, none⟩) U.length capc) := by rw [List.getElem?_append_right (by simp [hlc])]; simp [hlc]
    have hl17c : (c.map iv ++ [Value.slice (some ⟨gc, 0, none⟩) U.length capc]).length = 17 := by simp [hlc]
    generalize hrc : b.map iv ++ [Value.slice (some ⟨g, 0, none⟩) S.length cap] = rb at *
    generalize hrcc : c.map iv ++ [Value.slice (some ⟨gc, 0, none⟩) U.length capc] = rcc at *
    have HA := Lib.hid hA
    have HC := Lib.hid hC
    clear hA hC hcs1 hcs2 hrc hrcc hq hq1 hq2
    go_enter Try.func21, Try.ntmps21
    repeat' (first | (go_at_call 43; with_reducible refine mem_callF (F := fun u => .tuple #[u, iv 0, .bool false]) (HA.out _ _ _ hm inferInstance) ?_; clear hm; intro g1 m1 l1 k1 w hm hf hx; clear hf hx; (try simp only [])) | (go_at_call 43; with_reducible refine mem_callF (F := fun u => .tuple #[u, iv 0, .bool false]) (HC.out _ _ _ hm inferInstance) ?_; clear hm; intro g1 m1 l1 k1 w hm hf hx; clear hf hx; (try simp only [])) | ((with_reducible refine gix ?_); first | refine mix rfl rfl rfl rfl ?_ | refine mixr rfl rfl rfl rfl ?_; (try simp only [Int.toNat_zero, Int.reduceToNat, Nat.reduceMul, Nat.zero_mul, Nat.one_mul, List.drop_succ_cons, List.drop_zero, List.take_succ_cons, List.take_zero])) | ((with_reducible refine gl ?_); first | refine ml hm rfl rfl rfl ?_ | refine mlw hm rfl rfl rfl ?_ | (refine mlr hm rfl rfl rfl ?_; try simp only [List.drop_succ_cons, List.drop_zero, List.take_succ_cons, List.take_zero])) | ((with_reducible refine gs ?_); (first | refine ms hm rfl rfl rfl rfl rfl ?_ | refine msw hm rfl rfl rfl rfl ?_ | refine msr hm rfl rfl rfl rfl ?_); clear hm; intro w hm; (try simp only [splice, List.set_cons_zero, List.set_cons_succ] at hm)) | ((with_reducible refine gb ?_); (first | refine mem_box hm rfl rfl rfl ?_ | refine mem_box1 hm rfl rfl rfl rfl ?_); clear hm; intro n w hm) | ((with_reducible refine ga ?_); refine mem_alloc hm rfl rfl ?_; clear hm; intro n w hm) | go_values | go_skip | go_guarded | go_step | go_upon | ((with_reducible refine bp ?_); go_back) | ((with_reducible refine up ?_); first | (simp only [Int.not_lt, Int.not_le] at *; go_simp) | (go_values <;> (try go_simp)) | (go_ite <;> go_prune <;> (try go_simp)) | (split <;> (first | (rename_i hx; exact (hx _ rfl).elim) | go_prune))))
    (try simp only [Exit.inBlock, Exit.then])
    (first | (refine ret1 rfl rfl (by (first | exact Res.tmp rfl | exact Res.atw hm rfl | exact Res.at hm rfl)) ?_) | (refine ret2 rfl rfl (by (first | exact Res.tmp rfl | exact Res.atw hm rfl | exact Res.at hm rfl)) (by (first | exact Res.tmp rfl | exact Res.atw hm rfl | exact Res.at hm rfl)) ?_) | (refine ret3 rfl rfl (by (first | exact Res.tmp rfl | exact Res.atw hm rfl | exact Res.at hm rfl)) (by (first | exact Res.tmp rfl | exact Res.atw hm rfl | exact Res.at hm rfl)) (by (first | exact Res.tmp rfl | exact Res.atw hm rfl | exact Res.at hm rfl)) ?_) | (refine ret4 rfl rfl (by (first | exact Res.tmp rfl | exact Res.atw hm rfl | exact Res.at hm rfl)) (by (first | exact Res.tmp rfl | exact Res.atw hm rfl | exact Res.at hm rfl)) (by (first | exact Res.tmp rfl | exact Res.atw hm rfl | exact Res.at hm rfl)) (by (first | exact Res.tmp rfl | exact Res.atw hm rfl | exact Res.at hm rfl)) ?_) | fail "ret")
    exact ⟨rfl, hm.drop (by repeat (first | exact List.Sublist.refl _ | refine List.Sublist.cons _ ?_))⟩
  case false.true =>
    have hA := fun (w : World) (τ : List Blk) (j : Nat) (hm : Mem w0 w τ) (h : At τ g ((S.flatMap stI).map iv ++ more) 55 j) => spec_boards_no (g := g) (more := more) (i := j) (cap := cap) b hl S hm hq1
    have hC := fun (w : World) (τ : List Blk) (j : Nat) (hm : Mem w0 w τ) (h : At τ gc ((U.flatMap stI).map iv ++ morec) 55 j) => spec_boards_ok (g := gc) (more := morec) (i := j) (cap := capc) c hlc U hm hq2
    generalize ((bdsK b S S.length).flatten).map iv = X1 at *
    generalize ((bdsK c U U.length).flatten).map iv = X2 at *
    generalize sumK2 b S S.length = sm1 at *
    generalize sumK2 c U U.length = sm2 at *
    generalize hcs1 : (S.flatMap stI).map iv ++ more = cs1 at *
    generalize hcs2 : (U.flatMap stI).map iv ++ morec = cs2 at *
    have h16 : ((b.map iv ++ [Value.slice (some ⟨g, 0, none⟩) S.length cap]).take 16) = b.map iv := List.take_left' (by simpa using hl)
    have hv16 : (b.map iv ++ [Value.slice (some ⟨g, 0, none⟩) S.length cap])[16]? = some (Value.slice (some ⟨g, 0, none⟩) S.length cap) := by rw [List.getElem?_append_right (by simp [hl])]; simp [hl]
    have hl17 : (b.map iv ++ [Value.slice (some ⟨g, 0, none⟩) S.length cap]).length = 17 := by simp [hl]
    have h16c : ((c.map iv ++ [Value.slice (some ⟨gc, 0, none⟩) U.length capc]).take 16) = c.map iv := List.take_left' (by simpa using hlc)
    have hv16c : (c.map iv ++ [Value.slice (some ⟨gc, 0, none⟩) U.length capc])[16]? = some (Value.slice (some ⟨gc, 0, none⟩) U.length capc) := by rw [List.getElem?_append_right (by simp [hlc])]; simp [hlc]
    have hl17c : (c.map iv ++ [Value.slice (some ⟨gc, 0, none⟩) U.length capc]).length = 17 := by simp [hlc]
    generalize hrc : b.map iv ++ [Value.slice (some ⟨g, 0, none⟩) S.length cap] = rb at *
    generalize hrcc : c.map iv ++ [Value.slice (some ⟨gc, 0, none⟩) U.length capc] = rcc at *
    have HA := Lib.hid hA
    have HC := Lib.hid hC
    clear hA hC hcs1 hcs2 hrc hrcc hq hq1 hq2
    go_enter Try.func21, Try.ntmps21
    repeat' (first | (go_at_call 43; with_reducible refine mem_callF (F := fun u => .tuple #[u, iv 0, .bool false]) (HA.out _ _ _ hm inferInstance) ?_; clear hm; intro g1 m1 l1 k1 w hm hf hx; clear hf hx; (try simp only [])) | (go_at_call 43; with_reducible refine mem_callF (F := fun u => .tuple #[u, iv sm2, .bool true]) (HC.out _ _ _ hm inferInstance) ?_; clear hm; intro g1 m1 l1 k1 w hm hf hx; clear hf hx; (try simp only [])) | ((with_reducible refine gix ?_); first | refine mix rfl rfl rfl rfl ?_ | refine mixr rfl rfl rfl rfl ?_; (try simp only [Int.toNat_zero, Int.reduceToNat, Nat.reduceMul, Nat.zero_mul, Nat.one_mul, List.drop_succ_cons, List.drop_zero, List.take_succ_cons, List.take_zero])) | ((with_reducible refine gl ?_); first | refine ml hm rfl rfl rfl ?_ | refine mlw hm rfl rfl rfl ?_ | (refine mlr hm rfl rfl rfl ?_; try simp only [List.drop_succ_cons, List.drop_zero, List.take_succ_cons, List.take_zero])) | ((with_reducible refine gs ?_); (first | refine ms hm rfl rfl rfl rfl rfl ?_ | refine msw hm rfl rfl rfl rfl ?_ | refine msr hm rfl rfl rfl rfl ?_); clear hm; intro w hm; (try simp only [splice, List.set_cons_zero, List.set_cons_succ] at hm)) | ((with_reducible refine gb ?_); (first | refine mem_box hm rfl rfl rfl ?_ | refine mem_box1 hm rfl rfl rfl rfl ?_); clear hm; intro n w hm) | ((with_reducible refine ga ?_); refine mem_alloc hm rfl rfl ?_; clear hm; intro n w hm) | go_values | go_skip | go_guarded | go_step | go_upon | ((with_reducible refine bp ?_); go_back) | ((with_reducible refine up ?_); first | (simp only [Int.not_lt, Int.not_le] at *; go_simp) | (go_values <;> (try go_simp)) | (go_ite <;> go_prune <;> (try go_simp)) | (split <;> (first | (rename_i hx; exact (hx _ rfl).elim) | go_prune))))
    (try simp only [Exit.inBlock, Exit.then])
    (first | (refine ret1 rfl rfl (by (first | exact Res.tmp rfl | exact Res.atw hm rfl | exact Res.at hm rfl)) ?_) | (refine ret2 rfl rfl (by (first | exact Res.tmp rfl | exact Res.atw hm rfl | exact Res.at hm rfl)) (by (first | exact Res.tmp rfl | exact Res.atw hm rfl | exact Res.at hm rfl)) ?_) | (refine ret3 rfl rfl (by (first | exact Res.tmp rfl | exact Res.atw hm rfl | exact Res.at hm rfl)) (by (first | exact Res.tmp rfl | exact Res.atw hm rfl | exact Res.at hm rfl)) (by (first | exact Res.tmp rfl | exact Res.atw hm rfl | exact Res.at hm rfl)) ?_) | (refine ret4 rfl rfl (by (first | exact Res.tmp rfl | exact Res.atw hm rfl | exact Res.at hm rfl)) (by (first | exact Res.tmp rfl | exact Res.atw hm rfl | exact Res.at hm rfl)) (by (first | exact Res.tmp rfl | exact Res.atw hm rfl | exact Res.at hm rfl)) (by (first | exact Res.tmp rfl | exact Res.atw hm rfl | exact Res.at hm rfl)) ?_) | fail "ret")
    exact ⟨rfl, hm.drop (by repeat (first | exact List.Sublist.refl _ | refine List.Sublist.cons _ ?_))⟩
  case true.false =>
    have hA := fun (w : World) (τ : List Blk) (j : Nat) (hm : Mem w0 w τ) (h : At τ g ((S.flatMap stI).map iv ++ more) 55 j) => spec_boards_ok (g := g) (more := more) (i := j) (cap := cap) b hl S hm hq1
    have hC := fun (w : World) (τ : List Blk) (j : Nat) (hm : Mem w0 w τ) (h : At τ gc ((U.flatMap stI).map iv ++ morec) 55 j) => spec_boards_no (g := gc) (more := morec) (i := j) (cap := capc) c hlc U hm hq2
    generalize ((bdsK b S S.length).flatten).map iv = X1 at *
    generalize ((bdsK c U U.length).flatten).map iv = X2 at *
    generalize sumK2 b S S.length = sm1 at *
    generalize sumK2 c U U.length = sm2 at *
    generalize hcs1 : (S.flatMap stI).map iv ++ more = cs1 at *
    generalize hcs2 : (U.flatMap stI).map iv ++ morec = cs2 at *
    have h16 : ((b.map iv ++ [Value.slice (some ⟨g, 0, none⟩) S.length cap]).take 16) = b.map iv := List.take_left' (by simpa using hl)
    have hv16 : (b.map iv ++ [Value.slice (some ⟨g, 0, none⟩) S.length cap])[16]? = some (Value.slice (some ⟨g, 0, none⟩) S.length cap) := by rw [List.getElem?_append_right (by simp [hl])]; simp [hl]
    have hl17 : (b.map iv ++ [Value.slice (some ⟨g, 0, none⟩) S.length cap]).length = 17 := by simp [hl]
    have h16c : ((c.map iv ++ [Value.slice (some ⟨gc, 0, none⟩) U.length capc]).take 16) = c.map iv := List.take_left' (by simpa using hlc)
    have hv16c : (c.map iv ++ [Value.slice (some ⟨gc, 0, none⟩) U.length capc])[16]? = some (Value.slice (some ⟨gc, 0, none⟩) U.length capc) := by rw [List.getElem?_append_right (by simp [hlc])]; simp [hlc]
    have hl17c : (c.map iv ++ [Value.slice (some ⟨gc, 0, none⟩) U.length capc]).length = 17 := by simp [hlc]
    generalize hrc : b.map iv ++ [Value.slice (some ⟨g, 0, none⟩) S.length cap] = rb at *
    generalize hrcc : c.map iv ++ [Value.slice (some ⟨gc, 0, none⟩) U.length capc] = rcc at *
    have HA := Lib.hid hA
    have HC := Lib.hid hC
    clear hA hC hcs1 hcs2 hrc hrcc hq hq1 hq2
    go_enter Try.func21, Try.ntmps21
    repeat' (first | (go_at_call 43; with_reducible refine mem_callF (F := fun u => .tuple #[u, iv sm1, .bool true]) (HA.out _ _ _ hm inferInstance) ?_; clear hm; intro g1 m1 l1 k1 w hm hf hx; clear hf hx; (try simp only [])) | (go_at_call 43; with_reducible refine mem_callF (F := fun u => .tuple #[u, iv 0, .bool false]) (HC.out _ _ _ hm inferInstance) ?_; clear hm; intro g1 m1 l1 k1 w hm hf hx; clear hf hx; (try simp only [])) | ((with_reducible refine gix ?_); first | refine mix rfl rfl rfl rfl ?_ | refine mixr rfl rfl rfl rfl ?_; (try simp only [Int.toNat_zero, Int.reduceToNat, Nat.reduceMul, Nat.zero_mul, Nat.one_mul, List.drop_succ_cons, List.drop_zero, List.take_succ_cons, List.take_zero])) | ((with_reducible refine gl ?_); first | refine ml hm rfl rfl rfl ?_ | refine mlw hm rfl rfl rfl ?_ | (refine mlr hm rfl rfl rfl ?_; try simp only [List.drop_succ_cons, List.drop_zero, List.take_succ_cons, List.take_zero])) | ((with_reducible refine gs ?_); (first | refine ms hm rfl rfl rfl rfl rfl ?_ | refine msw hm rfl rfl rfl rfl ?_ | refine msr hm rfl rfl rfl rfl ?_); clear hm; intro w hm; (try simp only [splice, List.set_cons_zero, List.set_cons_succ] at hm)) | ((with_reducible refine gb ?_); (first | refine mem_box hm rfl rfl rfl ?_ | refine mem_box1 hm rfl rfl rfl rfl ?_); clear hm; intro n w hm) | ((with_reducible refine ga ?_); refine mem_alloc hm rfl rfl ?_; clear hm; intro n w hm) | go_values | go_skip | go_guarded | go_step | go_upon | ((with_reducible refine bp ?_); go_back) | ((with_reducible refine up ?_); first | (simp only [Int.not_lt, Int.not_le] at *; go_simp) | (go_values <;> (try go_simp)) | (go_ite <;> go_prune <;> (try go_simp)) | (split <;> (first | (rename_i hx; exact (hx _ rfl).elim) | go_prune))))
    (try simp only [Exit.inBlock, Exit.then])
    (first | (refine ret1 rfl rfl (by (first | exact Res.tmp rfl | exact Res.atw hm rfl | exact Res.at hm rfl)) ?_) | (refine ret2 rfl rfl (by (first | exact Res.tmp rfl | exact Res.atw hm rfl | exact Res.at hm rfl)) (by (first | exact Res.tmp rfl | exact Res.atw hm rfl | exact Res.at hm rfl)) ?_) | (refine ret3 rfl rfl (by (first | exact Res.tmp rfl | exact Res.atw hm rfl | exact Res.at hm rfl)) (by (first | exact Res.tmp rfl | exact Res.atw hm rfl | exact Res.at hm rfl)) (by (first | exact Res.tmp rfl | exact Res.atw hm rfl | exact Res.at hm rfl)) ?_) | (refine ret4 rfl rfl (by (first | exact Res.tmp rfl | exact Res.atw hm rfl | exact Res.at hm rfl)) (by (first | exact Res.tmp rfl | exact Res.atw hm rfl | exact Res.at hm rfl)) (by (first | exact Res.tmp rfl | exact Res.atw hm rfl | exact Res.at hm rfl)) (by (first | exact Res.tmp rfl | exact Res.atw hm rfl | exact Res.at hm rfl)) ?_) | fail "ret")
    exact ⟨rfl, hm.drop (by repeat (first | exact List.Sublist.refl _ | refine List.Sublist.cons _ ?_))⟩
set_option maxHeartbeats 1000000 in
theorem impl_FirstParting_no {w0 w : World} {σ : List Blk} {g i cap gc ic capc : Nat} {more morec : List Value} (b : List Int) (hl : b.length = 16) (S : List Stp) (c : List Int) (hlc : c.length = 16) (U : List Stp) (hm : Mem w0 w σ) [hAt1 : At σ g ((S.flatMap stI).map iv ++ more) 55 i] [hAt2 : At σ gc ((U.flatMap stI).map iv ++ morec) 55 ic] (hq : (valR b S && valR c U) = false) :
    Calls Try.prog 22 #[.agg (b.map iv ++ [Value.slice (some ⟨g, 0, none⟩) S.length cap]).toArray, .agg (c.map iv ++ [Value.slice (some ⟨gc, 0, none⟩) U.length capc]).toArray] w fun e w' => e = .returned (.tuple #[iv (partK b S c U), .bool (partQ b S c U)]) ∧ Mem w0 w' σ := by
  have e1 : partK b S c U = 0 := by simp [partK, hq]
  have e2 : partQ b S c U = false := by simp [partQ, hq]
  rw [e1, e2]
  clear e1 e2
  cases hq1 : valR b S <;> cases hq2 : valR c U
  case true.true => rw [hq1, hq2] at hq; cases hq
  case false.false =>
    have hA := fun (w : World) (τ : List Blk) (j : Nat) (hm : Mem w0 w τ) (h : At τ g ((S.flatMap stI).map iv ++ more) 55 j) => impl_boards_bad (g := g) (more := more) (i := j) (cap := cap) b hl S hm hq1
    have hC := fun (w : World) (τ : List Blk) (j : Nat) (hm : Mem w0 w τ) (h : At τ gc ((U.flatMap stI).map iv ++ morec) 55 j) => impl_boards_bad (g := gc) (more := morec) (i := j) (cap := capc) c hlc U hm hq2
    generalize ((bdsK b S S.length).flatten).map iv = X1 at *
    generalize ((bdsK c U U.length).flatten).map iv = X2 at *
    generalize sumK2 b S S.length = sm1 at *
    generalize sumK2 c U U.length = sm2 at *
    generalize hcs1 : (S.flatMap stI).map iv ++ more = cs1 at *
    generalize hcs2 : (U.flatMap stI).map iv ++ morec = cs2 at *
    have h16 : ((b.map iv ++ [Value.slice (some ⟨g, 0, none⟩) S.length cap]).take 16) = b.map iv := List.take_left' (by simpa using hl)
    have hv16 : (b.map iv ++ [Value.slice (some ⟨g, 0, none⟩) S.length cap])[16]? = some (Value.slice (some ⟨g, 0, none⟩) S.length cap) := by rw [List.getElem?_append_right (by simp [hl])]; simp [hl]
    have hl17 : (b.map iv ++ [Value.slice (some ⟨g, 0, none⟩) S.length cap]).length = 17 := by simp [hl]
    have h16c : ((c.map iv ++ [Value.slice (some ⟨gc, 0, none⟩) U.length capc]).take 16) = c.map iv := List.take_left' (by simpa using hlc)
    have hv16c : (c.map iv ++ [Value.slice (some ⟨gc, 0, none⟩) U.length capc])[16]? = some (Value.slice (some ⟨gc, 0, none⟩) U.length capc) := by rw [List.getElem?_append_right (by simp [hlc])]; simp [hlc]
    have hl17c : (c.map iv ++ [Value.slice (some ⟨gc, 0, none⟩) U.length capc]).length = 17 := by simp [hlc]
    generalize hrc : b.map iv ++ [Value.slice (some ⟨g, 0, none⟩) S.length cap] = rb at *
    generalize hrcc : c.map iv ++ [Value.slice (some ⟨gc, 0, none⟩) U.length capc] = rcc at *
    have HA := Lib.hid hA
    have HC := Lib.hid hC
    clear hA hC hcs1 hcs2 hrc hrcc hq hq1 hq2
    go_enter Try.func22, Try.ntmps22
    repeat' (first | (go_at_call 45; with_reducible refine mem_callM (HA.out _ _ _ hm inferInstance) ?_; clear hm; intro w hm; (try simp only [])) | (go_at_call 45; with_reducible refine mem_callM (HC.out _ _ _ hm inferInstance) ?_; clear hm; intro w hm; (try simp only [])) | ((with_reducible refine gix ?_); first | refine mix rfl rfl rfl rfl ?_ | refine mixr rfl rfl rfl rfl ?_; (try simp only [Int.toNat_zero, Int.reduceToNat, Nat.reduceMul, Nat.zero_mul, Nat.one_mul, List.drop_succ_cons, List.drop_zero, List.take_succ_cons, List.take_zero])) | ((with_reducible refine gl ?_); first | refine ml hm rfl rfl rfl ?_ | refine mlw hm rfl rfl rfl ?_ | (refine mlr hm rfl rfl rfl ?_; try simp only [List.drop_succ_cons, List.drop_zero, List.take_succ_cons, List.take_zero])) | ((with_reducible refine gs ?_); (first | refine ms hm rfl rfl rfl rfl rfl ?_ | refine msw hm rfl rfl rfl rfl ?_ | refine msr hm rfl rfl rfl rfl ?_); clear hm; intro w hm; (try simp only [splice, List.set_cons_zero, List.set_cons_succ] at hm)) | ((with_reducible refine gb ?_); (first | refine mem_box hm rfl rfl rfl ?_ | refine mem_box1 hm rfl rfl rfl rfl ?_); clear hm; intro n w hm) | ((with_reducible refine ga ?_); refine mem_alloc hm rfl rfl ?_; clear hm; intro n w hm) | go_values | go_skip | go_guarded | go_step | go_upon | ((with_reducible refine bp ?_); go_back) | ((with_reducible refine up ?_); first | (simp only [Int.not_lt, Int.not_le] at *; go_simp) | (go_values <;> (try go_simp)) | (go_ite <;> go_prune <;> (try go_simp)) | (split <;> (first | (rename_i hx; exact (hx _ rfl).elim) | go_prune))))
    (try simp only [Exit.inBlock, Exit.then])
    (first | (refine ret1 rfl rfl (by (first | exact Res.tmp rfl | exact Res.atw hm rfl | exact Res.at hm rfl)) ?_) | (refine ret2 rfl rfl (by (first | exact Res.tmp rfl | exact Res.atw hm rfl | exact Res.at hm rfl)) (by (first | exact Res.tmp rfl | exact Res.atw hm rfl | exact Res.at hm rfl)) ?_) | (refine ret3 rfl rfl (by (first | exact Res.tmp rfl | exact Res.atw hm rfl | exact Res.at hm rfl)) (by (first | exact Res.tmp rfl | exact Res.atw hm rfl | exact Res.at hm rfl)) (by (first | exact Res.tmp rfl | exact Res.atw hm rfl | exact Res.at hm rfl)) ?_) | (refine ret4 rfl rfl (by (first | exact Res.tmp rfl | exact Res.atw hm rfl | exact Res.at hm rfl)) (by (first | exact Res.tmp rfl | exact Res.atw hm rfl | exact Res.at hm rfl)) (by (first | exact Res.tmp rfl | exact Res.atw hm rfl | exact Res.at hm rfl)) (by (first | exact Res.tmp rfl | exact Res.atw hm rfl | exact Res.at hm rfl)) ?_) | fail "ret")
    exact ⟨rfl, hm.drop (by repeat (first | exact List.Sublist.refl _ | refine List.Sublist.cons _ ?_))⟩
  case false.true =>
    have hA := fun (w : World) (τ : List Blk) (j : Nat) (hm : Mem w0 w τ) (h : At τ g ((S.flatMap stI).map iv ++ more) 55 j) => impl_boards_bad (g := g) (more := more) (i := j) (cap := cap) b hl S hm hq1
    have hC := fun (w : World) (τ : List Blk) (j : Nat) (hm : Mem w0 w τ) (h : At τ gc ((U.flatMap stI).map iv ++ morec) 55 j) => impl_boards (g := gc) (more := morec) (i := j) (cap := capc) c hlc U hm hq2
    generalize ((bdsK b S S.length).flatten).map iv = X1 at *
    generalize ((bdsK c U U.length).flatten).map iv = X2 at *
    generalize sumK2 b S S.length = sm1 at *
    generalize sumK2 c U U.length = sm2 at *
    generalize hcs1 : (S.flatMap stI).map iv ++ more = cs1 at *
    generalize hcs2 : (U.flatMap stI).map iv ++ morec = cs2 at *
    have h16 : ((b.map iv ++ [Value.slice (some ⟨g, 0, none⟩) S.length cap]).take 16) = b.map iv := List.take_left' (by simpa using hl)
    have hv16 : (b.map iv ++ [Value.slice (some ⟨g, 0, none⟩) S.length cap])[16]? = some (Value.slice (some ⟨g, 0, none⟩) S.length cap) := by rw [List.getElem?_append_right (by simp [hl])]; simp [hl]
    have hl17 : (b.map iv ++ [Value.slice (some ⟨g, 0, none⟩) S.length cap]).length = 17 := by simp [hl]
    have h16c : ((c.map iv ++ [Value.slice (some ⟨gc, 0, none⟩) U.length capc]).take 16) = c.map iv := List.take_left' (by simpa using hlc)
    have hv16c : (c.map iv ++ [Value.slice (some ⟨gc, 0, none⟩) U.length capc])[16]? = some (Value.slice (some ⟨gc, 0, none⟩) U.length capc) := by rw [List.getElem?_append_right (by simp [hlc])]; simp [hlc]
    have hl17c : (c.map iv ++ [Value.slice (some ⟨gc, 0, none⟩) U.length capc]).length = 17 := by simp [hlc]
    generalize hrc : b.map iv ++ [Value.slice (some ⟨g, 0, none⟩) S.length cap] = rb at *
    generalize hrcc : c.map iv ++ [Value.slice (some ⟨gc, 0, none⟩) U.length capc] = rcc at *
    have HA := Lib.hid hA
    have HC := Lib.hid hC
    clear hA hC hcs1 hcs2 hrc hrcc hq hq1 hq2
    go_enter Try.func22, Try.ntmps22
    repeat' (first | (go_at_call 45; with_reducible refine mem_callM (HA.out _ _ _ hm inferInstance) ?_; clear hm; intro w hm; (try simp only [])) | (go_at_call 45; with_reducible refine mem_callF (F := fun u => .tuple #[u, .bool true]) (HC.out _ _ _ hm inferInstance) ?_; clear hm; intro g1 m1 l1 k1 w hm hf hx; clear hf hx; (try simp only [])) | ((with_reducible refine gix ?_); first | refine mix rfl rfl rfl rfl ?_ | refine mixr rfl rfl rfl rfl ?_; (try simp only [Int.toNat_zero, Int.reduceToNat, Nat.reduceMul, Nat.zero_mul, Nat.one_mul, List.drop_succ_cons, List.drop_zero, List.take_succ_cons, List.take_zero])) | ((with_reducible refine gl ?_); first | refine ml hm rfl rfl rfl ?_ | refine mlw hm rfl rfl rfl ?_ | (refine mlr hm rfl rfl rfl ?_; try simp only [List.drop_succ_cons, List.drop_zero, List.take_succ_cons, List.take_zero])) | ((with_reducible refine gs ?_); (first | refine ms hm rfl rfl rfl rfl rfl ?_ | refine msw hm rfl rfl rfl rfl ?_ | refine msr hm rfl rfl rfl rfl ?_); clear hm; intro w hm; (try simp only [splice, List.set_cons_zero, List.set_cons_succ] at hm)) | ((with_reducible refine gb ?_); (first | refine mem_box hm rfl rfl rfl ?_ | refine mem_box1 hm rfl rfl rfl rfl ?_); clear hm; intro n w hm) | ((with_reducible refine ga ?_); refine mem_alloc hm rfl rfl ?_; clear hm; intro n w hm) | go_values | go_skip | go_guarded | go_step | go_upon | ((with_reducible refine bp ?_); go_back) | ((with_reducible refine up ?_); first | (simp only [Int.not_lt, Int.not_le] at *; go_simp) | (go_values <;> (try go_simp)) | (go_ite <;> go_prune <;> (try go_simp)) | (split <;> (first | (rename_i hx; exact (hx _ rfl).elim) | go_prune))))
    (try simp only [Exit.inBlock, Exit.then])
    (first | (refine ret1 rfl rfl (by (first | exact Res.tmp rfl | exact Res.atw hm rfl | exact Res.at hm rfl)) ?_) | (refine ret2 rfl rfl (by (first | exact Res.tmp rfl | exact Res.atw hm rfl | exact Res.at hm rfl)) (by (first | exact Res.tmp rfl | exact Res.atw hm rfl | exact Res.at hm rfl)) ?_) | (refine ret3 rfl rfl (by (first | exact Res.tmp rfl | exact Res.atw hm rfl | exact Res.at hm rfl)) (by (first | exact Res.tmp rfl | exact Res.atw hm rfl | exact Res.at hm rfl)) (by (first | exact Res.tmp rfl | exact Res.atw hm rfl | exact Res.at hm rfl)) ?_) | (refine ret4 rfl rfl (by (first | exact Res.tmp rfl | exact Res.atw hm rfl | exact Res.at hm rfl)) (by (first | exact Res.tmp rfl | exact Res.atw hm rfl | exact Res.at hm rfl)) (by (first | exact Res.tmp rfl | exact Res.atw hm rfl | exact Res.at hm rfl)) (by (first | exact Res.tmp rfl | exact Res.atw hm rfl | exact Res.at hm rfl)) ?_) | fail "ret")
    exact ⟨rfl, hm.drop (by repeat (first | exact List.Sublist.refl _ | refine List.Sublist.cons _ ?_))⟩
  case true.false =>
    have hA := fun (w : World) (τ : List Blk) (j : Nat) (hm : Mem w0 w τ) (h : At τ g ((S.flatMap stI).map iv ++ more) 55 j) => impl_boards (g := g) (more := more) (i := j) (cap := cap) b hl S hm hq1
    have hC := fun (w : World) (τ : List Blk) (j : Nat) (hm : Mem w0 w τ) (h : At τ gc ((U.flatMap stI).map iv ++ morec) 55 j) => impl_boards_bad (g := gc) (more := morec) (i := j) (cap := capc) c hlc U hm hq2
    generalize ((bdsK b S S.length).flatten).map iv = X1 at *
    generalize ((bdsK c U U.length).flatten).map iv = X2 at *
    generalize sumK2 b S S.length = sm1 at *
    generalize sumK2 c U U.length = sm2 at *
    generalize hcs1 : (S.flatMap stI).map iv ++ more = cs1 at *
    generalize hcs2 : (U.flatMap stI).map iv ++ morec = cs2 at *
    have h16 : ((b.map iv ++ [Value.slice (some ⟨g, 0, none⟩) S.length cap]).take 16) = b.map iv := List.take_left' (by simpa using hl)
    have hv16 : (b.map iv ++ [Value.slice (some ⟨g, 0, none⟩) S.length cap])[16]? = some (Value.slice (some ⟨g, 0, none⟩) S.length cap) := by rw [List.getElem?_append_right (by simp [hl])]; simp [hl]
    have hl17 : (b.map iv ++ [Value.slice (some ⟨g, 0, none⟩) S.length cap]).length = 17 := by simp [hl]
    have h16c : ((c.map iv ++ [Value.slice (some ⟨gc, 0, none⟩) U.length capc]).take 16) = c.map iv := List.take_left' (by simpa using hlc)
    have hv16c : (c.map iv ++ [Value.slice (some ⟨gc, 0, none⟩) U.length capc])[16]? = some (Value.slice (some ⟨gc, 0, none⟩) U.length capc) := by rw [List.getElem?_append_right (by simp [hlc])]; simp [hlc]
    have hl17c : (c.map iv ++ [Value.slice (some ⟨gc, 0, none⟩) U.length capc]).length = 17 := by simp [hlc]
    generalize hrc : b.map iv ++ [Value.slice (some ⟨g, 0, none⟩) S.length cap] = rb at *
    generalize hrcc : c.map iv ++ [Value.slice (some ⟨gc, 0, none⟩) U.length capc] = rcc at *
    have HA := Lib.hid hA
    have HC := Lib.hid hC
    clear hA hC hcs1 hcs2 hrc hrcc hq hq1 hq2
    go_enter Try.func22, Try.ntmps22
    repeat' (first | (go_at_call 45; with_reducible refine mem_callF (F := fun u => .tuple #[u, .bool true]) (HA.out _ _ _ hm inferInstance) ?_; clear hm; intro g1 m1 l1 k1 w hm hf hx; clear hf hx; (try simp only [])) | (go_at_call 45; with_reducible refine mem_callM (HC.out _ _ _ hm inferInstance) ?_; clear hm; intro w hm; (try simp only [])) | ((with_reducible refine gix ?_); first | refine mix rfl rfl rfl rfl ?_ | refine mixr rfl rfl rfl rfl ?_; (try simp only [Int.toNat_zero, Int.reduceToNat, Nat.reduceMul, Nat.zero_mul, Nat.one_mul, List.drop_succ_cons, List.drop_zero, List.take_succ_cons, List.take_zero])) | ((with_reducible refine gl ?_); first | refine ml hm rfl rfl rfl ?_ | refine mlw hm rfl rfl rfl ?_ | (refine mlr hm rfl rfl rfl ?_; try simp only [List.drop_succ_cons, List.drop_zero, List.take_succ_cons, List.take_zero])) | ((with_reducible refine gs ?_); (first | refine ms hm rfl rfl rfl rfl rfl ?_ | refine msw hm rfl rfl rfl rfl ?_ | refine msr hm rfl rfl rfl rfl ?_); clear hm; intro w hm; (try simp only [splice, List.set_cons_zero, List.set_cons_succ] at hm)) | ((with_reducible refine gb ?_); (first | refine mem_box hm rfl rfl rfl ?_ | refine mem_box1 hm rfl rfl rfl rfl ?_); clear hm; intro n w hm) | ((with_reducible refine ga ?_); refine mem_alloc hm rfl rfl ?_; clear hm; intro n w hm) | go_values | go_skip | go_guarded | go_step | go_upon | ((with_reducible refine bp ?_); go_back) | ((with_reducible refine up ?_); first | (simp only [Int.not_lt, Int.not_le] at *; go_simp) | (go_values <;> (try go_simp)) | (go_ite <;> go_prune <;> (try go_simp)) | (split <;> (first | (rename_i hx; exact (hx _ rfl).elim) | go_prune))))
    (try simp only [Exit.inBlock, Exit.then])
    (first | (refine ret1 rfl rfl (by (first | exact Res.tmp rfl | exact Res.atw hm rfl | exact Res.at hm rfl)) ?_) | (refine ret2 rfl rfl (by (first | exact Res.tmp rfl | exact Res.atw hm rfl | exact Res.at hm rfl)) (by (first | exact Res.tmp rfl | exact Res.atw hm rfl | exact Res.at hm rfl)) ?_) | (refine ret3 rfl rfl (by (first | exact Res.tmp rfl | exact Res.atw hm rfl | exact Res.at hm rfl)) (by (first | exact Res.tmp rfl | exact Res.atw hm rfl | exact Res.at hm rfl)) (by (first | exact Res.tmp rfl | exact Res.atw hm rfl | exact Res.at hm rfl)) ?_) | (refine ret4 rfl rfl (by (first | exact Res.tmp rfl | exact Res.atw hm rfl | exact Res.at hm rfl)) (by (first | exact Res.tmp rfl | exact Res.atw hm rfl | exact Res.at hm rfl)) (by (first | exact Res.tmp rfl | exact Res.atw hm rfl | exact Res.at hm rfl)) (by (first | exact Res.tmp rfl | exact Res.atw hm rfl | exact Res.at hm rfl)) ?_) | fail "ret")
    exact ⟨rfl, hm.drop (by repeat (first | exact List.Sublist.refl _ | refine List.Sublist.cons _ ?_))⟩
end Go.Proofs.Ythcjokgjiknheaa

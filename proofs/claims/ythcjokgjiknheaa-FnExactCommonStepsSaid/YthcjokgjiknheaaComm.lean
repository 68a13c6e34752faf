/-
  Walks of CommonSteps.
-/
import Derived.Test.YthcjokgjiknheaaPart
set_option linter.unusedVariables false
set_option linter.unusedSimpArgs false
namespace Go.Proofs.Ythcjokgjiknheaa
open Go.RowKit Slm
def comZ (S U : List Stp) : Int := ixZ (fun k => !decide (stpAt S k = stpAt U k)) (List.range (min S.length U.length))
/-- The number of steps in common at the beginning. -/
def comN (S U : List Stp) : Int := if 0 ≤ comZ S U then comZ S U else (min S.length U.length : Nat)
def comQ (b : List Int) (S : List Stp) (c : List Int) (U : List Stp) : Bool := valR b S && (valR c U && decide (b = c))
def comV (b : List Int) (S : List Stp) (c : List Int) (U : List Stp) : Int := if comQ b S c U = true then comN S U else 0
theorem comN_here {S U : List Stp} {k : Nat} (hk : k < min S.length U.length) (h : ¬ stpAt S k = stpAt U k) (hall : ∀ j, j < k → stpAt S j = stpAt U j) : comN S U = k := by
  have : comZ S U = k := by
    unfold comZ
    refine ixZ_here (by simpa using hk) ?_ (fun j hj => ?_)
    · simp [h]
    · simp [hall j hj]
  unfold comN
  rw [this, if_pos (by omega)]
theorem comN_none {S U : List Stp} (hall : ∀ j, j < min S.length U.length → stpAt S j = stpAt U j) : comN S U = (min S.length U.length : Nat) := by
  have : comZ S U = -1 := by
    unfold comZ
    refine ixZ_none (fun j hj => ?_)
    simp only [List.length_range] at hj
    simp [hall j hj]
  unfold comN
  rw [this, if_neg (by omega)]
set_option maxHeartbeats 2000000 in
theorem spec_CommonSteps {w0 w : World} {σ : List Blk} {g i cap gc ic capc : Nat} {more morec : List Value} (b : List Int) (hl : b.length = 16) (S : List Stp) (c : List Int) (hlc : c.length = 16) (U : List Stp) (hm : Mem w0 w σ) [hAt1 : At σ g ((S.flatMap stI).map iv ++ more) 55 i] [hAt2 : At σ gc ((U.flatMap stI).map iv ++ morec) 55 ic] :
    Calls Try.prog 23 #[.agg (b.map iv ++ [Value.slice (some ⟨g, 0, none⟩) S.length cap]).toArray, .agg (c.map iv ++ [Value.slice (some ⟨gc, 0, none⟩) U.length capc]).toArray] w fun e w' => e = .returned (.tuple #[iv (comV b S c U), .bool (comQ b S c U)]) ∧ Mem w0 w' σ := by
  have hA := fun (w : World) (τ : List Blk) (j : Nat) (hm : Mem w0 w τ) (h : At τ g ((S.flatMap stI).map iv ++ more) 55 j) => spec_IsReplay (g := g) (more := more) (i := j) (cap := cap) b hl S hm
  have hC := fun (w : World) (τ : List Blk) (j : Nat) (hm : Mem w0 w τ) (h : At τ gc ((U.flatMap stI).map iv ++ morec) 55 j) => spec_IsReplay (g := gc) (more := morec) (i := j) (cap := capc) c hlc U hm
  have hG1 := fun (k : Nat) (h : k < S.length) => fm_get h (fun a _ => stI_len a) more
  have hG2 := fun (k : Nat) (h : k < U.length) => fm_get h (fun a _ => stI_len a) morec
  have hn1 : ((S.flatMap stI).map iv ++ more).length = S.length * 4 + more.length := by rw [List.length_append, List.length_map, fm_len S (fun a _ => stI_len a)]
  have hn2 : ((U.flatMap stI).map iv ++ morec).length = U.length * 4 + morec.length := by rw [List.length_append, List.length_map, fm_len U (fun a _ => stI_len a)]
  have h40 : valR b S = true → S.length ≤ 40 := valR_le
  generalize hcs1 : (S.flatMap stI).map iv ++ more = cs1 at *
  generalize hcs2 : (U.flatMap stI).map iv ++ morec = cs2 at *
  clear hcs1 hcs2
  have h16 : ((b.map iv ++ [Value.slice (some ⟨g, 0, none⟩) S.length cap]).take 16) = b.map iv := List.take_left' (by simpa using hl)
  have hv16 : (b.map iv ++ [Value.slice (some ⟨g, 0, none⟩) S.length cap])[16]? = some (Value.slice (some ⟨g, 0, none⟩) S.length cap) := by rw [List.getElem?_append_right (by simp [hl])]; simp [hl]
  have hl17 : (b.map iv ++ [Value.slice (some ⟨g, 0, none⟩) S.length cap]).length = 17 := by simp [hl]
  have h16c : ((c.map iv ++ [Value.slice (some ⟨gc, 0, none⟩) U.length capc]).take 16) = c.map iv := List.take_left' (by simpa using hlc)
  have hv16c : (c.map iv ++ [Value.slice (some ⟨gc, 0, none⟩) U.length capc])[16]? = some (Value.slice (some ⟨gc, 0, none⟩) U.length capc) := by rw [List.getElem?_append_right (by simp [hlc])]; simp [hlc]
  have hl17c : (c.map iv ++ [Value.slice (some ⟨gc, 0, none⟩) U.length capc]).length = 17 := by simp [hlc]
  generalize hrc : b.map iv ++ [Value.slice (some ⟨g, 0, none⟩) S.length cap] = rb at *
  generalize hrcc : c.map iv ++ [Value.slice (some ⟨gc, 0, none⟩) U.length capc] = rcc at *
  have hmin : ((S.length : Int) ≤ U.length ∧ ¬ ((U.length : Int) < S.length)) ∨ ((U.length : Int) < S.length ∧ ¬ ((S.length : Int) ≤ U.length)) := by omega
  cases hq1 : valR b S
  · have e1 : comV b S c U = 0 := by simp [comV, comQ, hq1]
    have e2 : comQ b S c U = false := by simp [comQ, hq1]
    rw [hq1] at hA
    rw [e1, e2]
    have HA := Lib.hid hA
    have HC := Lib.hid hC
    clear hA hC e1 e2 hG1 hG2 hq1 h40
    go_enter Try.func23, Try.ntmps23
    repeat' (first | (go_at_call 14; with_reducible refine mem_callM (HA.out _ _ _ hm inferInstance) ?_; clear hm; intro w hm; (try simp only [])) | (go_at_call 14; with_reducible refine mem_callM (HC.out _ _ _ hm inferInstance) ?_; clear hm; intro w hm; (try simp only [])) | ((with_reducible refine gix ?_); first | refine mix rfl rfl rfl rfl ?_ | refine mixr rfl rfl rfl rfl ?_; (try simp only [Int.toNat_zero, Int.reduceToNat, Nat.reduceMul, Nat.zero_mul, Nat.one_mul, List.drop_succ_cons, List.drop_zero, List.take_succ_cons, List.take_zero])) | ((with_reducible refine gl ?_); first | refine ml hm rfl rfl rfl ?_ | refine mlw hm rfl rfl rfl ?_ | (refine mlr hm rfl rfl rfl ?_; try simp only [List.drop_succ_cons, List.drop_zero, List.take_succ_cons, List.take_zero])) | ((with_reducible refine gs ?_); (first | refine ms hm rfl rfl rfl rfl rfl ?_ | refine msw hm rfl rfl rfl rfl ?_ | refine msr hm rfl rfl rfl rfl ?_); clear hm; intro w hm; (try simp only [splice, List.set_cons_zero, List.set_cons_succ] at hm)) | ((with_reducible refine gb ?_); (first | refine mem_box hm rfl rfl rfl ?_ | refine mem_box1 hm rfl rfl rfl rfl ?_); clear hm; intro n w hm) | ((with_reducible refine ga ?_); refine mem_alloc hm rfl rfl ?_; clear hm; intro n w hm) | go_values | go_skip | go_guarded | go_step | go_upon | ((with_reducible refine bp ?_); go_back) | ((with_reducible refine up ?_); first | (simp only [Int.not_lt, Int.not_le] at *; go_simp) | (go_values <;> (try go_simp)) | (go_ite <;> go_prune <;> (try go_simp)) | (split <;> (first | (rename_i hx; exact (hx _ rfl).elim) | go_prune))))
    (try simp only [Exit.inBlock, Exit.then])
    (first | (refine ret1 rfl rfl (by (first | exact Res.tmp rfl | exact Res.atw hm rfl | exact Res.at hm rfl)) ?_) | (refine ret2 rfl rfl (by (first | exact Res.tmp rfl | exact Res.atw hm rfl | exact Res.at hm rfl)) (by (first | exact Res.tmp rfl | exact Res.atw hm rfl | exact Res.at hm rfl)) ?_) | (refine ret3 rfl rfl (by (first | exact Res.tmp rfl | exact Res.atw hm rfl | exact Res.at hm rfl)) (by (first | exact Res.tmp rfl | exact Res.atw hm rfl | exact Res.at hm rfl)) (by (first | exact Res.tmp rfl | exact Res.atw hm rfl | exact Res.at hm rfl)) ?_) | (refine ret4 rfl rfl (by (first | exact Res.tmp rfl | exact Res.atw hm rfl | exact Res.at hm rfl)) (by (first | exact Res.tmp rfl | exact Res.atw hm rfl | exact Res.at hm rfl)) (by (first | exact Res.tmp rfl | exact Res.atw hm rfl | exact Res.at hm rfl)) (by (first | exact Res.tmp rfl | exact Res.atw hm rfl | exact Res.at hm rfl)) ?_) | fail "ret")
    exact ⟨rfl, hm.drop (by repeat (first | exact List.Sublist.refl _ | refine List.Sublist.cons _ ?_))⟩
  cases hq2 : valR c U
  · have e1 : comV b S c U = 0 := by simp [comV, comQ, hq2]
    have e2 : comQ b S c U = false := by simp [comQ, hq2]
    rw [hq1] at hA
    rw [hq2] at hC
    rw [e1, e2]
    have HA := Lib.hid hA
    have HC := Lib.hid hC
    clear hA hC e1 e2 hG1 hG2 hq1 hq2 h40
    go_enter Try.func23, Try.ntmps23
    repeat' (first | (go_at_call 14; with_reducible refine mem_callM (HA.out _ _ _ hm inferInstance) ?_; clear hm; intro w hm; (try simp only [])) | (go_at_call 14; with_reducible refine mem_callM (HC.out _ _ _ hm inferInstance) ?_; clear hm; intro w hm; (try simp only [])) | ((with_reducible refine gix ?_); first | refine mix rfl rfl rfl rfl ?_ | refine mixr rfl rfl rfl rfl ?_; (try simp only [Int.toNat_zero, Int.reduceToNat, Nat.reduceMul, Nat.zero_mul, Nat.one_mul, List.drop_succ_cons, List.drop_zero, List.take_succ_cons, List.take_zero])) | ((with_reducible refine gl ?_); first | refine ml hm rfl rfl rfl ?_ | refine mlw hm rfl rfl rfl ?_ | (refine mlr hm rfl rfl rfl ?_; try simp only [List.drop_succ_cons, List.drop_zero, List.take_succ_cons, List.take_zero])) | ((with_reducible refine gs ?_); (first | refine ms hm rfl rfl rfl rfl rfl ?_ | refine msw hm rfl rfl rfl rfl ?_ | refine msr hm rfl rfl rfl rfl ?_); clear hm; intro w hm; (try simp only [splice, List.set_cons_zero, List.set_cons_succ] at hm)) | ((with_reducible refine gb ?_); (first | refine mem_box hm rfl rfl rfl ?_ | refine mem_box1 hm rfl rfl rfl rfl ?_); clear hm; intro n w hm) | ((with_reducible refine ga ?_); refine mem_alloc hm rfl rfl ?_; clear hm; intro n w hm) | go_values | go_skip | go_guarded | go_step | go_upon | ((with_reducible refine bp ?_); go_back) | ((with_reducible refine up ?_); first | (simp only [Int.not_lt, Int.not_le] at *; go_simp) | (go_values <;> (try go_simp)) | (go_ite <;> go_prune <;> (try go_simp)) | (split <;> (first | (rename_i hx; exact (hx _ rfl).elim) | go_prune))))
    (try simp only [Exit.inBlock, Exit.then])
    (first | (refine ret1 rfl rfl (by (first | exact Res.tmp rfl | exact Res.atw hm rfl | exact Res.at hm rfl)) ?_) | (refine ret2 rfl rfl (by (first | exact Res.tmp rfl | exact Res.atw hm rfl | exact Res.at hm rfl)) (by (first | exact Res.tmp rfl | exact Res.atw hm rfl | exact Res.at hm rfl)) ?_) | (refine ret3 rfl rfl (by (first | exact Res.tmp rfl | exact Res.atw hm rfl | exact Res.at hm rfl)) (by (first | exact Res.tmp rfl | exact Res.atw hm rfl | exact Res.at hm rfl)) (by (first | exact Res.tmp rfl | exact Res.atw hm rfl | exact Res.at hm rfl)) ?_) | (refine ret4 rfl rfl (by (first | exact Res.tmp rfl | exact Res.atw hm rfl | exact Res.at hm rfl)) (by (first | exact Res.tmp rfl | exact Res.atw hm rfl | exact Res.at hm rfl)) (by (first | exact Res.tmp rfl | exact Res.atw hm rfl | exact Res.at hm rfl)) (by (first | exact Res.tmp rfl | exact Res.atw hm rfl | exact Res.at hm rfl)) ?_) | fail "ret")
    exact ⟨rfl, hm.drop (by repeat (first | exact List.Sublist.refl _ | refine List.Sublist.cons _ ?_))⟩
  by_cases hbc : b = c
  case neg =>
    have e1 : comV b S c U = 0 := by simp [comV, comQ, hbc]
    have e2 : comQ b S c U = false := by simp [comQ, hbc]
    have hd : decide (b = c) = false := by simpa using hbc
    rw [hq1] at hA
    rw [hq2] at hC
    rw [e1, e2]
    have HA := Lib.hid hA
    have HC := Lib.hid hC
    have HD := Lib.hid hd
    clear hA hC e1 e2 hG1 hG2 hq1 hq2 h40 hd hbc
    go_enter Try.func23, Try.ntmps23
    repeat' (first | (with_reducible rw [h16]) | (with_reducible rw [h16c]) | (go_at_call 14; with_reducible refine mem_callM (HA.out _ _ _ hm inferInstance) ?_; clear hm; intro w hm; (try simp only [])) | (go_at_call 14; with_reducible refine mem_callM (HC.out _ _ _ hm inferInstance) ?_; clear hm; intro w hm; (try simp only [])) | ((with_reducible refine gcmp ?_); refine mcmp (HD.out) (by first | exact .inl rfl | exact .inr rfl) rfl rfl rfl rfl ?_; (try simp only [cmpV, Bool.not_true, Bool.not_false])) | ((with_reducible refine gix ?_); first | refine mix rfl rfl rfl rfl ?_ | refine mixr rfl rfl rfl rfl ?_; (try simp only [Int.toNat_zero, Int.reduceToNat, Nat.reduceMul, Nat.zero_mul, Nat.one_mul, List.drop_succ_cons, List.drop_zero, List.take_succ_cons, List.take_zero])) | ((with_reducible refine gl ?_); first | refine ml hm rfl rfl rfl ?_ | refine mlw hm rfl rfl rfl ?_ | (refine mlr hm rfl rfl rfl ?_; try simp only [List.drop_succ_cons, List.drop_zero, List.take_succ_cons, List.take_zero])) | ((with_reducible refine gs ?_); (first | refine ms hm rfl rfl rfl rfl rfl ?_ | refine msw hm rfl rfl rfl rfl ?_ | refine msr hm rfl rfl rfl rfl ?_); clear hm; intro w hm; (try simp only [splice, List.set_cons_zero, List.set_cons_succ] at hm)) | ((with_reducible refine gb ?_); (first | refine mem_box hm rfl rfl rfl ?_ | refine mem_box1 hm rfl rfl rfl rfl ?_); clear hm; intro n w hm) | ((with_reducible refine ga ?_); refine mem_alloc hm rfl rfl ?_; clear hm; intro n w hm) | go_values | go_skip | go_guarded | go_step | go_upon | ((with_reducible refine bp ?_); go_back) | ((with_reducible refine up ?_); first | (simp only [Int.not_lt, Int.not_le] at *; go_simp) | (go_values <;> (try go_simp)) | (go_ite <;> go_prune <;> (try go_simp)) | (split <;> (first | (rename_i hx; exact (hx _ rfl).elim) | go_prune))))
    (try simp only [Exit.inBlock, Exit.then])
    (first | (refine ret1 rfl rfl (by (first | exact Res.tmp rfl | exact Res.atw hm rfl | exact Res.at hm rfl)) ?_) | (refine ret2 rfl rfl (by (first | exact Res.tmp rfl | exact Res.atw hm rfl | exact Res.at hm rfl)) (by (first | exact Res.tmp rfl | exact Res.atw hm rfl | exact Res.at hm rfl)) ?_) | (refine ret3 rfl rfl (by (first | exact Res.tmp rfl | exact Res.atw hm rfl | exact Res.at hm rfl)) (by (first | exact Res.tmp rfl | exact Res.atw hm rfl | exact Res.at hm rfl)) (by (first | exact Res.tmp rfl | exact Res.atw hm rfl | exact Res.at hm rfl)) ?_) | (refine ret4 rfl rfl (by (first | exact Res.tmp rfl | exact Res.atw hm rfl | exact Res.at hm rfl)) (by (first | exact Res.tmp rfl | exact Res.atw hm rfl | exact Res.at hm rfl)) (by (first | exact Res.tmp rfl | exact Res.atw hm rfl | exact Res.at hm rfl)) (by (first | exact Res.tmp rfl | exact Res.atw hm rfl | exact Res.at hm rfl)) ?_) | fail "ret")
    exact ⟨rfl, hm.drop (by repeat (first | exact List.Sublist.refl _ | refine List.Sublist.cons _ ?_))⟩
  have e2 : comQ b S c U = true := by rw [comQ, hq1, hq2]; simp [hbc]
  have e1 : comV b S c U = comN S U := by simp [comV, e2]
  have hd : decide (b = c) = true := by simpa using hbc
  have hS40 := h40 hq1
  rw [hq1] at hA
  rw [hq2] at hC
  rw [e1, e2]
  have HA := Lib.hid hA
  have HC := Lib.hid hC
  have HD := Lib.hid hd
  have HG1 := Lib.hid hG1
  have HG2 := Lib.hid hG2
  clear hA hC e1 e2 hG1 hG2 hq1 hq2 h40 hd hbc
  go_enter Try.func23, Try.ntmps23
  repeat' (first | (with_reducible rw [h16]) | (with_reducible rw [h16c]) | (go_at_call 14; with_reducible refine mem_callM (HA.out _ _ _ hm inferInstance) ?_; clear hm; intro w hm; (try simp only [])) | (go_at_call 14; with_reducible refine mem_callM (HC.out _ _ _ hm inferInstance) ?_; clear hm; intro w hm; (try simp only [])) | ((with_reducible refine gcmp ?_); refine mcmp (HD.out) (by first | exact .inl rfl | exact .inr rfl) rfl rfl rfl rfl ?_; (try simp only [cmpV, Bool.not_true, Bool.not_false])) | ((with_reducible refine gix ?_); first | refine mix rfl rfl rfl rfl ?_ | refine mixr rfl rfl rfl rfl ?_; (try simp only [Int.toNat_zero, Int.reduceToNat, Nat.reduceMul, Nat.zero_mul, Nat.one_mul, List.drop_succ_cons, List.drop_zero, List.take_succ_cons, List.take_zero])) | ((with_reducible refine gl ?_); first | refine ml hm rfl rfl rfl ?_ | refine mlw hm rfl rfl rfl ?_ | (refine mlr hm rfl rfl rfl ?_; try simp only [List.drop_succ_cons, List.drop_zero, List.take_succ_cons, List.take_zero])) | ((with_reducible refine gs ?_); (first | refine ms hm rfl rfl rfl rfl rfl ?_ | refine msw hm rfl rfl rfl rfl ?_ | refine msr hm rfl rfl rfl rfl ?_); clear hm; intro w hm; (try simp only [splice, List.set_cons_zero, List.set_cons_succ] at hm)) | ((with_reducible refine gb ?_); (first | refine mem_box hm rfl rfl rfl ?_ | refine mem_box1 hm rfl rfl rfl rfl ?_); clear hm; intro n w hm) | ((with_reducible refine ga ?_); refine mem_alloc hm rfl rfl ?_; clear hm; intro n w hm) | go_values | go_skip | go_guarded | go_step | go_upon | ((with_reducible refine bp ?_); go_back) | ((with_reducible refine up ?_); first | (simp only [Int.not_lt, Int.not_le] at *; go_simp) | (go_values <;> (try go_simp)) | (go_ite <;> go_prune <;> (try go_simp)) | (split <;> (first | (rename_i hx; exact (hx _ rfl).elim) | go_prune))))
  obtain ⟨τ, hτ, hm⟩ := Mem.sig hm
  go_loopw [6] (fun n wr => ∃ k : Nat, k ≤ min S.length U.length ∧ n = iv k ∧ (Unit → Hid (∀ j, j < k → stpAt S j = stpAt U j)) ∧ Mem w0 wr τ) (fun n _ => S.length - (intOf n).toNat)
  case atStart => exact ⟨0, by omega, rfl, fun _ => Lib.hid (by intro j h; omega), hm⟩
  case round =>
    clear hm
    obtain ⟨k, hk, rfl, HK, hm⟩ := hrel
    subst hτ
    rcases hmin with ⟨hmin, hmin2⟩ | ⟨hmin, hmin2⟩
    all_goals
      by_cases hlt : k < min S.length U.length
      · have hlt1 : k < S.length := by omega
        have hlt2 : k < U.length := by omega
        have hi1 : (k : Int) < S.length := by omega
        have hi2 : (k : Int) < U.length := by omega
        have hv1 := HG1.out k hlt1
        have hv2 := HG2.out k hlt2
        rw [← stpAt_get hlt1] at hv1
        rw [← stpAt_get hlt2] at hv2
        have hl1 := stI_len (stpAt S k)
        have hl2 := stI_len (stpAt U k)
        have hinj : stI (stpAt S k) = stI (stpAt U k) ↔ stpAt S k = stpAt U k := stI_inj
        by_cases hs : stpAt S k = stpAt U k
        · have hdd : decide (stI (stpAt S k) = stI (stpAt U k)) = true := by simpa using hinj.2 hs
          have HS : Unit → Hid _ := fun _ => Lib.hid hs
          have HDD : Unit → Hid _ := fun _ => Lib.hid hdd
          clear hs hdd hinj
          generalize stI (stpAt S k) = s1 at *
          generalize stI (stpAt U k) = s2 at *
          repeat' (first | (with_reducible rw [hv1]) | (with_reducible rw [hv2]) | ((with_reducible refine gd ?_); refine mf_start (st := []) hm (by kernel_rfl) (by kernel_rfl) rfl ?_; intro hne; (repeat (first | (with_reducible rw [hv1]) | (with_reducible rw [hv2]) | ((with_reducible refine gcmpF ?_); refine fcmp ((HDD ()).out) (by first | exact .inl rfl | exact .inr rfl) rfl rfl rfl rfl ?_; (try simp only [cmpV, Bool.not_true, Bool.not_false])) | ((with_reducible refine gfl ?_); first | refine fl rfl rfl rfl ?_ | refine flw rfl rfl rfl ?_ | (refine flr rfl rfl rfl ?_; try simp only [List.drop_succ_cons, List.drop_zero, List.take_succ_cons, List.take_zero])) | ((with_reducible refine gfs ?_); first | refine fs rfl rfl rfl rfl rfl ?_ | refine fsw rfl rfl rfl rfl ?_ | refine fsr rfl rfl rfl rfl ?_) | (refine wpF_step (by rfl) (hne _ (by decide)) ?_; intro hn K hK; go_simp; (try go_ints); (try simp [↓IntWalk.iteOmega, go_sem]); first | (refine hK _ ?_; clear hK K hn) | (apply Exists.intro; refine ⟨fun _ => ?_, hK _ ?_⟩; (first | (with_reducible rw [hv1]) | (with_reducible rw [hv2]) | fail); clear hK K hn)))); refine wpF_nil ?_; clear hm hne; intro w hm; (try simp only [famEnd, modB, splice, List.set_cons_zero, List.set_cons_succ, set_iv] at hm)) | ((with_reducible refine gix ?_); first | refine mix rfl rfl rfl rfl ?_ | refine mixr rfl rfl rfl rfl ?_; (try simp only [Int.toNat_zero, Int.reduceToNat, Nat.reduceMul, Nat.zero_mul, Nat.one_mul, List.drop_succ_cons, List.drop_zero, List.take_succ_cons, List.take_zero])) | ((with_reducible refine gl ?_); first | refine ml hm rfl rfl rfl ?_ | refine mlw hm rfl rfl rfl ?_ | (refine mlr hm rfl rfl rfl ?_; try simp only [List.drop_succ_cons, List.drop_zero, List.take_succ_cons, List.take_zero])) | ((with_reducible refine gs ?_); (first | refine ms hm rfl rfl rfl rfl rfl ?_ | refine msw hm rfl rfl rfl rfl ?_ | refine msr hm rfl rfl rfl rfl ?_); clear hm; intro w hm; (try simp only [splice, List.set_cons_zero, List.set_cons_succ] at hm)) | ((with_reducible refine gb ?_); (first | refine mem_box hm rfl rfl rfl ?_ | refine mem_box1 hm rfl rfl rfl rfl ?_); clear hm; intro n w hm) | ((with_reducible refine ga ?_); refine mem_alloc hm rfl rfl ?_; clear hm; intro n w hm) | go_values | go_skip | go_guarded | go_step | go_upon | ((with_reducible refine bp ?_); go_back) | ((with_reducible refine up ?_); first | (simp only [Int.not_lt, Int.not_le] at *; go_simp) | (go_values <;> (try go_simp)) | (go_ite <;> go_prune <;> (try go_simp)) | (split <;> (first | (rename_i hx; exact (hx _ rfl).elim) | go_prune))))
          go_roundw
          case rel =>
            (try (first | ((repeat apply Exists.intro); refine ⟨?_, rfl⟩) | (repeat refine ex_any ?_)))
            refine ⟨k + 1, by omega, by go_num, fun _ => Lib.hid (fun j h => ?_), hm⟩
            by_cases hj : j = k
            · subst hj; exact (HS ()).out
            · exact (HK ()).out j (by omega)
          case measure => simp [intOf]; omega
        · have hz := comN_here hlt hs (HK ()).out
          have hdd : decide (stI (stpAt S k) = stI (stpAt U k)) = false := by simp [hinj, hs]
          have HZ : Unit → Hid _ := fun _ => Lib.hid hz
          have HDD : Unit → Hid _ := fun _ => Lib.hid hdd
          clear hs hdd hinj hz
          generalize stI (stpAt S k) = s1 at *
          generalize stI (stpAt U k) = s2 at *
          repeat' (first | (with_reducible rw [hv1]) | (with_reducible rw [hv2]) | ((with_reducible refine gd ?_); refine mf_start (st := []) hm (by kernel_rfl) (by kernel_rfl) rfl ?_; intro hne; (repeat (first | (with_reducible rw [hv1]) | (with_reducible rw [hv2]) | ((with_reducible refine gcmpF ?_); refine fcmp ((HDD ()).out) (by first | exact .inl rfl | exact .inr rfl) rfl rfl rfl rfl ?_; (try simp only [cmpV, Bool.not_true, Bool.not_false])) | ((with_reducible refine gfl ?_); first | refine fl rfl rfl rfl ?_ | refine flw rfl rfl rfl ?_ | (refine flr rfl rfl rfl ?_; try simp only [List.drop_succ_cons, List.drop_zero, List.take_succ_cons, List.take_zero])) | ((with_reducible refine gfs ?_); first | refine fs rfl rfl rfl rfl rfl ?_ | refine fsw rfl rfl rfl rfl ?_ | refine fsr rfl rfl rfl rfl ?_) | (refine wpF_step (by rfl) (hne _ (by decide)) ?_; intro hn K hK; go_simp; (try go_ints); (try simp [↓IntWalk.iteOmega, go_sem]); first | (refine hK _ ?_; clear hK K hn) | (apply Exists.intro; refine ⟨fun _ => ?_, hK _ ?_⟩; (first | (with_reducible rw [hv1]) | (with_reducible rw [hv2]) | fail); clear hK K hn)))); refine wpF_nil ?_; clear hm hne; intro w hm; (try simp only [famEnd, modB, splice, List.set_cons_zero, List.set_cons_succ, set_iv] at hm)) | ((with_reducible refine gix ?_); first | refine mix rfl rfl rfl rfl ?_ | refine mixr rfl rfl rfl rfl ?_; (try simp only [Int.toNat_zero, Int.reduceToNat, Nat.reduceMul, Nat.zero_mul, Nat.one_mul, List.drop_succ_cons, List.drop_zero, List.take_succ_cons, List.take_zero])) | ((with_reducible refine gl ?_); first | refine ml hm rfl rfl rfl ?_ | refine mlw hm rfl rfl rfl ?_ | (refine mlr hm rfl rfl rfl ?_; try simp only [List.drop_succ_cons, List.drop_zero, List.take_succ_cons, List.take_zero])) | ((with_reducible refine gs ?_); (first | refine ms hm rfl rfl rfl rfl rfl ?_ | refine msw hm rfl rfl rfl rfl ?_ | refine msr hm rfl rfl rfl rfl ?_); clear hm; intro w hm; (try simp only [splice, List.set_cons_zero, List.set_cons_succ] at hm)) | ((with_reducible refine gb ?_); (first | refine mem_box hm rfl rfl rfl ?_ | refine mem_box1 hm rfl rfl rfl rfl ?_); clear hm; intro n w hm) | ((with_reducible refine ga ?_); refine mem_alloc hm rfl rfl ?_; clear hm; intro n w hm) | go_values | go_skip | go_guarded | go_step | go_upon | ((with_reducible refine bp ?_); go_back) | ((with_reducible refine up ?_); first | (simp only [Int.not_lt, Int.not_le] at *; go_simp) | (go_values <;> (try go_simp)) | (go_ite <;> go_prune <;> (try go_simp)) | (split <;> (first | (rename_i hx; exact (hx _ rfl).elim) | go_prune))))
          (try simp only [Exit.inBlock, Exit.then])
          (first | (refine ret1 rfl rfl (by (first | exact Res.tmp rfl | exact Res.atw hm rfl | exact Res.at hm rfl)) ?_) | (refine ret2 rfl rfl (by (first | exact Res.tmp rfl | exact Res.atw hm rfl | exact Res.at hm rfl)) (by (first | exact Res.tmp rfl | exact Res.atw hm rfl | exact Res.at hm rfl)) ?_) | (refine ret3 rfl rfl (by (first | exact Res.tmp rfl | exact Res.atw hm rfl | exact Res.at hm rfl)) (by (first | exact Res.tmp rfl | exact Res.atw hm rfl | exact Res.at hm rfl)) (by (first | exact Res.tmp rfl | exact Res.atw hm rfl | exact Res.at hm rfl)) ?_) | (refine ret4 rfl rfl (by (first | exact Res.tmp rfl | exact Res.atw hm rfl | exact Res.at hm rfl)) (by (first | exact Res.tmp rfl | exact Res.atw hm rfl | exact Res.at hm rfl)) (by (first | exact Res.tmp rfl | exact Res.atw hm rfl | exact Res.at hm rfl)) (by (first | exact Res.tmp rfl | exact Res.atw hm rfl | exact Res.at hm rfl)) ?_) | fail "ret")
          rw [(HZ ()).out]
          exact ⟨rfl, hm.drop (by repeat (first | exact List.Sublist.refl _ | refine List.Sublist.cons _ ?_))⟩
      · have hz := comN_none (fun j hj => (HK ()).out j (by omega))
        have hzk : comN S U = (k : Int) := by rw [hz]; omega
        have HZ : Unit → Hid _ := fun _ => Lib.hid hzk
        clear hz hzk
        have hi1 : ((k : Int) < S.length) ∨ ¬ ((k : Int) < S.length) := by omega
        have hi2 : ((k : Int) < U.length) ∨ ¬ ((k : Int) < U.length) := by omega
        rcases hi1 with hi1 | hi1 <;> rcases hi2 with hi2 | hi2
        all_goals first | (exfalso; omega) | skip
        all_goals
          repeat' (first | ((with_reducible refine gd ?_); refine mf_start (st := []) hm (by kernel_rfl) (by kernel_rfl) rfl ?_; intro hne; (repeat (first | ((with_reducible refine gfl ?_); first | refine fl rfl rfl rfl ?_ | refine flw rfl rfl rfl ?_ | (refine flr rfl rfl rfl ?_; try simp only [List.drop_succ_cons, List.drop_zero, List.take_succ_cons, List.take_zero])) | ((with_reducible refine gfs ?_); first | refine fs rfl rfl rfl rfl rfl ?_ | refine fsw rfl rfl rfl rfl ?_ | refine fsr rfl rfl rfl rfl ?_) | (refine wpF_step (by rfl) (hne _ (by decide)) ?_; intro hn K hK; go_simp; (try go_ints); (try simp [↓IntWalk.iteOmega, go_sem]); first | (refine hK _ ?_; clear hK K hn) | (apply Exists.intro; refine ⟨fun _ => ?_, hK _ ?_⟩; (first | fail | fail); clear hK K hn)))); refine wpF_nil ?_; clear hm hne; intro w hm; (try simp only [famEnd, modB, splice, List.set_cons_zero, List.set_cons_succ, set_iv] at hm)) | ((with_reducible refine gix ?_); first | refine mix rfl rfl rfl rfl ?_ | refine mixr rfl rfl rfl rfl ?_; (try simp only [Int.toNat_zero, Int.reduceToNat, Nat.reduceMul, Nat.zero_mul, Nat.one_mul, List.drop_succ_cons, List.drop_zero, List.take_succ_cons, List.take_zero])) | ((with_reducible refine gl ?_); first | refine ml hm rfl rfl rfl ?_ | refine mlw hm rfl rfl rfl ?_ | (refine mlr hm rfl rfl rfl ?_; try simp only [List.drop_succ_cons, List.drop_zero, List.take_succ_cons, List.take_zero])) | ((with_reducible refine gs ?_); (first | refine ms hm rfl rfl rfl rfl rfl ?_ | refine msw hm rfl rfl rfl rfl ?_ | refine msr hm rfl rfl rfl rfl ?_); clear hm; intro w hm; (try simp only [splice, List.set_cons_zero, List.set_cons_succ] at hm)) | ((with_reducible refine gb ?_); (first | refine mem_box hm rfl rfl rfl ?_ | refine mem_box1 hm rfl rfl rfl rfl ?_); clear hm; intro n w hm) | ((with_reducible refine ga ?_); refine mem_alloc hm rfl rfl ?_; clear hm; intro n w hm) | go_values | go_skip | go_guarded | go_step | go_upon | ((with_reducible refine bp ?_); go_back) | ((with_reducible refine up ?_); first | (simp only [Int.not_lt, Int.not_le] at *; go_simp) | (go_values <;> (try go_simp)) | (go_ite <;> go_prune <;> (try go_simp)) | (split <;> (first | (rename_i hx; exact (hx _ rfl).elim) | go_prune))))
          (try simp only [Exit.inBlock, Exit.then])
          (first | (refine ret1 rfl rfl (by (first | exact Res.tmp rfl | exact Res.atw hm rfl | exact Res.at hm rfl)) ?_) | (refine ret2 rfl rfl (by (first | exact Res.tmp rfl | exact Res.atw hm rfl | exact Res.at hm rfl)) (by (first | exact Res.tmp rfl | exact Res.atw hm rfl | exact Res.at hm rfl)) ?_) | (refine ret3 rfl rfl (by (first | exact Res.tmp rfl | exact Res.atw hm rfl | exact Res.at hm rfl)) (by (first | exact Res.tmp rfl | exact Res.atw hm rfl | exact Res.at hm rfl)) (by (first | exact Res.tmp rfl | exact Res.atw hm rfl | exact Res.at hm rfl)) ?_) | (refine ret4 rfl rfl (by (first | exact Res.tmp rfl | exact Res.atw hm rfl | exact Res.at hm rfl)) (by (first | exact Res.tmp rfl | exact Res.atw hm rfl | exact Res.at hm rfl)) (by (first | exact Res.tmp rfl | exact Res.atw hm rfl | exact Res.at hm rfl)) (by (first | exact Res.tmp rfl | exact Res.atw hm rfl | exact Res.at hm rfl)) ?_) | fail "ret")
          rw [(HZ ()).out]
          exact ⟨rfl, hm.drop (by repeat (first | exact List.Sublist.refl _ | refine List.Sublist.cons _ ?_))⟩
set_option maxHeartbeats 2000000 in
theorem impl_CommonSteps {w0 w : World} {σ : List Blk} {g i cap gc ic capc : Nat} {more morec : List Value} (b : List Int) (hl : b.length = 16) (S : List Stp) (c : List Int) (hlc : c.length = 16) (U : List Stp) (hm : Mem w0 w σ) [hAt1 : At σ g ((S.flatMap stI).map iv ++ more) 55 i] [hAt2 : At σ gc ((U.flatMap stI).map iv ++ morec) 55 ic] :
    Calls Try.prog 24 #[.agg (b.map iv ++ [Value.slice (some ⟨g, 0, none⟩) S.length cap]).toArray, .agg (c.map iv ++ [Value.slice (some ⟨gc, 0, none⟩) U.length capc]).toArray] w fun e w' => e = .returned (.tuple #[iv (comV b S c U), .bool (comQ b S c U)]) ∧ Mem w0 w' σ := by
  have hA := fun (w : World) (τ : List Blk) (j : Nat) (hm : Mem w0 w τ) (h : At τ g ((S.flatMap stI).map iv ++ more) 55 j) => impl_IsReplay (g := g) (more := more) (i := j) (cap := cap) b hl S hm
  have hC := fun (w : World) (τ : List Blk) (j : Nat) (hm : Mem w0 w τ) (h : At τ gc ((U.flatMap stI).map iv ++ morec) 55 j) => impl_IsReplay (g := gc) (more := morec) (i := j) (cap := capc) c hlc U hm
  have hG1 := fun (k : Nat) (h : k < S.length) => fm_get h (fun a _ => stI_len a) more
  have hG2 := fun (k : Nat) (h : k < U.length) => fm_get h (fun a _ => stI_len a) morec
  have hn1 : ((S.flatMap stI).map iv ++ more).length = S.length * 4 + more.length := by rw [List.length_append, List.length_map, fm_len S (fun a _ => stI_len a)]
  have hn2 : ((U.flatMap stI).map iv ++ morec).length = U.length * 4 + morec.length := by rw [List.length_append, List.length_map, fm_len U (fun a _ => stI_len a)]
  have h40 : valR b S = true → S.length ≤ 40 := valR_le
  generalize hcs1 : (S.flatMap stI).map iv ++ more = cs1 at *
  generalize hcs2 : (U.flatMap stI).map iv ++ morec = cs2 at *
  clear hcs1 hcs2
  have h16 : ((b.map iv ++ [Value.slice (some ⟨g, 0, none⟩) S.length cap]).take 16) = b.map iv := List.take_left' (by simpa using hl)
  have hv16 : (b.map iv ++ [Value.slice (some ⟨g, 0, none⟩) S.length cap])[16]? = some (Value.slice (some ⟨g, 0, none⟩) S.length cap) := by rw [List.getElem?_append_right (by simp [hl])]; simp [hl]
  have hl17 : (b.map iv ++ [Value.slice (some ⟨g, 0, none⟩) S.length cap]).length = 17 := by simp [hl]
  have h16c : ((c.map iv ++ [Value.slice (some ⟨gc, 0, none⟩) U.length capc]).take 16) = c.map iv := List.take_left' (by simpa using hlc)
  have hv16c : (c.map iv ++ [Value.slice (some ⟨gc, 0, none⟩) U.length capc])[16]? = some (Value.slice (some ⟨gc, 0, none⟩) U.length capc) := by rw [List.getElem?_append_right (by simp [hlc])]; simp [hlc]
  have hl17c : (c.map iv ++ [Value.slice (some ⟨gc, 0, none⟩) U.length capc]).length = 17 := by simp [hlc]
  generalize hrc : b.map iv ++ [Value.slice (some ⟨g, 0, none⟩) S.length cap] = rb at *
  generalize hrcc : c.map iv ++ [Value.slice (some ⟨gc, 0, none⟩) U.length capc] = rcc at *
  have hmin : ((S.length : Int) ≤ U.length ∧ ¬ ((U.length : Int) < S.length)) ∨ ((U.length : Int) < S.length ∧ ¬ ((S.length : Int) ≤ U.length)) := by omega
  cases hq1 : valR b S
  · have e1 : comV b S c U = 0 := by simp [comV, comQ, hq1]
    have e2 : comQ b S c U = false := by simp [comQ, hq1]
    rw [hq1] at hA
    rw [e1, e2]
    have HA := Lib.hid hA
    have HC := Lib.hid hC
    clear hA hC e1 e2 hG1 hG2 hq1 h40
    go_enter Try.func24, Try.ntmps24
    repeat' (first | (go_at_call 16; with_reducible refine mem_callM (HA.out _ _ _ hm inferInstance) ?_; clear hm; intro w hm; (try simp only [])) | (go_at_call 16; with_reducible refine mem_callM (HC.out _ _ _ hm inferInstance) ?_; clear hm; intro w hm; (try simp only [])) | ((with_reducible refine gix ?_); first | refine mix rfl rfl rfl rfl ?_ | refine mixr rfl rfl rfl rfl ?_; (try simp only [Int.toNat_zero, Int.reduceToNat, Nat.reduceMul, Nat.zero_mul, Nat.one_mul, List.drop_succ_cons, List.drop_zero, List.take_succ_cons, List.take_zero])) | ((with_reducible refine gl ?_); first | refine ml hm rfl rfl rfl ?_ | refine mlw hm rfl rfl rfl ?_ | (refine mlr hm rfl rfl rfl ?_; try simp only [List.drop_succ_cons, List.drop_zero, List.take_succ_cons, List.take_zero])) | ((with_reducible refine gs ?_); (first | refine ms hm rfl rfl rfl rfl rfl ?_ | refine msw hm rfl rfl rfl rfl ?_ | refine msr hm rfl rfl rfl rfl ?_); clear hm; intro w hm; (try simp only [splice, List.set_cons_zero, List.set_cons_succ] at hm)) | ((with_reducible refine gb ?_); (first | refine mem_box hm rfl rfl rfl ?_ | refine mem_box1 hm rfl rfl rfl rfl ?_); clear hm; intro n w hm) | ((with_reducible refine ga ?_); refine mem_alloc hm rfl rfl ?_; clear hm; intro n w hm) | go_values | go_skip | go_guarded | go_step | go_upon | ((with_reducible refine bp ?_); go_back) | ((with_reducible refine up ?_); first | (simp only [Int.not_lt, Int.not_le] at *; go_simp) | (go_values <;> (try go_simp)) | (go_ite <;> go_prune <;> (try go_simp)) | (split <;> (first | (rename_i hx; exact (hx _ rfl).elim) | go_prune))))
    (try simp only [Exit.inBlock, Exit.then])
    (first | (refine ret1 rfl rfl (by (first | exact Res.tmp rfl | exact Res.atw hm rfl | exact Res.at hm rfl)) ?_) | (refine ret2 rfl rfl (by (first | exact Res.tmp rfl | exact Res.atw hm rfl | exact Res.at hm rfl)) (by (first | exact Res.tmp rfl | exact Res.atw hm rfl | exact Res.at hm rfl)) ?_) | (refine ret3 rfl rfl (by (first | exact Res.tmp rfl | exact Res.atw hm rfl | exact Res.at hm rfl)) (by (first | exact Res.tmp rfl | exact Res.atw hm rfl | exact Res.at hm rfl)) (by (first | exact Res.tmp rfl | exact Res.atw hm rfl | exact Res.at hm rfl)) ?_) | (refine ret4 rfl rfl (by (first | exact Res.tmp rfl | exact Res.atw hm rfl | exact Res.at hm rfl)) (by (first | exact Res.tmp rfl | exact Res.atw hm rfl | exact Res.at hm rfl)) (by (first | exact Res.tmp rfl | exact Res.atw hm rfl | exact Res.at hm rfl)) (by (first | exact Res.tmp rfl | exact Res.atw hm rfl | exact Res.at hm rfl)) ?_) | fail "ret")
    exact ⟨rfl, hm.drop (by repeat (first | exact List.Sublist.refl _ | refine List.Sublist.cons _ ?_))⟩
  cases hq2 : valR c U
  · have e1 : comV b S c U = 0 := by simp [comV, comQ, hq2]
    have e2 : comQ b S c U = false := by simp [comQ, hq2]
    rw [hq1] at hA
    rw [hq2] at hC
    rw [e1, e2]
    have HA := Lib.hid hA
    have HC := Lib.hid hC
    clear hA hC e1 e2 hG1 hG2 hq1 hq2 h40
    go_enter Try.func24, Try.ntmps24
    repeat' (first | (go_at_call 16; with_reducible refine mem_callM (HA.out _ _ _ hm inferInstance) ?_; clear hm; intro w hm; (try simp only [])) | (go_at_call 16; with_reducible refine mem_callM (HC.out _ _ _ hm inferInstance) ?_; clear hm; intro w hm; (try simp only [])) | ((with_reducible refine gix ?_); first | refine mix rfl rfl rfl rfl ?_ | refine mixr rfl rfl rfl rfl ?_; (try simp only [Int.toNat_zero, Int.reduceToNat, Nat.reduceMul, Nat.zero_mul, Nat.one_mul, List.drop_succ_cons, List.drop_zero, List.take_succ_cons, List.take_zero])) | ((with_reducible refine gl ?_); first | refine ml hm rfl rfl rfl ?_ | refine mlw hm rfl rfl rfl ?_ | (refine mlr hm rfl rfl rfl ?_; try simp only [List.drop_succ_cons, List.drop_zero, List.take_succ_cons, List.take_zero])) | ((with_reducible refine gs ?_); (first | refine ms hm rfl rfl rfl rfl rfl ?_ | refine msw hm rfl rfl rfl rfl ?_ | refine msr hm rfl rfl rfl rfl ?_); clear hm; intro w hm; (try simp only [splice, List.set_cons_zero, List.set_cons_succ] at hm)) | ((with_reducible refine gb ?_); (first | refine mem_box hm rfl rfl rfl ?_ | refine mem_box1 hm rfl rfl rfl rfl ?_); clear hm; intro n w hm) | ((with_reducible refine ga ?_); refine mem_alloc hm rfl rfl ?_; clear hm; intro n w hm) | go_values | go_skip | go_guarded | go_step | go_upon | ((with_reducible refine bp ?_); go_back) | ((with_reducible refine up ?_); first | (simp only [Int.not_lt, Int.not_le] at *; go_simp) | (go_values <;> (try go_simp)) | (go_ite <;> go_prune <;> (try go_simp)) | (split <;> (first | (rename_i hx; exact (hx _ rfl).elim) | go_prune))))
    (try simp only [Exit.inBlock, Exit.then])
    (first | (refine ret1 rfl rfl (by (first | exact Res.tmp rfl | exact Res.atw hm rfl | exact Res.at hm rfl)) ?_) | (refine ret2 rfl rfl (by (first | exact Res.tmp rfl | exact Res.atw hm rfl | exact Res.at hm rfl)) (by (first | exact Res.tmp rfl | exact Res.atw hm rfl | exact Res.at hm rfl)) ?_) | (refine ret3 rfl rfl (by (first | exact Res.tmp rfl | exact Res.atw hm rfl | exact Res.at hm rfl)) (by (first | exact Res.tmp rfl | exact Res.atw hm rfl | exact Res.at hm rfl)) (by (first | exact Res.tmp rfl | exact Res.atw hm rfl | exact Res.at hm rfl)) ?_) | (refine ret4 rfl rfl (by (first | exact Res.tmp rfl | exact Res.atw hm rfl | exact Res.at hm rfl)) (by (first | exact Res.tmp rfl | exact Res.atw hm rfl | exact Res.at hm rfl)) (by (first | exact Res.tmp rfl | exact Res.atw hm rfl | exact Res.at hm rfl)) (by (first | exact Res.tmp rfl | exact Res.atw hm rfl | exact Res.at hm rfl)) ?_) | fail "ret")
    exact ⟨rfl, hm.drop (by repeat (first | exact List.Sublist.refl _ | refine List.Sublist.cons _ ?_))⟩
  by_cases hbc : b = c
  case neg =>
    have e1 : comV b S c U = 0 := by simp [comV, comQ, hbc]
    have e2 : comQ b S c U = false := by simp [comQ, hbc]
    have hd : decide (b = c) = false := by simpa using hbc
    rw [hq1] at hA
    rw [hq2] at hC
    rw [e1, e2]
    have HA := Lib.hid hA
    have HC := Lib.hid hC
    have HD := Lib.hid hd
    clear hA hC e1 e2 hG1 hG2 hq1 hq2 h40 hd hbc
    go_enter Try.func24, Try.ntmps24
    repeat' (first | (with_reducible rw [h16]) | (with_reducible rw [h16c]) | (go_at_call 16; with_reducible refine mem_callM (HA.out _ _ _ hm inferInstance) ?_; clear hm; intro w hm; (try simp only [])) | (go_at_call 16; with_reducible refine mem_callM (HC.out _ _ _ hm inferInstance) ?_; clear hm; intro w hm; (try simp only [])) | ((with_reducible refine gcmp ?_); refine mcmp (HD.out) (by first | exact .inl rfl | exact .inr rfl) rfl rfl rfl rfl ?_; (try simp only [cmpV, Bool.not_true, Bool.not_false])) | ((with_reducible refine gix ?_); first | refine mix rfl rfl rfl rfl ?_ | refine mixr rfl rfl rfl rfl ?_; (try simp only [Int.toNat_zero, Int.reduceToNat, Nat.reduceMul, Nat.zero_mul, Nat.one_mul, List.drop_succ_cons, List.drop_zero, List.take_succ_cons, List.take_zero])) | ((with_reducible refine gl ?_); first | refine ml hm rfl rfl rfl ?_ | refine mlw hm rfl rfl rfl ?_ | (refine mlr hm rfl rfl rfl ?_; try simp only [List.drop_succ_cons, List.drop_zero, List.take_succ_cons, List.take_zero])) | ((with_reducible refine gs ?_); (first | refine ms hm rfl rfl rfl rfl rfl ?_ | refine msw hm rfl rfl rfl rfl ?_ | refine msr hm rfl rfl rfl rfl ?_); clear hm; intro w hm; (try simp only [splice, List.set_cons_zero, List.set_cons_succ] at hm)) | ((with_reducible refine gb ?_); (first | refine mem_box hm rfl rfl rfl ?_ | refine mem_box1 hm rfl rfl rfl rfl ?_); clear hm; intro n w hm) | ((with_reducible refine ga ?_); refine mem_alloc hm rfl rfl ?_; clear hm; intro n w hm) | go_values | go_skip | go_guarded | go_step | go_upon | ((with_reducible refine bp ?_); go_back) | ((with_reducible refine up ?_); first | (simp only [Int.not_lt, Int.not_le] at *; go_simp) | (go_values <;> (try go_simp)) | (go_ite <;> go_prune <;> (try go_simp)) | (split <;> (first | (rename_i hx; exact (hx _ rfl).elim) | go_prune))))
    (try simp only [Exit.inBlock, Exit.then])
    (first | (refine ret1 rfl rfl (by (first | exact Res.tmp rfl | exact Res.atw hm rfl | exact Res.at hm rfl)) ?_) | (refine ret2 rfl rfl (by (first | exact Res.tmp rfl | exact Res.atw hm rfl | exact Res.at hm rfl)) (by (first | exact Res.tmp rfl | exact Res.atw hm rfl | exact Res.at hm rfl)) ?_) | (refine ret3 rfl rfl (by (first | exact Res.tmp rfl | exact Res.atw hm rfl | exact Res.at hm rfl)) (by (first | exact Res.tmp rfl | exact Res.atw hm rfl | exact Res.at hm rfl)) (by (first | exact Res.tmp rfl | exact Res.atw hm rfl | exact Res.at hm rfl)) ?_) | (refine ret4 rfl rfl (by (first | exact Res.tmp rfl | exact Res.atw hm rfl | exact Res.at hm rfl)) (by (first | exact Res.tmp rfl | exact Res.atw hm rfl | exact Res.at hm rfl)) (by (first | exact Res.tmp rfl | exact Res.atw hm rfl | exact Res.at hm rfl)) (by (first | exact Res.tmp rfl | exact Res.atw hm rfl | exact Res.at hm rfl)) ?_) | fail "ret")
    exact ⟨rfl, hm.drop (by repeat (first | exact List.Sublist.refl _ | refine List.Sublist.cons _ ?_))⟩
  have e2 : comQ b S c U = true := by rw [comQ, hq1, hq2]; simp [hbc]
  have e1 : comV b S c U = comN S U := by simp [comV, e2]
  have hd : decide (b = c) = true := by simpa using hbc
  have hS40 := h40 hq1
  rw [hq1] at hA
  rw [hq2] at hC
  rw [e1, e2]
  have HA := Lib.hid hA
  have HC := Lib.hid hC
  have HD := Lib.hid hd
  have HG1 := Lib.hid hG1
  have HG2 := Lib.hid hG2
  clear hA hC e1 e2 hG1 hG2 hq1 hq2 h40 hd hbc
  go_enter Try.func24, Try.ntmps24
  repeat' (first | (with_reducible rw [h16]) | (with_reducible rw [h16c]) | (go_at_call 16; with_reducible refine mem_callM (HA.out _ _ _ hm inferInstance) ?_; clear hm; intro w hm; (try simp only [])) | (go_at_call 16; with_reducible refine mem_callM (HC.out _ _ _ hm inferInstance) ?_; clear hm; intro w hm; (try simp only [])) | ((with_reducible refine gcmp ?_); refine mcmp (HD.out) (by first | exact .inl rfl | exact .inr rfl) rfl rfl rfl rfl ?_; (try simp only [cmpV, Bool.not_true, Bool.not_false])) | ((with_reducible refine gix ?_); first | refine mix rfl rfl rfl rfl ?_ | refine mixr rfl rfl rfl rfl ?_; (try simp only [Int.toNat_zero, Int.reduceToNat, Nat.reduceMul, Nat.zero_mul, Nat.one_mul, List.drop_succ_cons, List.drop_zero, List.take_succ_cons, List.take_zero])) | ((with_reducible refine gl ?_); first | refine ml hm rfl rfl rfl ?_ | refine mlw hm rfl rfl rfl ?_ | (refine mlr hm rfl rfl rfl ?_; try simp only [List.drop_succ_cons, List.drop_zero, List.take_succ_cons, List.take_zero])) | ((with_reducible refine gs ?_); (first | refine ms hm rfl rfl rfl rfl rfl ?_ | refine msw hm rfl rfl rfl rfl ?_ | refine msr hm rfl rfl rfl rfl ?_); clear hm; intro w hm; (try simp only [splice, List.set_cons_zero, List.set_cons_succ] at hm)) | ((with_reducible refine gb ?_); (first | refine mem_box hm rfl rfl rfl ?_ | refine mem_box1 hm rfl rfl rfl rfl ?_); clear hm; intro n w hm) | ((with_reducible refine ga ?_); refine mem_alloc hm rfl rfl ?_; clear hm; intro n w hm) | go_values | go_skip | go_guarded | go_step | go_upon | ((with_reducible refine bp ?_); go_back) | ((with_reducible refine up ?_); first | (simp only [Int.not_lt, Int.not_le] at *; go_simp) | (go_values <;> (try go_simp)) | (go_ite <;> go_prune <;> (try go_simp)) | (split <;> (first | (rename_i hx; exact (hx _ rfl).elim) | go_prune))))
  obtain ⟨τ, hτ, hm⟩ := Mem.sig hm
  go_loopw [6] (fun n wr => ∃ k : Nat, k ≤ min S.length U.length ∧ n = iv k ∧ (Unit → Hid (∀ j, j < k → stpAt S j = stpAt U j)) ∧ Mem w0 wr τ) (fun n _ => S.length - (intOf n).toNat)
  case atStart => exact ⟨0, by omega, rfl, fun _ => Lib.hid (by intro j h; omega), hm⟩
  case round =>
    clear hm
    obtain ⟨k, hk, rfl, HK, hm⟩ := hrel
    subst hτ
    rcases hmin with ⟨hmin, hmin2⟩ | ⟨hmin, hmin2⟩
    all_goals
      by_cases hlt : k < min S.length U.length
      · have hlt1 : k < S.length := by omega
        have hlt2 : k < U.length := by omega
        have hi1 : (k : Int) < S.length := by omega
        have hi2 : (k : Int) < U.length := by omega
        have hv1 := HG1.out k hlt1
        have hv2 := HG2.out k hlt2
        rw [← stpAt_get hlt1] at hv1
        rw [← stpAt_get hlt2] at hv2
        have hl1 := stI_len (stpAt S k)
        have hl2 := stI_len (stpAt U k)
        have hinj : stI (stpAt S k) = stI (stpAt U k) ↔ stpAt S k = stpAt U k := stI_inj
        by_cases hs : stpAt S k = stpAt U k
        · have hdd : decide (stI (stpAt S k) = stI (stpAt U k)) = true := by simpa using hinj.2 hs
          have HS : Unit → Hid _ := fun _ => Lib.hid hs
          have HDD : Unit → Hid _ := fun _ => Lib.hid hdd
          clear hs hdd hinj
          generalize stI (stpAt S k) = s1 at *
          generalize stI (stpAt U k) = s2 at *
          repeat' (first | (with_reducible rw [hv1]) | (with_reducible rw [hv2]) | ((with_reducible refine gd ?_); refine mf_start (st := []) hm (by kernel_rfl) (by kernel_rfl) rfl ?_; intro hne; (repeat (first | (with_reducible rw [hv1]) | (with_reducible rw [hv2]) | ((with_reducible refine gcmpF ?_); refine fcmp ((HDD ()).out) (by first | exact .inl rfl | exact .inr rfl) rfl rfl rfl rfl ?_; (try simp only [cmpV, Bool.not_true, Bool.not_false])) | ((with_reducible refine gfl ?_); first | refine fl rfl rfl rfl ?_ | refine flw rfl rfl rfl ?_ | (refine flr rfl rfl rfl ?_; try simp only [List.drop_succ_cons, List.drop_zero, List.take_succ_cons, List.take_zero])) | ((with_reducible refine gfs ?_); first | refine fs rfl rfl rfl rfl rfl ?_ | refine fsw rfl rfl rfl rfl ?_ | refine fsr rfl rfl rfl rfl ?_) | (refine wpF_step (by rfl) (hne _ (by decide)) ?_; intro hn K hK; go_simp; (try go_ints); (try simp [↓IntWalk.iteOmega, go_sem]); first | (refine hK _ ?_; clear hK K hn) | (apply Exists.intro; refine ⟨fun _ => ?_, hK _ ?_⟩; (first | (with_reducible rw [hv1]) | (with_reducible rw [hv2]) | fail); clear hK K hn)))); refine wpF_nil ?_; clear hm hne; intro w hm; (try simp only [famEnd, modB, splice, List.set_cons_zero, List.set_cons_succ, set_iv] at hm)) | ((with_reducible refine gix ?_); first | refine mix rfl rfl rfl rfl ?_ | refine mixr rfl rfl rfl rfl ?_; (try simp only [Int.toNat_zero, Int.reduceToNat, Nat.reduceMul, Nat.zero_mul, Nat.one_mul, List.drop_succ_cons, List.drop_zero, List.take_succ_cons, List.take_zero])) | ((with_reducible refine gl ?_); first | refine ml hm rfl rfl rfl ?_ | refine mlw hm rfl rfl rfl ?_ | (refine mlr hm rfl rfl rfl ?_; try simp only [List.drop_succ_cons, List.drop_zero, List.take_succ_cons, List.take_zero])) | ((with_reducible refine gs ?_); (first | refine ms hm rfl rfl rfl rfl rfl ?_ | refine msw hm rfl rfl rfl rfl ?_ | refine msr hm rfl rfl rfl rfl ?_); clear hm; intro w hm; (try simp only [splice, List.set_cons_zero, List.set_cons_succ] at hm)) | ((with_reducible refine gb ?_); (first | refine mem_box hm rfl rfl rfl ?_ | refine mem_box1 hm rfl rfl rfl rfl ?_); clear hm; intro n w hm) | ((with_reducible refine ga ?_); refine mem_alloc hm rfl rfl ?_; clear hm; intro n w hm) | go_values | go_skip | go_guarded | go_step | go_upon | ((with_reducible refine bp ?_); go_back) | ((with_reducible refine up ?_); first | (simp only [Int.not_lt, Int.not_le] at *; go_simp) | (go_values <;> (try go_simp)) | (go_ite <;> go_prune <;> (try go_simp)) | (split <;> (first | (rename_i hx; exact (hx _ rfl).elim) | go_prune))))
          go_roundw
          case rel =>
            (try (first | ((repeat apply Exists.intro); refine ⟨?_, rfl⟩) | (repeat refine ex_any ?_)))
            refine ⟨k + 1, by omega, by go_num, fun _ => Lib.hid (fun j h => ?_), hm⟩
            by_cases hj : j = k
            · subst hj; exact (HS ()).out
            · exact (HK ()).out j (by omega)
          case measure => simp [intOf]; omega
        · have hz := comN_here hlt hs (HK ()).out
          have hdd : decide (stI (stpAt S k) = stI (stpAt U k)) = false := by simp [hinj, hs]
          have HZ : Unit → Hid _ := fun _ => Lib.hid hz
          have HDD : Unit → Hid _ := fun _ => Lib.hid hdd
          clear hs hdd hinj hz
          generalize stI (stpAt S k) = s1 at *
          generalize stI (stpAt U k) = s2 at *
          repeat' (first | (with_reducible rw [hv1]) | (with_reducible rw [hv2]) | ((with_reducible refine gd ?_); refine mf_start (st := []) hm (by kernel_rfl) (by kernel_rfl) rfl ?_; intro hne; (repeat (first | (with_reducible rw [hv1]) | (with_reducible rw [hv2]) | ((with_reducible refine gcmpF ?_); refine fcmp ((HDD ()).out) (by first | exact .inl rfl | exact .inr rfl) rfl rfl rfl rfl ?_; (try simp only [cmpV, Bool.not_true, Bool.not_false])) | ((with_reducible refine gfl ?_); first | refine fl rfl rfl rfl ?_ | refine flw rfl rfl rfl ?_ | (refine flr rfl rfl rfl ?_; try simp only [List.drop_succ_cons, List.drop_zero, List.take_succ_cons, List.take_zero])) | ((with_reducible refine gfs ?_); first | refine fs rfl rfl rfl rfl rfl ?_ | refine fsw rfl rfl rfl rfl ?_ | refine fsr rfl rfl rfl rfl ?_) | (refine wpF_step (by rfl) (hne _ (by decide)) ?_; intro hn K hK; go_simp; (try go_ints); (try simp [↓IntWalk.iteOmega, go_sem]); first | (refine hK _ ?_; clear hK K hn) | (apply Exists.intro; refine ⟨fun _ => ?_, hK _ ?_⟩; (first | (with_reducible rw [hv1]) | (with_reducible rw [hv2]) | fail); clear hK K hn)))); refine wpF_nil ?_; clear hm hne; intro w hm; (try simp only [famEnd, modB, splice, List.set_cons_zero, List.set_cons_succ, set_iv] at hm)) | ((with_reducible refine gix ?_); first | refine mix rfl rfl rfl rfl ?_ | refine mixr rfl rfl rfl rfl ?_; (try simp only [Int.toNat_zero, Int.reduceToNat, Nat.reduceMul, Nat.zero_mul, Nat.one_mul, List.drop_succ_cons, List.drop_zero, List.take_succ_cons, List.take_zero])) | ((with_reducible refine gl ?_); first | refine ml hm rfl rfl rfl ?_ | refine mlw hm rfl rfl rfl ?_ | (refine mlr hm rfl rfl rfl ?_; try simp only [List.drop_succ_cons, List.drop_zero, List.take_succ_cons, List.take_zero])) | ((with_reducible refine gs ?_); (first | refine ms hm rfl rfl rfl rfl rfl ?_ | refine msw hm rfl rfl rfl rfl ?_ | refine msr hm rfl rfl rfl rfl ?_); clear hm; intro w hm; (try simp only [splice, List.set_cons_zero, List.set_cons_succ] at hm)) | ((with_reducible refine gb ?_); (first | refine mem_box hm rfl rfl rfl ?_ | refine mem_box1 hm rfl rfl rfl rfl ?_); clear hm; intro n w hm) | ((with_reducible refine ga ?_); refine mem_alloc hm rfl rfl ?_; clear hm; intro n w hm) | go_values | go_skip | go_guarded | go_step | go_upon | ((with_reducible refine bp ?_); go_back) | ((with_reducible refine up ?_); first | (simp only [Int.not_lt, Int.not_le] at *; go_simp) | (go_values <;> (try go_simp)) | (go_ite <;> go_prune <;> (try go_simp)) | (split <;> (first | (rename_i hx; exact (hx _ rfl).elim) | go_prune))))
          (try simp only [Exit.inBlock, Exit.then])
          (first | (refine ret1 rfl rfl (by (first | exact Res.tmp rfl | exact Res.atw hm rfl | exact Res.at hm rfl)) ?_) | (refine ret2 rfl rfl (by (first | exact Res.tmp rfl | exact Res.atw hm rfl | exact Res.at hm rfl)) (by (first | exact Res.tmp rfl | exact Res.atw hm rfl | exact Res.at hm rfl)) ?_) | (refine ret3 rfl rfl (by (first | exact Res.tmp rfl | exact Res.atw hm rfl | exact Res.at hm rfl)) (by (first | exact Res.tmp rfl | exact Res.atw hm rfl | exact Res.at hm rfl)) (by (first | exact Res.tmp rfl | exact Res.atw hm rfl | exact Res.at hm rfl)) ?_) | (refine ret4 rfl rfl (by (first | exact Res.tmp rfl | exact Res.atw hm rfl | exact Res.at hm rfl)) (by (first | exact Res.tmp rfl | exact Res.atw hm rfl | exact Res.at hm rfl)) (by (first | exact Res.tmp rfl | exact Res.atw hm rfl | exact Res.at hm rfl)) (by (first | exact Res.tmp rfl | exact Res.atw hm rfl | exact Res.at hm rfl)) ?_) | fail "ret")
          rw [(HZ ()).out]
          exact ⟨rfl, hm.drop (by repeat (first | exact List.Sublist.refl _ | refine List.Sublist.cons _ ?_))⟩
      · have hz := comN_none (fun j hj => (HK ()).out j (by omega))
        have hzk : comN S U = (k : Int) := by rw [hz]; omega
        have HZ : Unit → Hid _ := fun _ => Lib.hid hzk
        clear hz hzk
        have hi1 : ((k : Int) < S.length) ∨ ¬ ((k : Int) < S.length) := by omega
        have hi2 : ((k : Int) < U.length) ∨ ¬ ((k : Int) < U.length) := by omega
        rcases hi1 with hi1 | hi1 <;> rcases hi2 with hi2 | hi2
        all_goals first | (exfalso; omega) | skip
        all_goals
          repeat' (first | ((with_reducible refine gd ?_); refine mf_start (st := []) hm (by kernel_rfl) (by kernel_rfl) rfl ?_; intro hne; (repeat (first | ((with_reducible refine gfl ?_); first | refine fl rfl rfl rfl ?_ | refine flw rfl rfl rfl ?_ | (refine flr rfl rfl rfl ?_; try simp only [List.drop_succ_cons, List.drop_zero, List.take_succ_cons, List.take_zero])) | ((with_reducible refine gfs ?_); first | refine fs rfl rfl rfl rfl rfl ?_ | refine fsw rfl rfl rfl rfl ?_ | refine fsr rfl rfl rfl rfl ?_) | (refine wpF_step (by rfl) (hne _ (by decide)) ?_; intro hn K hK; go_simp; (try go_ints); (try simp [↓IntWalk.iteOmega, go_sem]); first | (refine hK _ ?_; clear hK K hn) | (apply Exists.intro; refine ⟨fun _ => ?_, hK _ ?_⟩; (first | fail | fail); clear hK K hn)))); refine wpF_nil ?_; clear hm hne; intro w hm; (try simp only [famEnd, modB, splice, List.set_cons_zero, List.set_cons_succ, set_iv] at hm)) | ((with_reducible refine gix ?_); first | refine mix rfl rfl rfl rfl ?_ | refine mixr rfl rfl rfl rfl ?_; (try simp only [Int.toNat_zero, Int.reduceToNat, Nat.reduceMul, Nat.zero_mul, Nat.one_mul, List.drop_succ_cons, List.drop_zero, List.take_succ_cons, List.take_zero])) | ((with_reducible refine gl ?_); first | refine ml hm rfl rfl rfl ?_ | refine mlw hm rfl rfl rfl ?_ | (refine mlr hm rfl rfl rfl ?_; try simp only [List.drop_succ_cons, List.drop_zero, List.take_succ_cons, List.take_zero])) | ((with_reducible refine gs ?_); (first | refine ms hm rfl rfl rfl rfl rfl ?_ | refine msw hm rfl rfl rfl rfl ?_ | refine msr hm rfl rfl rfl rfl ?_); clear hm; intro w hm; (try simp only [splice, List.set_cons_zero, List.set_cons_succ] at hm)) | ((with_reducible refine gb ?_); (first | refine mem_box hm rfl rfl rfl ?_ | refine mem_box1 hm rfl rfl rfl rfl ?_); clear hm; intro n w hm) | ((with_reducible refine ga ?_); refine mem_alloc hm rfl rfl ?_; clear hm; intro n w hm) | go_values | go_skip | go_guarded | go_step | go_upon | ((with_reducible refine bp ?_); go_back) | ((with_reducible refine up ?_); first | (simp only [Int.not_lt, Int.not_le] at *; go_simp) | (go_values <;> (try go_simp)) | (go_ite <;> go_prune <;> (try go_simp)) | (split <;> (first | (rename_i hx; exact (hx _ rfl).elim) | go_prune))))
          (try simp only [Exit.inBlock, Exit.then])
          (first | (refine ret1 rfl rfl (by (first | exact Res.tmp rfl | exact Res.atw hm rfl | exact Res.at hm rfl)) ?_) | (refine ret2 rfl rfl (by (first | exact Res.tmp rfl | exact Res.atw hm rfl | exact Res.at hm rfl)) (by (first | exact Res.tmp rfl | exact Res.atw hm rfl | exact Res.at hm rfl)) ?_) | (refine ret3 rfl rfl (by (first | exact Res.tmp rfl | exact Res.atw hm rfl | exact Res.at hm rfl)) (by (first | exact Res.tmp rfl | exact Res.atw hm rfl | exact Res.at hm rfl)) (by (first | exact Res.tmp rfl | exact Res.atw hm rfl | exact Res.at hm rfl)) ?_) | (refine ret4 rfl rfl (by (first | exact Res.tmp rfl | exact Res.atw hm rfl | exact Res.at hm rfl)) (by (first | exact Res.tmp rfl | exact Res.atw hm rfl | exact Res.at hm rfl)) (by (first | exact Res.tmp rfl | exact Res.atw hm rfl | exact Res.at hm rfl)) (by (first | exact Res.tmp rfl | exact Res.atw hm rfl | exact Res.at hm rfl)) ?_) | fail "ret")
          rw [(HZ ()).out]
          exact ⟨rfl, hm.drop (by repeat (first | exact List.Sublist.refl _ | refine List.Sublist.cons _ ?_))⟩
end Go.Proofs.Ythcjokgjiknheaa

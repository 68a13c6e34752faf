/-
  The law on crashes: for every input it returns true, and the argument reads as it read before. No condition but the card's own (tables of the library as the text lays them).
-/
import Derived.Test.YtjmolkamaeonmaaDoorDoor
import Derived.Test.YtjmolkamaeonmaaDoorDraw6
import Derived.Test.YtjmolkamaeonmaaDoorLogLaw
import Derived.Test.YtjmolkamaeonmaaDoorRecs
set_option linter.unusedVariables false
set_option linter.unusedSimpArgs false
namespace Go.Proofs.YtjmolkamaeonmaaDoor
open Go Go.ChangeShapes Go.WideShapes Go.ChangeAt Go.RowKit Slm
open Go.ChangeMaps (open_string shut_string)
theorem rec_both (l : List UInt8) (hl : l.length ≤ 1048576) : ∃ (d p : List UInt8) (n k : Int) (q : Bool), (∀ w, Env w → Calls Tryd.prog 16 #[.string (bs l)] w fun e w' => e = .returned (.tuple #[logV d p n, iv k, .bool q]) ∧ Below w.heap.size w w') ∧
      (∀ w, Env w → Calls Tryd.prog 17 #[.string (bs l)] w fun e w' => e = .returned (.tuple #[logV d p n, iv k, .bool q]) ∧ Below w.heap.size w w') := by
  by_cases hs : l.length ≤ 30000
  · exact ⟨_, _, _, _, _, fun w h => spec_RecoverLog_small l hs w h, fun w h => impl_RecoverLog_small l hs w h⟩
  · exact ⟨_, _, _, _, _, fun w h => spec_RecoverLog_big l hl hs w, fun w h => impl_RecoverLog_big l hl hs w⟩
theorem crash_cases (d p : List UInt8) (nn keep : Int) (torn : Bool) : (∃ k : Nat, keep = k ∧ k ≤ p.length ∧ validL d p nn = true ∧ crashV d p nn keep torn = .tuple #[.string (bs (crashL d p k torn)), .bool true]) ∨ crashV d p nn keep torn = .tuple #[.string (bs []), .bool false] := by
  unfold crashV
  split
  · rename_i h
    simp only [Bool.and_eq_true, inB_iff] at h
    exact .inl ⟨keep.toNat, by omega, by omega, h.1, rfl⟩
  · exact .inr rfl
theorem rcells_app (A B : List (List UInt8 × List UInt8)) : rcells (A ++ B) = rcells A ++ rcells B := by simp [rcells]
set_option maxRecDepth 10000 in
set_option maxHeartbeats 8000000 in
theorem walk_FnCrashes {H : Type} {enc : TypeId × Value → H} {base : Nat} {spare : Nat → Bool} {held : Bool} {dd : DataW H} {ps : List MemPlace} (w0 : World) (a0 : Option Addr) (z0 c0 : Nat) (h0 : DataW.Trod enc Tryd.prog w0 base spare held 53 (.slice a0 z0 c0) dd ps) (hE : Env w0) :
    Calls Tryd.prog 11 #[.slice a0 z0 c0] w0 fun e w' => e = .returned (.bool true) ∧ Below w0.heap.size w0 w' := by
  obtain ⟨l, rfl, hO, hb, hlc, hcap⟩ := code_of h0
  clear h0
  have hcap2 : c0 ≤ 9223372036854775807 := by unfold maxLen at hcap; omega
  have hB := laws_vBig a0 l.length c0 (by omega)
  by_cases hbig : 65536 < l.length
  · rw [decide_eq_true hbig] at hB
    have HB := Lib.hid hB
    clear hB
    go_enter Tryd.func11, Tryd.ntmps11
    have hm := Mem.start w0
    repeat' (first | (go_at_call 34; refine mem_call hm (HB.out _) ?_; clear hm; intro w hm; (try simp only [nums, List.map_cons, List.map_nil])) | ((with_reducible refine gix ?_); first | refine mix rfl rfl rfl rfl ?_ | refine mixr rfl rfl rfl rfl ?_; (try simp only [Int.toNat_zero, Int.reduceToNat, Nat.reduceMul, Nat.zero_mul, Nat.one_mul, List.drop_succ_cons, List.drop_zero, List.take_succ_cons, List.take_zero])) | ((with_reducible refine gl ?_); first | refine ml hm rfl rfl rfl ?_ | refine mlw hm rfl rfl rfl ?_ | (refine mlr hm rfl rfl rfl ?_; try simp only [List.drop_succ_cons, List.drop_zero, List.take_succ_cons, List.take_zero])) | ((with_reducible refine gs ?_); (first | refine ms hm rfl rfl rfl rfl rfl ?_ | refine msw hm rfl rfl rfl rfl ?_ | refine msr hm rfl rfl rfl rfl ?_); clear hm; intro w hm; (try simp only [splice, List.set_cons_zero, List.set_cons_succ] at hm)) | ((with_reducible refine gb ?_); (first | refine mem_box hm rfl rfl rfl ?_ | refine mem_box1 hm rfl rfl rfl rfl ?_); clear hm; intro n w hm) | ((with_reducible refine ga ?_); refine mem_alloc hm rfl rfl ?_; clear hm; intro n w hm) | go_values | go_skip | go_guarded | go_step | go_upon | ((with_reducible refine bp ?_); go_back) | ((with_reducible refine up ?_); first | (simp only [Int.not_lt, Int.not_le] at *; go_simp) | (go_values <;> (try go_simp)) | (go_ite <;> go_prune <;> (try go_simp)) | (split <;> (first | (rename_i hx; exact (hx _ rfl).elim) | go_prune))))
    (try simp only [Exit.inBlock, Exit.then])
    (first | (refine ret1 rfl rfl (by (first | exact Res.tmp rfl | exact Res.atw hm rfl | exact Res.at hm rfl)) ?_) | (refine ret2 rfl rfl (by (first | exact Res.tmp rfl | exact Res.atw hm rfl | exact Res.at hm rfl)) (by (first | exact Res.tmp rfl | exact Res.atw hm rfl | exact Res.at hm rfl)) ?_) | (refine ret3 rfl rfl (by (first | exact Res.tmp rfl | exact Res.atw hm rfl | exact Res.at hm rfl)) (by (first | exact Res.tmp rfl | exact Res.atw hm rfl | exact Res.at hm rfl)) (by (first | exact Res.tmp rfl | exact Res.atw hm rfl | exact Res.at hm rfl)) ?_) | (refine ret4 rfl rfl (by (first | exact Res.tmp rfl | exact Res.atw hm rfl | exact Res.at hm rfl)) (by (first | exact Res.tmp rfl | exact Res.atw hm rfl | exact Res.at hm rfl)) (by (first | exact Res.tmp rfl | exact Res.atw hm rfl | exact Res.at hm rfl)) (by (first | exact Res.tmp rfl | exact Res.atw hm rfl | exact Res.at hm rfl)) ?_) | fail "ret")
    exact ⟨rfl, hm.below⟩
  rw [decide_eq_false hbig] at hB
  have HB := Lib.hid hB
  clear hB
  go_enter Tryd.func11, Tryd.ntmps11
  have hm := Mem.start w0
  repeat' (first | (go_at_call 34; refine mem_call hm (HB.out _) ?_; clear hm; intro w hm; (try simp only [nums, List.map_cons, List.map_nil])) | (go_at_call 37; refine call_vCut hO (by omega) hb ⟨by omega, hcap⟩ (by decide) (by decide) hm ?_; clear hm; intro l9 g9 more9 cap9 w hl9 hb9 hm; (try simp only [])) | (go_at_call 43; refine Calls.mono (spec_DrawCrashLog (hE.mem hm) (hO.next hm) (by omega) hb) ?_; rintro e w9 ⟨d, p, nn, keep, torn, rfl, hdp, hb9⟩; replace hm := hm.next hb9; clear hb9; (try simp only []); have hic := impl_CrashLog d p nn (by omega) (by omega) keep torn; have hsc := spec_CrashLog d p nn (by omega) (by omega) keep torn; (have hcs := crash_cases d p nn keep torn); rcases hcs with ⟨k, rfl, hkp, hv, hC⟩ | hC <;> (rw [hC] at hic hsc; have HIC := Lib.hid hic; have HSC := Lib.hid hsc; clear hic hsc hC)) | (go_at_call 24; refine mem_call hm (HIC.out _ (hE.mem hm)) ?_; clear hm; intro w hm; (try simp only [nums, List.map_cons, List.map_nil])) | (go_at_call 23; refine mem_call hm (HSC.out _ (hE.mem hm)) ?_; clear hm; intro w hm; (try simp only [nums, List.map_cons, List.map_nil])) | (go_at_call 44; refine Calls.mono (spec_DrawRecoverLog (hE.mem hm) (OldCode.own hm) (by omega) (by assumption)) ?_; rintro e w9 ⟨t9, rfl, ht9, hb9⟩; replace hm := hm.next hb9; clear hb9; (try simp only []); obtain ⟨d2, p2, n2, k2, q2, hs2, hi2⟩ := rec_both t9 (by omega); have HI2 := Lib.hid hi2; have HS2 := Lib.hid hs2; clear hi2 hs2) | (go_at_call 17; with_reducible refine mem_call hm (HI2.out _ (hE.mem hm)) ?_; clear hm; intro w hm; (try simp only [])) | (go_at_call 16; refine mem_call hm (HS2.out _ (hE.mem hm)) ?_; clear hm; intro w hm; (try simp only [nums, List.map_cons, List.map_nil])) | ((with_reducible refine gcmp ?_); refine mcmpS (same_log _ _ _) (by first | exact .inl rfl | exact .inr rfl) rfl rfl rfl rfl ?_; (try simp only [cmpV, Bool.not_true, Bool.not_false])) | ((with_reducible refine gix ?_); first | refine mix rfl rfl rfl rfl ?_ | refine mixr rfl rfl rfl rfl ?_; (try simp only [Int.toNat_zero, Int.reduceToNat, Nat.reduceMul, Nat.zero_mul, Nat.one_mul, List.drop_succ_cons, List.drop_zero, List.take_succ_cons, List.take_zero])) | ((with_reducible refine gl ?_); first | refine ml hm rfl rfl rfl ?_ | refine mlw hm rfl rfl rfl ?_ | (refine mlr hm rfl rfl rfl ?_; try simp only [List.drop_succ_cons, List.drop_zero, List.take_succ_cons, List.take_zero])) | ((with_reducible refine gs ?_); (first | refine ms hm rfl rfl rfl rfl rfl ?_ | refine msw hm rfl rfl rfl rfl ?_ | refine msr hm rfl rfl rfl rfl ?_); clear hm; intro w hm; (try simp only [splice, List.set_cons_zero, List.set_cons_succ] at hm)) | ((with_reducible refine gb ?_); (first | refine mem_box hm rfl rfl rfl ?_ | refine mem_box1 hm rfl rfl rfl rfl ?_); clear hm; intro n w hm) | ((with_reducible refine ga ?_); refine mem_alloc hm rfl rfl ?_; clear hm; intro n w hm) | go_values | go_skip | go_guarded | go_step | go_upon | ((with_reducible refine bp ?_); go_back) | ((with_reducible refine up ?_); first | (simp only [Int.not_lt, Int.not_le] at *; go_simp) | (go_values <;> (try go_simp)) | (go_ite <;> go_prune <;> (try go_simp)) | (split <;> (first | (rename_i hx; exact (hx _ rfl).elim) | go_prune))))
  · obtain ⟨R2, hR, hge, hend⟩ := crash_read hv k hkp torn
    have hlen := crashL_len (d := d) hkp torn
    have hle := validL_le hv
    obtain ⟨hvb, hRb, hDl⟩ := recov_valid (l := crashL d p k torn) (by omega)
    have hrec := impl_RecoverLog_small (crashL d p k torn) (by omega)
    unfold recV at hrec
    replace hm := hm.drop (σ' := [_]) (.cons _ (.cons _ (.cons _ (List.Sublist.refl _))))
    generalize crashL d p k torn = s at *
    generalize readR s = R1 at *
    generalize s.take (readN s) = D at *
    generalize readN s = m at *
    have hDs : m ≤ 30000 := by have := validL_le hvb; simp at this; omega
    have hIB := impl_IsValidLog D [] R1.length (by omega) (by simp)
    rw [hvb] at hIB
    have hm1 := fun (σ : List Blk) (w : World) (hm : Mem w0 w σ) => impl_LogRecords_ok d p nn (by omega) (by omega) hv hm hE
    have hm2 := fun (σ : List Blk) (w : World) (hm : Mem w0 w σ) => impl_LogRecords_ok D [] R1.length (by omega) (by simp) hvb hm hE
    have hcnt := validL_cnt hv
    have h4 := (validL_facts hv).2.2.2
    rw [hR] at hm1 h4
    rw [hRb] at hm2
    rw [List.length_append] at h4
    have hR1l : R1.length ≤ 60 := by omega
    have hRl : R1.length + R2.length ≤ 60 := by omega
    have hsd := bs_size d
    have hsp := bs_size p
    have hsD := bs_size D
    have HRC := Lib.hid hrec
    have HIB := Lib.hid hIB
    have HM1 := Lib.hid hm1
    have HM2 := Lib.hid hm2
    clear hrec hIB hm1 hm2 hv hR hvb hRb h4 hcnt
    have hdm : decide (m < d.length) = false := decide_eq_false (by omega)
    have hq : torn = true ∨ (torn = false ∧ decide (k < p.length) = true) ∨ (torn = false ∧ decide (k < p.length) = false ∧ R2 = []) := by
      cases torn
      · by_cases hk : k = p.length
        · exact .inr (.inr ⟨rfl, decide_eq_false (by omega), hend rfl hk⟩)
        · exact .inr (.inl ⟨rfl, decide_eq_true (by omega)⟩)
      · exact .inl rfl
    clear hend
    rcases hq with rfl | ⟨rfl, hkp2⟩ | ⟨rfl, hkp2, rfl⟩
    · obtain ⟨nx, hnx⟩ : ∃ nx : Nat, R1.length + R2.length = nx := ⟨_, rfl⟩
      repeat' (first | (go_at_call 17; refine mem_call hm (HRC.out _ (hE.mem hm)) ?_; clear hm; intro w hm; (try simp only [nums, List.map_cons, List.map_nil])) | (go_at_call 22; refine mem_call hm (HIB.out _ (hE.mem hm)) ?_; clear hm; intro w hm; (try simp only [nums, List.map_cons, List.map_nil])) | (go_at_call 30; with_reducible refine mem_callW (HM1.out _ _ hm) ?_; clear hm; intro g5 more5 len5 cap5 w hm hf5 hx5; have hf6 := hf5.le; clear hf5; (try simp only [rcells_app, List.append_assoc] at hm hx5); (try simp only [List.length_append, List.length_cons, List.length_nil] at hx5); (simp only [rcells_len] at hx5); (have e5 : len5 = nx := by omega); subst len5; clear hx5; (try simp only [])) | (go_at_call 30; with_reducible refine mem_callW (HM2.out _ _ hm) ?_; clear hm; intro g5 more5 len5 cap5 w hm hf5 hx5; have hf6 := hf5.le; clear hf5; (try simp only [rcells_app, List.append_assoc] at hm hx5); (try simp only [List.length_append, List.length_cons, List.length_nil] at hx5); (simp only [rcells_len] at hx5); (have e5 : len5 = R1.length := by omega); subst len5; clear hx5; (try simp only [])) | (go_at_call 42; refine mem_callM (laws_vRecords (R := R1) hm rfl (by omega)) ?_; clear hm; intro w hm; (try simp only [])) | ((with_reducible refine gix ?_); first | refine mix rfl rfl rfl rfl ?_ | refine mixr rfl rfl rfl rfl ?_; (try simp only [Int.toNat_zero, Int.reduceToNat, Nat.reduceMul, Nat.zero_mul, Nat.one_mul, List.drop_succ_cons, List.drop_zero, List.take_succ_cons, List.take_zero])) | ((with_reducible refine gl ?_); first | refine ml hm rfl rfl rfl ?_ | refine mlw hm rfl rfl rfl ?_ | (refine mlr hm rfl rfl rfl ?_; try simp only [List.drop_succ_cons, List.drop_zero, List.take_succ_cons, List.take_zero])) | ((with_reducible refine gs ?_); (first | refine ms hm rfl rfl rfl rfl rfl ?_ | refine msw hm rfl rfl rfl rfl ?_ | refine msr hm rfl rfl rfl rfl ?_); clear hm; intro w hm; (try simp only [splice, List.set_cons_zero, List.set_cons_succ] at hm)) | ((with_reducible refine gb ?_); (first | refine mem_box hm rfl rfl rfl ?_ | refine mem_box1 hm rfl rfl rfl rfl ?_); clear hm; intro n w hm) | ((with_reducible refine ga ?_); refine mem_alloc hm rfl rfl ?_; clear hm; intro n w hm) | go_values | go_skip | go_guarded | go_step | go_upon | ((with_reducible refine bp ?_); go_back) | ((with_reducible refine up ?_); first | (simp only [Int.not_lt, Int.not_le] at *; go_simp) | (go_values <;> (try go_simp)) | (go_ite <;> go_prune <;> (try go_simp)) | (split <;> (first | (rename_i hx; exact (hx _ rfl).elim) | go_prune))))
      (try simp only [Exit.inBlock, Exit.then])
      (first | (refine ret1 rfl rfl (by (first | exact Res.tmp rfl | exact Res.atw hm rfl | exact Res.at hm rfl)) ?_) | (refine ret2 rfl rfl (by (first | exact Res.tmp rfl | exact Res.atw hm rfl | exact Res.at hm rfl)) (by (first | exact Res.tmp rfl | exact Res.atw hm rfl | exact Res.at hm rfl)) ?_) | (refine ret3 rfl rfl (by (first | exact Res.tmp rfl | exact Res.atw hm rfl | exact Res.at hm rfl)) (by (first | exact Res.tmp rfl | exact Res.atw hm rfl | exact Res.at hm rfl)) (by (first | exact Res.tmp rfl | exact Res.atw hm rfl | exact Res.at hm rfl)) ?_) | (refine ret4 rfl rfl (by (first | exact Res.tmp rfl | exact Res.atw hm rfl | exact Res.at hm rfl)) (by (first | exact Res.tmp rfl | exact Res.atw hm rfl | exact Res.at hm rfl)) (by (first | exact Res.tmp rfl | exact Res.atw hm rfl | exact Res.at hm rfl)) (by (first | exact Res.tmp rfl | exact Res.atw hm rfl | exact Res.at hm rfl)) ?_) | fail "ret")
      exact ⟨rfl, hm.below⟩
    · obtain ⟨nx, hnx⟩ : ∃ nx : Nat, R1.length + R2.length = nx := ⟨_, rfl⟩
      repeat' (first | (go_at_call 17; refine mem_call hm (HRC.out _ (hE.mem hm)) ?_; clear hm; intro w hm; (try simp only [nums, List.map_cons, List.map_nil])) | (go_at_call 22; refine mem_call hm (HIB.out _ (hE.mem hm)) ?_; clear hm; intro w hm; (try simp only [nums, List.map_cons, List.map_nil])) | (go_at_call 30; with_reducible refine mem_callW (HM1.out _ _ hm) ?_; clear hm; intro g5 more5 len5 cap5 w hm hf5 hx5; have hf6 := hf5.le; clear hf5; (try simp only [rcells_app, List.append_assoc] at hm hx5); (try simp only [List.length_append, List.length_cons, List.length_nil] at hx5); (simp only [rcells_len] at hx5); (have e5 : len5 = nx := by omega); subst len5; clear hx5; (try simp only [])) | (go_at_call 30; with_reducible refine mem_callW (HM2.out _ _ hm) ?_; clear hm; intro g5 more5 len5 cap5 w hm hf5 hx5; have hf6 := hf5.le; clear hf5; (try simp only [rcells_app, List.append_assoc] at hm hx5); (try simp only [List.length_append, List.length_cons, List.length_nil] at hx5); (simp only [rcells_len] at hx5); (have e5 : len5 = R1.length := by omega); subst len5; clear hx5; (try simp only [])) | (go_at_call 42; refine mem_callM (laws_vRecords (R := R1) hm rfl (by omega)) ?_; clear hm; intro w hm; (try simp only [])) | ((with_reducible refine gix ?_); first | refine mix rfl rfl rfl rfl ?_ | refine mixr rfl rfl rfl rfl ?_; (try simp only [Int.toNat_zero, Int.reduceToNat, Nat.reduceMul, Nat.zero_mul, Nat.one_mul, List.drop_succ_cons, List.drop_zero, List.take_succ_cons, List.take_zero])) | ((with_reducible refine gl ?_); first | refine ml hm rfl rfl rfl ?_ | refine mlw hm rfl rfl rfl ?_ | (refine mlr hm rfl rfl rfl ?_; try simp only [List.drop_succ_cons, List.drop_zero, List.take_succ_cons, List.take_zero])) | ((with_reducible refine gs ?_); (first | refine ms hm rfl rfl rfl rfl rfl ?_ | refine msw hm rfl rfl rfl rfl ?_ | refine msr hm rfl rfl rfl rfl ?_); clear hm; intro w hm; (try simp only [splice, List.set_cons_zero, List.set_cons_succ] at hm)) | ((with_reducible refine gb ?_); (first | refine mem_box hm rfl rfl rfl ?_ | refine mem_box1 hm rfl rfl rfl rfl ?_); clear hm; intro n w hm) | ((with_reducible refine ga ?_); refine mem_alloc hm rfl rfl ?_; clear hm; intro n w hm) | go_values | go_skip | go_guarded | go_step | go_upon | ((with_reducible refine bp ?_); go_back) | ((with_reducible refine up ?_); first | (simp only [Int.not_lt, Int.not_le] at *; go_simp) | (go_values <;> (try go_simp)) | (go_ite <;> go_prune <;> (try go_simp)) | (split <;> (first | (rename_i hx; exact (hx _ rfl).elim) | go_prune))))
      (try simp only [Exit.inBlock, Exit.then])
      (first | (refine ret1 rfl rfl (by (first | exact Res.tmp rfl | exact Res.atw hm rfl | exact Res.at hm rfl)) ?_) | (refine ret2 rfl rfl (by (first | exact Res.tmp rfl | exact Res.atw hm rfl | exact Res.at hm rfl)) (by (first | exact Res.tmp rfl | exact Res.atw hm rfl | exact Res.at hm rfl)) ?_) | (refine ret3 rfl rfl (by (first | exact Res.tmp rfl | exact Res.atw hm rfl | exact Res.at hm rfl)) (by (first | exact Res.tmp rfl | exact Res.atw hm rfl | exact Res.at hm rfl)) (by (first | exact Res.tmp rfl | exact Res.atw hm rfl | exact Res.at hm rfl)) ?_) | (refine ret4 rfl rfl (by (first | exact Res.tmp rfl | exact Res.atw hm rfl | exact Res.at hm rfl)) (by (first | exact Res.tmp rfl | exact Res.atw hm rfl | exact Res.at hm rfl)) (by (first | exact Res.tmp rfl | exact Res.atw hm rfl | exact Res.at hm rfl)) (by (first | exact Res.tmp rfl | exact Res.atw hm rfl | exact Res.at hm rfl)) ?_) | fail "ret")
      exact ⟨rfl, hm.below⟩
    · have hnx : R1.length + ([] : List (List UInt8 × List UInt8)).length = R1.length := rfl
      repeat' (first | (go_at_call 17; refine mem_call hm (HRC.out _ (hE.mem hm)) ?_; clear hm; intro w hm; (try simp only [nums, List.map_cons, List.map_nil])) | (go_at_call 22; refine mem_call hm (HIB.out _ (hE.mem hm)) ?_; clear hm; intro w hm; (try simp only [nums, List.map_cons, List.map_nil])) | (go_at_call 30; with_reducible refine mem_callW (HM1.out _ _ hm) ?_; clear hm; intro g5 more5 len5 cap5 w hm hf5 hx5; have hf6 := hf5.le; clear hf5; (try simp only [rcells_app, List.append_assoc] at hm hx5); (try simp only [List.length_append, List.length_cons, List.length_nil] at hx5); (simp only [rcells_len] at hx5); (have e5 : len5 = R1.length := by omega); subst len5; clear hx5; (try simp only [])) | (go_at_call 30; with_reducible refine mem_callW (HM2.out _ _ hm) ?_; clear hm; intro g5 more5 len5 cap5 w hm hf5 hx5; have hf6 := hf5.le; clear hf5; (try simp only [rcells_app, List.append_assoc] at hm hx5); (try simp only [List.length_append, List.length_cons, List.length_nil] at hx5); (simp only [rcells_len] at hx5); (have e5 : len5 = R1.length := by omega); subst len5; clear hx5; (try simp only [])) | (go_at_call 42; refine mem_callM (laws_vRecords (R := R1) hm rfl (by omega)) ?_; clear hm; intro w hm; (try simp only [])) | ((with_reducible refine gix ?_); first | refine mix rfl rfl rfl rfl ?_ | refine mixr rfl rfl rfl rfl ?_; (try simp only [Int.toNat_zero, Int.reduceToNat, Nat.reduceMul, Nat.zero_mul, Nat.one_mul, List.drop_succ_cons, List.drop_zero, List.take_succ_cons, List.take_zero])) | ((with_reducible refine gl ?_); first | refine ml hm rfl rfl rfl ?_ | refine mlw hm rfl rfl rfl ?_ | (refine mlr hm rfl rfl rfl ?_; try simp only [List.drop_succ_cons, List.drop_zero, List.take_succ_cons, List.take_zero])) | ((with_reducible refine gs ?_); (first | refine ms hm rfl rfl rfl rfl rfl ?_ | refine msw hm rfl rfl rfl rfl ?_ | refine msr hm rfl rfl rfl rfl ?_); clear hm; intro w hm; (try simp only [splice, List.set_cons_zero, List.set_cons_succ] at hm)) | ((with_reducible refine gb ?_); (first | refine mem_box hm rfl rfl rfl ?_ | refine mem_box1 hm rfl rfl rfl rfl ?_); clear hm; intro n w hm) | ((with_reducible refine ga ?_); refine mem_alloc hm rfl rfl ?_; clear hm; intro n w hm) | go_values | go_skip | go_guarded | go_step | go_upon | ((with_reducible refine bp ?_); go_back) | ((with_reducible refine up ?_); first | (simp only [Int.not_lt, Int.not_le] at *; go_simp) | (go_values <;> (try go_simp)) | (go_ite <;> go_prune <;> (try go_simp)) | (split <;> (first | (rename_i hx; exact (hx _ rfl).elim) | go_prune))))
      (try simp only [Exit.inBlock, Exit.then])
      (first | (refine ret1 rfl rfl (by (first | exact Res.tmp rfl | exact Res.atw hm rfl | exact Res.at hm rfl)) ?_) | (refine ret2 rfl rfl (by (first | exact Res.tmp rfl | exact Res.atw hm rfl | exact Res.at hm rfl)) (by (first | exact Res.tmp rfl | exact Res.atw hm rfl | exact Res.at hm rfl)) ?_) | (refine ret3 rfl rfl (by (first | exact Res.tmp rfl | exact Res.atw hm rfl | exact Res.at hm rfl)) (by (first | exact Res.tmp rfl | exact Res.atw hm rfl | exact Res.at hm rfl)) (by (first | exact Res.tmp rfl | exact Res.atw hm rfl | exact Res.at hm rfl)) ?_) | (refine ret4 rfl rfl (by (first | exact Res.tmp rfl | exact Res.atw hm rfl | exact Res.at hm rfl)) (by (first | exact Res.tmp rfl | exact Res.atw hm rfl | exact Res.at hm rfl)) (by (first | exact Res.tmp rfl | exact Res.atw hm rfl | exact Res.at hm rfl)) (by (first | exact Res.tmp rfl | exact Res.atw hm rfl | exact Res.at hm rfl)) ?_) | fail "ret")
      exact ⟨rfl, hm.below⟩
  · (try simp only [Exit.inBlock, Exit.then])
    (first | (refine ret1 rfl rfl (by (first | exact Res.tmp rfl | exact Res.atw hm rfl | exact Res.at hm rfl)) ?_) | (refine ret2 rfl rfl (by (first | exact Res.tmp rfl | exact Res.atw hm rfl | exact Res.at hm rfl)) (by (first | exact Res.tmp rfl | exact Res.atw hm rfl | exact Res.at hm rfl)) ?_) | (refine ret3 rfl rfl (by (first | exact Res.tmp rfl | exact Res.atw hm rfl | exact Res.at hm rfl)) (by (first | exact Res.tmp rfl | exact Res.atw hm rfl | exact Res.at hm rfl)) (by (first | exact Res.tmp rfl | exact Res.atw hm rfl | exact Res.at hm rfl)) ?_) | (refine ret4 rfl rfl (by (first | exact Res.tmp rfl | exact Res.atw hm rfl | exact Res.at hm rfl)) (by (first | exact Res.tmp rfl | exact Res.atw hm rfl | exact Res.at hm rfl)) (by (first | exact Res.tmp rfl | exact Res.atw hm rfl | exact Res.at hm rfl)) (by (first | exact Res.tmp rfl | exact Res.atw hm rfl | exact Res.at hm rfl)) ?_) | fail "ret")
    exact ⟨rfl, hm.below⟩
set_option maxRecDepth 100000 in
theorem lifted_FnCrashes (os : Os) (started : os.Started) (H : Type) (enc : TypeId × Value → H) :
    ReturnsInHanded {} Tryd.checked os 11 .any (fun w args => (Rows.fnCrashesSpec.pre enc Tryd.prog Tryd.f11 [] false w args ∧ laidMetH Tryd.prog laidT w) ∧ sizedMet enc Tryd.prog Tryd.f11 (OpenSpec.ofChange Rows.fnCrashesSpec) false w args) (Rows.fnCrashesSpec.post enc Tryd.prog Tryd.f11 false true false false) := by
  refine returns_and_shaped (C := Tryd.checked) (X := fun w _ => laidMetH Tryd.prog laidT w) (fun _ _ _ hh h => h.of_heap hh) own started (by kernel_rfl) Tryd.func11
    (ChangeSpec.witness_shaped (enc := enc) (C := Tryd.checked) (os := os) (X := fun w _ => laidMetH Tryd.prog laidT w) false (World.doorLaid Tryd.prog 400 os) #[.slice none 0 0] 8 rfl (World.shaped_of_RefB (by kernel_rfl) (by kernel_rfl)) (by kernel_rfl) (by kernel_rfl) (by kernel_rfl) (door_met os _)) ?_
  intro W base args ds gs before hval0 hW hL hsh
  have hE := env_of hL hsh
  have hval : ∀ (j : Nat) t v, Tryd.f11.params[j]? = some t → args[j]? = some v → Value.okWide Tryd.prog W .any base t v := hval0
  have hW' := hW
  obtain ⟨p, q, hA0, hV, rfl, hfz, hnd⟩ := hW
  have hA : DataW.TrodAll enc Tryd.prog W 0 (fun _ => true) true Tryd.f11.params.toList args.toList ds p := hA0
  rw [Tryd.params11] at hA hval
  obtain ⟨v0, vs0, d0, ds0, p0, q0, hargs, rfl, rfl, h0, r0⟩ := trodAll_cons hA
  obtain ⟨rfl, rfl, rfl⟩ := trodAll_nil r0
  obtain rfl : args = #[v0] := by cases args; simp_all
  obtain ⟨rfl, rfl⟩ := trodVars_none hV
  obtain ⟨a0, z0, c0, rfl⟩ := okWide_slice Tryd.underlying53 (hval 0 53 v0 rfl rfl)
  clear hA0 hval0
  refine (walk_FnCrashes W a0 z0 c0 h0 hE).mono fun e W' ⟨he, hb⟩ => ?_
  subst he
  exact ⟨_, rfl, post_law hW' rfl rfl rfl (by kernel_rfl) hb⟩
/-- FnCrashes: for every input the law returns true, and each argument reads as it read before. No condition. -/
theorem FnCrashes_row : Rows.FnCrashesSaid :=
  OpenClaim.holds_of_wide 11 Tryd.f11 rfl rfl rfl rfl rfl rfl rfl ⟨rfl, rfl, rfl, rfl, rfl⟩ rfl rfl rfl rfl rfl (by kernel_rfl) Tryd.func11 (by kernel_rfl)
    (of_decide_eq_true (by kernel_rfl)) (by unfold Func.isWrapper; first | (rw [if_pos (by decide +kernel)]; kernel_rfl) | (rw [if_neg (by decide +kernel)]; exact ⟨rfl, rfl⟩))
    (fun os started H enc _ => lifted_FnCrashes os started H enc)
/-- FnCrashes: THE TIED CARD: for every input the law returns true, and each argument reads as it read before; the listed tables of the library are tied to the text. No condition but the card's own. -/
theorem FnCrashes_holds : Rows.FnCrashesCardSaid :=
  Claim7.holds_tied_plain_at .later [] [.data, .data, .data] true (true, "e302bd369846dc93b1b8179c0b4670b58c130254c0ae87344215e59e5044bc94") false
    FnCrashes_row (fun _ h => by cases h) (by kernel_rfl) (fun _ h => by cases h) fnCrashes_row_tie rfl ⟨rfl, rfl⟩ (by kernel_rfl) rfl
    (fun f fn hf hfn => by
      obtain rfl : f = 11 := Option.some.inj ((show Tryd.prog.funcNamed "loop.example/g01194/laws.FnCrashes" = some 11 by kernel_rfl).symm.trans hf) |>.symm
      obtain rfl : fn = Tryd.f11 := (Option.some.inj (Tryd.func11.symm.trans hfn)).symm
      exact ⟨by kernel_rfl, fun j t ht => by
        rw [Tryd.params11] at ht
        have hm : t ∈ [53] := by simpa using Array.mem_of_getElem? ht
        have hall : ([53].all fun u => !Tryd.prog.wantsStandIn u) = true := by kernel_rfl
        exact (show Tryd.prog.wantsStandIn t = false by simpa using List.all_eq_true.1 hall t hm)⟩)
    (by kernel_rfl)
end Go.Proofs.YtjmolkamaeonmaaDoor

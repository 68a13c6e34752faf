/-
  The law on logs: for every input it returns true, and the argument reads as it read before. No condition but the card's own (tables of the library as the text lays them).
-/
import Derived.Test.YtjmolkamaeonmaaDoorDoor
import Derived.Test.YtjmolkamaeonmaaDoorDraw6
import Derived.Test.YtjmolkamaeonmaaDoorLogLaw
import Derived.Test.YtjmolkamaeonmaaDoorRecs
set_option linter.unusedVariables false
set_option linter.unusedSimpArgs false
namespace Go.Proofs.YtjmolkamaeonmaaDoor
open Go Go.ChangeShapes Go.WideShapes Go.ChangeAt Go.RowKit Slm
open Go.ChangeMaps (open_string shut_string)
theorem enc_both (k : Int) (c r : List UInt8) (hc : c.length ≤ 9223372036854775807) (hr : r.length ≤ 9223372036854775807) : ∃ (R : ByteArray) (q : Bool), (∀ w, Calls Tryd.prog 13 #[iv k, .agg #[.string (bs c), .string (bs r)]] w fun e w' => e = .returned (.tuple #[.string R, .bool q]) ∧ Below w.heap.size w w') ∧
      (∀ w, Env w → Calls Tryd.prog 15 #[iv k, .agg #[.string (bs c), .string (bs r)]] w fun e w' => e = .returned (.tuple #[.string R, .bool q]) ∧ Below w.heap.size w w') := by
  cases hq : (inB k 0 59 && recB c r)
  · exact ⟨_, _, spec_EncodeRecord_bad k c r (by omega) (by omega) hq, fun w _ => impl_EncodeRecord_bad k c r (by omega) (by omega) hq w⟩
  · simp only [Bool.and_eq_true, inB_iff] at hq
    obtain ⟨n, rfl⟩ : ∃ n : Nat, k = n := ⟨k.toNat, by omega⟩
    exact ⟨_, _, spec_EncodeRecord_good n (by omega) c r hq.2, fun w h => impl_EncodeRecord_good n (by omega) c r hq.2 w h⟩
/-- What comes of a log and a record that is to be appended. -/
theorem app_cases (d p c r : List UInt8) (nn : Int) : (validL d p nn = true ∧ ∃ (q : List UInt8) (R : List (List UInt8 × List UInt8)), appV d p nn c r = .tuple #[logV d q (nn + 1), iv 0] ∧ validL d q (nn + 1) = true ∧ readR (d ++ p) = R ∧ readR (d ++ q) = R ++ [(c, r)] ∧ R.length ≤ 59) ∨
    (validL d p nn = true ∧ (∃ R, readR (d ++ p) = R ∧ R.length ≤ 60) ∧ ∃ k : Int, appV d p nn c r = .tuple #[logV d p nn, iv k] ∧ (k = 1 ∨ k = 2)) ∨ (validL d p nn = false ∧ appV d p nn c r = .tuple #[logV d p nn, iv 1]) := by
  cases hv : validL d p nn
  · exact .inr (.inr ⟨rfl, by rw [appV, hv]; rfl⟩)
  · have h4 := (validL_facts hv).2.2.2
    have hc := validL_cnt hv
    cases hr : recB c r
    · exact .inr (.inl ⟨rfl, ⟨_, rfl, by omega⟩, 1, by rw [appV, hv, hr]; rfl, .inl rfl⟩)
    · by_cases h60 : nn = 60
      · exact .inr (.inl ⟨rfl, ⟨_, rfl, by omega⟩, 2, by rw [appV, hv, hr, if_pos h60]; rfl, .inr rfl⟩)
      · obtain ⟨h1, h2⟩ := app_valid hv h60 hr
        exact .inl ⟨rfl, _, _, by rw [appV, hv, hr, if_neg h60]; rfl, h1, rfl, h2, by omega⟩
set_option maxRecDepth 10000 in
set_option maxHeartbeats 16000000 in
theorem walk_FnLogs {H : Type} {enc : TypeId × Value → H} {base : Nat} {spare : Nat → Bool} {held : Bool} {dd : DataW H} {ps : List MemPlace} (w0 : World) (a0 : Option Addr) (z0 c0 : Nat) (h0 : DataW.Trod enc Tryd.prog w0 base spare held 53 (.slice a0 z0 c0) dd ps) (hE : Env w0) :
    Calls Tryd.prog 10 #[.slice a0 z0 c0] w0 fun e w' => e = .returned (.bool true) ∧ Below w0.heap.size w0 w' := by
  obtain ⟨l, rfl, hO, hb, hlc, hcap⟩ := code_of h0
  clear h0
  have hcap2 : c0 ≤ 9223372036854775807 := by unfold maxLen at hcap; omega
  have hB := laws_vBig a0 l.length c0 (by omega)
  by_cases hbig : 65536 < l.length
  · rw [decide_eq_true hbig] at hB
    have HB := Lib.hid hB
    clear hB
    go_enter Tryd.func10, Tryd.ntmps10
    have hm := Mem.start w0
    repeat' (first | (go_at_call 34; refine mem_call hm (HB.out _) ?_; clear hm; intro w hm; (try simp only [nums, List.map_cons, List.map_nil])) | ((with_reducible refine gix ?_); first | refine mix rfl rfl rfl rfl ?_ | refine mixr rfl rfl rfl rfl ?_; (try simp only [Int.toNat_zero, Int.reduceToNat, Nat.reduceMul, Nat.zero_mul, Nat.one_mul, List.drop_succ_cons, List.drop_zero, List.take_succ_cons, List.take_zero])) | ((with_reducible refine gl ?_); first | refine ml hm rfl rfl rfl ?_ | refine mlw hm rfl rfl rfl ?_ | (refine mlr hm rfl rfl rfl ?_; try simp only [List.drop_succ_cons, List.drop_zero, List.take_succ_cons, List.take_zero])) | ((with_reducible refine gs ?_); (first | refine ms hm rfl rfl rfl rfl rfl ?_ | refine msw hm rfl rfl rfl rfl ?_ | refine msr hm rfl rfl rfl rfl ?_); clear hm; intro w hm; (try simp only [splice, List.set_cons_zero, List.set_cons_succ] at hm)) | ((with_reducible refine gb ?_); (first | refine mem_box hm rfl rfl rfl ?_ | refine mem_box1 hm rfl rfl rfl rfl ?_); clear hm; intro n w hm) | ((with_reducible refine ga ?_); refine mem_alloc hm rfl rfl ?_; clear hm; intro n w hm) | go_values | go_skip | go_guarded | go_step | go_upon | ((with_reducible refine bp ?_); go_back) | ((with_reducible refine up ?_); first | (simp only [Int.not_lt, Int.not_le] at *; go_simp) | (go_values <;> (try go_simp)) | (go_ite <;> go_prune <;> (try go_simp)) | (split <;> (first | (rename_i hx; exact (hx _ rfl).elim) | go_prune))))
    (try simp only [Exit.inBlock, Exit.then])
    (first | (refine ret1 rfl rfl (by (first | exact Res.tmp rfl | exact Res.atw hm rfl | exact Res.at hm rfl)) ?_) | (refine ret2 rfl rfl (by (first | exact Res.tmp rfl | exact Res.atw hm rfl | exact Res.at hm rfl)) (by (first | exact Res.tmp rfl | exact Res.atw hm rfl | exact Res.at hm rfl)) ?_) | (refine ret3 rfl rfl (by (first | exact Res.tmp rfl | exact Res.atw hm rfl | exact Res.at hm rfl)) (by (first | exact Res.tmp rfl | exact Res.atw hm rfl | exact Res.at hm rfl)) (by (first | exact Res.tmp rfl | exact Res.atw hm rfl | exact Res.at hm rfl)) ?_) | (refine ret4 rfl rfl (by (first | exact Res.tmp rfl | exact Res.atw hm rfl | exact Res.at hm rfl)) (by (first | exact Res.tmp rfl | exact Res.atw hm rfl | exact Res.at hm rfl)) (by (first | exact Res.tmp rfl | exact Res.atw hm rfl | exact Res.at hm rfl)) (by (first | exact Res.tmp rfl | exact Res.atw hm rfl | exact Res.at hm rfl)) ?_) | fail "ret")
    exact ⟨rfl, hm.below⟩
  rw [decide_eq_false hbig] at hB
  have HB := Lib.hid hB
  clear hB
  go_enter Tryd.func10, Tryd.ntmps10
  have hm := Mem.start w0
  repeat' (first | (go_at_call 34; refine mem_call hm (HB.out _) ?_; clear hm; intro w hm; (try simp only [nums, List.map_cons, List.map_nil])) | (go_at_call 37; refine call_vCut hO (by omega) hb ⟨by omega, hcap⟩ (by decide) (by decide) hm ?_; clear hm; intro l9 g9 more9 cap9 w hl9 hb9 hm; (try simp only [])) | (go_at_call 35; refine Calls.mono (spec_DrawIsValidRecord (hO.next hm) (by omega) hb) ?_; rintro e w9 ⟨c1, r1, rfl, hc1, hr1, hb9⟩; replace hm := hm.next hb9; clear hb9; (try simp only []); have hi1 := impl_IsValidRecord c1 r1 (by omega) (by omega); have hs1 := spec_IsValidRecord c1 r1 (by omega) (by omega); generalize recB c1 r1 = q1 at hi1 hs1; have HI1 := Lib.hid hi1; have HS1 := Lib.hid hs1; clear hi1 hs1 hc1 hr1) | (go_at_call 36; refine Calls.mono (spec_DrawEncodeRecord (OldCode.own hm) (by omega) (by assumption)) ?_; rintro e w9 ⟨k2, c2, r2, rfl, hk2, hk3, hc2, hr2, hb9⟩; replace hm := hm.next hb9; clear hb9; (try simp only []); obtain ⟨R2, q2, hs2, hi2⟩ := enc_both k2 c2 r2 (by omega) (by omega); have HI2 := Lib.hid hi2; have HS2 := Lib.hid hs2; clear hi2 hs2 hk2 hk3 hc2 hr2) | (go_at_call 15; refine mem_call hm (HI2.out _ (hE.mem hm)) ?_; clear hm; intro w hm; (try simp only [nums, List.map_cons, List.map_nil])) | (go_at_call 13; refine mem_call hm (HS2.out _) ?_; clear hm; intro w hm; (try simp only [nums, List.map_cons, List.map_nil])) | (go_at_call 38; refine Calls.mono (spec_DrawIsValidLog (hE.mem hm) (OldCode.own hm) (by omega) (by assumption)) ?_; rintro e w9 ⟨v3, rfl, ⟨d3, p3, n3, rfl, hdp3, hn30, hn31⟩, hb9⟩; replace hm := hm.next hb9; clear hb9; (try simp only []); have hi3 := impl_IsValidLog d3 p3 n3 (by omega) (by omega); have hs3 := spec_IsValidLog d3 p3 n3 (by omega) (by omega); generalize validL d3 p3 n3 = q3 at hi3 hs3; have HI3 := Lib.hid hi3; have HS3 := Lib.hid hs3; clear hi3 hs3 hdp3 hn30 hn31) | (go_at_call 39; refine Calls.mono (spec_DrawAppendRecord (hE.mem hm) (OldCode.own hm) (by omega) (by assumption)) ?_; rintro e w9 ⟨d, p, nn, c, r, rfl, hdp, hc, hr, hb9⟩; replace hm := hm.next hb9; clear hb9; (try simp only []); have hia := impl_AppendRecord d p nn (by omega) (by omega) c r (by omega) (by omega); have hsa := spec_AppendRecord d p nn (by omega) (by omega) c r (by omega) (by omega); have hiS := impl_SyncLog d p nn (by omega) (by omega); have hsS := spec_SyncLog d p nn (by omega) (by omega); (have hcs := app_cases d p c r nn); rcases hcs with ⟨hv, q, R, hA, hvq, hR1, hR2, hRl⟩ | ⟨hv, ⟨R, hR1, hRl⟩, kk, hA, hkk⟩ | ⟨hv, hA⟩ <;> (rw [hA] at hia hsa; rw [hv] at hiS hsS; simp only [if_true, Bool.false_eq_true, if_false] at hiS hsS; have HIA := Lib.hid hia; have HSA := Lib.hid hsa; have HIS := Lib.hid hiS; have HSS := Lib.hid hsS; have HVD := Lib.hid hv; clear hia hsa hiS hsS hA hv)) | (go_at_call 28; refine mem_call hm (HIA.out _ (hE.mem hm)) ?_; clear hm; intro w hm; (try simp only [nums, List.map_cons, List.map_nil])) | (go_at_call 27; refine mem_call hm (HSA.out _ (hE.mem hm)) ?_; clear hm; intro w hm; (try simp only [nums, List.map_cons, List.map_nil])) | ((with_reducible refine gd ?_); refine mq_start hm (by kernel_rfl) (by kernel_rfl) ?_; intro hne; (repeat (first | ((with_reducible refine gcmpQ ?_); refine qcmpS (same_log _ _ _) (by first | exact .inl rfl | exact .inr rfl) rfl rfl rfl rfl ?_; (try simp only [cmpV, Bool.not_true, Bool.not_false])) | ((with_reducible refine gq ?_); first | refine ql rfl rfl rfl ?_ | refine qlw rfl rfl rfl ?_ | (refine qlr rfl rfl rfl ?_; try simp only [List.drop_succ_cons, List.drop_zero, List.take_succ_cons, List.take_zero])) | (refine wpQuiet_step (fun K hK => ?_); go_simp; (try go_ints); (try simp [↓IntWalk.iteOmega, go_sem]); first | (refine hK _ ?_; clear hK K) | (apply Exists.intro; refine ⟨fun pp => ?_, hK _ ?_⟩; (first | (go_at_call 40; exact qcall (p := pp) (HI1.out _)) | (go_at_call 41; exact qcall (p := pp) (HS1.out _)) | (go_at_call 22; exact qcall (p := pp) (HI3.out _ (hE.mem pp.h))) | (go_at_call 20; exact qcall (p := pp) (HS3.out _)) | fail); clear hK K)))); refine wpQuiet_nil ?_; clear hm hne; intro w hm) | ((with_reducible refine gcmp ?_); refine mcmpS (same_log _ _ _) (by first | exact .inl rfl | exact .inr rfl) rfl rfl rfl rfl ?_; (try simp only [cmpV, Bool.not_true, Bool.not_false])) | ((with_reducible refine gix ?_); first | refine mix rfl rfl rfl rfl ?_ | refine mixr rfl rfl rfl rfl ?_; (try simp only [Int.toNat_zero, Int.reduceToNat, Nat.reduceMul, Nat.zero_mul, Nat.one_mul, List.drop_succ_cons, List.drop_zero, List.take_succ_cons, List.take_zero])) | ((with_reducible refine gl ?_); first | refine ml hm rfl rfl rfl ?_ | refine mlw hm rfl rfl rfl ?_ | (refine mlr hm rfl rfl rfl ?_; try simp only [List.drop_succ_cons, List.drop_zero, List.take_succ_cons, List.take_zero])) | ((with_reducible refine gs ?_); (first | refine ms hm rfl rfl rfl rfl rfl ?_ | refine msw hm rfl rfl rfl rfl ?_ | refine msr hm rfl rfl rfl rfl ?_); clear hm; intro w hm; (try simp only [splice, List.set_cons_zero, List.set_cons_succ] at hm)) | ((with_reducible refine gb ?_); (first | refine mem_box hm rfl rfl rfl ?_ | refine mem_box1 hm rfl rfl rfl rfl ?_); clear hm; intro n w hm) | ((with_reducible refine ga ?_); refine mem_alloc hm rfl rfl ?_; clear hm; intro n w hm) | go_values | go_skip | go_guarded | go_step | go_upon | ((with_reducible refine bp ?_); go_back) | ((with_reducible refine up ?_); first | (simp only [Int.not_lt, Int.not_le] at *; go_simp) | (go_values <;> (try go_simp)) | (go_ite <;> go_prune <;> (try go_simp)) | (split <;> (first | (rename_i hx; exact (hx _ rfl).elim) | go_prune))))
  · have hv := HVD.out
    replace hm := hm.drop (List.take_sublist 4 _)
    simp only [List.take_succ_cons, List.take_zero] at hm
    obtain ⟨hvs, hRs⟩ := sync_valid hv
    rw [hR1] at hRs
    have hlq := validL_le hvq
    have hIQ := impl_IsValidLog d q (nn + 1) (by omega) (by omega)
    rw [hvq] at hIQ
    have e3 : ∀ m : List Value, ((rcells R ++ Value.string (bs c) :: Value.string (bs r) :: m).drop (R.length * 2)).take 2 = [Value.string (bs c), Value.string (bs r)] := fun m => by
      rw [← rcells_len, List.drop_left]; rfl
    have hm1 := fun (σ : List Blk) (w : World) (hm : Mem w0 w σ) => impl_LogRecords_ok d p nn (by omega) (by omega) hv hm hE
    have hm2 := fun (σ : List Blk) (w : World) (hm : Mem w0 w σ) => spec_LogRecords_ok d p nn (by omega) (by omega) hv hm
    have hm3 := fun (σ : List Blk) (w : World) (hm : Mem w0 w σ) => impl_LogRecords_ok (d ++ p) [] nn (by rw [List.length_append]; omega) (by simp) hvs hm hE
    have hm4 := fun (σ : List Blk) (w : World) (hm : Mem w0 w σ) => impl_LogRecords_ok d q (nn + 1) (by omega) (by omega) hvq hm hE
    rw [hR1] at hm1 hm2
    rw [hRs] at hm3
    rw [hR2, rcells_snoc] at hm4
    have HM1 := Lib.hid hm1
    have HM2 := Lib.hid hm2
    have HM3 := Lib.hid hm3
    have HM4 := Lib.hid hm4
    have HIQ := Lib.hid hIQ
    have HE3 := Lib.hid e3
    have hRL := rcells_len R
    have hwr : IntKind.i64.wrap ((R.length : Int) + 1) = R.length + 1 := by simp [IntKind.wrap, IntKind.signed, IntKind.bits]; omega
    obtain ⟨nx, hnx⟩ : ∃ nx : Nat, (nx : Int) = R.length + 1 := ⟨R.length + 1, by omega⟩
    clear hm1 hm2 hm3 hm4 hIQ hv hvs hRs hR1 hR2 hvq
    repeat' (first | (go_at_call 26; refine mem_call hm (HIS.out _ (hE.mem hm)) ?_; clear hm; intro w hm; (try simp only [nums, List.map_cons, List.map_nil])) | (go_at_call 25; refine mem_call hm (HSS.out _ (hE.mem hm)) ?_; clear hm; intro w hm; (try simp only [nums, List.map_cons, List.map_nil])) | ((with_reducible refine gcmp ?_); refine mcmpS (same_log _ _ _) (by first | exact .inl rfl | exact .inr rfl) rfl rfl rfl rfl ?_; (try simp only [cmpV, Bool.not_true, Bool.not_false])) | (go_at_call 30; with_reducible refine mem_callW (HM1.out _ _ hm) ?_; clear hm; intro g5 more5 len5 cap5 w hm hf5 hx5; have hf6 := hf5.le; clear hf5; (try simp only [List.append_assoc, List.cons_append, List.nil_append] at hm); (try simp only [List.length_append, List.length_cons, List.length_nil] at hx5); rw [rcells_len] at hx5; (have e5 : len5 = R.length := by omega); subst len5; clear hx5; (try simp only [])) | (go_at_call 30; with_reducible refine mem_callW (HM3.out _ _ hm) ?_; clear hm; intro g5 more5 len5 cap5 w hm hf5 hx5; have hf6 := hf5.le; clear hf5; (try simp only [List.append_assoc, List.cons_append, List.nil_append] at hm); (try simp only [List.length_append, List.length_cons, List.length_nil] at hx5); rw [rcells_len] at hx5; (have e5 : len5 = R.length := by omega); subst len5; clear hx5; (try simp only [])) | (go_at_call 30; with_reducible refine mem_callW (HM4.out _ _ hm) ?_; clear hm; intro g5 more5 len5 cap5 w hm hf5 hx5; have hf6 := hf5.le; clear hf5; (try simp only [List.append_assoc, List.cons_append, List.nil_append] at hm); (try simp only [List.length_append, List.length_cons, List.length_nil] at hx5); rw [rcells_len] at hx5; (have e5 : len5 = nx := by omega); subst len5; clear hx5; (try simp only [])) | (go_at_call 29; with_reducible refine mem_callW (HM2.out _ _ hm) ?_; clear hm; intro g5 more5 len5 cap5 w hm hf5 hx5; have hf6 := hf5.le; clear hf5; (try simp only [List.append_assoc, List.cons_append, List.nil_append] at hm); (try simp only [List.length_append, List.length_cons, List.length_nil] at hx5); rw [rcells_len] at hx5; (have e5 : len5 = R.length := by omega); subst len5; clear hx5; (try simp only [])) | (go_at_call 42; refine mem_callM (laws_vRecords (R := R) hm rfl (by omega)) ?_; clear hm; intro w hm; (try simp only [])) | (with_reducible rw [HE3.out]) | ((with_reducible refine gd ?_); refine mq_start hm (by kernel_rfl) (by kernel_rfl) ?_; intro hne; (repeat (first | (with_reducible rw [HE3.out]) | ((with_reducible refine gcmpQ ?_); refine qcmpS (same_rec _ _) (by first | exact .inl rfl | exact .inr rfl) rfl rfl rfl rfl ?_; (try simp only [cmpV, Bool.not_true, Bool.not_false])) | ((with_reducible refine gq ?_); first | refine ql rfl rfl rfl ?_ | refine qlw rfl rfl rfl ?_ | (refine qlr rfl rfl rfl ?_; try simp only [List.drop_succ_cons, List.drop_zero, List.take_succ_cons, List.take_zero])) | (refine wpQuiet_step (fun K hK => ?_); go_simp; (try go_ints); (try simp [↓IntWalk.iteOmega, go_sem]); first | (refine hK _ ?_; clear hK K) | (apply Exists.intro; refine ⟨fun pp => ?_, hK _ ?_⟩; (first | (go_at_call 22; exact qcall (p := pp) (HIQ.out _ (hE.mem pp.h))) | (go_at_call 42; exact qcallM (p := pp) (laws_vRecords (R := R) pp.h rfl (by omega))) | fail); clear hK K)))); refine wpQuiet_nil ?_; clear hm hne; intro w hm) | ((with_reducible refine gix ?_); first | refine mix rfl rfl rfl rfl ?_ | refine mixr rfl rfl rfl rfl ?_; (try simp only [Int.toNat_zero, Int.reduceToNat, Nat.reduceMul, Nat.zero_mul, Nat.one_mul, List.drop_succ_cons, List.drop_zero, List.take_succ_cons, List.take_zero])) | ((with_reducible refine gl ?_); first | refine ml hm rfl rfl rfl ?_ | refine mlw hm rfl rfl rfl ?_ | (refine mlr hm rfl rfl rfl ?_; try simp only [List.drop_succ_cons, List.drop_zero, List.take_succ_cons, List.take_zero])) | ((with_reducible refine gs ?_); (first | refine ms hm rfl rfl rfl rfl rfl ?_ | refine msw hm rfl rfl rfl rfl ?_ | refine msr hm rfl rfl rfl rfl ?_); clear hm; intro w hm; (try simp only [splice, List.set_cons_zero, List.set_cons_succ] at hm)) | ((with_reducible refine gb ?_); (first | refine mem_box hm rfl rfl rfl ?_ | refine mem_box1 hm rfl rfl rfl rfl ?_); clear hm; intro n w hm) | ((with_reducible refine ga ?_); refine mem_alloc hm rfl rfl ?_; clear hm; intro n w hm) | go_values | go_skip | go_guarded | go_step | go_upon | ((with_reducible refine bp ?_); go_back) | ((with_reducible refine up ?_); first | (simp only [Int.not_lt, Int.not_le] at *; go_simp) | (go_values <;> (try go_simp)) | (go_ite <;> go_prune <;> (try go_simp)) | (split <;> (first | (rename_i hx; exact (hx _ rfl).elim) | go_prune))))
    (try simp only [Exit.inBlock, Exit.then])
    (first | (refine ret1 rfl rfl (by (first | exact Res.tmp rfl | exact Res.atw hm rfl | exact Res.at hm rfl)) ?_) | (refine ret2 rfl rfl (by (first | exact Res.tmp rfl | exact Res.atw hm rfl | exact Res.at hm rfl)) (by (first | exact Res.tmp rfl | exact Res.atw hm rfl | exact Res.at hm rfl)) ?_) | (refine ret3 rfl rfl (by (first | exact Res.tmp rfl | exact Res.atw hm rfl | exact Res.at hm rfl)) (by (first | exact Res.tmp rfl | exact Res.atw hm rfl | exact Res.at hm rfl)) (by (first | exact Res.tmp rfl | exact Res.atw hm rfl | exact Res.at hm rfl)) ?_) | (refine ret4 rfl rfl (by (first | exact Res.tmp rfl | exact Res.atw hm rfl | exact Res.at hm rfl)) (by (first | exact Res.tmp rfl | exact Res.atw hm rfl | exact Res.at hm rfl)) (by (first | exact Res.tmp rfl | exact Res.atw hm rfl | exact Res.at hm rfl)) (by (first | exact Res.tmp rfl | exact Res.atw hm rfl | exact Res.at hm rfl)) ?_) | fail "ret")
    exact ⟨rfl, hm.below⟩
  · have hv := HVD.out
    replace hm := hm.drop (List.take_sublist 4 _)
    simp only [List.take_succ_cons, List.take_zero] at hm
    obtain ⟨hvs, hRs⟩ := sync_valid hv
    rw [hR1] at hRs
    have hm1 := fun (σ : List Blk) (w : World) (hm : Mem w0 w σ) => impl_LogRecords_ok d p nn (by omega) (by omega) hv hm hE
    have hm2 := fun (σ : List Blk) (w : World) (hm : Mem w0 w σ) => spec_LogRecords_ok d p nn (by omega) (by omega) hv hm
    have hm3 := fun (σ : List Blk) (w : World) (hm : Mem w0 w σ) => impl_LogRecords_ok (d ++ p) [] nn (by rw [List.length_append]; omega) (by simp) hvs hm hE
    rw [hR1] at hm1 hm2
    rw [hRs] at hm3
    have HM1 := Lib.hid hm1
    have HM2 := Lib.hid hm2
    have HM3 := Lib.hid hm3
    clear hm1 hm2 hm3 hv hvs hRs hR1
    rcases hkk with rfl | rfl
    all_goals
      repeat' (first | (go_at_call 26; refine mem_call hm (HIS.out _ (hE.mem hm)) ?_; clear hm; intro w hm; (try simp only [nums, List.map_cons, List.map_nil])) | (go_at_call 25; refine mem_call hm (HSS.out _ (hE.mem hm)) ?_; clear hm; intro w hm; (try simp only [nums, List.map_cons, List.map_nil])) | ((with_reducible refine gcmp ?_); refine mcmpS (same_log _ _ _) (by first | exact .inl rfl | exact .inr rfl) rfl rfl rfl rfl ?_; (try simp only [cmpV, Bool.not_true, Bool.not_false])) | (go_at_call 30; with_reducible refine mem_callW (HM1.out _ _ hm) ?_; clear hm; intro g5 more5 len5 cap5 w hm hf5 hx5; have hf6 := hf5.le; clear hf5; (try simp only [List.append_assoc, List.cons_append, List.nil_append] at hm); (try simp only [List.length_append, List.length_cons, List.length_nil] at hx5); rw [rcells_len] at hx5; (have e5 : len5 = R.length := by omega); subst len5; clear hx5; (try simp only [])) | (go_at_call 30; with_reducible refine mem_callW (HM3.out _ _ hm) ?_; clear hm; intro g5 more5 len5 cap5 w hm hf5 hx5; have hf6 := hf5.le; clear hf5; (try simp only [List.append_assoc, List.cons_append, List.nil_append] at hm); (try simp only [List.length_append, List.length_cons, List.length_nil] at hx5); rw [rcells_len] at hx5; (have e5 : len5 = R.length := by omega); subst len5; clear hx5; (try simp only [])) | (go_at_call 29; with_reducible refine mem_callW (HM2.out _ _ hm) ?_; clear hm; intro g5 more5 len5 cap5 w hm hf5 hx5; have hf6 := hf5.le; clear hf5; (try simp only [List.append_assoc, List.cons_append, List.nil_append] at hm); (try simp only [List.length_append, List.length_cons, List.length_nil] at hx5); rw [rcells_len] at hx5; (have e5 : len5 = R.length := by omega); subst len5; clear hx5; (try simp only [])) | (go_at_call 42; refine mem_callM (laws_vRecords (R := R) hm rfl (by omega)) ?_; clear hm; intro w hm; (try simp only [])) | ((with_reducible refine gix ?_); first | refine mix rfl rfl rfl rfl ?_ | refine mixr rfl rfl rfl rfl ?_; (try simp only [Int.toNat_zero, Int.reduceToNat, Nat.reduceMul, Nat.zero_mul, Nat.one_mul, List.drop_succ_cons, List.drop_zero, List.take_succ_cons, List.take_zero])) | ((with_reducible refine gl ?_); first | refine ml hm rfl rfl rfl ?_ | refine mlw hm rfl rfl rfl ?_ | (refine mlr hm rfl rfl rfl ?_; try simp only [List.drop_succ_cons, List.drop_zero, List.take_succ_cons, List.take_zero])) | ((with_reducible refine gs ?_); (first | refine ms hm rfl rfl rfl rfl rfl ?_ | refine msw hm rfl rfl rfl rfl ?_ | refine msr hm rfl rfl rfl rfl ?_); clear hm; intro w hm; (try simp only [splice, List.set_cons_zero, List.set_cons_succ] at hm)) | ((with_reducible refine gb ?_); (first | refine mem_box hm rfl rfl rfl ?_ | refine mem_box1 hm rfl rfl rfl rfl ?_); clear hm; intro n w hm) | ((with_reducible refine ga ?_); refine mem_alloc hm rfl rfl ?_; clear hm; intro n w hm) | go_values | go_skip | go_guarded | go_step | go_upon | ((with_reducible refine bp ?_); go_back) | ((with_reducible refine up ?_); first | (simp only [Int.not_lt, Int.not_le] at *; go_simp) | (go_values <;> (try go_simp)) | (go_ite <;> go_prune <;> (try go_simp)) | (split <;> (first | (rename_i hx; exact (hx _ rfl).elim) | go_prune))))
      (try simp only [Exit.inBlock, Exit.then])
      (first | (refine ret1 rfl rfl (by (first | exact Res.tmp rfl | exact Res.atw hm rfl | exact Res.at hm rfl)) ?_) | (refine ret2 rfl rfl (by (first | exact Res.tmp rfl | exact Res.atw hm rfl | exact Res.at hm rfl)) (by (first | exact Res.tmp rfl | exact Res.atw hm rfl | exact Res.at hm rfl)) ?_) | (refine ret3 rfl rfl (by (first | exact Res.tmp rfl | exact Res.atw hm rfl | exact Res.at hm rfl)) (by (first | exact Res.tmp rfl | exact Res.atw hm rfl | exact Res.at hm rfl)) (by (first | exact Res.tmp rfl | exact Res.atw hm rfl | exact Res.at hm rfl)) ?_) | (refine ret4 rfl rfl (by (first | exact Res.tmp rfl | exact Res.atw hm rfl | exact Res.at hm rfl)) (by (first | exact Res.tmp rfl | exact Res.atw hm rfl | exact Res.at hm rfl)) (by (first | exact Res.tmp rfl | exact Res.atw hm rfl | exact Res.at hm rfl)) (by (first | exact Res.tmp rfl | exact Res.atw hm rfl | exact Res.at hm rfl)) ?_) | fail "ret")
      exact ⟨rfl, hm.below⟩
  · have hv := HVD.out
    replace hm := hm.drop (List.take_sublist 4 _)
    simp only [List.take_succ_cons, List.take_zero] at hm
    have hm2 := fun (σ : List Blk) (w : World) (hm : Mem w0 w σ) => spec_LogRecords_no d p nn (by omega) (by omega) hv hm
    have hm1 := impl_LogRecords_no d p nn (by omega) (by omega) hv
    have hv0 : validL [] [] 0 = true := validL_intro (by simp) (by simp [readL_nil]) (by simp [readL_nil]) (by simp [readR, readL_nil])
    have hm3 := fun (σ : List Blk) (w : World) (hm : Mem w0 w σ) => impl_LogRecords_ok [] [] 0 (by simp) (by simp) hv0 hm hE
    have hr0 : readR ([] ++ []) = [] := by simp [readR, readL_nil]
    rw [hr0] at hm3
    have HM1 := Lib.hid hm1
    have HM2 := Lib.hid hm2
    have HM3 := Lib.hid hm3
    clear hm1 hm2 hm3 hv hv0 hr0
    repeat' (first | (go_at_call 26; refine mem_call hm (HIS.out _ (hE.mem hm)) ?_; clear hm; intro w hm; (try simp only [nums, List.map_cons, List.map_nil])) | (go_at_call 25; refine mem_call hm (HSS.out _ (hE.mem hm)) ?_; clear hm; intro w hm; (try simp only [nums, List.map_cons, List.map_nil])) | ((with_reducible refine gcmp ?_); refine mcmpS (same_log _ _ _) (by first | exact .inl rfl | exact .inr rfl) rfl rfl rfl rfl ?_; (try simp only [cmpV, Bool.not_true, Bool.not_false])) | (go_at_call 30; with_reducible refine mem_call hm (HM1.out _ (hE.mem hm)) ?_; clear hm; intro w hm; (try simp only [])) | (go_at_call 30; with_reducible refine mem_callW (HM3.out _ _ hm) ?_; clear hm; intro g5 more5 len5 cap5 w hm hf5 hx5; clear hf5; (have e5 : len5 = 0 := by (simp [rcells] at hx5; omega)); subst len5; clear hx5; (try simp only [])) | (go_at_call 29; with_reducible refine mem_callW (HM2.out _ _ hm) ?_; clear hm; intro g5 more5 len5 cap5 w hm hf5 hx5; clear hf5; (have e5 : len5 = 0 := by (simp at hx5; omega)); subst len5; clear hx5; (try simp only [])) | (go_at_call 42; refine mem_call hm (laws_vRecords_nil _ _ _ _ _) ?_; clear hm; intro w hm; (try simp only [nums, List.map_cons, List.map_nil])) | ((with_reducible refine gix ?_); first | refine mix rfl rfl rfl rfl ?_ | refine mixr rfl rfl rfl rfl ?_; (try simp only [Int.toNat_zero, Int.reduceToNat, Nat.reduceMul, Nat.zero_mul, Nat.one_mul, List.drop_succ_cons, List.drop_zero, List.take_succ_cons, List.take_zero])) | ((with_reducible refine gl ?_); first | refine ml hm rfl rfl rfl ?_ | refine mlw hm rfl rfl rfl ?_ | (refine mlr hm rfl rfl rfl ?_; try simp only [List.drop_succ_cons, List.drop_zero, List.take_succ_cons, List.take_zero])) | ((with_reducible refine gs ?_); (first | refine ms hm rfl rfl rfl rfl rfl ?_ | refine msw hm rfl rfl rfl rfl ?_ | refine msr hm rfl rfl rfl rfl ?_); clear hm; intro w hm; (try simp only [splice, List.set_cons_zero, List.set_cons_succ] at hm)) | ((with_reducible refine gb ?_); (first | refine mem_box hm rfl rfl rfl ?_ | refine mem_box1 hm rfl rfl rfl rfl ?_); clear hm; intro n w hm) | ((with_reducible refine ga ?_); refine mem_alloc hm rfl rfl ?_; clear hm; intro n w hm) | go_values | go_skip | go_guarded | go_step | go_upon | ((with_reducible refine bp ?_); go_back) | ((with_reducible refine up ?_); first | (simp only [Int.not_lt, Int.not_le] at *; go_simp) | (go_values <;> (try go_simp)) | (go_ite <;> go_prune <;> (try go_simp)) | (split <;> (first | (rename_i hx; exact (hx _ rfl).elim) | go_prune))))
    (try simp only [Exit.inBlock, Exit.then])
    (first | (refine ret1 rfl rfl (by (first | exact Res.tmp rfl | exact Res.atw hm rfl | exact Res.at hm rfl)) ?_) | (refine ret2 rfl rfl (by (first | exact Res.tmp rfl | exact Res.atw hm rfl | exact Res.at hm rfl)) (by (first | exact Res.tmp rfl | exact Res.atw hm rfl | exact Res.at hm rfl)) ?_) | (refine ret3 rfl rfl (by (first | exact Res.tmp rfl | exact Res.atw hm rfl | exact Res.at hm rfl)) (by (first | exact Res.tmp rfl | exact Res.atw hm rfl | exact Res.at hm rfl)) (by (first | exact Res.tmp rfl | exact Res.atw hm rfl | exact Res.at hm rfl)) ?_) | (refine ret4 rfl rfl (by (first | exact Res.tmp rfl | exact Res.atw hm rfl | exact Res.at hm rfl)) (by (first | exact Res.tmp rfl | exact Res.atw hm rfl | exact Res.at hm rfl)) (by (first | exact Res.tmp rfl | exact Res.atw hm rfl | exact Res.at hm rfl)) (by (first | exact Res.tmp rfl | exact Res.atw hm rfl | exact Res.at hm rfl)) ?_) | fail "ret")
    exact ⟨rfl, hm.below⟩
set_option maxRecDepth 100000 in
theorem lifted_FnLogs (os : Os) (started : os.Started) (H : Type) (enc : TypeId × Value → H) :
    ReturnsInHanded {} Tryd.checked os 10 .any (fun w args => (Rows.fnLogsSpec.pre enc Tryd.prog Tryd.f10 [] false w args ∧ laidMetH Tryd.prog laidT w) ∧ sizedMet enc Tryd.prog Tryd.f10 (OpenSpec.ofChange Rows.fnLogsSpec) false w args) (Rows.fnLogsSpec.post enc Tryd.prog Tryd.f10 false true false false) := by
  refine returns_and_shaped (C := Tryd.checked) (X := fun w _ => laidMetH Tryd.prog laidT w) (fun _ _ _ hh h => h.of_heap hh) own started (by kernel_rfl) Tryd.func10
    (ChangeSpec.witness_shaped (enc := enc) (C := Tryd.checked) (os := os) (X := fun w _ => laidMetH Tryd.prog laidT w) false (World.doorLaid Tryd.prog 400 os) #[.slice none 0 0] 8 rfl (World.shaped_of_RefB (by kernel_rfl) (by kernel_rfl)) (by kernel_rfl) (by kernel_rfl) (by kernel_rfl) (door_met os _)) ?_
  intro W base args ds gs before hval0 hW hL hsh
  have hE := env_of hL hsh
  have hval : ∀ (j : Nat) t v, Tryd.f10.params[j]? = some t → args[j]? = some v → Value.okWide Tryd.prog W .any base t v := hval0
  have hW' := hW
  obtain ⟨p, q, hA0, hV, rfl, hfz, hnd⟩ := hW
  have hA : DataW.TrodAll enc Tryd.prog W 0 (fun _ => true) true Tryd.f10.params.toList args.toList ds p := hA0
  rw [Tryd.params10] at hA hval
  obtain ⟨v0, vs0, d0, ds0, p0, q0, hargs, rfl, rfl, h0, r0⟩ := trodAll_cons hA
  obtain ⟨rfl, rfl, rfl⟩ := trodAll_nil r0
  obtain rfl : args = #[v0] := by cases args; simp_all
  obtain ⟨rfl, rfl⟩ := trodVars_none hV
  obtain ⟨a0, z0, c0, rfl⟩ := okWide_slice Tryd.underlying53 (hval 0 53 v0 rfl rfl)
  clear hA0 hval0
  refine (walk_FnLogs W a0 z0 c0 h0 hE).mono fun e W' ⟨he, hb⟩ => ?_
  subst he
  exact ⟨_, rfl, post_law hW' rfl rfl rfl (by kernel_rfl) hb⟩
/-- FnLogs: for every input the law returns true, and each argument reads as it read before. No condition. -/
theorem FnLogs_row : Rows.FnLogsSaid :=
  OpenClaim.holds_of_wide 10 Tryd.f10 rfl rfl rfl rfl rfl rfl rfl ⟨rfl, rfl, rfl, rfl, rfl⟩ rfl rfl rfl rfl rfl (by kernel_rfl) Tryd.func10 (by kernel_rfl)
    (of_decide_eq_true (by kernel_rfl)) (by unfold Func.isWrapper; first | (rw [if_pos (by decide +kernel)]; kernel_rfl) | (rw [if_neg (by decide +kernel)]; exact ⟨rfl, rfl⟩))
    (fun os started H enc _ => lifted_FnLogs os started H enc)
/-- FnLogs: THE TIED CARD: for every input the law returns true, and each argument reads as it read before; the listed tables of the library are tied to the text. No condition but the card's own. -/
theorem FnLogs_holds : Rows.FnLogsCardSaid :=
  Claim7.holds_tied_plain_at .later [] [.data, .data, .data] true (true, "e302bd369846dc93b1b8179c0b4670b58c130254c0ae87344215e59e5044bc94") false
    FnLogs_row (fun _ h => by cases h) (by kernel_rfl) (fun _ h => by cases h) fnLogs_row_tie rfl ⟨rfl, rfl⟩ (by kernel_rfl) rfl
    (fun f fn hf hfn => by
      obtain rfl : f = 10 := Option.some.inj ((show Tryd.prog.funcNamed "loop.example/g01194/laws.FnLogs" = some 10 by kernel_rfl).symm.trans hf) |>.symm
      obtain rfl : fn = Tryd.f10 := (Option.some.inj (Tryd.func10.symm.trans hfn)).symm
      exact ⟨by kernel_rfl, fun j t ht => by
        rw [Tryd.params10] at ht
        have hm : t ∈ [53] := by simpa using Array.mem_of_getElem? ht
        have hall : ([53].all fun u => !Tryd.prog.wantsStandIn u) = true := by kernel_rfl
        exact (show Tryd.prog.wantsStandIn t = false by simpa using List.all_eq_true.1 hall t hm)⟩)
    (by kernel_rfl)
end Go.Proofs.YtjmolkamaeonmaaDoor

/-
  Walks of the program's reading of logs.
-/
import Derived.Test.YtjmolkamaeonmaaDoorRead
set_option linter.unusedVariables false
set_option linter.unusedSimpArgs false
namespace Go.Proofs.YtjmolkamaeonmaaDoor
open Go.RowKit Slm
theorem strings_Cut1 (l : List UInt8) (hl : l.length ≤ 1000000) (c : UInt8) (w : World) (hE : Env w) : Calls Tryd.prog 75 #[.string (bs l), .string ⟨#[c]⟩] w fun e w' => e = .returned (.tuple #[.string (bs (bef c l)), .string (bs (aft c l)), .bool (decide (c ∈ l))]) ∧ Below w.heap.size w w' := by
  obtain ⟨m, hm⟩ := hE.big
  refine (Tryd.strings_Cut (bs l) ⟨#[c]⟩ m w (by rw [bs_size]; omega) hm).mono fun e w' ⟨he, n, hw⟩ => ⟨?_, hw ▸ below_drewN (Below.refl _ _) n⟩
  rw [he]
  have e1 : (bs l).data.toList = l := by simp [bs]
  have e2 : Lib.cut (bs l).data.toList (⟨#[c]⟩ : ByteArray).data.toList = (bef c l, aft c l, decide (c ∈ l)) := by rw [e1]; exact cut_one l c
  rw [e2]
  rfl
theorem enc_any (k : Nat) (hk : k ≤ 59) (c r : List UInt8) (hc : c.length ≤ 1000000) (hr : r.length ≤ 1000000) : ∃ (R : ByteArray) (q : Bool), (∀ w, Env w → Calls Tryd.prog 15 #[iv k, .agg #[.string (bs c), .string (bs r)]] w fun e w' => e = .returned (.tuple #[.string R, .bool q]) ∧ Below w.heap.size w w') ∧ q = recB c r ∧ (q = true → R = bs (lineL k c r)) := by
  cases h : recB c r
  · exact ⟨_, _, fun w _ => impl_EncodeRecord_bad k c r (by omega) (by omega) (by rw [h, Bool.and_false]) w, rfl, by simp⟩
  · exact ⟨_, _, fun w hE => impl_EncodeRecord_good k hk c r h w hE, rfl, fun _ => rfl⟩
set_option maxHeartbeats 4000000 in
set_option maxRecDepth 10000 in
theorem impl_readRecords {w0 w : World} {σ : List Blk} (l : List UInt8) (hl : l.length ≤ 40000) (hm : Mem w0 w σ) (hE0 : Env w0) : Calls Tryd.prog 52 #[.string (bs l)] w fun e w' => ∃ u, e = .returned (.tuple #[u, iv (readL 60 0 l).2]) ∧ Sl w0 w' u 27 2 (rcells (readL 60 0 l).1) σ := by
  have hsz := bs_size l
  go_enter Tryd.func52, Tryd.ntmps52
  repeat' (first | ((with_reducible refine gbs ?_); refine mbs hm rfl rfl rfl ?_; clear hm; intro n w hm; (try simp only [List.flatMap_cons, List.flatMap_nil, Value.cells, List.append_nil, List.cons_append, List.nil_append] at hm)) | ((with_reducible refine gap ?_); refine map_ hm rfl rfl rfl rfl hf ?_; clear hm hf; intro g cap more w hm hf; rw [List.take_left' hx] at hm hf; (try simp only [List.eraseIdx_cons_succ, List.eraseIdx_cons_zero, Nat.zero_add, Nat.reduceAdd, Nat.reduceSub, Nat.reduceLT, if_true, if_false] at hm)) | ((with_reducible refine gix ?_); first | refine mix rfl rfl rfl rfl ?_ | refine mixr rfl rfl rfl rfl ?_; (try simp only [Int.toNat_zero, Int.reduceToNat, Nat.reduceMul, Nat.zero_mul, Nat.one_mul, List.drop_succ_cons, List.drop_zero, List.take_succ_cons, List.take_zero])) | ((with_reducible refine gl ?_); first | refine ml hm rfl rfl rfl ?_ | refine mlw hm rfl rfl rfl ?_ | (refine mlr hm rfl rfl rfl ?_; try simp only [List.drop_succ_cons, List.drop_zero, List.take_succ_cons, List.take_zero])) | ((with_reducible refine gs ?_); (first | refine ms hm rfl rfl rfl rfl rfl ?_ | refine msw hm rfl rfl rfl rfl ?_ | refine msr hm rfl rfl rfl rfl ?_); clear hm; intro w hm; (try simp only [splice, List.set_cons_zero, List.set_cons_succ] at hm)) | ((with_reducible refine gb ?_); (first | refine mem_box hm rfl rfl rfl ?_ | refine mem_box1 hm rfl rfl rfl rfl ?_); clear hm; intro n w hm) | ((with_reducible refine ga ?_); refine mem_alloc hm rfl rfl ?_; clear hm; intro n w hm) | go_values | go_skip | go_guarded | go_step | go_upon | ((with_reducible refine bp ?_); go_back) | ((with_reducible refine up ?_); first | (simp only [Int.not_lt, Int.not_le] at *; go_simp) | (go_values <;> (try go_simp)) | (go_ite <;> go_prune <;> (try go_simp)) | (split <;> (first | (rename_i hx; exact (hx _ rfl).elim) | go_prune))))
  obtain ⟨τ, hτ, hS⟩ := Sl.sig2 (Sl.new hm)
  go_loopw [4, 5] (fun out at_ wr => ∃ (m : Nat) (O : List (List UInt8 × List UInt8)), O.length ≤ 60 ∧ m ≤ l.length ∧ at_ = iv m ∧ readL 60 0 l = (O ++ (readL (60 - O.length) O.length (l.drop m)).1, m + (readL (60 - O.length) O.length (l.drop m)).2) ∧ Sl w0 wr out 27 2 (rcells O) τ) (fun _ at_ _ => l.length - (intOf at_).toNat)
  case atStart => exact ⟨0, [], by simp, by omega, rfl, by simp, hS⟩
  case round =>
    clear hm hS
    obtain ⟨m, O, hO, hml, rfl, hrd, g, more, len, cap, rfl, hm, hf, hx⟩ := hrel
    subst hτ
    have hlen : len = O.length := by rw [rcells_len] at hx; omega
    subst hlen
    by_cases hn60 : O.length < 60
    case neg =>
      have e : O.length = 60 := by omega
      have e2 : readL (60 - O.length) O.length (l.drop m) = ([], 0) := by rw [e]; rfl
      rw [e2, List.append_nil, Nat.add_zero] at hrd
      have HRD := Lib.hid hrd
      have HX := Lib.hid hx
      clear hrd e2
      repeat' (first  | ((with_reducible refine gix ?_); first | refine mix rfl rfl rfl rfl ?_ | refine mixr rfl rfl rfl rfl ?_; (try simp only [Int.toNat_zero, Int.reduceToNat, Nat.reduceMul, Nat.zero_mul, Nat.one_mul, List.drop_succ_cons, List.drop_zero, List.take_succ_cons, List.take_zero])) | ((with_reducible refine gl ?_); first | refine ml hm rfl rfl rfl ?_ | refine mlw hm rfl rfl rfl ?_ | (refine mlr hm rfl rfl rfl ?_; try simp only [List.drop_succ_cons, List.drop_zero, List.take_succ_cons, List.take_zero])) | ((with_reducible refine gs ?_); (first | refine ms hm rfl rfl rfl rfl rfl ?_ | refine msw hm rfl rfl rfl rfl ?_ | refine msr hm rfl rfl rfl rfl ?_); clear hm; intro w hm; (try simp only [splice, List.set_cons_zero, List.set_cons_succ] at hm)) | ((with_reducible refine gb ?_); (first | refine mem_box hm rfl rfl rfl ?_ | refine mem_box1 hm rfl rfl rfl rfl ?_); clear hm; intro n w hm) | ((with_reducible refine ga ?_); refine mem_alloc hm rfl rfl ?_; clear hm; intro n w hm) | go_values | go_skip | go_guarded | go_step | go_upon | ((with_reducible refine bp ?_); go_back) | ((with_reducible refine up ?_); first | (simp only [Int.not_lt, Int.not_le] at *; go_simp) | (go_values <;> (try go_simp)) | (go_ite <;> go_prune <;> (try go_simp)) | (split <;> (first | (rename_i hx; exact (hx _ rfl).elim) | go_prune))))
      (try simp only [Exit.inBlock, Exit.then])
      (first | (refine ret1 rfl rfl (by (first | exact Res.tmp rfl | exact Res.atw hm rfl | exact Res.at hm rfl)) ?_) | (refine ret2 rfl rfl (by (first | exact Res.tmp rfl | exact Res.atw hm rfl | exact Res.at hm rfl)) (by (first | exact Res.tmp rfl | exact Res.atw hm rfl | exact Res.at hm rfl)) ?_) | (refine ret3 rfl rfl (by (first | exact Res.tmp rfl | exact Res.atw hm rfl | exact Res.at hm rfl)) (by (first | exact Res.tmp rfl | exact Res.atw hm rfl | exact Res.at hm rfl)) (by (first | exact Res.tmp rfl | exact Res.atw hm rfl | exact Res.at hm rfl)) ?_) | (refine ret4 rfl rfl (by (first | exact Res.tmp rfl | exact Res.atw hm rfl | exact Res.at hm rfl)) (by (first | exact Res.tmp rfl | exact Res.atw hm rfl | exact Res.at hm rfl)) (by (first | exact Res.tmp rfl | exact Res.atw hm rfl | exact Res.at hm rfl)) (by (first | exact Res.tmp rfl | exact Res.atw hm rfl | exact Res.at hm rfl)) ?_) | fail "ret")
      rw [HRD.out]
      exact ⟨_, rfl, Sl.of hm hf HX.out⟩
    have hE := bs_ext l m l.length
    rw [List.take_of_length_le (by rw [List.length_drop]; omega)] at hE
    have hXl : (l.drop m).length = l.length - m := List.length_drop
    have hdr : ∀ j, (l.drop m).drop j = l.drop (m + j) := fun j => List.drop_drop
    generalize l.drop m = X at *
    have hXs := bs_size X
    have hBl := bef_len 10 X
    have hBs := bs_size (bef 10 X)
    have hc1 := strings_Cut1 X (by omega) 10
    have hb2 := bef_len 35 (bef 10 X)
    have hc2 := strings_Cut1 (bef 10 X) (by omega) 35
    have hb3 := aft_len 32 (bef 35 (bef 10 X))
    have hc3 := strings_Cut1 (bef 35 (bef 10 X)) (by omega) 32
    have hc4 := strings_Cut1 (aft 32 (bef 35 (bef 10 X))) (by omega) 64
    have hb5 := bef_len 64 (aft 32 (bef 35 (bef 10 X)))
    have hb6 := aft_len 64 (aft 32 (bef 35 (bef 10 X)))
    obtain ⟨R, q, hD, hq, hR⟩ := enc_any O.length (by omega) (recOf (bef 10 X)).1 (recOf (bef 10 X)).2 (by simp only [recOf]; omega) (by simp only [recOf]; omega)
    have hok : okLine O.length (bef 10 X) = (q && (R.toList == (bs (bef 10 X) ++ (⟨#[10]⟩ : ByteArray)).toList)) := by
      rw [okLine, ← hq]
      cases hqq : q
      · rfl
      · rw [hR hqq, show (⟨#[10]⟩ : ByteArray) = bs [10] from rfl, bs_app, u8_neq]
    obtain ⟨f, hfu⟩ : ∃ f, 60 - O.length = f + 1 := ⟨59 - O.length, by omega⟩
    have hff : f = 60 - (O.length + 1) := by omega
    rw [hfu] at hrd
    have hno : (decide ((10 : UInt8) ∈ X) && okLine O.length (bef 10 X)) = false → readL 60 0 l = (O, m) := fun h => by rw [hrd, readL_no h, List.append_nil, Nat.add_zero]
    have hyes : (decide ((10 : UInt8) ∈ X) && okLine O.length (bef 10 X)) = true → m + ((bef 10 X).length + 1) ≤ l.length ∧ readL 60 0 l = (O ++ (recOf (bef 10 X) :: (readL (60 - (O.length + 1)) (O.length + 1) (l.drop (m + ((bef 10 X).length + 1)))).1), m + ((bef 10 X).length + 1 + (readL (60 - (O.length + 1)) (O.length + 1) (l.drop (m + ((bef 10 X).length + 1)))).2)) := fun h => by
      simp only [Bool.and_eq_true, decide_eq_true_eq] at h
      have := bef_lt h.1
      refine ⟨by omega, ?_⟩
      rw [hrd, readL_yes h.1 h.2, hff, ← hdr, drop_bef h.1]
    rw [hok] at hno hyes
    clear hrd hok hR hq hdr hff hfu
    have hrc : recOf (bef 10 X) = (bef 64 (aft 32 (bef 35 (bef 10 X))), aft 64 (aft 32 (bef 35 (bef 10 X)))) := rfl
    rw [hrc] at hD hyes
    clear hrc
    have HX := Lib.hid hx
    have HD := Lib.hid hD
    have HC1 := Lib.hid hc1
    have HC2 := Lib.hid hc2
    have HC3 := Lib.hid hc3
    have HC4 := Lib.hid hc4
    have HNO : Unit → Hid _ := fun _ => Lib.hid hno
    have HYES : Unit → Hid _ := fun _ => Lib.hid hyes
    clear hD hc1 hc2 hc3 hc4 hno hyes hb2 hb3 hb5 hb6
    generalize decide ((10 : UInt8) ∈ X) = wh at *
    generalize decide ((35 : UInt8) ∈ bef 10 X) = wh2 at *
    generalize decide ((32 : UInt8) ∈ bef 35 (bef 10 X)) = wh3 at *
    generalize decide ((64 : UInt8) ∈ aft 32 (bef 35 (bef 10 X))) = wh4 at *
    generalize bef 64 (aft 32 (bef 35 (bef 10 X))) = c at *
    generalize aft 64 (aft 32 (bef 35 (bef 10 X))) = r at *
    generalize aft 32 (bef 35 (bef 10 X)) = L3 at *
    generalize bef 32 (bef 35 (bef 10 X)) = L3b at *
    generalize aft 35 (bef 10 X) = L2b at *
    generalize bef 35 (bef 10 X) = L2 at *
    generalize aft 10 X = L1b at *
    generalize bef 10 X = B at *
    obtain ⟨Z, hZ⟩ : ∃ Z, bs B ++ (⟨#[10]⟩ : ByteArray) = Z := ⟨_, rfl⟩
    rw [hZ] at HNO HYES
    generalize hp : (R.toList == Z.toList) = p at HNO HYES
    cases wh <;> cases q
    case true.true =>
      repeat' (first | (go_at_call 75; refine mem_call hm (by first | with_reducible exact HC1.out _ (hE0.mem hm) | with_reducible exact HC2.out _ (hE0.mem hm) | with_reducible exact HC3.out _ (hE0.mem hm) | with_reducible exact HC4.out _ (hE0.mem hm)) ?_; clear hm; intro w hm; (try simp only [nums, List.map_cons, List.map_nil])) | (go_at_call 15; refine mem_call hm (HD.out _ (hE0.mem hm)) ?_; clear hm; intro w hm; (try simp only [nums, List.map_cons, List.map_nil])) | ((with_reducible refine gbs ?_); refine mbs hm rfl rfl rfl ?_; clear hm; intro n w hm; (try simp only [List.flatMap_cons, List.flatMap_nil, Value.cells, List.append_nil, List.cons_append, List.nil_append] at hm)) | ((with_reducible refine gap ?_); refine map_ hm rfl rfl rfl rfl hf ?_; clear hm hf; intro g cap more w hm hf; rw [List.take_left' hx] at hm hf; (try simp only [List.eraseIdx_cons_succ, List.eraseIdx_cons_zero, Nat.zero_add, Nat.reduceAdd, Nat.reduceSub, Nat.reduceLT, if_true, if_false] at hm)) | ((with_reducible refine gix ?_); first | refine mix rfl rfl rfl rfl ?_ | refine mixr rfl rfl rfl rfl ?_; (try simp only [Int.toNat_zero, Int.reduceToNat, Nat.reduceMul, Nat.zero_mul, Nat.one_mul, List.drop_succ_cons, List.drop_zero, List.take_succ_cons, List.take_zero])) | ((with_reducible refine gl ?_); first | refine ml hm rfl rfl rfl ?_ | refine mlw hm rfl rfl rfl ?_ | (refine mlr hm rfl rfl rfl ?_; try simp only [List.drop_succ_cons, List.drop_zero, List.take_succ_cons, List.take_zero])) | ((with_reducible refine gs ?_); (first | refine ms hm rfl rfl rfl rfl rfl ?_ | refine msw hm rfl rfl rfl rfl ?_ | refine msr hm rfl rfl rfl rfl ?_); clear hm; intro w hm; (try simp only [splice, List.set_cons_zero, List.set_cons_succ] at hm)) | ((with_reducible refine gb ?_); (first | refine mem_box hm rfl rfl rfl ?_ | refine mem_box1 hm rfl rfl rfl rfl ?_); clear hm; intro n w hm) | ((with_reducible refine ga ?_); refine mem_alloc hm rfl rfl ?_; clear hm; intro n w hm) | go_values | go_skip | go_guarded | go_step | go_upon | ((with_reducible refine bp ?_); go_back) | ((with_reducible refine up ?_); first | (simp only [Int.not_lt, Int.not_le] at *; go_simp) | (go_values <;> (try go_simp)) | (go_ite <;> go_prune <;> (try go_simp)) | (split <;> (first | (rename_i hx; exact (hx _ rfl).elim) | go_prune))))
      case roundEnd =>
        cases p
        · exact absurd ‹(!false) = false› (by decide)
        obtain ⟨hY1, hY2⟩ := (HYES ()).out rfl
        have HY2 := Lib.hid hY2
        clear hY2 HYES HNO
        go_roundw
        case rel =>
          (try (first | ((repeat apply Exists.intro); refine ⟨?_, rfl⟩) | (repeat refine ex_any ?_)))
          refine ⟨m + (B.length + 1), O ++ [(c, r)], by rw [List.length_append]; simp; omega, hY1, by go_num, ?_, ?_⟩
          · rw [HY2.out]
            simp only [List.length_append, List.length_cons, List.length_nil, Nat.zero_add, List.append_assoc, List.cons_append, List.nil_append, Prod.mk.injEq, true_and]
            omega
          · rw [rcells_snoc]
            refine (Sl.of hm hf ?_).drop (by repeat (first | exact List.Sublist.refl _ | refine List.Sublist.cons _ ?_))
            rw [List.length_append, HX.out]; simp; omega
        case measure => simp [intOf]; omega
      all_goals
        cases p
        case true => exact absurd ‹(!true) = true› (by decide)
        have hN := (HNO ()).out rfl
        (try simp only [Exit.inBlock, Exit.then])
        (first | (refine ret1 rfl rfl (by (first | exact Res.tmp rfl | exact Res.atw hm rfl | exact Res.at hm rfl)) ?_) | (refine ret2 rfl rfl (by (first | exact Res.tmp rfl | exact Res.atw hm rfl | exact Res.at hm rfl)) (by (first | exact Res.tmp rfl | exact Res.atw hm rfl | exact Res.at hm rfl)) ?_) | (refine ret3 rfl rfl (by (first | exact Res.tmp rfl | exact Res.atw hm rfl | exact Res.at hm rfl)) (by (first | exact Res.tmp rfl | exact Res.atw hm rfl | exact Res.at hm rfl)) (by (first | exact Res.tmp rfl | exact Res.atw hm rfl | exact Res.at hm rfl)) ?_) | (refine ret4 rfl rfl (by (first | exact Res.tmp rfl | exact Res.atw hm rfl | exact Res.at hm rfl)) (by (first | exact Res.tmp rfl | exact Res.atw hm rfl | exact Res.at hm rfl)) (by (first | exact Res.tmp rfl | exact Res.atw hm rfl | exact Res.at hm rfl)) (by (first | exact Res.tmp rfl | exact Res.atw hm rfl | exact Res.at hm rfl)) ?_) | fail "ret")
        rw [hN]
        replace hm := hm.frontR 1 _ rfl
        simp only [List.eraseIdx_cons_succ, List.eraseIdx_cons_zero] at hm
        exact ⟨_, rfl, (Sl.of hm hf HX.out).drop (by repeat (first | exact List.Sublist.refl _ | refine List.Sublist.cons _ ?_))⟩
    all_goals
      have hN : readL 60 0 l = (O, m) := (HNO ()).out (by first | rfl | (cases p <;> rfl))
      have HN := Lib.hid hN
      clear hN HNO HYES
      repeat' (first | (go_at_call 75; refine mem_call hm (by first | with_reducible exact HC1.out _ (hE0.mem hm) | with_reducible exact HC2.out _ (hE0.mem hm) | with_reducible exact HC3.out _ (hE0.mem hm) | with_reducible exact HC4.out _ (hE0.mem hm)) ?_; clear hm; intro w hm; (try simp only [nums, List.map_cons, List.map_nil])) | (go_at_call 15; refine mem_call hm (HD.out _ (hE0.mem hm)) ?_; clear hm; intro w hm; (try simp only [nums, List.map_cons, List.map_nil])) | ((with_reducible refine gbs ?_); refine mbs hm rfl rfl rfl ?_; clear hm; intro n w hm; (try simp only [List.flatMap_cons, List.flatMap_nil, Value.cells, List.append_nil, List.cons_append, List.nil_append] at hm)) | ((with_reducible refine gap ?_); refine map_ hm rfl rfl rfl rfl hf ?_; clear hm hf; intro g cap more w hm hf; rw [List.take_left' hx] at hm hf; (try simp only [List.eraseIdx_cons_succ, List.eraseIdx_cons_zero, Nat.zero_add, Nat.reduceAdd, Nat.reduceSub, Nat.reduceLT, if_true, if_false] at hm)) | ((with_reducible refine gix ?_); first | refine mix rfl rfl rfl rfl ?_ | refine mixr rfl rfl rfl rfl ?_; (try simp only [Int.toNat_zero, Int.reduceToNat, Nat.reduceMul, Nat.zero_mul, Nat.one_mul, List.drop_succ_cons, List.drop_zero, List.take_succ_cons, List.take_zero])) | ((with_reducible refine gl ?_); first | refine ml hm rfl rfl rfl ?_ | refine mlw hm rfl rfl rfl ?_ | (refine mlr hm rfl rfl rfl ?_; try simp only [List.drop_succ_cons, List.drop_zero, List.take_succ_cons, List.take_zero])) | ((with_reducible refine gs ?_); (first | refine ms hm rfl rfl rfl rfl rfl ?_ | refine msw hm rfl rfl rfl rfl ?_ | refine msr hm rfl rfl rfl rfl ?_); clear hm; intro w hm; (try simp only [splice, List.set_cons_zero, List.set_cons_succ] at hm)) | ((with_reducible refine gb ?_); (first | refine mem_box hm rfl rfl rfl ?_ | refine mem_box1 hm rfl rfl rfl rfl ?_); clear hm; intro n w hm) | ((with_reducible refine ga ?_); refine mem_alloc hm rfl rfl ?_; clear hm; intro n w hm) | go_values | go_skip | go_guarded | go_step | go_upon | ((with_reducible refine bp ?_); go_back) | ((with_reducible refine up ?_); first | (simp only [Int.not_lt, Int.not_le] at *; go_simp) | (go_values <;> (try go_simp)) | (go_ite <;> go_prune <;> (try go_simp)) | (split <;> (first | (rename_i hx; exact (hx _ rfl).elim) | go_prune))))
      all_goals
        (try simp only [Exit.inBlock, Exit.then])
        (first | (refine ret1 rfl rfl (by (first | exact Res.tmp rfl | exact Res.atw hm rfl | exact Res.at hm rfl)) ?_) | (refine ret2 rfl rfl (by (first | exact Res.tmp rfl | exact Res.atw hm rfl | exact Res.at hm rfl)) (by (first | exact Res.tmp rfl | exact Res.atw hm rfl | exact Res.at hm rfl)) ?_) | (refine ret3 rfl rfl (by (first | exact Res.tmp rfl | exact Res.atw hm rfl | exact Res.at hm rfl)) (by (first | exact Res.tmp rfl | exact Res.atw hm rfl | exact Res.at hm rfl)) (by (first | exact Res.tmp rfl | exact Res.atw hm rfl | exact Res.at hm rfl)) ?_) | (refine ret4 rfl rfl (by (first | exact Res.tmp rfl | exact Res.atw hm rfl | exact Res.at hm rfl)) (by (first | exact Res.tmp rfl | exact Res.atw hm rfl | exact Res.at hm rfl)) (by (first | exact Res.tmp rfl | exact Res.atw hm rfl | exact Res.at hm rfl)) (by (first | exact Res.tmp rfl | exact Res.atw hm rfl | exact Res.at hm rfl)) ?_) | fail "ret")
        rw [HN.out]
        replace hm := hm.frontR 1 _ rfl
        simp only [List.eraseIdx_cons_succ, List.eraseIdx_cons_zero] at hm
        exact ⟨_, rfl, (Sl.of hm hf HX.out).drop (by repeat (first | exact List.Sublist.refl _ | refine List.Sublist.cons _ ?_))⟩
end Go.Proofs.YtjmolkamaeonmaaDoor

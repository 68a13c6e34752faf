/-
  Walks of the program: the mean of what a function tells of the boards with a new tile.
-/
import Derived.Test.YtelnajpjanmliaaIm9
import Derived.Test.YtelnajpjanmliaaKeepMath
set_option linter.unusedVariables false
set_option linter.unusedSimpArgs false
namespace Go.Proofs.Ytelnajpjanmliaa
open Go.RowKit Slm
theorem FrB_cut {X Y D : Nat} (h0 : 0 < D) (hD : D ≤ 7207200) (hX : X ≤ 46126080000) (hY : Y ≤ 46126080000) : FrB (cutF X D) (cutF Y D) := by
  have h1 := cutF_le X D
  have h2 := cutF_le Y D
  have p1 := cutF_pos (x := X) h0
  have p2 := cutF_pos (x := Y) h0
  have m1 := Nat.mul_le_mul (Nat.le_trans h1.1 hX) (Nat.le_trans h2.2 hD)
  have m2 := Nat.mul_le_mul (Nat.le_trans h2.1 hY) (Nat.le_trans h1.2 hD)
  have m3 := Nat.mul_le_mul (Nat.le_trans h1.2 hD) (Nat.le_trans h2.2 hD)
  exact ⟨by omega, by omega, p1, p2⟩
theorem plc_get {S : List Int} {k : Nat} (h : k < (plc S).length) (more : List Value) : ((((plc S).flatMap plI).map iv ++ more).drop (k * 3)).take 3 = (plI (plc S)[k]).map iv := fm_get h (fun a _ => plI_len a) more
/-- What a round of the mean needs of the fractions. -/
theorem mean_round {X x w D : Nat} (hw : 1 ≤ w ∧ w ≤ 9) (h0 : 0 < D) (hD : D ≤ 7207200) (hX : X ≤ 6400 * D) (hx : x ≤ 40 * D) :
    FrB (cutF X D) (cutF (w * x) D) ∧ w * (cutF x D).1 ≤ 4611686018427387904 ∧ (cutF x D).2 ≤ 4611686018427387904 := by
  have h1 := cutF_le x D
  have hx2 : x ≤ 288288000 := by omega
  have m1 := Nat.mul_le_mul hw.2 hx2
  have m2 := Nat.mul_le_mul hw.2 (Nat.le_trans h1.1 hx2)
  exact ⟨FrB_cut h0 hD (by omega) (by omega), by omega, by omega⟩
theorem sumW_succ (f : List Int → Nat) (S : List Int) {k : Nat} (h : k < (plc S).length) : sumW f S ((plc S).take (k + 1)) = sumW f S ((plc S).take k) + wtP (plc S)[k] * f (setP S (plc S)[k]) := by
  rw [List.take_succ_eq_append_getElem h, sumW_snoc]
set_option maxHeartbeats 2000000 in
theorem impl_mean_room {w0 w : World} {σ : List Blk}  (S : List Int) (hl : S.length = 16) (hE : 0 < (emptyL S).length) (D : Nat) (hD0 : 0 < D) (hD : D ≤ 7207200) (f : List Int → Nat) (hf : ∀ p ∈ plc S, f (setP S p) ≤ 40 * D) (hm : Mem w0 w σ)
    (hC : ∀ p ∈ plc S, ∀ wr σ', (∀ bk ∈ σ, bk ∈ σ') → Mem w0 wr σ' → Calls Try.prog 80 #[.agg ((setP S p).map iv).toArray] wr fun e w' => e = .returned (frV (cutF (f (setP S p)) D)) ∧ Mem w0 w' σ') :
    Calls Try.prog 79 #[.agg (nums S), .func (.func 80) #[] #[]] w fun e w' => e = .returned (frV (cutF (sumW f S (plc S)) (D * (10 * (emptyL S).length)))) ∧ Mem w0 w' σ := by
  have hEl := emptyL_len S
  have hPL := impl_placements S hl
  have hPd := fun (p : Nat × Nat) (hp : p.1 < 16) => impl_placed S hl p hp
  have hEm := impl_empty S hl
  have hel := ecells_len (emptyL S)
  have hG := fun (k : Nat) (h : k < (plc S).length) (more : List Value) => plc_get h more
  have hpl := plc_len S
  have hfl : (((plc S).flatMap plI).map iv).length = (plc S).length * 3 := by rw [List.length_map, fm_len (s := 3) _ (fun a _ => plI_len a)]
  have hs0 : sumW f S ((plc S).take 0) = 0 := rfl
  have hsS := fun (k : Nat) (h : k < (plc S).length) => sumW_succ f S h
  have hsB := fun (k : Nat) => sumW_bd hf k
  have hsT : sumW f S ((plc S).take (plc S).length) = sumW f S (plc S) := by rw [List.take_length]
  have hX16 : ∀ p ∈ plc S, p.1 < 16 := fun p hp => (mem_plc.1 hp).1.1
  have hXt : ∀ p ∈ plc S, p.2 = 1 ∨ p.2 = 2 := fun p hp => (mem_plc.1 hp).2
  rw [← hsT]
  generalize hsw : (fun k => sumW f S ((plc S).take k)) = sw at *
  have hsw2 : ∀ k, sumW f S ((plc S).take k) = sw k := fun k => by rw [← hsw]
  simp only [hsw2] at hs0 hsS hsB ⊢
  clear hsw2 hsw hsT
  have hcut0 := cutF_zero hD0
  have hFin := impl_fraction (cutF (sw (plc S).length) D).1 ((cutF (sw (plc S).length) D).2 * (10 * (emptyL S).length)) (Nat.mul_pos (cutF_pos hD0) (by omega)) (by have h1 := (cutF_le (sw (plc S).length) D).1; have h2 := hsB (plc S).length; have h3 := Nat.mul_le_mul (show 40 * D ≤ 288288000 by omega) (show 10 * (emptyL S).length ≤ 160 by omega); omega) (by have h1 := (cutF_le (sw (plc S).length) D).2; have h3 := Nat.mul_le_mul (Nat.le_trans h1 hD) (show 10 * (emptyL S).length ≤ 160 by omega); omega)
  rw [cutF_over _ hD0 (by omega)] at hFin
  generalize cutF (sw (plc S).length) (D * (10 * (emptyL S).length)) = V at *
  obtain ⟨v1, v2⟩ := V
  generalize plc S = L at *
  generalize emptyL S = E at *
  have hxb := fun (k : Nat) => Nat.le_trans (hsB k) (Nat.mul_le_mul_left (40 * D) (show 10 * E.length ≤ 160 by omega))
  have hL32 : L.length ≤ 32 := by omega
  clear hpl
  have HPL := Lib.hid hPL
  have HPd := Lib.hid hPd
  have HEm := Lib.hid hEm
  have HG := Lib.hid hG
  have HsS := Lib.hid hsS
  have HX := Lib.hid hxb
  have H16 := Lib.hid hX16
  have HXt := Lib.hid hXt
  have HF := Lib.hid hf
  have HC := Lib.hid hC
  have HFin := Lib.hid hFin
  clear hPL hPd hEm hG hsS hxb hsB hX16 hXt hf hC hFin
  generalize hXX : (L.flatMap plI).map iv = XX at *
  clear hXX
  unfold frV
  simp only
  go_enter Try.func79, Try.ntmps79
  simp only [nums_map] at *
  repeat' (first | (go_at_call 115; refine mem_callN hm (HPL.out _) ?_; clear hm; intro g more len cap w hm hf hx; (try simp only [])) | ((with_reducible refine gix ?_); first | refine mix rfl rfl rfl rfl ?_ | refine mixr rfl rfl rfl rfl ?_; (try simp only [Int.toNat_zero, Int.reduceToNat, Nat.reduceMul, Nat.zero_mul, Nat.one_mul, List.drop_succ_cons, List.drop_zero, List.take_succ_cons, List.take_zero])) | ((with_reducible refine gl ?_); first | refine ml hm rfl rfl rfl ?_ | refine mlw hm rfl rfl rfl ?_ | (refine mlr hm rfl rfl rfl ?_; try simp only [List.drop_succ_cons, List.drop_zero, List.take_succ_cons, List.take_zero])) | ((with_reducible refine gs ?_); (first | refine ms hm rfl rfl rfl rfl rfl ?_ | refine msw hm rfl rfl rfl rfl ?_ | refine msr hm rfl rfl rfl rfl ?_); clear hm; intro w hm; (try simp only [splice, List.set_cons_zero, List.set_cons_succ] at hm)) | ((with_reducible refine gb ?_); (first | refine mem_box hm rfl rfl rfl ?_ | refine mem_box1 hm rfl rfl rfl rfl ?_); clear hm; intro n w hm) | ((with_reducible refine ga ?_); refine mem_alloc hm rfl rfl ?_; clear hm; intro n w hm) | go_values | go_skip | go_guarded | go_step | go_upon | ((with_reducible refine bp ?_); go_back) | ((with_reducible refine up ?_); first | (simp only [Int.not_lt, Int.not_le] at *; go_simp) | (go_values <;> (try go_simp)) | (go_ite <;> go_prune <;> (try go_simp)) | (split <;> (first | (rename_i hx; exact (hx _ rfl).elim) | go_prune))))
  obtain rfl : len = L.length := by omega
  clear hf hx
  obtain ⟨τ, hτ, hm⟩ := Mem.sig hm
  go_loopw [14] (fun ix wr => ∃ k : Nat, k ≤ L.length ∧ ix = iv k ∧ Mem w0 wr (modB τ 1 [iv ((cutF (sw k) D).1 : Nat), iv ((cutF (sw k) D).2 : Nat)])) (fun ix _ => L.length - (intOf ix).toNat)
  case atStart => exact ⟨0, by omega, rfl, by rw [hs0, hcut0]; subst hτ; exact hm⟩
  case round =>
    clear hm
    obtain ⟨k, hk, rfl, hm⟩ := hrel
    subst hτ
    simp only [modB] at hm
    by_cases hlt : k < L.length
    · have hpm : L[k] ∈ L := List.getElem_mem hlt
      have hv := HG.out k hlt more
      have hPdk := HPd.out L[k] (H16.out _ hpm)
      have hCk := HC.out L[k] hpm
      have hfk := HF.out L[k] hpm
      have hsk := HsS.out k hlt
      have hwt := wtP_bd L[k]
      obtain ⟨hF1, hF2, hF3⟩ := mean_round (X := sw k) hwt hD0 hD (by have := HX.out k; omega) hfk
      have hFr := impl_fraction (wtP L[k] * (cutF (f (setP S L[k])) D).1) (cutF (f (setP S L[k])) D).2 (cutF_pos hD0) hF2 hF3
      rw [cutF_times _ _ hD0] at hFr
      have hPs := impl_plus _ _ hF1
      rw [cutF_plus _ _ hD0, ← hsk] at hPs
      have hxl : (XX ++ more).length = L.length * 3 + more.length := by rw [List.length_append, hfl]
      have htt := HXt.out _ hpm
      have hwe : wtP L[k] = if L[k].2 = 2 then 1 else 9 := rfl
      clear hsk hF1 hpm
      generalize hc2 : cutF (sw (k + 1)) D = c2 at *
      generalize cutF (sw k) D = c1 at *
      generalize hcw : cutF (wtP L[k] * f (setP S L[k])) D = cw at *
      clear hcw
      generalize hcx : cutF (f (setP S L[k])) D = cx at *
      clear hcx hfk
      generalize setP S L[k] = B at *
      generalize wtP L[k] = wt at *
      generalize L[k] = p at *
      generalize XX ++ more = cs at *
      obtain ⟨pk, pt⟩ := p
      obtain ⟨s0, s1⟩ := c1
      obtain ⟨t0, t1⟩ := c2
      have HC2 : Unit → Hid _ := fun _ => Lib.hid hc2
      clear hc2
      obtain ⟨u0, u1⟩ := cw
      obtain ⟨x0, x1⟩ := cx
      unfold frV at *
      simp only [plI, List.map_cons, List.map_nil] at *
      have hcast : ((wt * x0 : Nat) : Int) = (wt : Int) * (x0 : Int) := by simp
      rw [hcast] at hFr
      have hpos : 0 ≤ (wt : Int) * (x0 : Int) := by rw [← hcast]; omega
      have hup : (wt : Int) * (x0 : Int) ≤ 4611686018427387904 := by rw [← hcast]; omega
      clear hcast
      generalize ((pk / 4 : Nat) : Int) = pa at *
      generalize ((pk % 4 : Nat) : Int) = pb at *
      have HPdk := Lib.hid hPdk
      have HCk := Lib.hid hCk
      clear hPdk hCk
      rcases htt with rfl | rfl
      all_goals
        first | (obtain rfl : wt = 9 := hwe) | (obtain rfl : wt = 1 := hwe)
        try clear hwe
        simp only [show ((1 : Nat) : Int) = 1 from rfl, show ((2 : Nat) : Int) = 2 from rfl, show ((9 : Nat) : Int) = 9 from rfl, Int.one_mul] at *
        have HFr := Lib.hid hFr
        have HPs := Lib.hid hPs
        clear hFr hPs
        repeat' (first | (with_reducible rw [hv]) | (go_at_call 116; refine mem_call hm (HPdk.out _) ?_; clear hm; intro w hm; (try simp only [nums, List.map_cons, List.map_nil])) | (go_at_call 80; refine mem_callM (HCk.out _ _ (fun _ h => by simp [h]) hm) ?_; clear hm; intro w hm; (try simp only [])) | ((with_reducible refine gd ?_); refine mf_start1 9 3 hm (by kernel_rfl) (by kernel_rfl) rfl ?_; apply Exists.intro; intro hne; (repeat (first | ((with_reducible refine gfl ?_); first | refine fl rfl rfl rfl ?_ | refine flw rfl rfl rfl ?_ | (refine flr rfl rfl rfl ?_; try simp only [List.drop_succ_cons, List.drop_zero, List.take_succ_cons, List.take_zero])) | ((with_reducible refine gfs ?_); first | refine fs rfl rfl rfl rfl rfl ?_ | refine fsw rfl rfl rfl rfl ?_ | refine fsr rfl rfl rfl rfl ?_) | (refine wpF_step (by rfl) (hne _ (by decide)) ?_; intro hn K hK; go_simp; (try go_ints); (try simp [↓IntWalk.iteOmega, go_sem]); first | (refine hK _ ?_; clear hK K hn) | (apply Exists.intro; refine ⟨fun _ => ?_, hK _ ?_⟩; (first | (go_at_call 118; exact (HFr.out _)) | (go_at_call 117; exact (HPs.out _)) | fail); clear hK K hn)))); refine wpF_nil ?_; clear hm hne; intro w hm; (try simp only [famEnd, modB, splice, List.set_cons_zero, List.set_cons_succ, set_iv] at hm)) | ((with_reducible refine gix ?_); first | refine mix rfl rfl rfl rfl ?_ | refine mixr rfl rfl rfl rfl ?_; (try simp only [Int.toNat_zero, Int.reduceToNat, Nat.reduceMul, Nat.zero_mul, Nat.one_mul, List.drop_succ_cons, List.drop_zero, List.take_succ_cons, List.take_zero])) | ((with_reducible refine gl ?_); first | refine ml hm rfl rfl rfl ?_ | refine mlw hm rfl rfl rfl ?_ | (refine mlr hm rfl rfl rfl ?_; try simp only [List.drop_succ_cons, List.drop_zero, List.take_succ_cons, List.take_zero])) | ((with_reducible refine gs ?_); (first | refine ms hm rfl rfl rfl rfl rfl ?_ | refine msw hm rfl rfl rfl rfl ?_ | refine msr hm rfl rfl rfl rfl ?_); clear hm; intro w hm; (try simp only [splice, List.set_cons_zero, List.set_cons_succ] at hm)) | ((with_reducible refine gb ?_); (first | refine mem_box hm rfl rfl rfl ?_ | refine mem_box1 hm rfl rfl rfl rfl ?_); clear hm; intro n w hm) | ((with_reducible refine ga ?_); refine mem_alloc hm rfl rfl ?_; clear hm; intro n w hm) | go_values | go_skip | go_guarded | go_step | go_upon | ((with_reducible refine bp ?_); go_back) | ((with_reducible refine up ?_); first | (simp only [Int.not_lt, Int.not_le] at *; go_simp) | (go_values <;> (try go_simp)) | (go_ite <;> go_prune <;> (try go_simp)) | (split <;> (first | (rename_i hx; exact (hx _ rfl).elim) | go_prune))))
        go_roundw
        case rel => (try (first | ((repeat apply Exists.intro); refine ⟨?_, rfl⟩) | (repeat refine ex_any ?_))); exact ⟨k + 1, by omega, by go_num, by simp only [modB]; rw [(HC2 ()).out]; exact hm.drop (by repeat (first | exact List.Sublist.refl _ | refine List.Sublist.cons _ ?_))⟩
        case measure => simp [intOf]; omega
    · obtain rfl : k = L.length := by omega
      have hFin := HFin.out
      have hb2 := (cutF_le (sw L.length) D).2
      clear HFin
      generalize cutF (sw L.length) D = c1 at *
      obtain ⟨s0, s1⟩ := c1
      simp only [frV] at *
      have hcast : ((s1 * (10 * E.length) : Nat) : Int) = (s1 : Int) * 10 * (E.length : Nat) := by rw [Int.natCast_mul, Int.natCast_mul, Int.mul_assoc]; rfl
      have hup := Nat.mul_le_mul (Nat.le_trans hb2 hD) (show 10 * E.length ≤ 160 by omega)
      have hpos : 0 ≤ (s1 : Int) * 10 * (E.length : Nat) := by rw [← hcast]; exact Int.natCast_nonneg _
      have hup2 : (s1 : Int) * 10 * (E.length : Nat) ≤ 1153152000 := by rw [← hcast]; exact Int.ofNat_le.2 hup
      rw [hcast] at hFin
      have HFin := Lib.hid hFin
      clear hFin hup hcast
      repeat' (first | ((with_reducible refine gqw ?_); first | (refine qw_skipR (by decide +kernel) ?_) | fail | ((with_reducible refine gqwl ?_); first | refine qw_load hm rfl (by decide +kernel) rfl rfl rfl (by decide +kernel) (by decide +kernel) (fun _ _ _ _ h => h) ?_ | refine qw_loadW hm rfl (by decide +kernel) rfl rfl rfl (by decide +kernel) (by decide +kernel) (fun _ _ _ _ h => h) ?_ | (refine qw_loadR hm rfl (by decide +kernel) rfl rfl rfl (by decide +kernel) (by decide +kernel) (fun _ _ _ _ h => h) ?_; (try simp only [List.drop_succ_cons, List.drop_zero, List.take_succ_cons, List.take_zero]))) | (refine qw_pure hm (by decide +kernel) (by decide +kernel) rfl (by decide +kernel) (by decide +kernel) (fun _ _ _ _ h => h) (MS.any2 hm) ?_; intro hn K hK; go_simp; (try go_ints); (try simp [↓IntWalk.iteOmega, go_sem]); first | (refine hK _ ?_; clear hK K hn) | (apply Exists.intro; refine ⟨fun _ => ?_, hK _ ?_⟩; (first | rfl | done); clear hK K hn)) | (refine qw_not hm rfl (by decide +kernel) rfl (by decide +kernel) (by decide +kernel) (fun _ _ _ h => h) ?_) | refine qw_skip ?_) | ((with_reducible refine gqwn ?_); first | (refine qw_done (by decide +kernel) ?_; (try simp only [Act.put, List.setIfInBounds_toArray, List.set_cons_zero, List.set_cons_succ])) | refine qw_all (by decide +kernel) ?_) | ((with_reducible refine gaf ?_); first | exact af_end | refine af_skip (by decide +kernel) ?_ | refine af_go ?_ ?_) | ((with_reducible refine exit_go ?_); refine ⟨hm.drop (by first | exact List.Sublist.refl _ | exact List.sublist_cons_self _ _ | (repeat (first | exact List.Sublist.refl _ | (with_reducible refine List.Sublist.cons_cons _ ?_) | refine List.Sublist.cons _ ?_))), ?_⟩) | (go_at_call 119; refine mem_callN hm (HEm.out _) ?_; clear hm; intro g9 more9 len9 cap9 w hm hf9 hx9; obtain rfl : len9 = E.length := (by omega); clear hf9 hx9; (try simp only [])) | (go_at_call 118; refine mem_call hm (HFin.out _) ?_; clear hm; intro w hm; (try simp only [nums, List.map_cons, List.map_nil])) | ((with_reducible refine gd ?_); refine any_startE 2 hm (by kernel_rfl) ?_; clear hm; intro w hm; simp only [List.eraseIdx_cons_succ, List.eraseIdx_cons_zero]) | ((with_reducible refine gix ?_); first | refine mix rfl rfl rfl rfl ?_ | refine mixr rfl rfl rfl rfl ?_; (try simp only [Int.toNat_zero, Int.reduceToNat, Nat.reduceMul, Nat.zero_mul, Nat.one_mul, List.drop_succ_cons, List.drop_zero, List.take_succ_cons, List.take_zero])) | ((with_reducible refine gl ?_); first | refine ml hm rfl rfl rfl ?_ | refine mlw hm rfl rfl rfl ?_ | (refine mlr hm rfl rfl rfl ?_; try simp only [List.drop_succ_cons, List.drop_zero, List.take_succ_cons, List.take_zero])) | ((with_reducible refine gs ?_); (first | refine ms hm rfl rfl rfl rfl rfl ?_ | refine msw hm rfl rfl rfl rfl ?_ | refine msr hm rfl rfl rfl rfl ?_); clear hm; intro w hm; (try simp only [splice, List.set_cons_zero, List.set_cons_succ] at hm)) | ((with_reducible refine gb ?_); (first | refine mem_box hm rfl rfl rfl ?_ | refine mem_box1 hm rfl rfl rfl rfl ?_); clear hm; intro n w hm) | ((with_reducible refine ga ?_); refine mem_alloc hm rfl rfl ?_; clear hm; intro n w hm) | go_values | go_skip | go_guarded | go_step | go_upon | ((with_reducible refine bp ?_); go_back) | ((with_reducible refine up ?_); first | (simp only [Int.not_lt, Int.not_le] at *; go_simp) | (go_values <;> (try go_simp)) | (go_ite <;> go_prune <;> (try go_simp)) | (split <;> (first | (rename_i hx; exact (hx _ rfl).elim) | go_prune))))
      (try simp only [Exit.inBlock, Exit.then])
      (first | (refine ret1 rfl rfl (by (first | exact Res.tmp rfl | exact Res.atw hm rfl | exact Res.at hm rfl)) ?_) | (refine ret2 rfl rfl (by (first | exact Res.tmp rfl | exact Res.atw hm rfl | exact Res.at hm rfl)) (by (first | exact Res.tmp rfl | exact Res.atw hm rfl | exact Res.at hm rfl)) ?_) | (refine ret3 rfl rfl (by (first | exact Res.tmp rfl | exact Res.atw hm rfl | exact Res.at hm rfl)) (by (first | exact Res.tmp rfl | exact Res.atw hm rfl | exact Res.at hm rfl)) (by (first | exact Res.tmp rfl | exact Res.atw hm rfl | exact Res.at hm rfl)) ?_) | (refine ret4 rfl rfl (by (first | exact Res.tmp rfl | exact Res.atw hm rfl | exact Res.at hm rfl)) (by (first | exact Res.tmp rfl | exact Res.atw hm rfl | exact Res.at hm rfl)) (by (first | exact Res.tmp rfl | exact Res.atw hm rfl | exact Res.at hm rfl)) (by (first | exact Res.tmp rfl | exact Res.atw hm rfl | exact Res.at hm rfl)) ?_) | fail "ret")
      exact ⟨rfl, hm.drop (by repeat (first | exact List.Sublist.refl _ | refine List.Sublist.cons _ ?_))⟩
end Go.Proofs.Ytelnajpjanmliaa

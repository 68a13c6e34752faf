/-
  Walks of the reference: the chance to have moves.
-/
import Derived.Test.YtelnajpjanmliaaBestR
set_option linter.unusedVariables false
set_option linter.unusedSimpArgs false
namespace Go.Proofs.Ytelnajpjanmliaa
open Go.RowKit Slm
theorem wsumN_le2 (S : List Stp) {N : List Nat} {D : Nat} (h : ∀ x ∈ N, x ≤ D) : ∀ k, wsumN S N k ≤ D * wsumA S k
  | 0 => by simp [wsumN]
  | k + 1 => by
    have h1 := wsumN_le2 S h k
    have h3 : N.getD k 0 ≤ D := by
      rw [List.getD_eq_getElem?_getD]
      by_cases hk : k < N.length
      · rw [List.getElem?_eq_getElem hk]; exact h _ (List.getElem_mem hk)
      · rw [List.getElem?_eq_none (by omega)]; simp
    have h4 := Nat.mul_le_mul_left (wtS (stpAt S k)) h3
    simp only [wsumN, wsumA, Nat.mul_add]
    rw [Nat.mul_comm D (wtS (stpAt S k))]
    omega
theorem wsumA_mono (S : List Stp) : ∀ k j, wsumA S k ≤ wsumA S (k + j)
  | k, 0 => Nat.le_refl _
  | k, j + 1 => by have := wsumA_mono S k j; rw [← Nat.add_assoc, wsumA]; omega
theorem spec_l9Part (f : Nat × Nat) (wt al : Nat) (h1 : f.1 * wt ≤ 4611686018427387904) (h2 : f.2 * al ≤ 4611686018427387904) (h3 : 0 < f.2 * al) (w : World) : Calls Try.prog 128 #[frV f, iv wt, iv al] w fun e w' => e = .returned (frV (cutF (f.1 * wt) (f.2 * al))) ∧ Below w.heap.size w w' := by
  obtain ⟨a, b⟩ := f
  simp only at h1 h2 h3
  have hC := spec_l9Cut (a * wt) (b * al) h3 h1 h2
  generalize cutF (a * wt) (b * al) = V at *
  obtain ⟨v1, v2⟩ := V
  unfold frV at *
  simp only at hC ⊢
  generalize (v1 : Int) = u1 at *
  generalize (v2 : Int) = u2 at *
  have e1 : ((a * wt : Nat) : Int) = (a : Int) * wt := by simp
  have e2 : ((b * al : Nat) : Int) = (b : Int) * al := by simp
  rw [e1, e2] at hC
  have p1 : 0 ≤ (a : Int) * wt := by rw [← e1]; omega
  have p2 : 0 ≤ (b : Int) * al := by rw [← e2]; omega
  have p4 : (a : Int) * wt ≤ 4611686018427387904 := by rw [← e1]; omega
  have p5 : (b : Int) * al ≤ 4611686018427387904 := by rw [← e2]; omega
  have HC := Lib.hid hC
  clear hC e1 e2 h1 h2 h3
  go_enter Try.func128, Try.ntmps128
  have hm := Mem.start w
  repeat' (first | (go_at_call 114; refine mem_call hm (HC.out _) ?_; clear hm; intro w hm; (try simp only [nums, List.map_cons, List.map_nil])) | ((with_reducible refine gix ?_); first | refine mix rfl rfl rfl rfl ?_ | refine mixr rfl rfl rfl rfl ?_; (try simp only [Int.toNat_zero, Int.reduceToNat, Nat.reduceMul, Nat.zero_mul, Nat.one_mul, List.drop_succ_cons, List.drop_zero, List.take_succ_cons, List.take_zero])) | ((with_reducible refine gl ?_); first | refine ml hm rfl rfl rfl ?_ | refine mlw hm rfl rfl rfl ?_ | (refine mlr hm rfl rfl rfl ?_; try simp only [List.drop_succ_cons, List.drop_zero, List.take_succ_cons, List.take_zero])) | ((with_reducible refine gs ?_); (first | refine ms hm rfl rfl rfl rfl rfl ?_ | refine msw hm rfl rfl rfl rfl ?_ | refine msr hm rfl rfl rfl rfl ?_); clear hm; intro w hm; (try simp only [splice, List.set_cons_zero, List.set_cons_succ] at hm)) | ((with_reducible refine gb ?_); (first | refine mem_box hm rfl rfl rfl ?_ | refine mem_box1 hm rfl rfl rfl rfl ?_); clear hm; intro n w hm) | ((with_reducible refine ga ?_); refine mem_alloc hm rfl rfl ?_; clear hm; intro n w hm) | go_values | go_skip | go_guarded | go_step | go_upon | ((with_reducible refine bp ?_); go_back) | ((with_reducible refine up ?_); first | (simp only [Int.not_lt, Int.not_le] at *; go_simp) | (go_values <;> (try go_simp)) | (go_ite <;> go_prune <;> (try go_simp)) | (split <;> (first | (rename_i hx; exact (hx _ rfl).elim) | go_prune))))
  (try simp only [Exit.inBlock, Exit.then])
  (first | (refine ret1 rfl rfl (by (first | exact Res.tmp rfl | exact Res.atw hm rfl | exact Res.at hm rfl)) ?_) | (refine ret2 rfl rfl (by (first | exact Res.tmp rfl | exact Res.atw hm rfl | exact Res.at hm rfl)) (by (first | exact Res.tmp rfl | exact Res.atw hm rfl | exact Res.at hm rfl)) ?_) | (refine ret3 rfl rfl (by (first | exact Res.tmp rfl | exact Res.atw hm rfl | exact Res.at hm rfl)) (by (first | exact Res.tmp rfl | exact Res.atw hm rfl | exact Res.at hm rfl)) (by (first | exact Res.tmp rfl | exact Res.atw hm rfl | exact Res.at hm rfl)) ?_) | (refine ret4 rfl rfl (by (first | exact Res.tmp rfl | exact Res.atw hm rfl | exact Res.at hm rfl)) (by (first | exact Res.tmp rfl | exact Res.atw hm rfl | exact Res.at hm rfl)) (by (first | exact Res.tmp rfl | exact Res.atw hm rfl | exact Res.at hm rfl)) (by (first | exact Res.tmp rfl | exact Res.atw hm rfl | exact Res.at hm rfl)) ?_) | fail "ret")
  exact ⟨rfl, hm.below⟩
def KBestOK (n : Nat) : Prop := ∀ B : List Int, B.length = 16 → okL B = true → ∀ w : World, Calls Try.prog 48 #[.agg (nums B), iv n] w fun e w' => e = .returned (frV (kpN n B)) ∧ Below w.heap.size w w'
set_option maxHeartbeats 2000000 in
theorem spec_l9Keep (nk : Nat) (h1 : 1 ≤ nk) (hn : nk ≤ 2) (hK : KBestOK nk) (d : Nat) (hd : d ≤ 3) (b : List Int) (hl : b.length = 16) (hok : okL b = true) (hne : slideB 1 d b ≠ b) (w0 : World) :
    Calls Try.prog 89 #[.agg (nums b), iv d, iv ((nk : Int) + 1)] w0 fun e w' => e = .returned (frV (ofF (dnN nk) (kxN nk) b d)) ∧ Below w0.heap.size w0 w' := by
  have hroom := slide_room hd hl hok hne
  have hEl := emptyL_len (slideB 1 d b)
  have hsl := plc_len (slideB 1 d b)
  have hSL : (stepsL d b).length = (plc (slideB 1 d b)).length := by rw [steps_stpP rfl hne, List.length_map]
  have h32 := stepsL_len d b
  have hMS := mean_stp (kxN nk) hd rfl hne
  have hSt := spec_l5Steps d hd b hl hok
  have hBd := fun (w0 w : World) (σ : List Blk) (g i cap : Nat) (more : List Value) (hm : Mem w0 w σ) (hA : At σ g (((stepsL d b).flatMap stI).map iv ++ more) 128 i) => spec_l9Boards (g := g) (i := i) (more := more) (cap := cap) b hl hok (stepsL d b) h32 hm
  have hNb : ∀ x ∈ numsOf (kxN nk) b (stepsL d b), x ≤ dnN nk := by
    intro x hx
    obtain ⟨s, _, rfl⟩ := List.mem_map.1 hx
    exact kxN_le nk (doB_len hl _ _ _ _) (doB_ok hok _ _ _ _)
  have hle := fun k => wsumN_le2 (stepsL d b) hNb k
  have hmo : ∀ k, k ≤ (stepsL d b).length → wsumA (stepsL d b) k ≤ 10 * (emptyL (slideB 1 d b)).length := fun k hk => by
    rw [← hMS.2]
    obtain ⟨j, hj⟩ := Nat.le.dest hk
    rw [← hj]
    exact wsumA_mono _ _ _
  have h5 : 10 * (emptyL (slideB 1 d b)).length = 5 * (stepsL d b).length := by omega
  have hof : ofF (dnN nk) (kxN nk) b d = cutF (wsumN (stepsL d b) (numsOf (kxN nk) b (stepsL d b)) (stepsL d b).length) (dnN nk * (5 * (stepsL d b).length)) := by
    rw [ofF, Int.toNat_natCast, hMS.1, h5]
  rw [hof]
  have hS0 : 0 < (stepsL d b).length := by omega
  have hxb : ∀ k, k ≤ (stepsL d b).length → wsumN (stepsL d b) (numsOf (kxN nk) b (stepsL d b)) k ≤ dnN nk * (5 * (stepsL d b).length) := fun k hk => Nat.le_trans (hle k) (Nat.mul_le_mul_left _ (by rw [← h5]; exact hmo k hk))
  clear hof hmo hle hMS hsl hSL hroom hne h5 hEl
  have hD0 := dnN_pos nk
  have hDl := dnN_le nk
  have hDN := Nat.mul_le_mul hDl (show 5 * (stepsL d b).length ≤ 160 by omega)
  have hflS := fm_len (stepsL d b) (fun a _ => stI_len a)
  have hflB := bhdL_flat hl (stepsL d b)
  have hGs := fun (k : Nat) (h : k < (stepsL d b).length) (more : List Value) => fm_get h (fun a _ => stI_len a) more
  have hRw := fun (more : List Value) (k : Nat) (h : k < (stepsL d b).length) => bhd_row hl (stepsL d b) more h
  have hKB := fun (s : Stp) (wr : World) => by
    have h := hK (doB b s.1 s.2.1 s.2.2.1 s.2.2.2) (doB_len hl _ _ _ _) (doB_ok hok _ _ _ _) wr
    rw [kpN_cut hn (doB_len hl _ _ _ _) (doB_ok hok _ _ _ _)] at h
    exact h
  have hxD := fun (s : Stp) => kxN_le nk (doB_len hl s.1 s.2.1 s.2.2.1 s.2.2.2) (doB_ok hok s.1 s.2.1 s.2.2.1 s.2.2.2)
  have hRb := fun (s : Stp) => doB_len hl s.1 s.2.1 s.2.2.1 s.2.2.2
  have hz0 : wsumN (stepsL d b) (numsOf (kxN nk) b (stepsL d b)) 0 = 0 := rfl
  have hzS : ∀ k (h : k < (stepsL d b).length), wsumN (stepsL d b) (numsOf (kxN nk) b (stepsL d b)) (k + 1) = wsumN (stepsL d b) (numsOf (kxN nk) b (stepsL d b)) k + wtS (stepsL d b)[k] * kxN nk (doB b (stepsL d b)[k].1 (stepsL d b)[k].2.1 (stepsL d b)[k].2.2.1 (stepsL d b)[k].2.2.2) := fun k h => by
    rw [wsumN, stpAt_get h, numsOf, List.getD_eq_getElem?_getD, List.getElem?_map, List.getElem?_eq_getElem h]; rfl
  generalize hsz : wsumN (stepsL d b) (numsOf (kxN nk) b (stepsL d b)) = sz at *
  generalize hSS : stepsL d b = S at *
  have hfl16 : (((bhdL b S).flatten).map iv).length = S.length * 16 := by rw [List.length_map, hflB]
  have hfl4 : ((S.flatMap stI).map iv).length = S.length * 4 := by rw [List.length_map, hflS]
  generalize hXB : ((bhdL b S).flatten).map iv = XB at *
  generalize hXS : (S.flatMap stI).map iv = XS at *
  generalize hD : dnN nk = D at *
  generalize hNN : D * (5 * S.length) = NN at *
  have hNN0 : 0 < NN := by rw [← hNN]; exact Nat.mul_pos hD0 (by omega)
  have hc0 := cutF_zero hNN0
  have HSt := Lib.hid hSt
  have HBd := Lib.hid hBd
  have HGs := Lib.hid hGs
  have HRw := Lib.hid hRw
  have HKB := Lib.hid hKB
  have HxD := Lib.hid hxD
  have HRb := Lib.hid hRb
  have HzS := Lib.hid hzS
  have HXb := Lib.hid hxb
  have HNN := Lib.hid hNN
  clear hSt hBd hGs hRw hKB hxD hRb hzS hxb hNb hSS hXB hXS hok hK hsz hD hNN
  go_enter Try.func89, Try.ntmps89
  have hm := Mem.start w0
  simp only [nums_map] at *
  repeat' (first | (go_at_call 74; refine mem_callN hm (HSt.out _) ?_; clear hm; intro g more len cap w hm hf hx; obtain rfl : len = S.length := (by omega); clear hf hx; (try simp only [])) | (go_at_call 75; refine mem_callS (HBd.out _ _ _ _ _ _ _ hm inferInstance) ?_; clear hm; intro g more len cap w hm hf hx; obtain rfl : len = S.length := (by omega); clear hf hx; (try simp only [])) | ((with_reducible refine gix ?_); first | refine mix rfl rfl rfl rfl ?_ | refine mixr rfl rfl rfl rfl ?_; (try simp only [Int.toNat_zero, Int.reduceToNat, Nat.reduceMul, Nat.zero_mul, Nat.one_mul, List.drop_succ_cons, List.drop_zero, List.take_succ_cons, List.take_zero])) | ((with_reducible refine gl ?_); first | refine ml hm rfl rfl rfl ?_ | refine mlw hm rfl rfl rfl ?_ | (refine mlr hm rfl rfl rfl ?_; try simp only [List.drop_succ_cons, List.drop_zero, List.take_succ_cons, List.take_zero])) | ((with_reducible refine gs ?_); (first | refine ms hm rfl rfl rfl rfl rfl ?_ | refine msw hm rfl rfl rfl rfl ?_ | refine msr hm rfl rfl rfl rfl ?_); clear hm; intro w hm; (try simp only [splice, List.set_cons_zero, List.set_cons_succ] at hm)) | ((with_reducible refine gb ?_); (first | refine mem_box hm rfl rfl rfl ?_ | refine mem_box1 hm rfl rfl rfl rfl ?_); clear hm; intro n w hm) | ((with_reducible refine ga ?_); refine mem_alloc hm rfl rfl ?_; clear hm; intro n w hm) | go_values | go_skip | go_guarded | go_step | go_upon | ((with_reducible refine bp ?_); go_back) | ((with_reducible refine up ?_); first | (simp only [Int.not_lt, Int.not_le] at *; go_simp) | (go_values <;> (try go_simp)) | (go_ite <;> go_prune <;> (try go_simp)) | (split <;> (first | (rename_i hx; exact (hx _ rfl).elim) | go_prune))))
  have hcl : ∀ more : List Value, (XB ++ more).length = S.length * 16 + more.length := fun more => by rw [List.length_append, hfl16]
  have hcs : ∀ more : List Value, (XS ++ more).length = S.length * 4 + more.length := fun more => by rw [List.length_append, hfl4]
  have HCL := Lib.hid hcl
  have HCS := Lib.hid hcs
  clear hcl hcs
  obtain ⟨τ, hτ, hm⟩ := Mem.sig hm
  go_loopw [10] (fun ix wr => ∃ k : Nat, k ≤ S.length ∧ ix = iv k ∧ Mem w0 wr (modB τ 1 [iv ((cutF (sz k) NN).1 : Nat), iv ((cutF (sz k) NN).2 : Nat)])) (fun ix _ => S.length - (intOf ix).toNat)
  case atStart => exact ⟨0, by omega, rfl, by rw [hz0, hc0]; subst hτ; exact hm⟩
  case round =>
    clear hm
    obtain ⟨k, hk, rfl, hm⟩ := hrel
    subst hτ
    simp only [modB] at hm
    by_cases hlt : k < S.length
    · have hr := HRw.out more k hlt
      have hcl := HCL.out more
      have hz := HzS.out k hlt
      have hkb := HKB.out S[k]
      have hxd := HxD.out S[k]
      have hb16 := HRb.out S[k]
      have hxk := HXb.out k (by omega)
      have hxk1 := HXb.out (k + 1) (by omega)
      have hW := spec_l9Weight S[k].1 S[k].2.1 S[k].2.2.1 S[k].2.2.2
      have hwt := wtS_bd S[k]
      have hce := cutF_le (kxN nk (doB b S[k].1 S[k].2.1 S[k].2.2.1 S[k].2.2.2)) D
      have hm9 := Nat.mul_le_mul (Nat.le_trans hce.1 (Nat.le_trans hxd hDl)) hwt.2
      have hm160 := Nat.mul_le_mul (Nat.le_trans hce.2 hDl) (show 5 * S.length ≤ 160 by omega)
      have hcp := cutF_pos (x := kxN nk (doB b S[k].1 S[k].2.1 S[k].2.2.1 S[k].2.2.2)) hD0
      have hPart := spec_l9Part (cutF (kxN nk (doB b S[k].1 S[k].2.1 S[k].2.2.1 S[k].2.2.2)) D) (wtS S[k]) (5 * S.length) (by omega) (by omega) (Nat.mul_pos hcp (by omega))
      rw [cutF_part _ _ hD0 (by omega), HNN.out] at hPart
      have hF1 : FrS (cutF (sz k) NN) := ⟨by have := (cutF_le (sz k) NN).1; omega, by have := (cutF_le (sz k) NN).2; omega, cutF_pos hNN0⟩
      have hF2 : FrS (cutF (wtS S[k] * kxN nk (doB b S[k].1 S[k].2.1 S[k].2.2.1 S[k].2.2.2)) NN) := ⟨by have := (cutF_le (wtS S[k] * kxN nk (doB b S[k].1 S[k].2.1 S[k].2.2.1 S[k].2.2.2)) NN).1; omega, by have := (cutF_le (wtS S[k] * kxN nk (doB b S[k].1 S[k].2.1 S[k].2.2.1 S[k].2.2.2)) NN).2; omega, cutF_pos hNN0⟩
      have hPl := spec_l9Plus _ _ (hF1.both hF2)
      rw [cutF_plus _ _ hNN0, ← hz] at hPl
      clear hF1 hF2 hce hm9 hm160 hcp hxk hxk1 hz hxd
      have hv : ∀ mo : List Value, ((XS ++ mo).drop (k * 4)).take 4 = (stI S[k]).map iv := fun mo => HGs.out k hlt mo
      generalize hc2 : cutF (sz (k + 1)) NN = c2 at *
      generalize cutF (sz k) NN = c1 at *
      generalize cutF (wtS S[k] * kxN nk (doB b S[k].1 S[k].2.1 S[k].2.2.1 S[k].2.2.2)) NN = cw at *
      generalize cutF (kxN nk (doB b S[k].1 S[k].2.1 S[k].2.2.1 S[k].2.2.2)) D = cx at *
      generalize doB b S[k].1 S[k].2.1 S[k].2.2.1 S[k].2.2.2 = B at *
      have hW2 : ∀ w : World, Calls Try.prog 113 #[.agg ((stI S[k]).map iv).toArray] w fun e w' => e = .returned (iv (wtS S[k] : Nat)) ∧ Below w.heap.size w w' := hW
      clear hW
      generalize wtS S[k] = wt at *
      generalize stI S[k] = st at *
      obtain ⟨s0, s1⟩ := c1
      obtain ⟨t0, t1⟩ := c2
      obtain ⟨u0, u1⟩ := cw
      obtain ⟨x0, x1⟩ := cx
      have HC2 : Unit → Hid _ := fun _ => Lib.hid hc2
      clear hc2
      unfold frV at *
      simp only at *
      try simp only [nums_map] at *
      have hcast : ((5 * S.length : Nat) : Int) = 5 * (S.length : Int) := by simp
      rw [hcast] at hPart
      have HW2 := Lib.hid hW2
      have HPart := Lib.hid hPart
      have HPl := Lib.hid hPl
      have HKb := Lib.hid hkb
      clear hW2 hPart hPl hkb hcast
      have hcs1 := HCS.out
      repeat' (first | (with_reducible rw [hr]) | (with_reducible rw [hv]) | ((with_reducible refine gd ?_); refine mf_start1 18 1 hm (by kernel_rfl) (by kernel_rfl) rfl ?_; apply Exists.intro; intro hne; (repeat (first | ((with_reducible refine gfl ?_); first | refine fl rfl rfl rfl ?_ | refine flw rfl rfl rfl ?_ | (refine flr rfl rfl rfl ?_; try simp only [List.drop_succ_cons, List.drop_zero, List.take_succ_cons, List.take_zero])) | ((with_reducible refine gfs ?_); first | refine fs rfl rfl rfl rfl rfl ?_ | refine fsw rfl rfl rfl rfl ?_ | refine fsr rfl rfl rfl rfl ?_) | (refine wpF_step (by rfl) (hne _ (by decide)) ?_; intro hn K hK; go_simp; (try go_ints); (try simp [↓IntWalk.iteOmega, go_sem]); first | (refine hK _ ?_; clear hK K hn) | (apply Exists.intro; refine ⟨fun _ => ?_, hK _ ?_⟩; (first | (with_reducible rw [hr]) | (with_reducible rw [hv]) | (go_at_call 48; exact (HKb.out _)) | (go_at_call 113; exact (HW2.out _)) | (go_at_call 128; exact (HPart.out _)) | (go_at_call 127; exact (HPl.out _)) | fail); clear hK K hn)))); refine wpF_nil ?_; clear hm hne; intro w hm; (try simp only [famEnd, modB, splice, List.set_cons_zero, List.set_cons_succ, set_iv] at hm)) | ((with_reducible refine gix ?_); first | refine mix rfl rfl rfl rfl ?_ | refine mixr rfl rfl rfl rfl ?_; (try simp only [Int.toNat_zero, Int.reduceToNat, Nat.reduceMul, Nat.zero_mul, Nat.one_mul, List.drop_succ_cons, List.drop_zero, List.take_succ_cons, List.take_zero])) | ((with_reducible refine gl ?_); first | refine ml hm rfl rfl rfl ?_ | refine mlw hm rfl rfl rfl ?_ | (refine mlr hm rfl rfl rfl ?_; try simp only [List.drop_succ_cons, List.drop_zero, List.take_succ_cons, List.take_zero])) | ((with_reducible refine gs ?_); (first | refine ms hm rfl rfl rfl rfl rfl ?_ | refine msw hm rfl rfl rfl rfl ?_ | refine msr hm rfl rfl rfl rfl ?_); clear hm; intro w hm; (try simp only [splice, List.set_cons_zero, List.set_cons_succ] at hm)) | ((with_reducible refine gb ?_); (first | refine mem_box hm rfl rfl rfl ?_ | refine mem_box1 hm rfl rfl rfl rfl ?_); clear hm; intro n w hm) | ((with_reducible refine ga ?_); refine mem_alloc hm rfl rfl ?_; clear hm; intro n w hm) | go_values | go_skip | go_guarded | go_step | go_upon | ((with_reducible refine bp ?_); go_back) | ((with_reducible refine up ?_); first | (simp only [Int.not_lt, Int.not_le] at *; go_simp) | (go_values <;> (try go_simp)) | (go_ite <;> go_prune <;> (try go_simp)) | (split <;> (first | (rename_i hx; exact (hx _ rfl).elim) | go_prune))))
      go_roundw
      case rel => (try (first | ((repeat apply Exists.intro); refine ⟨?_, rfl⟩) | (repeat refine ex_any ?_))); exact ⟨k + 1, by omega, by go_num, by simp only [modB]; rw [(HC2 ()).out]; exact hm.drop (by repeat (first | exact List.Sublist.refl _ | refine List.Sublist.cons _ ?_))⟩
      case measure => simp [intOf]; omega
    · obtain rfl : k = S.length := by omega
      generalize hcf : cutF (sz S.length) NN = c1 at *
      have HCF : Unit → Hid _ := fun _ => Lib.hid hcf
      clear hcf
      obtain ⟨s0, s1⟩ := c1
      simp only at hm
      repeat' (first  | ((with_reducible refine gix ?_); first | refine mix rfl rfl rfl rfl ?_ | refine mixr rfl rfl rfl rfl ?_; (try simp only [Int.toNat_zero, Int.reduceToNat, Nat.reduceMul, Nat.zero_mul, Nat.one_mul, List.drop_succ_cons, List.drop_zero, List.take_succ_cons, List.take_zero])) | ((with_reducible refine gl ?_); first | refine ml hm rfl rfl rfl ?_ | refine mlw hm rfl rfl rfl ?_ | (refine mlr hm rfl rfl rfl ?_; try simp only [List.drop_succ_cons, List.drop_zero, List.take_succ_cons, List.take_zero])) | ((with_reducible refine gs ?_); (first | refine ms hm rfl rfl rfl rfl rfl ?_ | refine msw hm rfl rfl rfl rfl ?_ | refine msr hm rfl rfl rfl rfl ?_); clear hm; intro w hm; (try simp only [splice, List.set_cons_zero, List.set_cons_succ] at hm)) | ((with_reducible refine gb ?_); (first | refine mem_box hm rfl rfl rfl ?_ | refine mem_box1 hm rfl rfl rfl rfl ?_); clear hm; intro n w hm) | ((with_reducible refine ga ?_); refine mem_alloc hm rfl rfl ?_; clear hm; intro n w hm) | go_values | go_skip | go_guarded | go_step | go_upon | ((with_reducible refine bp ?_); go_back) | ((with_reducible refine up ?_); first | (simp only [Int.not_lt, Int.not_le] at *; go_simp) | (go_values <;> (try go_simp)) | (go_ite <;> go_prune <;> (try go_simp)) | (split <;> (first | (rename_i hx; exact (hx _ rfl).elim) | go_prune))))
      (try simp only [Exit.inBlock, Exit.then])
      (first | (refine ret1 rfl rfl (by (first | exact Res.tmp rfl | exact Res.atw hm rfl | exact Res.at hm rfl)) ?_) | (refine ret2 rfl rfl (by (first | exact Res.tmp rfl | exact Res.atw hm rfl | exact Res.at hm rfl)) (by (first | exact Res.tmp rfl | exact Res.atw hm rfl | exact Res.at hm rfl)) ?_) | (refine ret3 rfl rfl (by (first | exact Res.tmp rfl | exact Res.atw hm rfl | exact Res.at hm rfl)) (by (first | exact Res.tmp rfl | exact Res.atw hm rfl | exact Res.at hm rfl)) (by (first | exact Res.tmp rfl | exact Res.atw hm rfl | exact Res.at hm rfl)) ?_) | (refine ret4 rfl rfl (by (first | exact Res.tmp rfl | exact Res.atw hm rfl | exact Res.at hm rfl)) (by (first | exact Res.tmp rfl | exact Res.atw hm rfl | exact Res.at hm rfl)) (by (first | exact Res.tmp rfl | exact Res.atw hm rfl | exact Res.at hm rfl)) (by (first | exact Res.tmp rfl | exact Res.atw hm rfl | exact Res.at hm rfl)) ?_) | fail "ret")
      rw [(HCF ()).out]
      exact ⟨rfl, hm.below⟩
end Go.Proofs.Ytelnajpjanmliaa

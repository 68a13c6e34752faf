/-
  Walks of the reference: the mean of whole numbers, the mean of the room.
-/
import Derived.Test.YtelnajpjanmliaaSp9
set_option linter.unusedVariables false
set_option linter.unusedSimpArgs false
namespace Go.Proofs.Ytelnajpjanmliaa
open Go.RowKit Slm
theorem nl_get (N : List Nat) (more : List Value) {k : Nat} (h : k < N.length) : ((nlI N).map iv ++ more)[k]? = some (iv (N.getD k 0 : Nat)) := by
  rw [List.getElem?_append_left (by simpa [nlI] using h), nlI, List.map_map, List.getElem?_map, List.getElem?_eq_getElem h, List.getD_eq_getElem?_getD, List.getElem?_eq_getElem h]; rfl
theorem nl_len (N : List Nat) : (nlI N).length = N.length := by simp [nlI]
set_option maxHeartbeats 1000000 in
theorem spec_l9Mean {w0 w : World} {σ : List Blk} {g1 i1 c1 g2 i2 c2 : Nat} {more1 more2 : List Value} (S : List Stp) (N : List Nat) (hN : N.length = S.length) (h0 : 0 < S.length) (h32 : S.length ≤ 32) (hD : ∀ x ∈ N, x ≤ 1000) (hm : Mem w0 w σ) [At σ g1 ((S.flatMap stI).map iv ++ more1) 128 i1] [At σ g2 ((nlI N).map iv ++ more2) 3 i2] :
    Calls Try.prog 77 #[.slice (some ⟨g1, 0, none⟩) S.length c1, .slice (some ⟨g2, 0, none⟩) S.length c2] w fun e w' => e = .returned (frV (cutF (wsumN S N S.length) (wsumA S S.length))) ∧ Mem w0 w' σ := by
  have hG := fun (k : Nat) (h : k < S.length) => fm_get h (fun a _ => stI_len a) more1
  have hnS : ((S.flatMap stI).map iv ++ more1).length = S.length * 4 + more1.length := by rw [List.length_append, List.length_map, fm_len S (fun a _ => stI_len a)]
  have hG2 := fun (k : Nat) (h : k < S.length) => nl_get N more2 (k := k) (by omega)
  have hnN : ((nlI N).map iv ++ more2).length = S.length + more2.length := by rw [List.length_append, List.length_map, nl_len, hN]
  have hA := wsumA_bd S
  have hZ := wsumN_bd S hD
  have hA0 : wsumA S 0 = 0 := rfl
  have hZ0 : wsumN S N 0 = 0 := rfl
  have hAs : ∀ k, wsumA S (k + 1) = wsumA S k + wtS (stpAt S k) := fun _ => rfl
  have hZs : ∀ k, wsumN S N (k + 1) = wsumN S N k + wtS (stpAt S k) * N.getD k 0 := fun _ => rfl
  have hN1 : ∀ k, N.getD k 0 ≤ 1000 := fun k => by
    rw [List.getD_eq_getElem?_getD]
    by_cases hk : k < N.length
    · rw [List.getElem?_eq_getElem hk]; exact hD _ (List.getElem_mem hk)
    · rw [List.getElem?_eq_none (by omega)]; simp
  have hC := spec_l9Cut (wsumN S N S.length) (wsumA S S.length) (by have := hA S.length; omega) (by have := hZ S.length; omega) (by have := hA S.length; omega)
  generalize cutF (wsumN S N S.length) (wsumA S S.length) = V at *
  obtain ⟨v1, v2⟩ := V
  unfold frV at *
  simp only at hC ⊢
  generalize (v1 : Int) = u1 at *
  generalize (v2 : Int) = u2 at *
  generalize hcs : (S.flatMap stI).map iv ++ more1 = cs at *
  generalize hcs2 : (nlI N).map iv ++ more2 = cs2 at *
  clear hcs hcs2
  generalize wsumA S = sa at *
  generalize wsumN S N = sz at *
  generalize (fun k => N.getD k 0) = nn at *
  have HG := Lib.hid hG
  have HG2 := Lib.hid hG2
  have HA := Lib.hid hA
  have HZ := Lib.hid hZ
  have HAs := Lib.hid hAs
  have HZs := Lib.hid hZs
  have HN1 := Lib.hid hN1
  have HC := Lib.hid hC
  clear hG hG2 hA hZ hAs hZs hN1 hC hD
  go_enter Try.func77, Try.ntmps77
  repeat' (first  | ((with_reducible refine gix ?_); first | refine mix rfl rfl rfl rfl ?_ | refine mixr rfl rfl rfl rfl ?_; (try simp only [Int.toNat_zero, Int.reduceToNat, Nat.reduceMul, Nat.zero_mul, Nat.one_mul, List.drop_succ_cons, List.drop_zero, List.take_succ_cons, List.take_zero])) | ((with_reducible refine gl ?_); first | refine ml hm rfl rfl rfl ?_ | refine mlw hm rfl rfl rfl ?_ | (refine mlr hm rfl rfl rfl ?_; try simp only [List.drop_succ_cons, List.drop_zero, List.take_succ_cons, List.take_zero])) | ((with_reducible refine gs ?_); (first | refine ms hm rfl rfl rfl rfl rfl ?_ | refine msw hm rfl rfl rfl rfl ?_ | refine msr hm rfl rfl rfl rfl ?_); clear hm; intro w hm; (try simp only [splice, List.set_cons_zero, List.set_cons_succ] at hm)) | ((with_reducible refine gb ?_); (first | refine mem_box hm rfl rfl rfl ?_ | refine mem_box1 hm rfl rfl rfl rfl ?_); clear hm; intro n w hm) | ((with_reducible refine ga ?_); refine mem_alloc hm rfl rfl ?_; clear hm; intro n w hm) | go_values | go_skip | go_guarded | go_step | go_upon | ((with_reducible refine bp ?_); go_back) | ((with_reducible refine up ?_); first | (simp only [Int.not_lt, Int.not_le] at *; go_simp) | (go_values <;> (try go_simp)) | (go_ite <;> go_prune <;> (try go_simp)) | (split <;> (first | (rename_i hx; exact (hx _ rfl).elim) | go_prune))))
  obtain ⟨τ, hτ, hm⟩ := Mem.sig hm
  go_loopw [5, 6, 7] (fun s al ix wr => ∃ k : Nat, k ≤ S.length ∧ ix = iv k ∧ s = iv (sz k : Nat) ∧ al = iv (sa k : Nat) ∧ Mem w0 wr τ) (fun _ _ ix _ => S.length - (intOf ix).toNat)
  case atStart => exact ⟨0, by omega, rfl, by rw [hZ0]; rfl, by rw [hA0]; rfl, hm⟩
  case round =>
    clear hm
    obtain ⟨k, hk, rfl, rfl, rfl, hm⟩ := hrel
    subst hτ
    have ha := HA.out k
    have hz := HZ.out k
    by_cases hlt : k < S.length
    · have hv := HG.out k hlt
      have hv2 := HG2.out k hlt
      have hstp := stpAt_get hlt
      have hs1 := HAs.out k
      have hs2 := HZs.out k
      have hn1 := HN1.out k
      have hw := wtS_bd (stpAt S k)
      rw [← hstp] at hv
      have hmul := Nat.mul_le_mul hw.2 hn1
      have hcast : ((wtS (stpAt S k) * N.getD k 0 : Nat) : Int) = (wtS (stpAt S k) : Int) * (N.getD k 0 : Nat) := by simp
      have HS1 : Unit → Hid _ := fun _ => Lib.hid hs1
      have HS2 : Unit → Hid _ := fun _ => Lib.hid hs2
      have HCA : Unit → Hid _ := fun _ => Lib.hid hcast
      have hpos : 0 ≤ (wtS (stpAt S k) : Int) * (N.getD k 0 : Nat) := by rw [← hcast]; omega
      have hup : (wtS (stpAt S k) : Int) * (N.getD k 0 : Nat) ≤ 9000 := by rw [← hcast]; omega
      clear hs1 hs2 hcast hmul hstp
      generalize hst : stpAt S k = st at *
      have HST : Unit → Hid _ := fun _ => Lib.hid hst
      clear hst
      obtain ⟨d, r, c, t⟩ := st
      have hW := spec_l9Weight d r c t
      generalize wtS (d, r, c, t) = wt at *
      generalize N.getD k 0 = nk at *
      simp only [stI, List.map_cons, List.map_nil] at hv
      have HW := Lib.hid hW
      clear hW
      repeat' (first | (with_reducible rw [hv]) | ((with_reducible refine gd ?_); refine mf_start (st := []) hm (by kernel_rfl) (by kernel_rfl) rfl ?_; intro hne; (repeat (first | ((with_reducible refine gfl ?_); first | refine fl rfl rfl rfl ?_ | refine flw rfl rfl rfl ?_ | (refine flr rfl rfl rfl ?_; try simp only [List.drop_succ_cons, List.drop_zero, List.take_succ_cons, List.take_zero])) | ((with_reducible refine gfs ?_); first | refine fs rfl rfl rfl rfl rfl ?_ | refine fsw rfl rfl rfl rfl ?_ | refine fsr rfl rfl rfl rfl ?_) | (refine wpF_step (by rfl) (hne _ (by decide)) ?_; intro hn K hK; go_simp; (try go_ints); (try simp [↓IntWalk.iteOmega, go_sem]); first | (refine hK _ ?_; clear hK K hn) | (apply Exists.intro; refine ⟨fun _ => ?_, hK _ ?_⟩; (first | (with_reducible rw [hv]) | (go_at_call 113; exact (HW.out _)) | fail); clear hK K hn)))); refine wpF_nil ?_; clear hm hne; intro w hm; (try simp only [famEnd, modB, splice, List.set_cons_zero, List.set_cons_succ, set_iv] at hm)) | (go_at_call 113; refine mem_call hm (HW.out _) ?_; clear hm; intro w hm; (try simp only [nums, List.map_cons, List.map_nil])) | ((with_reducible refine gix ?_); first | refine mix rfl rfl rfl rfl ?_ | refine mixr rfl rfl rfl rfl ?_; (try simp only [Int.toNat_zero, Int.reduceToNat, Nat.reduceMul, Nat.zero_mul, Nat.one_mul, List.drop_succ_cons, List.drop_zero, List.take_succ_cons, List.take_zero])) | ((with_reducible refine gl ?_); first | refine ml hm rfl rfl rfl ?_ | refine mlw hm rfl rfl rfl ?_ | (refine mlr hm rfl rfl rfl ?_; try simp only [List.drop_succ_cons, List.drop_zero, List.take_succ_cons, List.take_zero])) | ((with_reducible refine gs ?_); (first | refine ms hm rfl rfl rfl rfl rfl ?_ | refine msw hm rfl rfl rfl rfl ?_ | refine msr hm rfl rfl rfl rfl ?_); clear hm; intro w hm; (try simp only [splice, List.set_cons_zero, List.set_cons_succ] at hm)) | ((with_reducible refine gb ?_); (first | refine mem_box hm rfl rfl rfl ?_ | refine mem_box1 hm rfl rfl rfl rfl ?_); clear hm; intro n w hm) | ((with_reducible refine ga ?_); refine mem_alloc hm rfl rfl ?_; clear hm; intro n w hm) | go_values | go_skip | go_guarded | go_step | go_upon | ((with_reducible refine bp ?_); go_back) | ((with_reducible refine up ?_); first | (simp only [Int.not_lt, Int.not_le] at *; go_simp) | (go_values <;> (try go_simp)) | (go_ite <;> go_prune <;> (try go_simp)) | (split <;> (first | (rename_i hx; exact (hx _ rfl).elim) | go_prune))))
      go_roundw
      case rel => (try (first | ((repeat apply Exists.intro); refine ⟨?_, rfl⟩) | (repeat refine ex_any ?_))); exact ⟨k + 1, by omega, by go_num, by rw [(HS2 ()).out, Int.natCast_add, (HCA ()).out], by rw [(HS1 ()).out]; go_num, hm.drop (by repeat (first | exact List.Sublist.refl _ | refine List.Sublist.cons _ ?_))⟩
      case measure => simp [intOf]; omega
    · obtain rfl : k = S.length := by omega
      repeat' (first | (go_at_call 114; refine mem_call hm (HC.out _) ?_; clear hm; intro w hm; (try simp only [nums, List.map_cons, List.map_nil])) | ((with_reducible refine gix ?_); first | refine mix rfl rfl rfl rfl ?_ | refine mixr rfl rfl rfl rfl ?_; (try simp only [Int.toNat_zero, Int.reduceToNat, Nat.reduceMul, Nat.zero_mul, Nat.one_mul, List.drop_succ_cons, List.drop_zero, List.take_succ_cons, List.take_zero])) | ((with_reducible refine gl ?_); first | refine ml hm rfl rfl rfl ?_ | refine mlw hm rfl rfl rfl ?_ | (refine mlr hm rfl rfl rfl ?_; try simp only [List.drop_succ_cons, List.drop_zero, List.take_succ_cons, List.take_zero])) | ((with_reducible refine gs ?_); (first | refine ms hm rfl rfl rfl rfl rfl ?_ | refine msw hm rfl rfl rfl rfl ?_ | refine msr hm rfl rfl rfl rfl ?_); clear hm; intro w hm; (try simp only [splice, List.set_cons_zero, List.set_cons_succ] at hm)) | ((with_reducible refine gb ?_); (first | refine mem_box hm rfl rfl rfl ?_ | refine mem_box1 hm rfl rfl rfl rfl ?_); clear hm; intro n w hm) | ((with_reducible refine ga ?_); refine mem_alloc hm rfl rfl ?_; clear hm; intro n w hm) | go_values | go_skip | go_guarded | go_step | go_upon | ((with_reducible refine bp ?_); go_back) | ((with_reducible refine up ?_); first | (simp only [Int.not_lt, Int.not_le] at *; go_simp) | (go_values <;> (try go_simp)) | (go_ite <;> go_prune <;> (try go_simp)) | (split <;> (first | (rename_i hx; exact (hx _ rfl).elim) | go_prune))))
      (try simp only [Exit.inBlock, Exit.then])
      (first | (refine ret1 rfl rfl (by (first | exact Res.tmp rfl | exact Res.atw hm rfl | exact Res.at hm rfl)) ?_) | (refine ret2 rfl rfl (by (first | exact Res.tmp rfl | exact Res.atw hm rfl | exact Res.at hm rfl)) (by (first | exact Res.tmp rfl | exact Res.atw hm rfl | exact Res.at hm rfl)) ?_) | (refine ret3 rfl rfl (by (first | exact Res.tmp rfl | exact Res.atw hm rfl | exact Res.at hm rfl)) (by (first | exact Res.tmp rfl | exact Res.atw hm rfl | exact Res.at hm rfl)) (by (first | exact Res.tmp rfl | exact Res.atw hm rfl | exact Res.at hm rfl)) ?_) | (refine ret4 rfl rfl (by (first | exact Res.tmp rfl | exact Res.atw hm rfl | exact Res.at hm rfl)) (by (first | exact Res.tmp rfl | exact Res.atw hm rfl | exact Res.at hm rfl)) (by (first | exact Res.tmp rfl | exact Res.atw hm rfl | exact Res.at hm rfl)) (by (first | exact Res.tmp rfl | exact Res.atw hm rfl | exact Res.at hm rfl)) ?_) | fail "ret")
      exact ⟨rfl, hm.drop (by repeat (first | exact List.Sublist.refl _ | refine List.Sublist.cons _ ?_))⟩
theorem wsumN_map {α : Type} (l : List α) (g : α → Stp) (h : α → Nat) : ∀ k, k ≤ l.length → wsumN (l.map g) (l.map h) k = ((l.take k).map fun p => wtS (g p) * h p).sum
  | 0, _ => by simp [wsumN]
  | k + 1, hk => by
    rw [wsumN, wsumN_map l g h k (by omega), List.take_succ_eq_append_getElem (by omega), List.map_append, List.sum_append, stpAt, List.getD_eq_getElem?_getD, List.getD_eq_getElem?_getD, List.getElem?_map, List.getElem?_map, List.getElem?_eq_getElem (show k < l.length by omega)]
    simp
theorem wsumA_map {α : Type} (l : List α) (g : α → Stp) : ∀ k, k ≤ l.length → wsumA (l.map g) k = ((l.take k).map fun p => wtS (g p)).sum
  | 0, _ => by simp [wsumA]
  | k + 1, hk => by
    rw [wsumA, wsumA_map l g k (by omega), List.take_succ_eq_append_getElem (by omega), List.map_append, List.sum_append, stpAt, List.getD_eq_getElem?_getD, List.getElem?_map, List.getElem?_eq_getElem (show k < l.length by omega)]
    simp
theorem cell_of9 (c : Nat) : 4 * ((c / 4 : Nat) : Int).toNat + ((c % 4 : Nat) : Int).toNat = c := by
  rw [Int.toNat_natCast, Int.toNat_natCast]; omega
def stpP (d : Nat) (p : Nat × Nat) : Stp := ((d : Int), ((p.1 / 4 : Nat) : Int), ((p.1 % 4 : Nat) : Int), (p.2 : Int))
theorem wtS_stpP (d : Nat) {S : List Int} {p : Nat × Nat} (h : p ∈ plc S) : wtS (stpP d p) = wtP p := by
  have := (mem_plc.1 h).2
  unfold wtS wtP stpP
  simp only
  rcases this with h | h <;> rw [h] <;> simp
theorem do_plc {d : Nat} (hd : d ≤ 3) {b S : List Int} (hS : slideB 1 d b = S) (hne : S ≠ b) {p : Nat × Nat} (h : p ∈ plc S) : doB b (d : Int) ((p.1 / 4 : Nat) : Int) ((p.1 % 4 : Nat) : Int) (p.2 : Int) = S.set p.1 (p.2 : Int) := by
  obtain ⟨⟨h1, h2⟩, h3⟩ := mem_plc.1 h
  have hs : stpB b (d : Int) ((p.1 / 4 : Nat) : Int) ((p.1 % 4 : Nat) : Int) (p.2 : Int) = true := by
    simp only [stpB, stpOK, Bool.and_eq_true, inB_iff, Int.toNat_natCast, hS, Bool.not_eq_true', decide_eq_false_iff_not, decide_eq_true_eq]
    refine ⟨⟨⟨by omega, by omega, by omega⟩, by omega⟩, hne, ?_⟩
    rw [show 4 * (p.1 / 4) + p.1 % 4 = p.1 from by omega]
    exact h2
  rw [doB, if_pos hs, nextB, Int.toNat_natCast, hS, cell_of9]
theorem do_stpP {d : Nat} (hd : d ≤ 3) {b S : List Int} (hS : slideB 1 d b = S) (hne : S ≠ b) {p : Nat × Nat} (h : p ∈ plc S) : doB b (stpP d p).1 (stpP d p).2.1 (stpP d p).2.2.1 (stpP d p).2.2.2 = setP S p := do_plc hd hS hne h
theorem steps_stpP {d : Nat} {b S : List Int} (hS : slideB 1 d b = S) (h : S ≠ b) : stepsL d b = (plc S).map (stpP d) := by
  subst hS; exact stepsL_plc h
/-- What is told of the boards behind the steps. -/
def numsOf (f : List Int → Nat) (b : List Int) (S : List Stp) : List Nat := S.map fun s => f (doB b s.1 s.2.1 s.2.2.1 s.2.2.2)
theorem mean_stp (f : List Int → Nat) {d : Nat} (hd : d ≤ 3) {b S : List Int} (hS : slideB 1 d b = S) (hne : S ≠ b) : wsumN (stepsL d b) (numsOf f b (stepsL d b)) (stepsL d b).length = sumW f S (plc S) ∧ wsumA (stepsL d b) (stepsL d b).length = 10 * (emptyL S).length := by
  rw [steps_stpP hS hne]
  constructor
  · rw [numsOf, List.map_map, wsumN_map _ _ _ _ (by simp), List.length_map, List.take_length, sumW]
    congr 1
    refine List.map_congr_left fun p hp => ?_
    have h1 := wtS_stpP d hp
    have h2 := do_stpP hd hS hne hp
    show wtS (stpP d p) * f (doB b (stpP d p).1 (stpP d p).2.1 (stpP d p).2.2.1 (stpP d p).2.2.2) = _
    rw [h1, h2]
  · rw [wsumA_map _ _ _ (by simp), List.length_map, List.take_length, ← sumT_plc, sumT]
    congr 1
    exact List.map_congr_left fun p hp => wtS_stpP d hp
theorem doB_ok {b : List Int} (h : okL b = true) (d r c t : Int) : okL (doB b d r c t) = true := by
  unfold doB
  split
  · exact nextB_ok h (by assumption)
  · decide
theorem bhd_row {b : List Int} (hl : b.length = 16) (S : List Stp) (more : List Value) {k : Nat} (h : k < S.length) : ((((bhdL b S).flatten).map iv ++ more).drop (k * 16)).take 16 = (doB b S[k].1 S[k].2.1 S[k].2.2.1 S[k].2.2.2).map iv := by
  have h1 := fm_get (f := fun x : List Int => x) (l := bhdL b S) (k := k) (by rw [bhdL, List.length_map]; exact h) (bhdL_16 hl S) more
  rw [← flat_fm] at h1
  rw [h1]
  simp [bhdL]
set_option maxHeartbeats 1000000 in
theorem spec_l9MeanRoom (d : Nat) (hd : d ≤ 3) (b : List Int) (hl : b.length = 16) (hok : okL b = true) (hne : slideB 1 d b ≠ b) (w0 : World) : Calls Try.prog 38 #[.agg (nums b), iv d] w0 fun e w' => e = .returned (frV (meanF (roomB) (slideB 1 d b))) ∧ Below w0.heap.size w0 w' := by
  have hroom := slide_room hd hl hok hne
  have hsl := plc_len (slideB 1 d b)
  have hSL : (stepsL d b).length = (plc (slideB 1 d b)).length := by rw [steps_stpP rfl hne, List.length_map]
  have h32 := stepsL_len d b
  have h0 : 0 < (stepsL d b).length := by omega
  have hMS := mean_stp (roomB) hd rfl hne
  have hSt := spec_l5Steps d hd b hl hok
  have hBd := fun (w0 w : World) (σ : List Blk) (g i cap : Nat) (more : List Value) (hm : Mem w0 w σ) (hA : At σ g (((stepsL d b).flatMap stI).map iv ++ more) 128 i) => spec_l9Boards (g := g) (i := i) (more := more) (cap := cap) b hl hok (stepsL d b) h32 hm
  have hNl : (numsOf (roomB) b (stepsL d b)).length = (stepsL d b).length := by rw [numsOf, List.length_map]
  have hNb : ∀ x ∈ numsOf (roomB) b (stepsL d b), x ≤ 1000 := by
    intro x hx
    obtain ⟨s, _, rfl⟩ := List.mem_map.1 hx
    exact Nat.le_trans (roomB_le _) (by omega)
  have hMn := fun (w0 w : World) (σ : List Blk) (g1 i1 c1 g2 i2 c2 : Nat) (more1 more2 : List Value) (hm : Mem w0 w σ) (hA : At σ g1 (((stepsL d b).flatMap stI).map iv ++ more1) 128 i1) (hB : At σ g2 ((nlI (numsOf (roomB) b (stepsL d b))).map iv ++ more2) 3 i2) => spec_l9Mean (g1 := g1) (i1 := i1) (g2 := g2) (i2 := i2) (more1 := more1) (more2 := more2) (c1 := c1) (c2 := c2) (stepsL d b) (numsOf (roomB) b (stepsL d b)) hNl h0 h32 hNb hm
  rw [hMS.1, hMS.2] at hMn
  unfold meanF
  generalize cutF (sumW (roomB) (slideB 1 d b) (plc (slideB 1 d b))) (10 * (emptyL (slideB 1 d b)).length) = V at *
  obtain ⟨v1, v2⟩ := V
  unfold frV at *
  simp only at hMn ⊢
  generalize (v1 : Int) = u1 at *
  generalize (v2 : Int) = u2 at *
  clear hMS hsl hSL hroom hne
  have hflS := fm_len (stepsL d b) (fun a _ => stI_len a)
  have hflB := bhdL_flat hl (stepsL d b)
  have hRw := fun (more : List Value) (k : Nat) (h : k < (stepsL d b).length) => bhd_row hl (stepsL d b) more h
  have hRm := fun (s : Stp) => spec_l9Room (doB b s.1 s.2.1 s.2.2.1 s.2.2.2) (doB_len hl _ _ _ _) (doB_ok hok _ _ _ _)
  have hRb := fun (s : Stp) => doB_len hl s.1 s.2.1 s.2.2.1 s.2.2.2
  have hNe : ∀ S : List Stp, numsOf (roomB) b S = S.map fun s => (roomB) (doB b s.1 s.2.1 s.2.2.1 s.2.2.2) := fun _ => rfl
  have hRd : ∀ s : Stp, (roomB) (doB b s.1 s.2.1 s.2.2.1 s.2.2.2) ≤ 1000 := fun s => Nat.le_trans (roomB_le _) (by omega)
  generalize hff : (fun s : Stp => (roomB) (doB b s.1 s.2.1 s.2.2.1 s.2.2.2)) = ff at *
  have hff2 : ∀ s : Stp, (roomB) (doB b s.1 s.2.1 s.2.2.1 s.2.2.2) = ff s := fun s => by rw [← hff]
  simp only [hff2] at hRm hRd
  clear hff2 hff
  generalize hSS : stepsL d b = S at *
  have hfl16 : (((bhdL b S).flatten).map iv).length = S.length * 16 := by rw [List.length_map, hflB]
  have hfl4 : ((S.flatMap stI).map iv).length = S.length * 4 := by rw [List.length_map, hflS]
  generalize hXB : ((bhdL b S).flatten).map iv = XB at *
  generalize hXS : (S.flatMap stI).map iv = XS at *
  generalize numsOf (roomB) b = no at *
  have HSt := Lib.hid hSt
  have HBd := Lib.hid hBd
  have HMn := Lib.hid hMn
  have HRw := Lib.hid hRw
  have HRm := Lib.hid hRm
  have HRb := Lib.hid hRb
  have HNe := Lib.hid hNe
  have HRd := Lib.hid hRd
  clear hSt hBd hMn hRw hRm hRb hNe hNb hRd hSS hXB hXS hok hNl
  go_enter Try.func38, Try.ntmps38
  have hm := Mem.start w0
  simp only [nums_map] at *
  repeat' (first | (go_at_call 74; refine mem_callN hm (HSt.out _) ?_; clear hm; intro g more len cap w hm hf hx; obtain rfl : len = S.length := (by omega); clear hf hx; (try simp only [])) | ((with_reducible refine gbs ?_); refine mbs hm rfl rfl rfl ?_; clear hm; intro n w hm; (try simp only [List.flatMap_cons, List.flatMap_nil, Value.cells, List.append_nil, List.cons_append, List.nil_append] at hm)) | ((with_reducible refine gap ?_); refine map_ hm rfl rfl rfl rfl hf0 ?_; clear hm; intro g cap more w hm hf; simp only [Nat.zero_mul, List.take_zero, List.nil_append] at hm hf; (try simp only [List.eraseIdx_cons_succ, List.eraseIdx_cons_zero, Nat.zero_add, Nat.reduceAdd, Nat.reduceSub, Nat.reduceLT, if_true, if_false] at hm)) | (go_at_call 75; refine mem_callS (HBd.out _ _ _ _ _ _ _ hm inferInstance) ?_; clear hm; intro g more len cap w hm hf hx; obtain rfl : len = S.length := (by omega); clear hf hx; (try simp only [])) | ((with_reducible refine gix ?_); first | refine mix rfl rfl rfl rfl ?_ | refine mixr rfl rfl rfl rfl ?_; (try simp only [Int.toNat_zero, Int.reduceToNat, Nat.reduceMul, Nat.zero_mul, Nat.one_mul, List.drop_succ_cons, List.drop_zero, List.take_succ_cons, List.take_zero])) | ((with_reducible refine gl ?_); first | refine ml hm rfl rfl rfl ?_ | refine mlw hm rfl rfl rfl ?_ | (refine mlr hm rfl rfl rfl ?_; try simp only [List.drop_succ_cons, List.drop_zero, List.take_succ_cons, List.take_zero])) | ((with_reducible refine gs ?_); (first | refine ms hm rfl rfl rfl rfl rfl ?_ | refine msw hm rfl rfl rfl rfl ?_ | refine msr hm rfl rfl rfl rfl ?_); clear hm; intro w hm; (try simp only [splice, List.set_cons_zero, List.set_cons_succ] at hm)) | ((with_reducible refine gb ?_); (first | refine mem_box hm rfl rfl rfl ?_ | refine mem_box1 hm rfl rfl rfl rfl ?_); clear hm; intro n w hm) | ((with_reducible refine ga ?_); refine mem_alloc hm rfl rfl ?_; clear hm; intro n w hm) | go_values | go_skip | go_guarded | go_step | go_upon | ((with_reducible refine bp ?_); go_back) | ((with_reducible refine up ?_); first | (simp only [Int.not_lt, Int.not_le] at *; go_simp) | (go_values <;> (try go_simp)) | (go_ite <;> go_prune <;> (try go_simp)) | (split <;> (first | (rename_i hx; exact (hx _ rfl).elim) | go_prune))))
  have hcl : ∀ more : List Value, (XB ++ more).length = S.length * 16 + more.length := fun more => by rw [List.length_append, hfl16]
  replace hm := hm.front 1 _ rfl
  simp only [List.eraseIdx_cons_succ, List.eraseIdx_cons_zero] at hm
  obtain ⟨τ, hτ, hS1⟩ := Sl.sig2 (Sl.new hm (e := 3) (s := 1))
  go_loopw [6, 8] (fun u ix wr => ∃ k : Nat, k ≤ S.length ∧ ix = iv k ∧ Sl w0 wr u 3 1 ((nlI (no (S.take k))).map iv) τ) (fun _ ix _ => S.length - (intOf ix).toNat)
  case atStart => exact ⟨0, by omega, rfl, by rw [HNe.out]; exact hS1⟩
  case round =>
    clear hm hS1
    obtain ⟨k, hk, rfl, g9, more9, len, cap9, rfl, hm, hf, hx⟩ := hrel
    subst hτ
    have hlen : len = k := by rw [List.length_map, nl_len, HNe.out, List.length_map, List.length_take] at hx; omega
    subst len
    by_cases hlt : k < S.length
    · have hr := HRw.out more k hlt
      have hR := HRm.out S[k]
      have hb16 := HRb.out S[k]
      have hrd := HRd.out S[k]
      have hnext : (nlI (no (S.take (k + 1)))).map iv = (nlI (no (S.take k))).map iv ++ [iv (ff S[k] : Nat)] := by
        rw [HNe.out, HNe.out, List.take_succ_eq_append_getElem hlt, nlI, nlI, List.map_append, List.map_append, List.map_append]; rfl
      have HN : Unit → Hid _ := fun _ => Lib.hid hnext
      clear hnext
      generalize ff S[k] = x at *
      generalize doB b S[k].1 S[k].2.1 S[k].2.2.1 S[k].2.2.2 = B at *
      generalize (nlI (no (S.take k))).map iv = xs at *
      (try simp only [nums_map] at hR)
      have HR := Lib.hid hR
      have HX2 := Lib.hid hx
      have hcl2 := hcl more
      generalize XB ++ more = cb at *
      clear hR hcl
      repeat' (first | (with_reducible rw [hr]) | (go_at_call 76; refine mem_call hm (HR.out _) ?_; clear hm; intro w hm; (try simp only [nums, List.map_cons, List.map_nil])) | ((with_reducible refine gbs ?_); refine mbs hm rfl rfl rfl ?_; clear hm; intro n w hm; (try simp only [List.flatMap_cons, List.flatMap_nil, Value.cells, List.append_nil, List.cons_append, List.nil_append] at hm)) | ((with_reducible refine gap ?_); refine map_ hm rfl rfl rfl rfl hf ?_; clear hm hf; intro g cap more w hm hf; rw [List.take_left' hx] at hm hf; (try simp only [List.eraseIdx_cons_succ, List.eraseIdx_cons_zero, Nat.zero_add, Nat.reduceAdd, Nat.reduceSub, Nat.reduceLT, if_true, if_false] at hm)) | ((with_reducible refine gix ?_); first | refine mix rfl rfl rfl rfl ?_ | refine mixr rfl rfl rfl rfl ?_; (try simp only [Int.toNat_zero, Int.reduceToNat, Nat.reduceMul, Nat.zero_mul, Nat.one_mul, List.drop_succ_cons, List.drop_zero, List.take_succ_cons, List.take_zero])) | ((with_reducible refine gl ?_); first | refine ml hm rfl rfl rfl ?_ | refine mlw hm rfl rfl rfl ?_ | (refine mlr hm rfl rfl rfl ?_; try simp only [List.drop_succ_cons, List.drop_zero, List.take_succ_cons, List.take_zero])) | ((with_reducible refine gs ?_); (first | refine ms hm rfl rfl rfl rfl rfl ?_ | refine msw hm rfl rfl rfl rfl ?_ | refine msr hm rfl rfl rfl rfl ?_); clear hm; intro w hm; (try simp only [splice, List.set_cons_zero, List.set_cons_succ] at hm)) | ((with_reducible refine gb ?_); (first | refine mem_box hm rfl rfl rfl ?_ | refine mem_box1 hm rfl rfl rfl rfl ?_); clear hm; intro n w hm) | ((with_reducible refine ga ?_); refine mem_alloc hm rfl rfl ?_; clear hm; intro n w hm) | go_values | go_skip | go_guarded | go_step | go_upon | ((with_reducible refine bp ?_); go_back) | ((with_reducible refine up ?_); first | (simp only [Int.not_lt, Int.not_le] at *; go_simp) | (go_values <;> (try go_simp)) | (go_ite <;> go_prune <;> (try go_simp)) | (split <;> (first | (rename_i hx; exact (hx _ rfl).elim) | go_prune))))
      go_roundw
      case rel => (try (first | ((repeat apply Exists.intro); refine ⟨?_, rfl⟩) | (repeat refine ex_any ?_))); exact ⟨k + 1, by omega, by go_num, by rw [(HN ()).out]; exact (Sl.of hm hf (by rw [List.length_append, HX2.out]; simp)).drop (by repeat (first | exact List.Sublist.refl _ | refine List.Sublist.cons _ ?_))⟩
      case measure => simp [intOf]; omega
    · obtain rfl : k = S.length := by omega
      rw [List.take_length] at hm hf hx
      repeat' (first | (go_at_call 77; refine mem_callM (HMn.out _ _ _ _ _ _ _ _ _ _ _ hm inferInstance inferInstance) ?_; clear hm; intro w hm; (try simp only [])) | ((with_reducible refine gix ?_); first | refine mix rfl rfl rfl rfl ?_ | refine mixr rfl rfl rfl rfl ?_; (try simp only [Int.toNat_zero, Int.reduceToNat, Nat.reduceMul, Nat.zero_mul, Nat.one_mul, List.drop_succ_cons, List.drop_zero, List.take_succ_cons, List.take_zero])) | ((with_reducible refine gl ?_); first | refine ml hm rfl rfl rfl ?_ | refine mlw hm rfl rfl rfl ?_ | (refine mlr hm rfl rfl rfl ?_; try simp only [List.drop_succ_cons, List.drop_zero, List.take_succ_cons, List.take_zero])) | ((with_reducible refine gs ?_); (first | refine ms hm rfl rfl rfl rfl rfl ?_ | refine msw hm rfl rfl rfl rfl ?_ | refine msr hm rfl rfl rfl rfl ?_); clear hm; intro w hm; (try simp only [splice, List.set_cons_zero, List.set_cons_succ] at hm)) | ((with_reducible refine gb ?_); (first | refine mem_box hm rfl rfl rfl ?_ | refine mem_box1 hm rfl rfl rfl rfl ?_); clear hm; intro n w hm) | ((with_reducible refine ga ?_); refine mem_alloc hm rfl rfl ?_; clear hm; intro n w hm) | go_values | go_skip | go_guarded | go_step | go_upon | ((with_reducible refine bp ?_); go_back) | ((with_reducible refine up ?_); first | (simp only [Int.not_lt, Int.not_le] at *; go_simp) | (go_values <;> (try go_simp)) | (go_ite <;> go_prune <;> (try go_simp)) | (split <;> (first | (rename_i hx; exact (hx _ rfl).elim) | go_prune))))
      (try simp only [Exit.inBlock, Exit.then])
      (first | (refine ret1 rfl rfl (by (first | exact Res.tmp rfl | exact Res.atw hm rfl | exact Res.at hm rfl)) ?_) | (refine ret2 rfl rfl (by (first | exact Res.tmp rfl | exact Res.atw hm rfl | exact Res.at hm rfl)) (by (first | exact Res.tmp rfl | exact Res.atw hm rfl | exact Res.at hm rfl)) ?_) | (refine ret3 rfl rfl (by (first | exact Res.tmp rfl | exact Res.atw hm rfl | exact Res.at hm rfl)) (by (first | exact Res.tmp rfl | exact Res.atw hm rfl | exact Res.at hm rfl)) (by (first | exact Res.tmp rfl | exact Res.atw hm rfl | exact Res.at hm rfl)) ?_) | (refine ret4 rfl rfl (by (first | exact Res.tmp rfl | exact Res.atw hm rfl | exact Res.at hm rfl)) (by (first | exact Res.tmp rfl | exact Res.atw hm rfl | exact Res.at hm rfl)) (by (first | exact Res.tmp rfl | exact Res.atw hm rfl | exact Res.at hm rfl)) (by (first | exact Res.tmp rfl | exact Res.atw hm rfl | exact Res.at hm rfl)) ?_) | fail "ret")
      exact ⟨rfl, hm.below⟩
end Go.Proofs.Ytelnajpjanmliaa

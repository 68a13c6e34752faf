/-
  Walks of the decoding of lines and logs.
-/
import Derived.Test.YtjmolkamaeonmaaDoorLogMath
set_option linter.unusedVariables false
set_option linter.unusedSimpArgs false
namespace Go.Proofs.YtjmolkamaeonmaaDoor
open Go.RowKit Slm
theorem front_permR {α : Type} : ∀ (σ : List α) (i : Nat) (b : α), σ[i]? = some b → (b :: σ.eraseIdx i).Perm σ
  | [], i, b, h => by simp at h
  | x :: σ, 0, b, h => by simp at h; subst h; exact List.Perm.refl _
  | x :: σ, i + 1, b, h => by
    rw [List.eraseIdx_cons_succ]
    exact (List.Perm.swap _ _ _).trans ((front_permR σ i b (by simpa using h)).cons x)
theorem Mem.permR {w0 w : World} {σ τ : List Blk} (hm : Mem w0 w σ) (h : σ.Perm τ) : Mem w0 w τ :=
  ⟨hm.below, fun b hb => hm.own b (h.mem_iff.2 hb), fun b hb => hm.lies b (h.mem_iff.2 hb), h.pairwise hm.apart (fun {a b} h => h.symm)⟩
theorem Mem.frontR {w0 w : World} {σ : List Blk} (hm : Mem w0 w σ) (i : Nat) (b : Blk) (h : σ[i]? = some b) : Mem w0 w (b :: σ.eraseIdx i) := hm.permR (front_permR σ i b h).symm
theorem u8_neq (a b : List UInt8) : ((bs a).toList == (bs b).toList) = decide (a = b) := by
  rw [bs_list, bs_list, Bool.eq_iff_iff, beq_iff_eq, decide_eq_true_eq]
theorem splitH (l : List UInt8) (hl : l.length ≤ 1000000) (c : UInt8) (cz : Int) (hc : (c.toNat : Int) = cz) : ∃ R : List Value, ∀ (w0 w : World) (σ : List Blk), Mem w0 w σ → Calls Tryd.prog 73 #[.string (bs l), .int .u8 cz] w fun e w' => ∃ u, e = .returned u ∧ Sl w0 w' u 9 1 (Value.string (bs (bef c l)) :: R) σ := by
  subst hc
  obtain ⟨r, hr, _⟩ := splitL_head c l
  refine ⟨r.map sv, fun w0 w σ hm => ?_⟩
  have := spec_l1Split l hl c hm
  rw [hr, List.map_cons] at this
  exact this
set_option maxHeartbeats 1000000 in
theorem spec_l12Decode (nk : Nat) (hn : nk ≤ 59) (line : List UInt8) (hl : line.length ≤ 40000) (w : World) : Calls Tryd.prog 74 #[.string (bs line), iv nk] w fun e w' => ∃ a b, e = .returned (.tuple #[.agg #[.string (bs a), .string (bs b)], .bool (okLine nk line)]) ∧ (okLine nk line = true → (a, b) = recOf line) ∧ Below w.heap.size w w' := by
  have hrec := @okS_rec nk line
  rw [← okS_eq] at hrec ⊢
  have hN := spec_l1Num nk (by omega)
  have hd := dig_size (n := nk) (by omega)
  have hA : bs (Lib.decDigits nk) ++ (⟨#[32]⟩ : ByteArray) = bs (aheadL nk) := by rw [show (⟨#[32]⟩ : ByteArray) = bs [32] from rfl, bs_app, aheadL]
  have hAs := bs_size (aheadL nk)
  obtain ⟨R1, hS1⟩ := splitH line (by omega) 35 35 rfl
  have hb1 := bef_len 35 line
  have hBs := bs_size (bef 35 line)
  have hLs := bs_size line
  have HN := Lib.hid hN
  have HS1 := Lib.hid hS1
  clear hN hS1
  by_cases h1 : (bef 35 line).length < (aheadL nk).length
  · have hok : okS nk line = false := by rw [okS, fitS, decide_eq_true h1]; rfl
    rw [hok]
    generalize bef 35 line = B at *
    generalize aheadL nk = A at *
    generalize Lib.decDigits nk = D at *
    clear hrec hok
    go_enter Tryd.func74, Tryd.ntmps74
    have hm := Mem.start w
    repeat' (first | (go_at_call 69; refine mem_call hm (HN.out _) ?_; clear hm; intro w hm; (try simp only [nums, List.map_cons, List.map_nil])) | (go_at_call 73; with_reducible refine mem_callS (HS1.out _ _ _ hm) ?_; clear hm; intro g more len cap w hm hf hx; (have hp : 1 ≤ len := by (rw [List.length_cons] at hx; omega)); clear hf hx; simp only [List.cons_append] at hm; (try simp only [])) | ((with_reducible refine gix ?_); first | refine mix rfl rfl rfl rfl ?_ | refine mixr rfl rfl rfl rfl ?_; (try simp only [Int.toNat_zero, Int.reduceToNat, Nat.reduceMul, Nat.zero_mul, Nat.one_mul, List.drop_succ_cons, List.drop_zero, List.take_succ_cons, List.take_zero])) | ((with_reducible refine gl ?_); first | refine ml hm rfl rfl rfl ?_ | refine mlw hm rfl rfl rfl ?_ | (refine mlr hm rfl rfl rfl ?_; try simp only [List.drop_succ_cons, List.drop_zero, List.take_succ_cons, List.take_zero])) | ((with_reducible refine gs ?_); (first | refine ms hm rfl rfl rfl rfl rfl ?_ | refine msw hm rfl rfl rfl rfl ?_ | refine msr hm rfl rfl rfl rfl ?_); clear hm; intro w hm; (try simp only [splice, List.set_cons_zero, List.set_cons_succ] at hm)) | ((with_reducible refine gb ?_); (first | refine mem_box hm rfl rfl rfl ?_ | refine mem_box1 hm rfl rfl rfl rfl ?_); clear hm; intro n w hm) | ((with_reducible refine ga ?_); refine mem_alloc hm rfl rfl ?_; clear hm; intro n w hm) | go_values | go_skip | go_guarded | go_step | go_upon | ((with_reducible refine bp ?_); go_back) | ((with_reducible refine up ?_); first | (simp only [Int.not_lt, Int.not_le] at *; go_simp) | (go_values <;> (try go_simp)) | (go_ite <;> go_prune <;> (try go_simp)) | (split <;> (first | (rename_i hx; exact (hx _ rfl).elim) | go_prune))))
    (try simp only [Exit.inBlock, Exit.then])
    (first | (refine ret1 rfl rfl (by (first | exact Res.tmp rfl | exact Res.atw hm rfl | exact Res.at hm rfl)) ?_) | (refine ret2 rfl rfl (by (first | exact Res.tmp rfl | exact Res.atw hm rfl | exact Res.at hm rfl)) (by (first | exact Res.tmp rfl | exact Res.atw hm rfl | exact Res.at hm rfl)) ?_) | (refine ret3 rfl rfl (by (first | exact Res.tmp rfl | exact Res.atw hm rfl | exact Res.at hm rfl)) (by (first | exact Res.tmp rfl | exact Res.atw hm rfl | exact Res.at hm rfl)) (by (first | exact Res.tmp rfl | exact Res.atw hm rfl | exact Res.at hm rfl)) ?_) | (refine ret4 rfl rfl (by (first | exact Res.tmp rfl | exact Res.atw hm rfl | exact Res.at hm rfl)) (by (first | exact Res.tmp rfl | exact Res.atw hm rfl | exact Res.at hm rfl)) (by (first | exact Res.tmp rfl | exact Res.atw hm rfl | exact Res.at hm rfl)) (by (first | exact Res.tmp rfl | exact Res.atw hm rfl | exact Res.at hm rfl)) ?_) | fail "ret")
    exact ⟨[], [], rfl, by simp, hm.below⟩
  have hE1 := bs_ext (bef 35 line) 0 (aheadL nk).length
  rw [List.drop_zero, Nat.sub_zero] at hE1
  have hq1 := u8_neq ((bef 35 line).take (aheadL nk).length) (aheadL nk)
  by_cases h2 : (bef 35 line).take (aheadL nk).length = aheadL nk
  case neg =>
    have hok : okS nk line = false := by rw [okS, fitS, decide_eq_false h2, Bool.and_false]; rfl
    rw [decide_eq_false h2] at hq1
    rw [hok]
    generalize (bef 35 line).take (aheadL nk).length = T at *
    generalize bef 35 line = B at *
    generalize aheadL nk = A at *
    generalize Lib.decDigits nk = D at *
    clear hrec hok h2
    go_enter Tryd.func74, Tryd.ntmps74
    have hm := Mem.start w
    repeat' (first | (go_at_call 69; refine mem_call hm (HN.out _) ?_; clear hm; intro w hm; (try simp only [nums, List.map_cons, List.map_nil])) | (go_at_call 73; with_reducible refine mem_callS (HS1.out _ _ _ hm) ?_; clear hm; intro g more len cap w hm hf hx; (have hp : 1 ≤ len := by (rw [List.length_cons] at hx; omega)); clear hf hx; simp only [List.cons_append] at hm; (try simp only [])) | ((with_reducible refine gix ?_); first | refine mix rfl rfl rfl rfl ?_ | refine mixr rfl rfl rfl rfl ?_; (try simp only [Int.toNat_zero, Int.reduceToNat, Nat.reduceMul, Nat.zero_mul, Nat.one_mul, List.drop_succ_cons, List.drop_zero, List.take_succ_cons, List.take_zero])) | ((with_reducible refine gl ?_); first | refine ml hm rfl rfl rfl ?_ | refine mlw hm rfl rfl rfl ?_ | (refine mlr hm rfl rfl rfl ?_; try simp only [List.drop_succ_cons, List.drop_zero, List.take_succ_cons, List.take_zero])) | ((with_reducible refine gs ?_); (first | refine ms hm rfl rfl rfl rfl rfl ?_ | refine msw hm rfl rfl rfl rfl ?_ | refine msr hm rfl rfl rfl rfl ?_); clear hm; intro w hm; (try simp only [splice, List.set_cons_zero, List.set_cons_succ] at hm)) | ((with_reducible refine gb ?_); (first | refine mem_box hm rfl rfl rfl ?_ | refine mem_box1 hm rfl rfl rfl rfl ?_); clear hm; intro n w hm) | ((with_reducible refine ga ?_); refine mem_alloc hm rfl rfl ?_; clear hm; intro n w hm) | go_values | go_skip | go_guarded | go_step | go_upon | ((with_reducible refine bp ?_); go_back) | ((with_reducible refine up ?_); first | (simp only [Int.not_lt, Int.not_le] at *; go_simp) | (go_values <;> (try go_simp)) | (go_ite <;> go_prune <;> (try go_simp)) | (split <;> (first | (rename_i hx; exact (hx _ rfl).elim) | go_prune))))
    (try simp only [Exit.inBlock, Exit.then])
    (first | (refine ret1 rfl rfl (by (first | exact Res.tmp rfl | exact Res.atw hm rfl | exact Res.at hm rfl)) ?_) | (refine ret2 rfl rfl (by (first | exact Res.tmp rfl | exact Res.atw hm rfl | exact Res.at hm rfl)) (by (first | exact Res.tmp rfl | exact Res.atw hm rfl | exact Res.at hm rfl)) ?_) | (refine ret3 rfl rfl (by (first | exact Res.tmp rfl | exact Res.atw hm rfl | exact Res.at hm rfl)) (by (first | exact Res.tmp rfl | exact Res.atw hm rfl | exact Res.at hm rfl)) (by (first | exact Res.tmp rfl | exact Res.atw hm rfl | exact Res.at hm rfl)) ?_) | (refine ret4 rfl rfl (by (first | exact Res.tmp rfl | exact Res.atw hm rfl | exact Res.at hm rfl)) (by (first | exact Res.tmp rfl | exact Res.atw hm rfl | exact Res.at hm rfl)) (by (first | exact Res.tmp rfl | exact Res.atw hm rfl | exact Res.at hm rfl)) (by (first | exact Res.tmp rfl | exact Res.atw hm rfl | exact Res.at hm rfl)) ?_) | fail "ret")
    exact ⟨[], [], rfl, by simp, hm.below⟩
  rw [decide_eq_true h2] at hq1
  have hfit : fitS nk line = true := by rw [fitS, decide_eq_true h2, decide_eq_false h1]; rfl
  have hE2 := bs_ext (bef 35 line) (aheadL nk).length (bef 35 line).length
  rw [List.take_of_length_le (by rw [List.length_drop]; omega)] at hE2
  change _ = bs (restS nk line) at hE2
  have hRl : (restS nk line).length ≤ line.length := by rw [restS, List.length_drop]; omega
  obtain ⟨R2, hS2⟩ := splitH (restS nk line) (by omega) 64 64 rfl
  have HS2 := Lib.hid hS2
  clear hS2
  have hRs := bs_size (restS nk line)
  have hKs := bs_size (askS nk line)
  have hKl := bef_len 64 (restS nk line)
  change (askS nk line).length ≤ _ at hKl
  change Hid (∀ (w0 w : World) (σ : List Blk), Mem w0 w σ → Calls Tryd.prog 73 #[.string (bs (restS nk line)), .int .u8 64] w fun e w' => ∃ u, e = .returned u ∧ Sl w0 w' u 9 1 (Value.string (bs (askS nk line)) :: R2) σ) at HS2
  by_cases h3 : (askS nk line).length = (restS nk line).length
  · have hok : okS nk line = false := by rw [okS, hfit, decide_eq_true h3]; rfl
    rw [hok]
    generalize (bef 35 line).take (aheadL nk).length = T at *
    generalize askS nk line = K at *
    generalize restS nk line = R at *
    generalize bef 35 line = B at *
    generalize aheadL nk = A at *
    generalize Lib.decDigits nk = D at *
    clear hrec hok h2 hfit
    go_enter Tryd.func74, Tryd.ntmps74
    have hm := Mem.start w
    repeat' (first | (go_at_call 69; refine mem_call hm (HN.out _) ?_; clear hm; intro w hm; (try simp only [nums, List.map_cons, List.map_nil])) | (go_at_call 73; with_reducible refine mem_callS (HS1.out _ _ _ hm) ?_; clear hm; intro g more len cap w hm hf hx; (have hp : 1 ≤ len := by (rw [List.length_cons] at hx; omega)); clear hf hx; simp only [List.cons_append] at hm; (try simp only [])) | (go_at_call 73; with_reducible refine mem_callS (HS2.out _ _ _ hm) ?_; clear hm; intro g more len cap w hm hf hx; (have hp : 1 ≤ len := by (rw [List.length_cons] at hx; omega)); clear hf hx; simp only [List.cons_append] at hm; (try simp only [])) | ((with_reducible refine gix ?_); first | refine mix rfl rfl rfl rfl ?_ | refine mixr rfl rfl rfl rfl ?_; (try simp only [Int.toNat_zero, Int.reduceToNat, Nat.reduceMul, Nat.zero_mul, Nat.one_mul, List.drop_succ_cons, List.drop_zero, List.take_succ_cons, List.take_zero])) | ((with_reducible refine gl ?_); first | refine ml hm rfl rfl rfl ?_ | refine mlw hm rfl rfl rfl ?_ | (refine mlr hm rfl rfl rfl ?_; try simp only [List.drop_succ_cons, List.drop_zero, List.take_succ_cons, List.take_zero])) | ((with_reducible refine gs ?_); (first | refine ms hm rfl rfl rfl rfl rfl ?_ | refine msw hm rfl rfl rfl rfl ?_ | refine msr hm rfl rfl rfl rfl ?_); clear hm; intro w hm; (try simp only [splice, List.set_cons_zero, List.set_cons_succ] at hm)) | ((with_reducible refine gb ?_); (first | refine mem_box hm rfl rfl rfl ?_ | refine mem_box1 hm rfl rfl rfl rfl ?_); clear hm; intro n w hm) | ((with_reducible refine ga ?_); refine mem_alloc hm rfl rfl ?_; clear hm; intro n w hm) | go_values | go_skip | go_guarded | go_step | go_upon | ((with_reducible refine bp ?_); go_back) | ((with_reducible refine up ?_); first | (simp only [Int.not_lt, Int.not_le] at *; go_simp) | (go_values <;> (try go_simp)) | (go_ite <;> go_prune <;> (try go_simp)) | (split <;> (first | (rename_i hx; exact (hx _ rfl).elim) | go_prune))))
    (try simp only [Exit.inBlock, Exit.then])
    (first | (refine ret1 rfl rfl (by (first | exact Res.tmp rfl | exact Res.atw hm rfl | exact Res.at hm rfl)) ?_) | (refine ret2 rfl rfl (by (first | exact Res.tmp rfl | exact Res.atw hm rfl | exact Res.at hm rfl)) (by (first | exact Res.tmp rfl | exact Res.atw hm rfl | exact Res.at hm rfl)) ?_) | (refine ret3 rfl rfl (by (first | exact Res.tmp rfl | exact Res.atw hm rfl | exact Res.at hm rfl)) (by (first | exact Res.tmp rfl | exact Res.atw hm rfl | exact Res.at hm rfl)) (by (first | exact Res.tmp rfl | exact Res.atw hm rfl | exact Res.at hm rfl)) ?_) | (refine ret4 rfl rfl (by (first | exact Res.tmp rfl | exact Res.atw hm rfl | exact Res.at hm rfl)) (by (first | exact Res.tmp rfl | exact Res.atw hm rfl | exact Res.at hm rfl)) (by (first | exact Res.tmp rfl | exact Res.atw hm rfl | exact Res.at hm rfl)) (by (first | exact Res.tmp rfl | exact Res.atw hm rfl | exact Res.at hm rfl)) ?_) | fail "ret")
    exact ⟨[], [], rfl, by simp, hm.below⟩
  have hE3 := bs_ext (restS nk line) ((askS nk line).length + 1) (restS nk line).length
  rw [List.take_of_length_le (by rw [List.length_drop]; omega)] at hE3
  change _ = bs (repS nk line) at hE3
  have hPl : (repS nk line).length ≤ line.length := by rw [repS, List.length_drop]; omega
  have hRec := spec_l12Record (askS nk line) (repS nk line) (by omega) (by omega)
  have hokd : okS nk line = (recB (askS nk line) (repS nk line) && decide (lineL nk (askS nk line) (repS nk line) = line ++ [10])) := by rw [okS, hfit, decide_eq_false h3]; rfl
  cases hrb : recB (askS nk line) (repS nk line)
  · have hok : okS nk line = false := by rw [hokd, hrb]; rfl
    rw [hok]
    rw [hrb] at hRec
    generalize (bef 35 line).take (aheadL nk).length = T at *
    generalize repS nk line = Pp at *
    generalize askS nk line = K at *
    generalize restS nk line = R at *
    generalize bef 35 line = B at *
    generalize aheadL nk = A at *
    generalize Lib.decDigits nk = D at *
    have HR := Lib.hid hRec
    clear hrec hok hokd h2 hfit hRec hrb
    go_enter Tryd.func74, Tryd.ntmps74
    have hm := Mem.start w
    repeat' (first | (go_at_call 69; refine mem_call hm (HN.out _) ?_; clear hm; intro w hm; (try simp only [nums, List.map_cons, List.map_nil])) | (go_at_call 73; with_reducible refine mem_callS (HS1.out _ _ _ hm) ?_; clear hm; intro g more len cap w hm hf hx; (have hp : 1 ≤ len := by (rw [List.length_cons] at hx; omega)); clear hf hx; simp only [List.cons_append] at hm; (try simp only [])) | (go_at_call 73; with_reducible refine mem_callS (HS2.out _ _ _ hm) ?_; clear hm; intro g more len cap w hm hf hx; (have hp : 1 ≤ len := by (rw [List.length_cons] at hx; omega)); clear hf hx; simp only [List.cons_append] at hm; (try simp only [])) | ((with_reducible refine gd ?_); refine mf_start1 11 3 hm (by kernel_rfl) (by kernel_rfl) rfl ?_; apply Exists.intro; intro hne; (repeat (first | ((with_reducible refine gfl ?_); first | refine fl rfl rfl rfl ?_ | refine flw rfl rfl rfl ?_ | (refine flr rfl rfl rfl ?_; try simp only [List.drop_succ_cons, List.drop_zero, List.take_succ_cons, List.take_zero])) | ((with_reducible refine gfs ?_); first | refine fs rfl rfl rfl rfl rfl ?_ | refine fsw rfl rfl rfl rfl ?_ | refine fsr rfl rfl rfl rfl ?_) | (refine wpF_step (by rfl) (hne _ (by decide)) ?_; intro hn K hK; go_simp; (try go_ints); (try simp [↓IntWalk.iteOmega, go_sem]); first | (refine hK _ ?_; clear hK K hn) | (apply Exists.intro; refine ⟨fun _ => ?_, hK _ ?_⟩; (first | (go_at_call 46; with_reducible exact (HR.out _)) | fail); clear hK K hn)))); refine wpF_nil ?_; clear hm hne; intro w hm; (try simp only [famEnd, modB, splice, List.set_cons_zero, List.set_cons_succ, set_iv] at hm)) | ((with_reducible refine gix ?_); first | refine mix rfl rfl rfl rfl ?_ | refine mixr rfl rfl rfl rfl ?_; (try simp only [Int.toNat_zero, Int.reduceToNat, Nat.reduceMul, Nat.zero_mul, Nat.one_mul, List.drop_succ_cons, List.drop_zero, List.take_succ_cons, List.take_zero])) | ((with_reducible refine gl ?_); first | refine ml hm rfl rfl rfl ?_ | refine mlw hm rfl rfl rfl ?_ | (refine mlr hm rfl rfl rfl ?_; try simp only [List.drop_succ_cons, List.drop_zero, List.take_succ_cons, List.take_zero])) | ((with_reducible refine gs ?_); (first | refine ms hm rfl rfl rfl rfl rfl ?_ | refine msw hm rfl rfl rfl rfl ?_ | refine msr hm rfl rfl rfl rfl ?_); clear hm; intro w hm; (try simp only [splice, List.set_cons_zero, List.set_cons_succ] at hm)) | ((with_reducible refine gb ?_); (first | refine mem_box hm rfl rfl rfl ?_ | refine mem_box1 hm rfl rfl rfl rfl ?_); clear hm; intro n w hm) | ((with_reducible refine ga ?_); refine mem_alloc hm rfl rfl ?_; clear hm; intro n w hm) | go_values | go_skip | go_guarded | go_step | go_upon | ((with_reducible refine bp ?_); go_back) | ((with_reducible refine up ?_); first | (simp only [Int.not_lt, Int.not_le] at *; go_simp) | (go_values <;> (try go_simp)) | (go_ite <;> go_prune <;> (try go_simp)) | (split <;> (first | (rename_i hx; exact (hx _ rfl).elim) | go_prune))))
    (try simp only [Exit.inBlock, Exit.then])
    (first | (refine ret1 rfl rfl (by (first | exact Res.tmp rfl | exact Res.atw hm rfl | exact Res.at hm rfl)) ?_) | (refine ret2 rfl rfl (by (first | exact Res.tmp rfl | exact Res.atw hm rfl | exact Res.at hm rfl)) (by (first | exact Res.tmp rfl | exact Res.atw hm rfl | exact Res.at hm rfl)) ?_) | (refine ret3 rfl rfl (by (first | exact Res.tmp rfl | exact Res.atw hm rfl | exact Res.at hm rfl)) (by (first | exact Res.tmp rfl | exact Res.atw hm rfl | exact Res.at hm rfl)) (by (first | exact Res.tmp rfl | exact Res.atw hm rfl | exact Res.at hm rfl)) ?_) | (refine ret4 rfl rfl (by (first | exact Res.tmp rfl | exact Res.atw hm rfl | exact Res.at hm rfl)) (by (first | exact Res.tmp rfl | exact Res.atw hm rfl | exact Res.at hm rfl)) (by (first | exact Res.tmp rfl | exact Res.atw hm rfl | exact Res.at hm rfl)) (by (first | exact Res.tmp rfl | exact Res.atw hm rfl | exact Res.at hm rfl)) ?_) | fail "ret")
    exact ⟨K, Pp, rfl, by simp, hm.below⟩
  · obtain ⟨_, hc, hr, _, _, _⟩ := recB_facts hrb
    have hL := spec_l12Line nk (by omega) (askS nk line) (repS nk line) hc hr
    rw [hrb, Bool.true_and] at hokd
    rw [hrb] at hRec
    have hq3 := u8_neq (lineL nk (askS nk line) (repS nk line)) (line ++ [10])
    rw [← hokd] at hq3
    rw [show bs (line ++ [10]) = bs line ++ (⟨#[10]⟩ : ByteArray) by rw [show (⟨#[10]⟩ : ByteArray) = bs [10] from rfl, bs_app]] at hq3
    have hrec' : okS nk line = true → (askS nk line, repS nk line) = recOf line := fun h => by
      have := hrec h
      rw [this.1, this.2]
    generalize okS nk line = q at *
    generalize bs (lineL nk (askS nk line) (repS nk line)) = LL at *
    generalize (bef 35 line).take (aheadL nk).length = T at *
    generalize repS nk line = Pp at *
    generalize askS nk line = K at *
    generalize restS nk line = R at *
    generalize bef 35 line = B at *
    generalize aheadL nk = A at *
    generalize Lib.decDigits nk = D at *
    have HR := Lib.hid hRec
    have HL := Lib.hid hL
    have HREC : Unit → Hid _ := fun _ => Lib.hid hrec'
    clear hrec hokd h2 hfit hRec hrb hL hrec'
    generalize bs line = Lb at *
    go_enter Tryd.func74, Tryd.ntmps74
    have hm := Mem.start w
    repeat' (first | (go_at_call 69; refine mem_call hm (HN.out _) ?_; clear hm; intro w hm; (try simp only [nums, List.map_cons, List.map_nil])) | (go_at_call 73; with_reducible refine mem_callS (HS1.out _ _ _ hm) ?_; clear hm; intro g more len cap w hm hf hx; (have hp : 1 ≤ len := by (rw [List.length_cons] at hx; omega)); clear hf hx; simp only [List.cons_append] at hm; (try simp only [])) | (go_at_call 73; with_reducible refine mem_callS (HS2.out _ _ _ hm) ?_; clear hm; intro g more len cap w hm hf hx; (have hp : 1 ≤ len := by (rw [List.length_cons] at hx; omega)); clear hf hx; simp only [List.cons_append] at hm; (try simp only [])) | ((with_reducible refine gd ?_); refine mf_start1 11 3 hm (by kernel_rfl) (by kernel_rfl) rfl ?_; apply Exists.intro; intro hne; (repeat (first | ((with_reducible refine gfl ?_); first | refine fl rfl rfl rfl ?_ | refine flw rfl rfl rfl ?_ | (refine flr rfl rfl rfl ?_; try simp only [List.drop_succ_cons, List.drop_zero, List.take_succ_cons, List.take_zero])) | ((with_reducible refine gfs ?_); first | refine fs rfl rfl rfl rfl rfl ?_ | refine fsw rfl rfl rfl rfl ?_ | refine fsr rfl rfl rfl rfl ?_) | (refine wpF_step (by rfl) (hne _ (by decide)) ?_; intro hn K hK; go_simp; (try go_ints); (try simp [↓IntWalk.iteOmega, go_sem]); first | (refine hK _ ?_; clear hK K hn) | (apply Exists.intro; refine ⟨fun _ => ?_, hK _ ?_⟩; (first | (go_at_call 46; with_reducible exact (HR.out _)) | (go_at_call 47; with_reducible exact (HL.out _)) | fail); clear hK K hn)))); refine wpF_nil ?_; clear hm hne; intro w hm; (try simp only [famEnd, modB, splice, List.set_cons_zero, List.set_cons_succ, set_iv] at hm)) | ((with_reducible refine gix ?_); first | refine mix rfl rfl rfl rfl ?_ | refine mixr rfl rfl rfl rfl ?_; (try simp only [Int.toNat_zero, Int.reduceToNat, Nat.reduceMul, Nat.zero_mul, Nat.one_mul, List.drop_succ_cons, List.drop_zero, List.take_succ_cons, List.take_zero])) | ((with_reducible refine gl ?_); first | refine ml hm rfl rfl rfl ?_ | refine mlw hm rfl rfl rfl ?_ | (refine mlr hm rfl rfl rfl ?_; try simp only [List.drop_succ_cons, List.drop_zero, List.take_succ_cons, List.take_zero])) | ((with_reducible refine gs ?_); (first | refine ms hm rfl rfl rfl rfl rfl ?_ | refine msw hm rfl rfl rfl rfl ?_ | refine msr hm rfl rfl rfl rfl ?_); clear hm; intro w hm; (try simp only [splice, List.set_cons_zero, List.set_cons_succ] at hm)) | ((with_reducible refine gb ?_); (first | refine mem_box hm rfl rfl rfl ?_ | refine mem_box1 hm rfl rfl rfl rfl ?_); clear hm; intro n w hm) | ((with_reducible refine ga ?_); refine mem_alloc hm rfl rfl ?_; clear hm; intro n w hm) | go_values | go_skip | go_guarded | go_step | go_upon | ((with_reducible refine bp ?_); go_back) | ((with_reducible refine up ?_); first | (simp only [Int.not_lt, Int.not_le] at *; go_simp) | (go_values <;> (try go_simp)) | (go_ite <;> go_prune <;> (try go_simp)) | (split <;> (first | (rename_i hx; exact (hx _ rfl).elim) | go_prune))))
    (try simp only [Exit.inBlock, Exit.then])
    (first | (refine ret1 rfl rfl (by (first | exact Res.tmp rfl | exact Res.atw hm rfl | exact Res.at hm rfl)) ?_) | (refine ret2 rfl rfl (by (first | exact Res.tmp rfl | exact Res.atw hm rfl | exact Res.at hm rfl)) (by (first | exact Res.tmp rfl | exact Res.atw hm rfl | exact Res.at hm rfl)) ?_) | (refine ret3 rfl rfl (by (first | exact Res.tmp rfl | exact Res.atw hm rfl | exact Res.at hm rfl)) (by (first | exact Res.tmp rfl | exact Res.atw hm rfl | exact Res.at hm rfl)) (by (first | exact Res.tmp rfl | exact Res.atw hm rfl | exact Res.at hm rfl)) ?_) | (refine ret4 rfl rfl (by (first | exact Res.tmp rfl | exact Res.atw hm rfl | exact Res.at hm rfl)) (by (first | exact Res.tmp rfl | exact Res.atw hm rfl | exact Res.at hm rfl)) (by (first | exact Res.tmp rfl | exact Res.atw hm rfl | exact Res.at hm rfl)) (by (first | exact Res.tmp rfl | exact Res.atw hm rfl | exact Res.at hm rfl)) ?_) | fail "ret")
    exact ⟨K, Pp, rfl, (HREC ()).out, hm.below⟩
/-- The cells of records. -/
def rcells (O : List (List UInt8 × List UInt8)) : List Value := O.flatMap fun p => [Value.string (bs p.1), Value.string (bs p.2)]
theorem rcells_snoc (O : List (List UInt8 × List UInt8)) (a b : List UInt8) : rcells (O ++ [(a, b)]) = rcells O ++ [Value.string (bs a), Value.string (bs b)] := by simp [rcells]
theorem rcells_len (O : List (List UInt8 × List UInt8)) : (rcells O).length = O.length * 2 := by
  induction O with
  | nil => rfl
  | cons p O ih => simp only [rcells, List.flatMap_cons, List.length_append, List.length_cons, List.length_nil] at *; omega
theorem splitH2 (l : List UInt8) (hl : l.length ≤ 1000000) (c : UInt8) (cz : Int) (hc : (c.toNat : Int) = cz) : ∃ R : List Value, (R.length = 0 ↔ c ∉ l) ∧ ∀ (w0 w : World) (σ : List Blk), Mem w0 w σ → Calls Tryd.prog 73 #[.string (bs l), .int .u8 cz] w fun e w' => ∃ u, e = .returned u ∧ Sl w0 w' u 9 1 (Value.string (bs (bef c l)) :: R) σ := by
  subst hc
  obtain ⟨r, hr, hi⟩ := splitL_head c l
  refine ⟨r.map sv, by rw [List.length_map, ← hi, List.length_eq_zero_iff], fun w0 w σ hm => ?_⟩
  have := spec_l1Split l hl c hm
  rw [hr, List.map_cons] at this
  exact this
section
variable {P : Program} {w0 w : World} {σ : List Blk}
theorem mem_call2 {f : FuncId} {args : Array Value} {V : List UInt8 → List UInt8 → Value} {p : List UInt8 → List UInt8 → Prop} {R : Ending → World → Prop} (hm : Mem w0 w σ) (h : Calls P f args w fun e w' => ∃ a b, e = .returned (V a b) ∧ p a b ∧ Below w.heap.size w w')
    (k : ∀ a b w', p a b → Mem w0 w' σ → R (.returned (V a b)) w') : Calls P f args w R :=
  h.mono fun e w' ⟨a, b, he, hp, hb⟩ => by subst he; exact k a b w' hp (hm.next hb)
end
theorem readL_nil (f n : Nat) : readL f n [] = ([], 0) := by cases f <;> simp [readL]
set_option maxHeartbeats 1000000 in
theorem spec_l12Open {w0 w : World} {σ : List Blk} (l : List UInt8) (hl : l.length ≤ 40000) (hm : Mem w0 w σ) : Calls Tryd.prog 51 #[.string (bs l)] w fun e w' => ∃ u, e = .returned (.tuple #[u, iv (readL 60 0 l).2]) ∧ Sl w0 w' u 27 2 (rcells (readL 60 0 l).1) σ := by
  have hsz := bs_size l
  go_enter Tryd.func51, Tryd.ntmps51
  repeat' (first | ((with_reducible refine gbs ?_); refine mbs hm rfl rfl rfl ?_; clear hm; intro n w hm; (try simp only [List.flatMap_cons, List.flatMap_nil, Value.cells, List.append_nil, List.cons_append, List.nil_append] at hm)) | ((with_reducible refine gap ?_); refine map_ hm rfl rfl rfl rfl hf ?_; clear hm hf; intro g cap more w hm hf; rw [List.take_left' hx] at hm hf; (try simp only [List.eraseIdx_cons_succ, List.eraseIdx_cons_zero, Nat.zero_add, Nat.reduceAdd, Nat.reduceSub, Nat.reduceLT, if_true, if_false] at hm)) | ((with_reducible refine gix ?_); first | refine mix rfl rfl rfl rfl ?_ | refine mixr rfl rfl rfl rfl ?_; (try simp only [Int.toNat_zero, Int.reduceToNat, Nat.reduceMul, Nat.zero_mul, Nat.one_mul, List.drop_succ_cons, List.drop_zero, List.take_succ_cons, List.take_zero])) | ((with_reducible refine gl ?_); first | refine ml hm rfl rfl rfl ?_ | refine mlw hm rfl rfl rfl ?_ | (refine mlr hm rfl rfl rfl ?_; try simp only [List.drop_succ_cons, List.drop_zero, List.take_succ_cons, List.take_zero])) | ((with_reducible refine gs ?_); (first | refine ms hm rfl rfl rfl rfl rfl ?_ | refine msw hm rfl rfl rfl rfl ?_ | refine msr hm rfl rfl rfl rfl ?_); clear hm; intro w hm; (try simp only [splice, List.set_cons_zero, List.set_cons_succ] at hm)) | ((with_reducible refine gb ?_); (first | refine mem_box hm rfl rfl rfl ?_ | refine mem_box1 hm rfl rfl rfl rfl ?_); clear hm; intro n w hm) | ((with_reducible refine ga ?_); refine mem_alloc hm rfl rfl ?_; clear hm; intro n w hm) | go_values | go_skip | go_guarded | go_step | go_upon | ((with_reducible refine bp ?_); go_back) | ((with_reducible refine up ?_); first | (simp only [Int.not_lt, Int.not_le] at *; go_simp) | (go_values <;> (try go_simp)) | (go_ite <;> go_prune <;> (try go_simp)) | (split <;> (first | (rename_i hx; exact (hx _ rfl).elim) | go_prune))))
  obtain ⟨τ, hτ, hS⟩ := Sl.sig2 (Sl.new hm)
  go_loopw [4, 5] (fun out at_ wr => ∃ (m : Nat) (O : List (List UInt8 × List UInt8)), O.length ≤ 60 ∧ m ≤ l.length ∧ at_ = iv m ∧ readL 60 0 l = (O ++ (readL (60 - O.length) O.length (l.drop m)).1, m + (readL (60 - O.length) O.length (l.drop m)).2) ∧ Sl w0 wr out 27 2 (rcells O) τ) (fun _ at_ _ => l.length - (intOf at_).toNat)
  case atStart => exact ⟨0, [], by simp, by omega, rfl, by simp, hS⟩
  case round =>
    clear hm hS
    obtain ⟨m, O, hO, hml, rfl, hrd, g, more, len, cap, rfl, hm, hf, hx⟩ := hrel
    subst hτ
    have hlen : len = O.length := by rw [rcells_len] at hx; omega
    subst hlen
    by_cases hmx : m < l.length
    case neg =>
      obtain rfl : m = l.length := by omega
      rw [List.drop_length, readL_nil, List.append_nil, Nat.add_zero] at hrd
      have HRD := Lib.hid hrd
      have HX := Lib.hid hx
      clear hrd
      repeat' (first  | ((with_reducible refine gix ?_); first | refine mix rfl rfl rfl rfl ?_ | refine mixr rfl rfl rfl rfl ?_; (try simp only [Int.toNat_zero, Int.reduceToNat, Nat.reduceMul, Nat.zero_mul, Nat.one_mul, List.drop_succ_cons, List.drop_zero, List.take_succ_cons, List.take_zero])) | ((with_reducible refine gl ?_); first | refine ml hm rfl rfl rfl ?_ | refine mlw hm rfl rfl rfl ?_ | (refine mlr hm rfl rfl rfl ?_; try simp only [List.drop_succ_cons, List.drop_zero, List.take_succ_cons, List.take_zero])) | ((with_reducible refine gs ?_); (first | refine ms hm rfl rfl rfl rfl rfl ?_ | refine msw hm rfl rfl rfl rfl ?_ | refine msr hm rfl rfl rfl rfl ?_); clear hm; intro w hm; (try simp only [splice, List.set_cons_zero, List.set_cons_succ] at hm)) | ((with_reducible refine gb ?_); (first | refine mem_box hm rfl rfl rfl ?_ | refine mem_box1 hm rfl rfl rfl rfl ?_); clear hm; intro n w hm) | ((with_reducible refine ga ?_); refine mem_alloc hm rfl rfl ?_; clear hm; intro n w hm) | go_values | go_skip | go_guarded | go_step | go_upon | ((with_reducible refine bp ?_); go_back) | ((with_reducible refine up ?_); first | (simp only [Int.not_lt, Int.not_le] at *; go_simp) | (go_values <;> (try go_simp)) | (go_ite <;> go_prune <;> (try go_simp)) | (split <;> (first | (rename_i hx; exact (hx _ rfl).elim) | go_prune))))
      (try simp only [Exit.inBlock, Exit.then])
      (first | (refine ret1 rfl rfl (by (first | exact Res.tmp rfl | exact Res.atw hm rfl | exact Res.at hm rfl)) ?_) | (refine ret2 rfl rfl (by (first | exact Res.tmp rfl | exact Res.atw hm rfl | exact Res.at hm rfl)) (by (first | exact Res.tmp rfl | exact Res.atw hm rfl | exact Res.at hm rfl)) ?_) | (refine ret3 rfl rfl (by (first | exact Res.tmp rfl | exact Res.atw hm rfl | exact Res.at hm rfl)) (by (first | exact Res.tmp rfl | exact Res.atw hm rfl | exact Res.at hm rfl)) (by (first | exact Res.tmp rfl | exact Res.atw hm rfl | exact Res.at hm rfl)) ?_) | (refine ret4 rfl rfl (by (first | exact Res.tmp rfl | exact Res.atw hm rfl | exact Res.at hm rfl)) (by (first | exact Res.tmp rfl | exact Res.atw hm rfl | exact Res.at hm rfl)) (by (first | exact Res.tmp rfl | exact Res.atw hm rfl | exact Res.at hm rfl)) (by (first | exact Res.tmp rfl | exact Res.atw hm rfl | exact Res.at hm rfl)) ?_) | fail "ret")
      rw [HRD.out]
      exact ⟨_, rfl, Sl.of hm hf HX.out⟩
    by_cases hn60 : O.length < 60
    case neg =>
      have e : O.length = 60 := by omega
      have e2 : readL (60 - O.length) O.length (l.drop m) = ([], 0) := by rw [e]; rfl
      rw [e2, List.append_nil, Nat.add_zero] at hrd
      have HRD := Lib.hid hrd
      have HX := Lib.hid hx
      clear hrd e2
      repeat' (first  | ((with_reducible refine gix ?_); first | refine mix rfl rfl rfl rfl ?_ | refine mixr rfl rfl rfl rfl ?_; (try simp only [Int.toNat_zero, Int.reduceToNat, Nat.reduceMul, Nat.zero_mul, Nat.one_mul, List.drop_succ_cons, List.drop_zero, List.take_succ_cons, List.take_zero])) | ((with_reducible refine gl ?_); first | refine ml hm rfl rfl rfl ?_ | refine mlw hm rfl rfl rfl ?_ | (refine mlr hm rfl rfl rfl ?_; try simp only [List.drop_succ_cons, List.drop_zero, List.take_succ_cons, List.take_zero])) | ((with_reducible refine gs ?_); (first | refine ms hm rfl rfl rfl rfl rfl ?_ | refine msw hm rfl rfl rfl rfl ?_ | refine msr hm rfl rfl rfl rfl ?_); clear hm; intro w hm; (try simp only [splice, List.set_cons_zero, List.set_cons_succ] at hm)) | ((with_reducible refine gb ?_); (first | refine mem_box hm rfl rfl rfl ?_ | refine mem_box1 hm rfl rfl rfl rfl ?_); clear hm; intro n w hm) | ((with_reducible refine ga ?_); refine mem_alloc hm rfl rfl ?_; clear hm; intro n w hm) | go_values | go_skip | go_guarded | go_step | go_upon | ((with_reducible refine bp ?_); go_back) | ((with_reducible refine up ?_); first | (simp only [Int.not_lt, Int.not_le] at *; go_simp) | (go_values <;> (try go_simp)) | (go_ite <;> go_prune <;> (try go_simp)) | (split <;> (first | (rename_i hx; exact (hx _ rfl).elim) | go_prune))))
      (try simp only [Exit.inBlock, Exit.then])
      (first | (refine ret1 rfl rfl (by (first | exact Res.tmp rfl | exact Res.atw hm rfl | exact Res.at hm rfl)) ?_) | (refine ret2 rfl rfl (by (first | exact Res.tmp rfl | exact Res.atw hm rfl | exact Res.at hm rfl)) (by (first | exact Res.tmp rfl | exact Res.atw hm rfl | exact Res.at hm rfl)) ?_) | (refine ret3 rfl rfl (by (first | exact Res.tmp rfl | exact Res.atw hm rfl | exact Res.at hm rfl)) (by (first | exact Res.tmp rfl | exact Res.atw hm rfl | exact Res.at hm rfl)) (by (first | exact Res.tmp rfl | exact Res.atw hm rfl | exact Res.at hm rfl)) ?_) | (refine ret4 rfl rfl (by (first | exact Res.tmp rfl | exact Res.atw hm rfl | exact Res.at hm rfl)) (by (first | exact Res.tmp rfl | exact Res.atw hm rfl | exact Res.at hm rfl)) (by (first | exact Res.tmp rfl | exact Res.atw hm rfl | exact Res.at hm rfl)) (by (first | exact Res.tmp rfl | exact Res.atw hm rfl | exact Res.at hm rfl)) ?_) | fail "ret")
      rw [HRD.out]
      exact ⟨_, rfl, Sl.of hm hf HX.out⟩
    have hE := bs_ext l m l.length
    rw [List.take_of_length_le (by rw [List.length_drop]; omega)] at hE
    have hXl : (l.drop m).length = l.length - m := List.length_drop
    have hdr : ∀ j, (l.drop m).drop j = l.drop (m + j) := fun j => List.drop_drop
    generalize l.drop m = X at *
    have hXs := bs_size X
    have hBl := bef_len 10 X
    have hBs := bs_size (bef 10 X)
    obtain ⟨R, hR, hSp⟩ := splitH2 X (by omega) 10 10 rfl
    have hD := spec_l12Decode O.length (by omega) (bef 10 X) (by omega)
    obtain ⟨f, hfu⟩ : ∃ f, 60 - O.length = f + 1 := ⟨59 - O.length, by omega⟩
    have hff : f = 60 - (O.length + 1) := by omega
    rw [hfu] at hrd
    by_cases h10 : (10 : UInt8) ∈ X
    case neg =>
      have hR0 : R.length = 0 := hR.2 h10
      have e2 : readL (f + 1) O.length X = ([], 0) := readL_no (by simp [h10])
      rw [e2, List.append_nil, Nat.add_zero] at hrd
      have HRD := Lib.hid hrd
      have HX := Lib.hid hx
      have HD := Lib.hid hD
      have HSP := Lib.hid hSp
      clear hrd e2 hD hSp hR h10
      generalize okLine O.length (bef 10 X) = q at *
      generalize bef 10 X = B at *
      repeat' (first | (go_at_call 73; with_reducible refine mem_callS (HSP.out _ _ _ hm) ?_; clear hm; intro g2 more2 len2 cap2 w hm hf2 hx2; (have hp : len2 = R.length + 1 := by (rw [List.length_cons] at hx2; omega)); clear hf2 hx2; simp only [List.cons_append] at hm; (try simp only [])) | (go_at_call 74; with_reducible refine mem_call2 hm (HD.out _) ?_; clear hm; intro ea eb w hab hm; (try simp only [])) | ((with_reducible refine gix ?_); first | refine mix rfl rfl rfl rfl ?_ | refine mixr rfl rfl rfl rfl ?_; (try simp only [Int.toNat_zero, Int.reduceToNat, Nat.reduceMul, Nat.zero_mul, Nat.one_mul, List.drop_succ_cons, List.drop_zero, List.take_succ_cons, List.take_zero])) | ((with_reducible refine gl ?_); first | refine ml hm rfl rfl rfl ?_ | refine mlw hm rfl rfl rfl ?_ | (refine mlr hm rfl rfl rfl ?_; try simp only [List.drop_succ_cons, List.drop_zero, List.take_succ_cons, List.take_zero])) | ((with_reducible refine gs ?_); (first | refine ms hm rfl rfl rfl rfl rfl ?_ | refine msw hm rfl rfl rfl rfl ?_ | refine msr hm rfl rfl rfl rfl ?_); clear hm; intro w hm; (try simp only [splice, List.set_cons_zero, List.set_cons_succ] at hm)) | ((with_reducible refine gb ?_); (first | refine mem_box hm rfl rfl rfl ?_ | refine mem_box1 hm rfl rfl rfl rfl ?_); clear hm; intro n w hm) | ((with_reducible refine ga ?_); refine mem_alloc hm rfl rfl ?_; clear hm; intro n w hm) | go_values | go_skip | go_guarded | go_step | go_upon | ((with_reducible refine bp ?_); go_back) | ((with_reducible refine up ?_); first | (simp only [Int.not_lt, Int.not_le] at *; go_simp) | (go_values <;> (try go_simp)) | (go_ite <;> go_prune <;> (try go_simp)) | (split <;> (first | (rename_i hx; exact (hx _ rfl).elim) | go_prune))))
      all_goals
        (try simp only [Exit.inBlock, Exit.then])
        (first | (refine ret1 rfl rfl (by (first | exact Res.tmp rfl | exact Res.atw hm rfl | exact Res.at hm rfl)) ?_) | (refine ret2 rfl rfl (by (first | exact Res.tmp rfl | exact Res.atw hm rfl | exact Res.at hm rfl)) (by (first | exact Res.tmp rfl | exact Res.atw hm rfl | exact Res.at hm rfl)) ?_) | (refine ret3 rfl rfl (by (first | exact Res.tmp rfl | exact Res.atw hm rfl | exact Res.at hm rfl)) (by (first | exact Res.tmp rfl | exact Res.atw hm rfl | exact Res.at hm rfl)) (by (first | exact Res.tmp rfl | exact Res.atw hm rfl | exact Res.at hm rfl)) ?_) | (refine ret4 rfl rfl (by (first | exact Res.tmp rfl | exact Res.atw hm rfl | exact Res.at hm rfl)) (by (first | exact Res.tmp rfl | exact Res.atw hm rfl | exact Res.at hm rfl)) (by (first | exact Res.tmp rfl | exact Res.atw hm rfl | exact Res.at hm rfl)) (by (first | exact Res.tmp rfl | exact Res.atw hm rfl | exact Res.at hm rfl)) ?_) | fail "ret")
        rw [HRD.out]
        replace hm := hm.frontR 2 _ rfl
        simp only [List.eraseIdx_cons_succ, List.eraseIdx_cons_zero] at hm
        exact ⟨_, rfl, (Sl.of hm hf HX.out).drop (by repeat (first | exact List.Sublist.refl _ | refine List.Sublist.cons _ ?_))⟩
    have hR1 : R.length ≠ 0 := fun h => hR.1 h h10
    cases hq : okLine O.length (bef 10 X)
    · have e2 : readL (f + 1) O.length X = ([], 0) := readL_no (by rw [hq, Bool.and_false])
      rw [e2, List.append_nil, Nat.add_zero] at hrd
      rw [hq] at hD
      have HRD := Lib.hid hrd
      have HX := Lib.hid hx
      have HD := Lib.hid hD
      have HSP := Lib.hid hSp
      clear hrd e2 hD hSp hR hq h10
      generalize bef 10 X = B at *
      repeat' (first | (go_at_call 73; with_reducible refine mem_callS (HSP.out _ _ _ hm) ?_; clear hm; intro g2 more2 len2 cap2 w hm hf2 hx2; (have hp : len2 = R.length + 1 := by (rw [List.length_cons] at hx2; omega)); clear hf2 hx2; simp only [List.cons_append] at hm; (try simp only [])) | (go_at_call 74; with_reducible refine mem_call2 hm (HD.out _) ?_; clear hm; intro ea eb w hab hm; (try simp only [])) | ((with_reducible refine gix ?_); first | refine mix rfl rfl rfl rfl ?_ | refine mixr rfl rfl rfl rfl ?_; (try simp only [Int.toNat_zero, Int.reduceToNat, Nat.reduceMul, Nat.zero_mul, Nat.one_mul, List.drop_succ_cons, List.drop_zero, List.take_succ_cons, List.take_zero])) | ((with_reducible refine gl ?_); first | refine ml hm rfl rfl rfl ?_ | refine mlw hm rfl rfl rfl ?_ | (refine mlr hm rfl rfl rfl ?_; try simp only [List.drop_succ_cons, List.drop_zero, List.take_succ_cons, List.take_zero])) | ((with_reducible refine gs ?_); (first | refine ms hm rfl rfl rfl rfl rfl ?_ | refine msw hm rfl rfl rfl rfl ?_ | refine msr hm rfl rfl rfl rfl ?_); clear hm; intro w hm; (try simp only [splice, List.set_cons_zero, List.set_cons_succ] at hm)) | ((with_reducible refine gb ?_); (first | refine mem_box hm rfl rfl rfl ?_ | refine mem_box1 hm rfl rfl rfl rfl ?_); clear hm; intro n w hm) | ((with_reducible refine ga ?_); refine mem_alloc hm rfl rfl ?_; clear hm; intro n w hm) | go_values | go_skip | go_guarded | go_step | go_upon | ((with_reducible refine bp ?_); go_back) | ((with_reducible refine up ?_); first | (simp only [Int.not_lt, Int.not_le] at *; go_simp) | (go_values <;> (try go_simp)) | (go_ite <;> go_prune <;> (try go_simp)) | (split <;> (first | (rename_i hx; exact (hx _ rfl).elim) | go_prune))))
      all_goals
        (try simp only [Exit.inBlock, Exit.then])
        (first | (refine ret1 rfl rfl (by (first | exact Res.tmp rfl | exact Res.atw hm rfl | exact Res.at hm rfl)) ?_) | (refine ret2 rfl rfl (by (first | exact Res.tmp rfl | exact Res.atw hm rfl | exact Res.at hm rfl)) (by (first | exact Res.tmp rfl | exact Res.atw hm rfl | exact Res.at hm rfl)) ?_) | (refine ret3 rfl rfl (by (first | exact Res.tmp rfl | exact Res.atw hm rfl | exact Res.at hm rfl)) (by (first | exact Res.tmp rfl | exact Res.atw hm rfl | exact Res.at hm rfl)) (by (first | exact Res.tmp rfl | exact Res.atw hm rfl | exact Res.at hm rfl)) ?_) | (refine ret4 rfl rfl (by (first | exact Res.tmp rfl | exact Res.atw hm rfl | exact Res.at hm rfl)) (by (first | exact Res.tmp rfl | exact Res.atw hm rfl | exact Res.at hm rfl)) (by (first | exact Res.tmp rfl | exact Res.atw hm rfl | exact Res.at hm rfl)) (by (first | exact Res.tmp rfl | exact Res.atw hm rfl | exact Res.at hm rfl)) ?_) | fail "ret")
        rw [HRD.out]
        replace hm := hm.frontR 2 _ rfl
        simp only [List.eraseIdx_cons_succ, List.eraseIdx_cons_zero] at hm
        exact ⟨_, rfl, (Sl.of hm hf HX.out).drop (by repeat (first | exact List.Sublist.refl _ | refine List.Sublist.cons _ ?_))⟩
    · have e2 := readL_yes (f := f) h10 hq
      have e3 := drop_bef h10
      have e4 := bef_lt h10
      rw [hdr] at e3
      rw [e2, hff, ← e3] at hrd
      rw [hq] at hD
      have HRD := Lib.hid hrd
      have HX := Lib.hid hx
      have HD := Lib.hid hD
      have HSP := Lib.hid hSp
      clear hrd e2 e3 hD hSp hR hq h10 hdr
      generalize recOf (bef 10 X) = rec at *
      generalize bef 10 X = B at *
      repeat' (first | (go_at_call 73; with_reducible refine mem_callS (HSP.out _ _ _ hm) ?_; clear hm; intro g2 more2 len2 cap2 w hm hf2 hx2; (have hp : len2 = R.length + 1 := by (rw [List.length_cons] at hx2; omega)); clear hf2 hx2; simp only [List.cons_append] at hm; (try simp only [])) | (go_at_call 74; with_reducible refine mem_call2 hm (HD.out _) ?_; clear hm; intro ea eb w hab hm; (try simp only [])) | ((with_reducible refine gbs ?_); refine mbs hm rfl rfl rfl ?_; clear hm; intro n w hm; (try simp only [List.flatMap_cons, List.flatMap_nil, Value.cells, List.append_nil, List.cons_append, List.nil_append] at hm)) | ((with_reducible refine gap ?_); refine map_ hm rfl rfl rfl rfl hf ?_; clear hm hf; intro g cap more w hm hf; rw [List.take_left' hx] at hm hf; (try simp only [List.eraseIdx_cons_succ, List.eraseIdx_cons_zero, Nat.zero_add, Nat.reduceAdd, Nat.reduceSub, Nat.reduceLT, if_true, if_false] at hm)) | ((with_reducible refine gix ?_); first | refine mix rfl rfl rfl rfl ?_ | refine mixr rfl rfl rfl rfl ?_; (try simp only [Int.toNat_zero, Int.reduceToNat, Nat.reduceMul, Nat.zero_mul, Nat.one_mul, List.drop_succ_cons, List.drop_zero, List.take_succ_cons, List.take_zero])) | ((with_reducible refine gl ?_); first | refine ml hm rfl rfl rfl ?_ | refine mlw hm rfl rfl rfl ?_ | (refine mlr hm rfl rfl rfl ?_; try simp only [List.drop_succ_cons, List.drop_zero, List.take_succ_cons, List.take_zero])) | ((with_reducible refine gs ?_); (first | refine ms hm rfl rfl rfl rfl rfl ?_ | refine msw hm rfl rfl rfl rfl ?_ | refine msr hm rfl rfl rfl rfl ?_); clear hm; intro w hm; (try simp only [splice, List.set_cons_zero, List.set_cons_succ] at hm)) | ((with_reducible refine gb ?_); (first | refine mem_box hm rfl rfl rfl ?_ | refine mem_box1 hm rfl rfl rfl rfl ?_); clear hm; intro n w hm) | ((with_reducible refine ga ?_); refine mem_alloc hm rfl rfl ?_; clear hm; intro n w hm) | go_values | go_skip | go_guarded | go_step | go_upon | ((with_reducible refine bp ?_); go_back) | ((with_reducible refine up ?_); first | (simp only [Int.not_lt, Int.not_le] at *; go_simp) | (go_values <;> (try go_simp)) | (go_ite <;> go_prune <;> (try go_simp)) | (split <;> (first | (rename_i hx; exact (hx _ rfl).elim) | go_prune))))
      go_roundw
      case rel =>
        (try (first | ((repeat apply Exists.intro); refine ⟨?_, rfl⟩) | (repeat refine ex_any ?_)))
        obtain rfl := hab rfl
        refine ⟨m + (B.length + 1), O ++ [(ea, eb)], by rw [List.length_append]; simp; omega, by omega, by go_num, ?_, ?_⟩
        · rw [HRD.out]
          simp only [List.length_append, List.length_cons, List.length_nil, Nat.zero_add, List.append_assoc, List.cons_append, List.nil_append, Prod.mk.injEq, true_and]
          omega
        · rw [rcells_snoc]
          refine (Sl.of hm hf ?_).drop (by repeat (first | exact List.Sublist.refl _ | refine List.Sublist.cons _ ?_))
          rw [List.length_append, HX.out]; simp; omega
      case measure => simp [intOf]; omega
end Go.Proofs.YtjmolkamaeonmaaDoor

/-
  Walks of the steps of a board, and of what is a step, of the program.
-/
import Derived.Test.YthcjokgjiknheaaStep
import Derived.Test.YthcjokgjiknheaaFm
import Derived.Test.YthcjokgjiknheaaSeed
import Derived.Test.YthcjokgjiknheaaAgree
import Derived.Test.YthcjokgjiknheaaNew
set_option linter.unusedVariables false
set_option linter.unusedSimpArgs false
namespace Go.Proofs.Ythcjokgjiknheaa
open Go.RowKit Slm
/-- The two steps that put a tile into a cell. -/
def stp2 (d : Nat) (k : Nat) : List Stp := [((d : Int), ((k / 4 : Nat) : Int), ((k % 4 : Nat) : Int), 1), ((d : Int), ((k / 4 : Nat) : Int), ((k % 4 : Nat) : Int), 2)]
def stepsL (d : Nat) (b : List Int) : List Stp := if slideB 1 d b = b then [] else (emptyL (slideB 1 d b)).flatMap (stp2 d)
theorem stepsL_len (d : Nat) (b : List Int) : (stepsL d b).length ≤ 32 := by
  unfold stepsL
  split
  · simp
  · have h1 := emptyL_len (slideB 1 d b)
    have h2 : ((emptyL (slideB 1 d b)).flatMap (stp2 d)).length = (emptyL (slideB 1 d b)).length * 2 := by
      induction emptyL (slideB 1 d b) with
      | nil => rfl
      | cons a l ih => rw [List.flatMap_cons, List.length_append, ih]; simp [stp2]; omega
    omega
theorem mem_emptyL {b : List Int} {k : Nat} : k ∈ emptyL b ↔ k < 16 ∧ atL b k = 0 := by simp [emptyL, emptyK]
theorem mem_steps {d r c t : Int} (b : List Int) (hd : inB d 0 3 = true) (hc : (inB r 0 3 && inB c 0 3) = true) : (d, r, c, t) ∈ stepsL d.toNat b ↔ stpB b d r c t = true := by
  simp only [Bool.and_eq_true, inB_iff] at hd hc
  obtain ⟨d', rfl⟩ := Int.eq_ofNat_of_zero_le hd.1
  obtain ⟨r', rfl⟩ := Int.eq_ofNat_of_zero_le hc.1.1
  obtain ⟨c', rfl⟩ := Int.eq_ofNat_of_zero_le hc.2.1
  have q1 : inB (d' : Int) 0 3 = true := inB_iff.2 hd
  have q2 : inB (r' : Int) 0 3 = true := inB_iff.2 hc.1
  have q3 : inB (c' : Int) 0 3 = true := inB_iff.2 hc.2
  unfold stpB stpOK stepsL
  simp only [Int.toNat_natCast, q1, q2, q3, Bool.true_and]
  by_cases hS : slideB 1 d' b = b
  · simp [hS]
  · simp only [if_neg hS, List.mem_flatMap, mem_emptyL, stp2, List.mem_cons, List.not_mem_nil, or_false, Prod.mk.injEq, Bool.and_eq_true, inB_iff, Bool.not_eq_true', decide_eq_false_iff_not, decide_eq_true_eq]
    constructor
    · rintro ⟨k, ⟨hk, h0⟩, ⟨_, h1, h2, h3⟩ | ⟨_, h1, h2, h3⟩⟩
      all_goals
        have : 4 * r' + c' = k := by omega
        rw [this]
        exact ⟨by omega, hS, h0⟩
    · rintro ⟨ht, _, h0⟩
      refine ⟨4 * r' + c', ⟨by omega, h0⟩, ?_⟩
      have e1 : (4 * r' + c') / 4 = r' := by omega
      have e2 : (4 * r' + c') % 4 = c' := by omega
      rw [e1, e2]
      have : t = 1 ∨ t = 2 := by omega
      rcases this with rfl | rfl <;> simp
theorem ix_step {w0 w : World} {σ : List Blk} {g i len cap : Nat} {S : List Stp} {more : List Value} (hm : Mem w0 w σ) [At σ g ((S.flatMap stI).map iv ++ more) 55 i] (hx : S.length = len) (hl : len ≤ 1000000) (s : Stp) :
    Calls Try.prog 123 #[.slice (some ⟨g, 0, none⟩) len cap, .agg (nums (stI s))] w fun e w' => e = .returned (iv (ixZ (fun x => decide (s = x)) S)) ∧ Mem w0 w' σ := by
  have hlen : ((S.flatMap stI).map iv ++ more).length = len * 4 + more.length := by rw [List.length_append, List.length_map, fm_len S (fun a _ => stI_len a), hx]
  have hs4 := stI_len s
  have hi : ∀ x, decide (s = x) = decide (stI s = stI x) := fun x => by rw [decide_eq_decide]; exact stI_inj.symm
  have HI := Lib.hid hi
  clear hi
  have HG := Lib.hid (fun (k : Nat) (h : k < S.length) => fm_get h (fun a _ => stI_len a) more)
  generalize hp : (fun x => decide (s = x)) = p
  have HP : Unit → Hid _ := fun _ => Lib.hid hp
  clear hp
  generalize stI s = t at *
  generalize hcs : (S.flatMap stI).map iv ++ more = cs at *
  clear hcs
  go_enter Try.func123, Try.ntmps123
  simp only [nums_map]
  repeat' (first  | ((with_reducible refine gix ?_); first | refine mix rfl rfl rfl rfl ?_ | refine mixr rfl rfl rfl rfl ?_; (try simp only [Int.toNat_zero, Int.reduceToNat, Nat.reduceMul, Nat.zero_mul, Nat.one_mul, List.drop_succ_cons, List.drop_zero, List.take_succ_cons, List.take_zero])) | ((with_reducible refine gl ?_); first | refine ml hm rfl rfl rfl ?_ | refine mlw hm rfl rfl rfl ?_ | (refine mlr hm rfl rfl rfl ?_; try simp only [List.drop_succ_cons, List.drop_zero, List.take_succ_cons, List.take_zero])) | ((with_reducible refine gs ?_); (first | refine ms hm rfl rfl rfl rfl rfl ?_ | refine msw hm rfl rfl rfl rfl ?_ | refine msr hm rfl rfl rfl rfl ?_); clear hm; intro w hm; (try simp only [splice, List.set_cons_zero, List.set_cons_succ] at hm)) | ((with_reducible refine gb ?_); (first | refine mem_box hm rfl rfl rfl ?_ | refine mem_box1 hm rfl rfl rfl rfl ?_); clear hm; intro n w hm) | ((with_reducible refine ga ?_); refine mem_alloc hm rfl rfl ?_; clear hm; intro n w hm) | go_values | go_skip | go_guarded | go_step | go_upon | ((with_reducible refine bp ?_); go_back) | ((with_reducible refine up ?_); first | (simp only [Int.not_lt, Int.not_le] at *; go_simp) | (go_values <;> (try go_simp)) | (go_ite <;> go_prune <;> (try go_simp)) | (split <;> (first | (rename_i hx; exact (hx _ rfl).elim) | go_prune))))
  obtain ⟨τ, hτ, hm⟩ := Mem.sig hm
  go_loopw [8] (fun i wr => ∃ k : Nat, k ≤ len ∧ i = iv k ∧ (Unit → Hid (∀ j (h : j < k) (h' : j < S.length), p S[j] = false)) ∧ Mem w0 wr τ) (fun i _ => len - (intOf i).toNat)
  case atStart => exact ⟨0, by omega, rfl, fun _ => Lib.hid (by intro j h; omega), hm⟩
  case round =>
    clear hm
    obtain ⟨k, hk, rfl, HA, hm⟩ := hrel
    subst hτ
    by_cases hlt : k < len
    · have hk' : k < S.length := by omega
      have hv := HG.out k hk'
      have hq := HI.out S[k]
      have hx4 := stI_len S[k]
      have hpk : p S[k] = decide (t = stI S[k]) := by rw [← hq, ← (HP ()).out]
      generalize stI S[k] = x at *
      clear hq
      cases hpx : p S[k]
      · have hd : decide (t = x) = false := by rw [← hpk, hpx]
        have HX : Unit → Hid (p S[k] = false) := fun _ => Lib.hid hpx
        have HD : Unit → Hid _ := fun _ => Lib.hid hd
        clear hpx hd hpk
        repeat' (first | ((with_reducible refine gd ?_); refine mf_start (st := []) hm (by kernel_rfl) (by kernel_rfl) rfl ?_; intro hne; (repeat (first | (with_reducible rw [hv]) | ((with_reducible refine gcmpF ?_); refine fcmp ((HD ()).out) (by first | exact .inl rfl | exact .inr rfl) rfl rfl rfl rfl ?_; (try simp only [cmpV, Bool.not_true, Bool.not_false])) | ((with_reducible refine gfl ?_); first | refine fl rfl rfl rfl ?_ | refine flw rfl rfl rfl ?_ | (refine flr rfl rfl rfl ?_; try simp only [List.drop_succ_cons, List.drop_zero, List.take_succ_cons, List.take_zero])) | ((with_reducible refine gfs ?_); first | refine fs rfl rfl rfl rfl rfl ?_ | refine fsw rfl rfl rfl rfl ?_ | refine fsr rfl rfl rfl rfl ?_) | (refine wpF_step (by rfl) (hne _ (by decide)) ?_; intro hn K hK; go_simp; (try go_ints); (try simp [↓IntWalk.iteOmega, go_sem]); first | (refine hK _ ?_; clear hK K hn) | (apply Exists.intro; refine ⟨fun _ => ?_, hK _ ?_⟩; (first | (with_reducible rw [hv]) | fail); clear hK K hn)))); refine wpF_nil ?_; clear hm hne; intro w hm; (try simp only [famEnd, modB, splice, List.set_cons_zero, List.set_cons_succ, set_iv] at hm)) | ((with_reducible refine gix ?_); first | refine mix rfl rfl rfl rfl ?_ | refine mixr rfl rfl rfl rfl ?_; (try simp only [Int.toNat_zero, Int.reduceToNat, Nat.reduceMul, Nat.zero_mul, Nat.one_mul, List.drop_succ_cons, List.drop_zero, List.take_succ_cons, List.take_zero])) | ((with_reducible refine gl ?_); first | refine ml hm rfl rfl rfl ?_ | refine mlw hm rfl rfl rfl ?_ | (refine mlr hm rfl rfl rfl ?_; try simp only [List.drop_succ_cons, List.drop_zero, List.take_succ_cons, List.take_zero])) | ((with_reducible refine gs ?_); (first | refine ms hm rfl rfl rfl rfl rfl ?_ | refine msw hm rfl rfl rfl rfl ?_ | refine msr hm rfl rfl rfl rfl ?_); clear hm; intro w hm; (try simp only [splice, List.set_cons_zero, List.set_cons_succ] at hm)) | ((with_reducible refine gb ?_); (first | refine mem_box hm rfl rfl rfl ?_ | refine mem_box1 hm rfl rfl rfl rfl ?_); clear hm; intro n w hm) | ((with_reducible refine ga ?_); refine mem_alloc hm rfl rfl ?_; clear hm; intro n w hm) | go_values | go_skip | go_guarded | go_step | go_upon | ((with_reducible refine bp ?_); go_back) | ((with_reducible refine up ?_); first | (simp only [Int.not_lt, Int.not_le] at *; go_simp) | (go_values <;> (try go_simp)) | (go_ite <;> go_prune <;> (try go_simp)) | (split <;> (first | (rename_i hx; exact (hx _ rfl).elim) | go_prune))))
        go_roundw
        case rel =>
          (try (first | ((repeat apply Exists.intro); refine ⟨?_, rfl⟩) | (repeat refine ex_any ?_)))
          refine ⟨k + 1, by omega, by go_num, fun _ => Lib.hid (fun j h h' => ?_), hm⟩
          by_cases hj : j = k
          · subst hj; exact (HX ()).out
          · exact (HA ()).out j (by omega) h'
        case measure => simp [intOf]; omega
      · have hd : decide (t = x) = true := by rw [← hpk, hpx]
        have HX : Unit → Hid (p S[k] = true) := fun _ => Lib.hid hpx
        have HD : Unit → Hid _ := fun _ => Lib.hid hd
        clear hpx hd hpk
        repeat' (first | ((with_reducible refine gd ?_); refine mf_start (st := []) hm (by kernel_rfl) (by kernel_rfl) rfl ?_; intro hne; (repeat (first | (with_reducible rw [hv]) | ((with_reducible refine gcmpF ?_); refine fcmp ((HD ()).out) (by first | exact .inl rfl | exact .inr rfl) rfl rfl rfl rfl ?_; (try simp only [cmpV, Bool.not_true, Bool.not_false])) | ((with_reducible refine gfl ?_); first | refine fl rfl rfl rfl ?_ | refine flw rfl rfl rfl ?_ | (refine flr rfl rfl rfl ?_; try simp only [List.drop_succ_cons, List.drop_zero, List.take_succ_cons, List.take_zero])) | ((with_reducible refine gfs ?_); first | refine fs rfl rfl rfl rfl rfl ?_ | refine fsw rfl rfl rfl rfl ?_ | refine fsr rfl rfl rfl rfl ?_) | (refine wpF_step (by rfl) (hne _ (by decide)) ?_; intro hn K hK; go_simp; (try go_ints); (try simp [↓IntWalk.iteOmega, go_sem]); first | (refine hK _ ?_; clear hK K hn) | (apply Exists.intro; refine ⟨fun _ => ?_, hK _ ?_⟩; (first | (with_reducible rw [hv]) | fail); clear hK K hn)))); refine wpF_nil ?_; clear hm hne; intro w hm; (try simp only [famEnd, modB, splice, List.set_cons_zero, List.set_cons_succ, set_iv] at hm)) | ((with_reducible refine gix ?_); first | refine mix rfl rfl rfl rfl ?_ | refine mixr rfl rfl rfl rfl ?_; (try simp only [Int.toNat_zero, Int.reduceToNat, Nat.reduceMul, Nat.zero_mul, Nat.one_mul, List.drop_succ_cons, List.drop_zero, List.take_succ_cons, List.take_zero])) | ((with_reducible refine gl ?_); first | refine ml hm rfl rfl rfl ?_ | refine mlw hm rfl rfl rfl ?_ | (refine mlr hm rfl rfl rfl ?_; try simp only [List.drop_succ_cons, List.drop_zero, List.take_succ_cons, List.take_zero])) | ((with_reducible refine gs ?_); (first | refine ms hm rfl rfl rfl rfl rfl ?_ | refine msw hm rfl rfl rfl rfl ?_ | refine msr hm rfl rfl rfl rfl ?_); clear hm; intro w hm; (try simp only [splice, List.set_cons_zero, List.set_cons_succ] at hm)) | ((with_reducible refine gb ?_); (first | refine mem_box hm rfl rfl rfl ?_ | refine mem_box1 hm rfl rfl rfl rfl ?_); clear hm; intro n w hm) | ((with_reducible refine ga ?_); refine mem_alloc hm rfl rfl ?_; clear hm; intro n w hm) | go_values | go_skip | go_guarded | go_step | go_upon | ((with_reducible refine bp ?_); go_back) | ((with_reducible refine up ?_); first | (simp only [Int.not_lt, Int.not_le] at *; go_simp) | (go_values <;> (try go_simp)) | (go_ite <;> go_prune <;> (try go_simp)) | (split <;> (first | (rename_i hx; exact (hx _ rfl).elim) | go_prune))))
        (try simp only [Exit.inBlock, Exit.then])
        (first | (refine ret1 rfl rfl (by (first | exact Res.tmp rfl | exact Res.atw hm rfl | exact Res.at hm rfl)) ?_) | (refine ret2 rfl rfl (by (first | exact Res.tmp rfl | exact Res.atw hm rfl | exact Res.at hm rfl)) (by (first | exact Res.tmp rfl | exact Res.atw hm rfl | exact Res.at hm rfl)) ?_) | (refine ret3 rfl rfl (by (first | exact Res.tmp rfl | exact Res.atw hm rfl | exact Res.at hm rfl)) (by (first | exact Res.tmp rfl | exact Res.atw hm rfl | exact Res.at hm rfl)) (by (first | exact Res.tmp rfl | exact Res.atw hm rfl | exact Res.at hm rfl)) ?_) | (refine ret4 rfl rfl (by (first | exact Res.tmp rfl | exact Res.atw hm rfl | exact Res.at hm rfl)) (by (first | exact Res.tmp rfl | exact Res.atw hm rfl | exact Res.at hm rfl)) (by (first | exact Res.tmp rfl | exact Res.atw hm rfl | exact Res.at hm rfl)) (by (first | exact Res.tmp rfl | exact Res.atw hm rfl | exact Res.at hm rfl)) ?_) | fail "ret")
        exact ⟨ret_iv (ixZ_here hk' (HX ()).out (fun j h => (HA ()).out j h _)).symm, hm.drop (List.sublist_cons_self _ _)⟩
    · have : k = len := by omega
      subst this
      repeat' (first  | ((with_reducible refine gix ?_); first | refine mix rfl rfl rfl rfl ?_ | refine mixr rfl rfl rfl rfl ?_; (try simp only [Int.toNat_zero, Int.reduceToNat, Nat.reduceMul, Nat.zero_mul, Nat.one_mul, List.drop_succ_cons, List.drop_zero, List.take_succ_cons, List.take_zero])) | ((with_reducible refine gl ?_); first | refine ml hm rfl rfl rfl ?_ | refine mlw hm rfl rfl rfl ?_ | (refine mlr hm rfl rfl rfl ?_; try simp only [List.drop_succ_cons, List.drop_zero, List.take_succ_cons, List.take_zero])) | ((with_reducible refine gs ?_); (first | refine ms hm rfl rfl rfl rfl rfl ?_ | refine msw hm rfl rfl rfl rfl ?_ | refine msr hm rfl rfl rfl rfl ?_); clear hm; intro w hm; (try simp only [splice, List.set_cons_zero, List.set_cons_succ] at hm)) | ((with_reducible refine gb ?_); (first | refine mem_box hm rfl rfl rfl ?_ | refine mem_box1 hm rfl rfl rfl rfl ?_); clear hm; intro n w hm) | ((with_reducible refine ga ?_); refine mem_alloc hm rfl rfl ?_; clear hm; intro n w hm) | go_values | go_skip | go_guarded | go_step | go_upon | ((with_reducible refine bp ?_); go_back) | ((with_reducible refine up ?_); first | (simp only [Int.not_lt, Int.not_le] at *; go_simp) | (go_values <;> (try go_simp)) | (go_ite <;> go_prune <;> (try go_simp)) | (split <;> (first | (rename_i hx; exact (hx _ rfl).elim) | go_prune))))
      (try simp only [Exit.inBlock, Exit.then])
      (first | (refine ret1 rfl rfl (by (first | exact Res.tmp rfl | exact Res.atw hm rfl | exact Res.at hm rfl)) ?_) | (refine ret2 rfl rfl (by (first | exact Res.tmp rfl | exact Res.atw hm rfl | exact Res.at hm rfl)) (by (first | exact Res.tmp rfl | exact Res.atw hm rfl | exact Res.at hm rfl)) ?_) | (refine ret3 rfl rfl (by (first | exact Res.tmp rfl | exact Res.atw hm rfl | exact Res.at hm rfl)) (by (first | exact Res.tmp rfl | exact Res.atw hm rfl | exact Res.at hm rfl)) (by (first | exact Res.tmp rfl | exact Res.atw hm rfl | exact Res.at hm rfl)) ?_) | (refine ret4 rfl rfl (by (first | exact Res.tmp rfl | exact Res.atw hm rfl | exact Res.at hm rfl)) (by (first | exact Res.tmp rfl | exact Res.atw hm rfl | exact Res.at hm rfl)) (by (first | exact Res.tmp rfl | exact Res.atw hm rfl | exact Res.at hm rfl)) (by (first | exact Res.tmp rfl | exact Res.atw hm rfl | exact Res.at hm rfl)) ?_) | fail "ret")
      exact ⟨ret_iv (ixZ_none (fun j h => (HA ()).out j (by omega) h)).symm, hm.drop (List.sublist_cons_self _ _)⟩
theorem ixZ_nonneg {α : Type} (p : α → Bool) (xs : List α) : decide (0 ≤ ixZ p xs) = xs.any p := by
  rcases ixZ_cases p xs with ⟨h, h2⟩ | ⟨k, hk, h, h2, h3⟩
  · rw [h]
    have : xs.any p = false := by
      rw [List.any_eq_false]
      intro x hx hp
      have := List.filter_eq_self.1 h2 x hx
      simp [hp] at this
    rw [this]; rfl
  · rw [h]
    have : xs.any p = true := List.any_eq_true.2 ⟨xs[k], List.getElem_mem hk, h2⟩
    rw [this]; simp
theorem contains_step {w0 w : World} {σ : List Blk} {g i len cap : Nat} {S : List Stp} {more : List Value} (hm : Mem w0 w σ) [At σ g ((S.flatMap stI).map iv ++ more) 55 i] (hx : S.length = len) (hl : len ≤ 1000000) (s : Stp) :
    Calls Try.prog 105 #[.slice (some ⟨g, 0, none⟩) len cap, .agg (nums (stI s))] w fun e w' => e = .returned (.bool (decide (s ∈ S))) ∧ Mem w0 w' σ := by
  have hi := ixZ_nonneg (fun x => decide (s = x)) S
  have he : S.any (fun x => decide (s = x)) = decide (s ∈ S) := by
    rw [Bool.eq_iff_iff, List.any_eq_true]
    simp
  rw [he] at hi
  have hI := fun (w : World) (τ : List Blk) (j : Nat) (hm : Mem w0 w τ) (hA : At τ g ((S.flatMap stI).map iv ++ more) 55 j) => ix_step (g := g) (i := j) (more := more) (cap := cap) hm hx hl s
  generalize ixZ (fun x => decide (s = x)) S = z at *
  have HI := Lib.hid hI
  have HZ := Lib.hid hi
  clear hi hI he
  generalize hcs : (S.flatMap stI).map iv ++ more = cs at *
  go_enter Try.func105, Try.ntmps105
  repeat' (first | (go_at_call 123; refine mem_callM (HI.out _ _ _ hm inferInstance) ?_; clear hm; intro w hm; (try simp only [])) | ((with_reducible refine gix ?_); first | refine mix rfl rfl rfl rfl ?_ | refine mixr rfl rfl rfl rfl ?_; (try simp only [Int.toNat_zero, Int.reduceToNat, Nat.reduceMul, Nat.zero_mul, Nat.one_mul, List.drop_succ_cons, List.drop_zero, List.take_succ_cons, List.take_zero])) | ((with_reducible refine gl ?_); first | refine ml hm rfl rfl rfl ?_ | refine mlw hm rfl rfl rfl ?_ | (refine mlr hm rfl rfl rfl ?_; try simp only [List.drop_succ_cons, List.drop_zero, List.take_succ_cons, List.take_zero])) | ((with_reducible refine gs ?_); (first | refine ms hm rfl rfl rfl rfl rfl ?_ | refine msw hm rfl rfl rfl rfl ?_ | refine msr hm rfl rfl rfl rfl ?_); clear hm; intro w hm; (try simp only [splice, List.set_cons_zero, List.set_cons_succ] at hm)) | ((with_reducible refine gb ?_); (first | refine mem_box hm rfl rfl rfl ?_ | refine mem_box1 hm rfl rfl rfl rfl ?_); clear hm; intro n w hm) | ((with_reducible refine ga ?_); refine mem_alloc hm rfl rfl ?_; clear hm; intro n w hm) | go_values | go_skip | go_guarded | go_step | go_upon | ((with_reducible refine bp ?_); go_back) | ((with_reducible refine up ?_); first | (simp only [Int.not_lt, Int.not_le] at *; go_simp) | (go_values <;> (try go_simp)) | (go_ite <;> go_prune <;> (try go_simp)) | (split <;> (first | (rename_i hx; exact (hx _ rfl).elim) | go_prune))))
  (try simp only [Exit.inBlock, Exit.then])
  (first | (refine ret1 rfl rfl (by (first | exact Res.tmp rfl | exact Res.atw hm rfl | exact Res.at hm rfl)) ?_) | (refine ret2 rfl rfl (by (first | exact Res.tmp rfl | exact Res.atw hm rfl | exact Res.at hm rfl)) (by (first | exact Res.tmp rfl | exact Res.atw hm rfl | exact Res.at hm rfl)) ?_) | (refine ret3 rfl rfl (by (first | exact Res.tmp rfl | exact Res.atw hm rfl | exact Res.at hm rfl)) (by (first | exact Res.tmp rfl | exact Res.atw hm rfl | exact Res.at hm rfl)) (by (first | exact Res.tmp rfl | exact Res.atw hm rfl | exact Res.at hm rfl)) ?_) | (refine ret4 rfl rfl (by (first | exact Res.tmp rfl | exact Res.atw hm rfl | exact Res.at hm rfl)) (by (first | exact Res.tmp rfl | exact Res.atw hm rfl | exact Res.at hm rfl)) (by (first | exact Res.tmp rfl | exact Res.atw hm rfl | exact Res.at hm rfl)) (by (first | exact Res.tmp rfl | exact Res.atw hm rfl | exact Res.at hm rfl)) ?_) | fail "ret")
  exact ⟨by rw [← HZ.out], hm.drop (List.sublist_cons_self _ _)⟩
theorem impl_steps (d : Nat) (hd : d ≤ 3) (b : List Int) (hl : b.length = 16) (hok : okL b = true) (w0 : World) : Calls Try.prog 106 #[.agg (nums b), iv d] w0 fun e w' => ∃ v, e = .returned v ∧ Sl w0 w' v 55 4 (((stepsL d b).flatMap stI).map iv) [] := by
  have hG := fun (w0 w : World) (σ : List Blk) (g i c : Nat) (more : List Value) (hm : Mem w0 w σ) (hA : At σ g (iv d :: more) 3 i) => impl_slides1 (c := c) (more := more) (g := g) (i := i) d hd b hl hok hm
  have hsl := slideB_len 1 d b
  rw [hl] at hsl
  unfold stepsL
  generalize slideB 1 d b = S at *
  have hE := impl_empty S hsl
  have HG := Lib.hid hG
  have HE := Lib.hid hE
  clear hG hE hok
  by_cases hSb : S = b
  · have hdd : decide (S = b) = true := by simpa using hSb
    rw [if_pos hSb]
    have HD : Unit → Hid _ := fun _ => Lib.hid hdd
    clear hSb hdd
    go_enter Try.func106, Try.ntmps106
    have hm := Mem.start w0
    simp only [nums_map]
    repeat' (first | (go_at_call 76; refine mem_callM (HG.out _ _ _ _ _ _ _ hm inferInstance) ?_; clear hm; intro w hm; (try simp only [])) | ((with_reducible refine gbs ?_); refine mbs hm rfl rfl rfl ?_; clear hm; intro n w hm; (try simp only [List.flatMap_cons, List.flatMap_nil, Value.cells, List.append_nil, List.cons_append, List.nil_append] at hm)) | ((with_reducible refine gap ?_); refine map_ hm rfl rfl rfl rfl hf0 ?_; clear hm; intro g cap more w hm hf; simp only [Nat.zero_mul, List.take_zero, List.nil_append] at hm hf; (try simp only [List.eraseIdx_cons_succ, List.eraseIdx_cons_zero, Nat.zero_add, Nat.reduceAdd, Nat.reduceSub, Nat.reduceLT, if_true, if_false] at hm)) | ((with_reducible refine gcmp ?_); refine mcmp ((HD ()).out) (by first | exact .inl rfl | exact .inr rfl) rfl rfl rfl rfl ?_; (try simp only [cmpV, Bool.not_true, Bool.not_false])) | ((with_reducible refine gix ?_); first | refine mix rfl rfl rfl rfl ?_ | refine mixr rfl rfl rfl rfl ?_; (try simp only [Int.toNat_zero, Int.reduceToNat, Nat.reduceMul, Nat.zero_mul, Nat.one_mul, List.drop_succ_cons, List.drop_zero, List.take_succ_cons, List.take_zero])) | ((with_reducible refine gl ?_); first | refine ml hm rfl rfl rfl ?_ | refine mlw hm rfl rfl rfl ?_ | (refine mlr hm rfl rfl rfl ?_; try simp only [List.drop_succ_cons, List.drop_zero, List.take_succ_cons, List.take_zero])) | ((with_reducible refine gs ?_); (first | refine ms hm rfl rfl rfl rfl rfl ?_ | refine msw hm rfl rfl rfl rfl ?_ | refine msr hm rfl rfl rfl rfl ?_); clear hm; intro w hm; (try simp only [splice, List.set_cons_zero, List.set_cons_succ] at hm)) | ((with_reducible refine gb ?_); (first | refine mem_box hm rfl rfl rfl ?_ | refine mem_box1 hm rfl rfl rfl rfl ?_); clear hm; intro n w hm) | ((with_reducible refine ga ?_); refine mem_alloc hm rfl rfl ?_; clear hm; intro n w hm) | go_values | go_skip | go_guarded | go_step | go_upon | ((with_reducible refine bp ?_); go_back) | ((with_reducible refine up ?_); first | (simp only [Int.not_lt, Int.not_le] at *; go_simp) | (go_values <;> (try go_simp)) | (go_ite <;> go_prune <;> (try go_simp)) | (split <;> (first | (rename_i hx; exact (hx _ rfl).elim) | go_prune))))
    replace hm := hm.front 2 _ rfl
    simp only [List.eraseIdx_cons_succ, List.eraseIdx_cons_zero] at hm
    (try simp only [Exit.inBlock, Exit.then])
    (first | (refine ret1 rfl rfl (by (first | exact Res.tmp rfl | exact Res.atw hm rfl | exact Res.at hm rfl)) ?_) | (refine ret2 rfl rfl (by (first | exact Res.tmp rfl | exact Res.atw hm rfl | exact Res.at hm rfl)) (by (first | exact Res.tmp rfl | exact Res.atw hm rfl | exact Res.at hm rfl)) ?_) | (refine ret3 rfl rfl (by (first | exact Res.tmp rfl | exact Res.atw hm rfl | exact Res.at hm rfl)) (by (first | exact Res.tmp rfl | exact Res.atw hm rfl | exact Res.at hm rfl)) (by (first | exact Res.tmp rfl | exact Res.atw hm rfl | exact Res.at hm rfl)) ?_) | (refine ret4 rfl rfl (by (first | exact Res.tmp rfl | exact Res.atw hm rfl | exact Res.at hm rfl)) (by (first | exact Res.tmp rfl | exact Res.atw hm rfl | exact Res.at hm rfl)) (by (first | exact Res.tmp rfl | exact Res.atw hm rfl | exact Res.at hm rfl)) (by (first | exact Res.tmp rfl | exact Res.atw hm rfl | exact Res.at hm rfl)) ?_) | fail "ret")
    exact ⟨_, rfl, (Sl.new hm).drop (List.nil_sublist _)⟩
  · have hdd : decide (S = b) = false := by simpa using hSb
    rw [if_neg hSb]
    have HD : Unit → Hid _ := fun _ => Lib.hid hdd
    have hle := emptyL_len S
    clear hSb hdd
    generalize hX : ((emptyL S).flatMap (stp2 d)) = X
    have HX : Unit → Hid ((emptyL S).flatMap (stp2 d) = X) := fun _ => Lib.hid hX
    clear hX
    have hmd : ∀ k ∈ emptyL S, k < 16 := fun k hk => (mem_emptyL.1 hk).1
    have hel := ecells_len (emptyL S)
    generalize emptyL S = E at *
    have HM := Lib.hid hmd
    clear hmd
    go_enter Try.func106, Try.ntmps106
    have hm := Mem.start w0
    simp only [nums_map]
    repeat' (first | (go_at_call 76; refine mem_callM (HG.out _ _ _ _ _ _ _ hm inferInstance) ?_; clear hm; intro w hm; (try simp only [])) | (go_at_call 104; refine mem_callN hm (HE.out _) ?_; clear hm; intro g more len cap w hm hf hx; (try simp only [])) | ((with_reducible refine gbs ?_); refine mbs hm rfl rfl rfl ?_; clear hm; intro n w hm; (try simp only [List.flatMap_cons, List.flatMap_nil, Value.cells, List.append_nil, List.cons_append, List.nil_append] at hm)) | ((with_reducible refine gap ?_); refine map_ hm rfl rfl rfl rfl hf0 ?_; clear hm; intro g cap more w hm hf; simp only [Nat.zero_mul, List.take_zero, List.nil_append] at hm hf; (try simp only [List.eraseIdx_cons_succ, List.eraseIdx_cons_zero, Nat.zero_add, Nat.reduceAdd, Nat.reduceSub, Nat.reduceLT, if_true, if_false] at hm)) | ((with_reducible refine gcmp ?_); refine mcmp ((HD ()).out) (by first | exact .inl rfl | exact .inr rfl) rfl rfl rfl rfl ?_; (try simp only [cmpV, Bool.not_true, Bool.not_false])) | ((with_reducible refine gix ?_); first | refine mix rfl rfl rfl rfl ?_ | refine mixr rfl rfl rfl rfl ?_; (try simp only [Int.toNat_zero, Int.reduceToNat, Nat.reduceMul, Nat.zero_mul, Nat.one_mul, List.drop_succ_cons, List.drop_zero, List.take_succ_cons, List.take_zero])) | ((with_reducible refine gl ?_); first | refine ml hm rfl rfl rfl ?_ | refine mlw hm rfl rfl rfl ?_ | (refine mlr hm rfl rfl rfl ?_; try simp only [List.drop_succ_cons, List.drop_zero, List.take_succ_cons, List.take_zero])) | ((with_reducible refine gs ?_); (first | refine ms hm rfl rfl rfl rfl rfl ?_ | refine msw hm rfl rfl rfl rfl ?_ | refine msr hm rfl rfl rfl rfl ?_); clear hm; intro w hm; (try simp only [splice, List.set_cons_zero, List.set_cons_succ] at hm)) | ((with_reducible refine gb ?_); (first | refine mem_box hm rfl rfl rfl ?_ | refine mem_box1 hm rfl rfl rfl rfl ?_); clear hm; intro n w hm) | ((with_reducible refine ga ?_); refine mem_alloc hm rfl rfl ?_; clear hm; intro n w hm) | go_values | go_skip | go_guarded | go_step | go_upon | ((with_reducible refine bp ?_); go_back) | ((with_reducible refine up ?_); first | (simp only [Int.not_lt, Int.not_le] at *; go_simp) | (go_values <;> (try go_simp)) | (go_ite <;> go_prune <;> (try go_simp)) | (split <;> (first | (rename_i hx; exact (hx _ rfl).elim) | go_prune))))
    obtain rfl : len = E.length := by omega
    obtain ⟨τ, hτ, hS⟩ := Sl.sig (Sl.new (hm.front 3 _ rfl) (e := 55) (s := 4))
    simp only [List.eraseIdx_cons_succ, List.eraseIdx_cons_zero] at hτ
    clear hf hx
    go_loopw [5, 21] (fun out ix wr => ∃ k : Nat, k ≤ E.length ∧ ix = iv k ∧ Sl w0 wr out 55 4 ((((E.take k).flatMap (stp2 d)).flatMap stI).map iv) τ) (fun _ ix _ => E.length - (intOf ix).toNat)
    case atStart => exact ⟨0, by omega, rfl, hS⟩
    case round =>
      clear hm hS
      obtain ⟨k, hk, rfl, g2, more2, len, cap2, rfl, hm, hf, hx⟩ := hrel
      subst hτ
      by_cases hlt : k < E.length
      · have hv := ecells_get hlt more
        have hlE : (ecells E ++ more).length = E.length * 2 + more.length := by rw [List.length_append, hel]
        have hxk : ((((E.take k).flatMap (stp2 d)).flatMap stI).map iv).length = k * 8 := by
          rw [List.length_map, fm_len (s := 4) _ (fun a _ => stI_len a)]
          have : ((E.take k).flatMap (stp2 d)).length = k * 2 := by
            have h0 : (E.take k).length = k := by rw [List.length_take]; omega
            have h1 : ∀ l : List Nat, (l.flatMap (stp2 d)).length = l.length * 2 := fun l => by
              induction l with
              | nil => rfl
              | cons a l ih => rw [List.flatMap_cons, List.length_append, ih]; simp [stp2]; omega
            rw [h1, h0]
          rw [this]; omega
        have hlen2 : len ≤ 32 := by omega
        have hnext : (((E.take (k + 1)).flatMap (stp2 d)).flatMap stI).map iv = (((E.take k).flatMap (stp2 d)).flatMap stI).map iv ++ [iv d, iv ((E[k] / 4 : Nat) : Int), iv ((E[k] % 4 : Nat) : Int), iv 1, iv d, iv ((E[k] / 4 : Nat) : Int), iv ((E[k] % 4 : Nat) : Int), iv 2] := by
          rw [List.take_succ_eq_append_getElem hlt, List.flatMap_append, List.flatMap_append, List.map_append]
          rfl
        simp only [ecell] at hv
        generalize ((E[k] / 4 : Nat) : Int) = ca at *
        generalize ((E[k] % 4 : Nat) : Int) = cb at *
        generalize (((E.take k).flatMap (stp2 d)).flatMap stI).map iv = xs at hm hf hx hnext hxk
        generalize ecells E ++ more = cs at *
        have HN := Lib.hid hnext
        have HX2 := Lib.hid hx
        clear hnext hxk
        repeat' (first | (with_reducible rw [hv]) | ((with_reducible refine gbs ?_); refine mbs hm rfl rfl rfl ?_; clear hm; intro n w hm; (try simp only [List.flatMap_cons, List.flatMap_nil, Value.cells, List.append_nil, List.cons_append, List.nil_append] at hm)) | ((with_reducible refine gap ?_); refine map_ hm rfl rfl rfl rfl hf ?_; clear hm hf; intro g cap more w hm hf; rw [List.take_left' hx] at hm hf; (try simp only [List.eraseIdx_cons_succ, List.eraseIdx_cons_zero, Nat.zero_add, Nat.reduceAdd, Nat.reduceSub, Nat.reduceLT, if_true, if_false] at hm)) | ((with_reducible refine gix ?_); first | refine mix rfl rfl rfl rfl ?_ | refine mixr rfl rfl rfl rfl ?_; (try simp only [Int.toNat_zero, Int.reduceToNat, Nat.reduceMul, Nat.zero_mul, Nat.one_mul, List.drop_succ_cons, List.drop_zero, List.take_succ_cons, List.take_zero])) | ((with_reducible refine gl ?_); first | refine ml hm rfl rfl rfl ?_ | refine mlw hm rfl rfl rfl ?_ | (refine mlr hm rfl rfl rfl ?_; try simp only [List.drop_succ_cons, List.drop_zero, List.take_succ_cons, List.take_zero])) | ((with_reducible refine gs ?_); (first | refine ms hm rfl rfl rfl rfl rfl ?_ | refine msw hm rfl rfl rfl rfl ?_ | refine msr hm rfl rfl rfl rfl ?_); clear hm; intro w hm; (try simp only [splice, List.set_cons_zero, List.set_cons_succ] at hm)) | ((with_reducible refine gb ?_); (first | refine mem_box hm rfl rfl rfl ?_ | refine mem_box1 hm rfl rfl rfl rfl ?_); clear hm; intro n w hm) | ((with_reducible refine ga ?_); refine mem_alloc hm rfl rfl ?_; clear hm; intro n w hm) | go_values | go_skip | go_guarded | go_step | go_upon | ((with_reducible refine bp ?_); go_back) | ((with_reducible refine up ?_); first | (simp only [Int.not_lt, Int.not_le] at *; go_simp) | (go_values <;> (try go_simp)) | (go_ite <;> go_prune <;> (try go_simp)) | (split <;> (first | (rename_i hx; exact (hx _ rfl).elim) | go_prune))))
        go_roundw
        case rel => (try (first | ((repeat apply Exists.intro); refine ⟨?_, rfl⟩) | (repeat refine ex_any ?_))); exact ⟨k + 1, by omega, by go_num, by rw [HN.out]; exact (Sl.of hm hf (by rw [List.length_append, HX2.out]; simp; omega)).drop (List.sublist_cons_self _ _)⟩
        case measure => simp [intOf]; omega
      · obtain rfl : k = E.length := by omega
        rw [List.take_length, (HX ()).out] at hm hf hx
        repeat' (first  | ((with_reducible refine gix ?_); first | refine mix rfl rfl rfl rfl ?_ | refine mixr rfl rfl rfl rfl ?_; (try simp only [Int.toNat_zero, Int.reduceToNat, Nat.reduceMul, Nat.zero_mul, Nat.one_mul, List.drop_succ_cons, List.drop_zero, List.take_succ_cons, List.take_zero])) | ((with_reducible refine gl ?_); first | refine ml hm rfl rfl rfl ?_ | refine mlw hm rfl rfl rfl ?_ | (refine mlr hm rfl rfl rfl ?_; try simp only [List.drop_succ_cons, List.drop_zero, List.take_succ_cons, List.take_zero])) | ((with_reducible refine gs ?_); (first | refine ms hm rfl rfl rfl rfl rfl ?_ | refine msw hm rfl rfl rfl rfl ?_ | refine msr hm rfl rfl rfl rfl ?_); clear hm; intro w hm; (try simp only [splice, List.set_cons_zero, List.set_cons_succ] at hm)) | ((with_reducible refine gb ?_); (first | refine mem_box hm rfl rfl rfl ?_ | refine mem_box1 hm rfl rfl rfl rfl ?_); clear hm; intro n w hm) | ((with_reducible refine ga ?_); refine mem_alloc hm rfl rfl ?_; clear hm; intro n w hm) | go_values | go_skip | go_guarded | go_step | go_upon | ((with_reducible refine bp ?_); go_back) | ((with_reducible refine up ?_); first | (simp only [Int.not_lt, Int.not_le] at *; go_simp) | (go_values <;> (try go_simp)) | (go_ite <;> go_prune <;> (try go_simp)) | (split <;> (first | (rename_i hx; exact (hx _ rfl).elim) | go_prune))))
        (try simp only [Exit.inBlock, Exit.then])
        (first | (refine ret1 rfl rfl (by (first | exact Res.tmp rfl | exact Res.atw hm rfl | exact Res.at hm rfl)) ?_) | (refine ret2 rfl rfl (by (first | exact Res.tmp rfl | exact Res.atw hm rfl | exact Res.at hm rfl)) (by (first | exact Res.tmp rfl | exact Res.atw hm rfl | exact Res.at hm rfl)) ?_) | (refine ret3 rfl rfl (by (first | exact Res.tmp rfl | exact Res.atw hm rfl | exact Res.at hm rfl)) (by (first | exact Res.tmp rfl | exact Res.atw hm rfl | exact Res.at hm rfl)) (by (first | exact Res.tmp rfl | exact Res.atw hm rfl | exact Res.at hm rfl)) ?_) | (refine ret4 rfl rfl (by (first | exact Res.tmp rfl | exact Res.atw hm rfl | exact Res.at hm rfl)) (by (first | exact Res.tmp rfl | exact Res.atw hm rfl | exact Res.at hm rfl)) (by (first | exact Res.tmp rfl | exact Res.atw hm rfl | exact Res.at hm rfl)) (by (first | exact Res.tmp rfl | exact Res.atw hm rfl | exact Res.at hm rfl)) ?_) | fail "ret")
        exact ⟨_, rfl, (Sl.of hm hf hx).drop (List.nil_sublist _)⟩
theorem impl_isStep (b : List Int) (hl : b.length = 16) (hok : okL b = true) (d r c t : Int) (w0 : World) : Calls Try.prog 80 #[.agg (nums b), .agg #[iv d, iv r, iv c, iv t]] w0 fun e w' => e = .returned (.bool (stpB b d r c t)) ∧ Below w0.heap.size w0 w' := by
  have hD := impl_isDirection d
  have hC := impl_isCellZ r c
  cases q1 : inB d 0 3
  · rw [q1] at hD
    have e : stpB b d r c t = false := by simp [stpB, stpOK, q1]
    rw [e]
    have HD := Lib.hid hD
    have HC := Lib.hid hC
    clear hD hC q1 e
    go_enter Try.func80, Try.ntmps80
    have hm := Mem.start w0
    simp only [nums_map]
    repeat' (first | ((with_reducible refine gd ?_); refine mf_start (st := []) hm (by kernel_rfl) (by kernel_rfl) rfl ?_; intro hne; (repeat (first | ((with_reducible refine gfl ?_); first | refine fl rfl rfl rfl ?_ | refine flw rfl rfl rfl ?_ | (refine flr rfl rfl rfl ?_; try simp only [List.drop_succ_cons, List.drop_zero, List.take_succ_cons, List.take_zero])) | ((with_reducible refine gfs ?_); first | refine fs rfl rfl rfl rfl rfl ?_ | refine fsw rfl rfl rfl rfl ?_ | refine fsr rfl rfl rfl rfl ?_) | (refine wpF_step (by rfl) (hne _ (by decide)) ?_; intro hn K hK; go_simp; (try go_ints); (try simp [↓IntWalk.iteOmega, go_sem]); first | (refine hK _ ?_; clear hK K hn) | (apply Exists.intro; refine ⟨fun _ => ?_, hK _ ?_⟩; (first | (go_at_call 92; exact (HD.out _)) | (go_at_call 93; exact (HC.out _)) | fail); clear hK K hn)))); refine wpF_nil ?_; clear hm hne; intro w hm; (try simp only [famEnd, modB, splice, List.set_cons_zero, List.set_cons_succ, set_iv] at hm)) | ((with_reducible refine gix ?_); first | refine mix rfl rfl rfl rfl ?_ | refine mixr rfl rfl rfl rfl ?_; (try simp only [Int.toNat_zero, Int.reduceToNat, Nat.reduceMul, Nat.zero_mul, Nat.one_mul, List.drop_succ_cons, List.drop_zero, List.take_succ_cons, List.take_zero])) | ((with_reducible refine gl ?_); first | refine ml hm rfl rfl rfl ?_ | refine mlw hm rfl rfl rfl ?_ | (refine mlr hm rfl rfl rfl ?_; try simp only [List.drop_succ_cons, List.drop_zero, List.take_succ_cons, List.take_zero])) | ((with_reducible refine gs ?_); (first | refine ms hm rfl rfl rfl rfl rfl ?_ | refine msw hm rfl rfl rfl rfl ?_ | refine msr hm rfl rfl rfl rfl ?_); clear hm; intro w hm; (try simp only [splice, List.set_cons_zero, List.set_cons_succ] at hm)) | ((with_reducible refine gb ?_); (first | refine mem_box hm rfl rfl rfl ?_ | refine mem_box1 hm rfl rfl rfl rfl ?_); clear hm; intro n w hm) | ((with_reducible refine ga ?_); refine mem_alloc hm rfl rfl ?_; clear hm; intro n w hm) | go_values | go_skip | go_guarded | go_step | go_upon | ((with_reducible refine bp ?_); go_back) | ((with_reducible refine up ?_); first | (simp only [Int.not_lt, Int.not_le] at *; go_simp) | (go_values <;> (try go_simp)) | (go_ite <;> go_prune <;> (try go_simp)) | (split <;> (first | (rename_i hx; exact (hx _ rfl).elim) | go_prune))))
    (try simp only [Exit.inBlock, Exit.then])
    (first | (refine ret1 rfl rfl (by (first | exact Res.tmp rfl | exact Res.atw hm rfl | exact Res.at hm rfl)) ?_) | (refine ret2 rfl rfl (by (first | exact Res.tmp rfl | exact Res.atw hm rfl | exact Res.at hm rfl)) (by (first | exact Res.tmp rfl | exact Res.atw hm rfl | exact Res.at hm rfl)) ?_) | (refine ret3 rfl rfl (by (first | exact Res.tmp rfl | exact Res.atw hm rfl | exact Res.at hm rfl)) (by (first | exact Res.tmp rfl | exact Res.atw hm rfl | exact Res.at hm rfl)) (by (first | exact Res.tmp rfl | exact Res.atw hm rfl | exact Res.at hm rfl)) ?_) | (refine ret4 rfl rfl (by (first | exact Res.tmp rfl | exact Res.atw hm rfl | exact Res.at hm rfl)) (by (first | exact Res.tmp rfl | exact Res.atw hm rfl | exact Res.at hm rfl)) (by (first | exact Res.tmp rfl | exact Res.atw hm rfl | exact Res.at hm rfl)) (by (first | exact Res.tmp rfl | exact Res.atw hm rfl | exact Res.at hm rfl)) ?_) | fail "ret")
    exact ⟨rfl, hm.below⟩
  cases q2 : (inB r 0 3 && inB c 0 3)
  · rw [q1] at hD
    rw [q2] at hC
    have e : stpB b d r c t = false := by simp [stpB, stpOK, q1, q2]
    rw [e]
    have HD := Lib.hid hD
    have HC := Lib.hid hC
    clear hD hC q1 q2 e
    go_enter Try.func80, Try.ntmps80
    have hm := Mem.start w0
    simp only [nums_map]
    repeat' (first | ((with_reducible refine gd ?_); refine mf_start (st := []) hm (by kernel_rfl) (by kernel_rfl) rfl ?_; intro hne; (repeat (first | ((with_reducible refine gfl ?_); first | refine fl rfl rfl rfl ?_ | refine flw rfl rfl rfl ?_ | (refine flr rfl rfl rfl ?_; try simp only [List.drop_succ_cons, List.drop_zero, List.take_succ_cons, List.take_zero])) | ((with_reducible refine gfs ?_); first | refine fs rfl rfl rfl rfl rfl ?_ | refine fsw rfl rfl rfl rfl ?_ | refine fsr rfl rfl rfl rfl ?_) | (refine wpF_step (by rfl) (hne _ (by decide)) ?_; intro hn K hK; go_simp; (try go_ints); (try simp [↓IntWalk.iteOmega, go_sem]); first | (refine hK _ ?_; clear hK K hn) | (apply Exists.intro; refine ⟨fun _ => ?_, hK _ ?_⟩; (first | (go_at_call 92; exact (HD.out _)) | (go_at_call 93; exact (HC.out _)) | fail); clear hK K hn)))); refine wpF_nil ?_; clear hm hne; intro w hm; (try simp only [famEnd, modB, splice, List.set_cons_zero, List.set_cons_succ, set_iv] at hm)) | ((with_reducible refine gix ?_); first | refine mix rfl rfl rfl rfl ?_ | refine mixr rfl rfl rfl rfl ?_; (try simp only [Int.toNat_zero, Int.reduceToNat, Nat.reduceMul, Nat.zero_mul, Nat.one_mul, List.drop_succ_cons, List.drop_zero, List.take_succ_cons, List.take_zero])) | ((with_reducible refine gl ?_); first | refine ml hm rfl rfl rfl ?_ | refine mlw hm rfl rfl rfl ?_ | (refine mlr hm rfl rfl rfl ?_; try simp only [List.drop_succ_cons, List.drop_zero, List.take_succ_cons, List.take_zero])) | ((with_reducible refine gs ?_); (first | refine ms hm rfl rfl rfl rfl rfl ?_ | refine msw hm rfl rfl rfl rfl ?_ | refine msr hm rfl rfl rfl rfl ?_); clear hm; intro w hm; (try simp only [splice, List.set_cons_zero, List.set_cons_succ] at hm)) | ((with_reducible refine gb ?_); (first | refine mem_box hm rfl rfl rfl ?_ | refine mem_box1 hm rfl rfl rfl rfl ?_); clear hm; intro n w hm) | ((with_reducible refine ga ?_); refine mem_alloc hm rfl rfl ?_; clear hm; intro n w hm) | go_values | go_skip | go_guarded | go_step | go_upon | ((with_reducible refine bp ?_); go_back) | ((with_reducible refine up ?_); first | (simp only [Int.not_lt, Int.not_le] at *; go_simp) | (go_values <;> (try go_simp)) | (go_ite <;> go_prune <;> (try go_simp)) | (split <;> (first | (rename_i hx; exact (hx _ rfl).elim) | go_prune))))
    (try simp only [Exit.inBlock, Exit.then])
    (first | (refine ret1 rfl rfl (by (first | exact Res.tmp rfl | exact Res.atw hm rfl | exact Res.at hm rfl)) ?_) | (refine ret2 rfl rfl (by (first | exact Res.tmp rfl | exact Res.atw hm rfl | exact Res.at hm rfl)) (by (first | exact Res.tmp rfl | exact Res.atw hm rfl | exact Res.at hm rfl)) ?_) | (refine ret3 rfl rfl (by (first | exact Res.tmp rfl | exact Res.atw hm rfl | exact Res.at hm rfl)) (by (first | exact Res.tmp rfl | exact Res.atw hm rfl | exact Res.at hm rfl)) (by (first | exact Res.tmp rfl | exact Res.atw hm rfl | exact Res.at hm rfl)) ?_) | (refine ret4 rfl rfl (by (first | exact Res.tmp rfl | exact Res.atw hm rfl | exact Res.at hm rfl)) (by (first | exact Res.tmp rfl | exact Res.atw hm rfl | exact Res.at hm rfl)) (by (first | exact Res.tmp rfl | exact Res.atw hm rfl | exact Res.at hm rfl)) (by (first | exact Res.tmp rfl | exact Res.atw hm rfl | exact Res.at hm rfl)) ?_) | fail "ret")
    exact ⟨rfl, hm.below⟩
  have hMS := mem_steps (t := t) b q1 q2
  have hq : decide ((d, r, c, t) ∈ stepsL d.toNat b) = stpB b d r c t := by
    rw [Bool.eq_iff_iff, decide_eq_true_iff]; exact hMS
  obtain ⟨d', rfl⟩ := Int.eq_ofNat_of_zero_le (inB_iff.1 q1).1
  rw [Int.toNat_natCast] at hq
  have hS := impl_steps d' (by have := (inB_iff.1 q1).2; omega) b hl hok
  have hsl := stepsL_len d' b
  rw [q1] at hD
  rw [q2] at hC
  rw [← hq]
  have hI := fun (w : World) (τ : List Blk) (g j cap : Nat) (more : List Value) (hm : Mem w0 w τ) (hA : At τ g (((stepsL d' b).flatMap stI).map iv ++ more) 55 j) => contains_step (g := g) (i := j) (more := more) (cap := cap) hm rfl (by omega) (d', r, c, t)
  have hfl := fm_len (s := 4) (stepsL d' b) (fun a _ => stI_len a)
  generalize decide (((d' : Int), r, c, t) ∈ stepsL d' b) = q at *
  generalize hL : (stepsL d' b).length = L at *
  have hxl : (((stepsL d' b).flatMap stI).map iv).length = L * 4 := by rw [List.length_map, hfl]
  generalize ((stepsL d' b).flatMap stI).map iv = X at *
  have HD := Lib.hid hD
  have HC := Lib.hid hC
  have HS := Lib.hid hS
  have HI := Lib.hid hI
  clear hD hC hS hI hMS hq q1 q2 hL hfl
  go_enter Try.func80, Try.ntmps80
  have hm := Mem.start w0
  simp only [nums_map]
  repeat' (first | ((with_reducible refine gd ?_); refine wp_region_call 12 17 55 (X) (L) hm (by kernel_rfl) (by decide +kernel) (by decide +kernel) ?_; have hne := MS.any hm; (repeat (first | (refine nA rfl (by rfl) (fun w hm => ?_) ?_; focus (dsimp only at hm; show makeUpon Try.prog _ _ _ _ _; go_simp; exact make_sl (by decide) (by first | assumption | omega) hm (HS.out _))) | (refine nlate (Nat.ne_of_beq_eq_false rfl) (Nat.ne_of_beq_eq_false rfl) (by rfl) ?_; apply Exists.intro; refine ⟨fun p => ?_, ?_⟩; focus (obtain ⟨g, more, cap⟩ := p; refine ⟨by rfl, fun w hm => ?_⟩; dsimp only at hm; go_simp; (try refine ⟨rfl, ?_⟩); first | done | exact ⟨rfl, rfl⟩ | rfl | exact HI.out _ _ _ _ _ _ hm inferInstance)) | (go_at_call 92; exact (HD.out _)) | (go_at_call 93; exact (HC.out _)) | ((with_reducible refine gnl ?_); first | refine nl rfl rfl rfl ?_ | refine nlw rfl rfl rfl ?_ | (refine nlr rfl rfl rfl ?_; try simp only [List.drop_succ_cons, List.drop_zero, List.take_succ_cons, List.take_zero])) | (refine nstep (Nat.ne_of_beq_eq_false rfl) (Nat.ne_of_beq_eq_false rfl) (by rfl) hne ?_; intro hn K hK; go_simp; (try go_ints); (try simp [↓IntWalk.iteOmega, go_sem]); first | (refine hK _ ?_; clear hK K hn) | (apply Exists.intro; refine ⟨fun _ => ?_, hK _ ?_⟩; (first | (refine nA rfl (by rfl) (fun w hm => ?_) ?_; focus (dsimp only at hm; show makeUpon Try.prog _ _ _ _ _; go_simp; exact make_sl (by decide) (by first | assumption | omega) hm (HS.out _))) | (refine nlate (Nat.ne_of_beq_eq_false rfl) (Nat.ne_of_beq_eq_false rfl) (by rfl) ?_; apply Exists.intro; refine ⟨fun p => ?_, ?_⟩; focus (obtain ⟨g, more, cap⟩ := p; refine ⟨by rfl, fun w hm => ?_⟩; dsimp only at hm; go_simp; (try refine ⟨rfl, ?_⟩); first | done | exact ⟨rfl, rfl⟩ | rfl | exact HI.out _ _ _ _ _ _ hm inferInstance)) | (go_at_call 92; exact (HD.out _)) | (go_at_call 93; exact (HC.out _)) | fail); clear hK K hn)))); refine nnil ?_; clear hm hne; intro g more cap w hm; (try simp only [Act.put, List.setIfInBounds_toArray, List.set_cons_zero, List.set_cons_succ])) | ((with_reducible refine gix ?_); first | refine mix rfl rfl rfl rfl ?_ | refine mixr rfl rfl rfl rfl ?_; (try simp only [Int.toNat_zero, Int.reduceToNat, Nat.reduceMul, Nat.zero_mul, Nat.one_mul, List.drop_succ_cons, List.drop_zero, List.take_succ_cons, List.take_zero])) | ((with_reducible refine gl ?_); first | refine ml hm rfl rfl rfl ?_ | refine mlw hm rfl rfl rfl ?_ | (refine mlr hm rfl rfl rfl ?_; try simp only [List.drop_succ_cons, List.drop_zero, List.take_succ_cons, List.take_zero])) | ((with_reducible refine gs ?_); (first | refine ms hm rfl rfl rfl rfl rfl ?_ | refine msw hm rfl rfl rfl rfl ?_ | refine msr hm rfl rfl rfl rfl ?_); clear hm; intro w hm; (try simp only [splice, List.set_cons_zero, List.set_cons_succ] at hm)) | ((with_reducible refine gb ?_); (first | refine mem_box hm rfl rfl rfl ?_ | refine mem_box1 hm rfl rfl rfl rfl ?_); clear hm; intro n w hm) | ((with_reducible refine ga ?_); refine mem_alloc hm rfl rfl ?_; clear hm; intro n w hm) | go_values | go_skip | go_guarded | go_step | go_upon | ((with_reducible refine bp ?_); go_back) | ((with_reducible refine up ?_); first | (simp only [Int.not_lt, Int.not_le] at *; go_simp) | (go_values <;> (try go_simp)) | (go_ite <;> go_prune <;> (try go_simp)) | (split <;> (first | (rename_i hx; exact (hx _ rfl).elim) | go_prune))))
  (try simp only [Exit.inBlock, Exit.then])
  (first | (refine ret1 rfl rfl (by (first | exact Res.tmp rfl | exact Res.atw hm rfl | exact Res.at hm rfl)) ?_) | (refine ret2 rfl rfl (by (first | exact Res.tmp rfl | exact Res.atw hm rfl | exact Res.at hm rfl)) (by (first | exact Res.tmp rfl | exact Res.atw hm rfl | exact Res.at hm rfl)) ?_) | (refine ret3 rfl rfl (by (first | exact Res.tmp rfl | exact Res.atw hm rfl | exact Res.at hm rfl)) (by (first | exact Res.tmp rfl | exact Res.atw hm rfl | exact Res.at hm rfl)) (by (first | exact Res.tmp rfl | exact Res.atw hm rfl | exact Res.at hm rfl)) ?_) | (refine ret4 rfl rfl (by (first | exact Res.tmp rfl | exact Res.atw hm rfl | exact Res.at hm rfl)) (by (first | exact Res.tmp rfl | exact Res.atw hm rfl | exact Res.at hm rfl)) (by (first | exact Res.tmp rfl | exact Res.atw hm rfl | exact Res.at hm rfl)) (by (first | exact Res.tmp rfl | exact Res.atw hm rfl | exact Res.at hm rfl)) ?_) | fail "ret")
  exact ⟨rfl, hm.below⟩
end Go.Proofs.Ythcjokgjiknheaa

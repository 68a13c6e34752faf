/-
  Walks for the play by a seed: the moves of a board, what is a move, the first move of an order.
-/
import Derived.Test.YtelnajpjanmliaaPlayMath
import Derived.Test.YtelnajpjanmliaaMoves
import Derived.Test.YtelnajpjanmliaaAgree
import Derived.Test.YtelnajpjanmliaaAny
import Derived.Test.YtelnajpjanmliaaJoin
set_option linter.unusedVariables false
set_option linter.unusedSimpArgs false
namespace Go.Proofs.Ytelnajpjanmliaa
open Go.RowKit Slm
theorem mem_movesK (b : List Int) (x : Int) : ∀ n : Nat, x ∈ movesK 1 b n ↔ 0 ≤ x ∧ x < n ∧ mvB b x = true
  | 0 => by simp [movesK]; omega
  | n + 1 => by
    rw [movesK_succ, List.mem_append, mem_movesK b x n]
    by_cases h : slideB 1 n b = b
    · rw [if_pos h]
      constructor
      · rintro (⟨h1, h2, h3⟩ | h1)
        · exact ⟨h1, by omega, h3⟩
        · cases h1
      · rintro ⟨h1, h2, h3⟩
        by_cases hx : x = n
        · subst hx; simp [mvB, h] at h3
        · exact .inl ⟨h1, by omega, h3⟩
    · rw [if_neg h, List.mem_singleton]
      constructor
      · rintro (⟨h1, h2, h3⟩ | h1)
        · exact ⟨h1, by omega, h3⟩
        · subst h1; exact ⟨by omega, by omega, by simp [mvB, h]⟩
      · rintro ⟨h1, h2, h3⟩
        by_cases hx : x = n
        · exact .inr hx
        · exact .inl ⟨h1, by omega, h3⟩
theorem ixZ_congr {α : Type} {p q : α → Bool} {xs : List α} (h : ∀ x ∈ xs, p x = q x) : ixZ p xs = ixZ q xs := by
  have : xs.findIdx p = xs.findIdx q := by
    induction xs with
    | nil => rfl
    | cons a l ih =>
      rw [List.findIdx_cons, List.findIdx_cons, h a (by simp), ih fun x hx => h x (by simp [hx])]
  unfold ixZ
  rw [this]
set_option maxHeartbeats 2000000 in
theorem ix_moves {b o : List Int} (ho : ∀ x ∈ o, 0 ≤ x ∧ x ≤ 3) : ixZ (fun x => decide (x ∈ movesK 1 b 4)) o = ixZ (mvB b) o :=
  ixZ_congr fun x hx => by
    have := ho x hx
    rw [Bool.eq_iff_iff, decide_eq_true_iff, mem_movesK]
    constructor
    · rintro ⟨-, -, h⟩; exact h
    · intro h; exact ⟨this.1, by omega, h⟩
theorem spec_l2Moves (b : List Int) (hl : b.length = 16) (hok : okL b = true) (w0 : World) : Calls Try.prog 42 #[.agg (nums b)] w0 fun e w' => ∃ v, e = .returned v ∧ Sl w0 w' v 3 1 ((movesK 1 b 4).map iv) [] := by
  have Q1 := Lib.hid hok
  clear hok
  generalize hX : movesK 1 b 4 = X
  have HX : Unit → Hid (movesK 1 b 4 = X) := fun _ => Lib.hid hX
  clear hX
  go_enter Try.func42, Try.ntmps42
  have hm := Mem.start w0
  simp only [nums_map]
  repeat' (first | ((with_reducible refine gbs ?_); refine mbs hm rfl rfl rfl ?_; clear hm; intro n w hm; (try simp only [List.flatMap_cons, List.flatMap_nil, Value.cells, List.append_nil, List.cons_append, List.nil_append] at hm)) | ((with_reducible refine gap ?_); refine map_ hm rfl rfl rfl rfl hf ?_; clear hm hf; intro g cap more w hm hf; rw [List.take_left' hx] at hm hf; (try simp only [List.eraseIdx_cons_succ, List.eraseIdx_cons_zero, Nat.zero_add, Nat.reduceAdd, Nat.reduceSub, Nat.reduceLT, if_true, if_false] at hm)) | ((with_reducible refine gix ?_); first | refine mix rfl rfl rfl rfl ?_ | refine mixr rfl rfl rfl rfl ?_; (try simp only [Int.toNat_zero, Int.reduceToNat, Nat.reduceMul, Nat.zero_mul, Nat.one_mul, List.drop_succ_cons, List.drop_zero, List.take_succ_cons, List.take_zero])) | ((with_reducible refine gl ?_); first | refine ml hm rfl rfl rfl ?_ | refine mlw hm rfl rfl rfl ?_ | (refine mlr hm rfl rfl rfl ?_; try simp only [List.drop_succ_cons, List.drop_zero, List.take_succ_cons, List.take_zero])) | ((with_reducible refine gs ?_); (first | refine ms hm rfl rfl rfl rfl rfl ?_ | refine msw hm rfl rfl rfl rfl ?_ | refine msr hm rfl rfl rfl rfl ?_); clear hm; intro w hm; (try simp only [splice, List.set_cons_zero, List.set_cons_succ] at hm)) | ((with_reducible refine gb ?_); (first | refine mem_box hm rfl rfl rfl ?_ | refine mem_box1 hm rfl rfl rfl rfl ?_); clear hm; intro n w hm) | ((with_reducible refine ga ?_); refine mem_alloc hm rfl rfl ?_; clear hm; intro n w hm) | go_values | go_skip | go_guarded | go_step | go_upon | ((with_reducible refine bp ?_); go_back) | ((with_reducible refine up ?_); first | (simp only [Int.not_lt, Int.not_le] at *; go_simp) | (go_values <;> (try go_simp)) | (go_ite <;> go_prune <;> (try go_simp)) | (split <;> (first | (rename_i hx; exact (hx _ rfl).elim) | go_prune))))
  obtain ⟨σ, hσ, hS⟩ := Sl.sig2 (Sl.new hm (e := 3) (s := 1))
  go_loopw [3, 4] (fun out ix wr => ∃ k : Nat, k ≤ 4 ∧ ix = iv k ∧ Sl w0 wr out 3 1 ((movesK 1 b k).map iv) σ) (fun _ ix _ => 4 - (intOf ix).toNat)
  case atStart => exact ⟨0, by omega, rfl, hS⟩
  case round =>
    clear hm hS
    obtain ⟨k, hk, rfl, g, more, len, cap, rfl, hm, hf, hx⟩ := hrel
    subst hσ
    by_cases hlt : k < 4
    · have hS := spec_l2Slide k (by omega) b hl Q1.out
      have hsl := slideB_len 1 k b
      have hn := movesK_succ 1 b k
      have hlen := movesK_len 1 b k
      have hlen2 : len ≤ 4 := by simp at hx; omega
      generalize scoreB k b = sc at *
      generalize slideB 1 k b = S at *
      rw [hl] at hsl
      have HS := Lib.hid hS
      by_cases hSb : S = b
      · have hnext : (movesK 1 b (k + 1)).map iv = (movesK 1 b k).map iv := by rw [hn, if_pos hSb, List.append_nil]
        clear hn hlen
        generalize (movesK 1 b k).map iv = xs at hm hf hx hnext
        have HN : Unit → Hid _ := fun _ => Lib.hid hnext
        have HX2 := Lib.hid hx
        have hdd : decide (S = b) = true := by simpa using hSb
        have HD : Unit → Hid _ := fun _ => Lib.hid hdd
        clear hnext hS hSb hdd
        repeat' (first | ((with_reducible refine gbs ?_); refine mbs hm rfl rfl rfl ?_; clear hm; intro n w hm; (try simp only [List.flatMap_cons, List.flatMap_nil, Value.cells, List.append_nil, List.cons_append, List.nil_append] at hm)) | ((with_reducible refine gap ?_); refine map_ hm rfl rfl rfl rfl hf ?_; clear hm hf; intro g cap more w hm hf; rw [List.take_left' hx] at hm hf; (try simp only [List.eraseIdx_cons_succ, List.eraseIdx_cons_zero, Nat.zero_add, Nat.reduceAdd, Nat.reduceSub, Nat.reduceLT, if_true, if_false] at hm)) | (go_at_call 83; refine mem_call hm (HS.out _) ?_; clear hm; intro w hm; (try simp only [nums, List.map_cons, List.map_nil])) | ((with_reducible refine gcmp ?_); refine mcmp ((HD ()).out) (by first | exact .inl rfl | exact .inr rfl) rfl rfl rfl rfl ?_; (try simp only [cmpV, Bool.not_true, Bool.not_false])) | ((with_reducible refine gix ?_); first | refine mix rfl rfl rfl rfl ?_ | refine mixr rfl rfl rfl rfl ?_; (try simp only [Int.toNat_zero, Int.reduceToNat, Nat.reduceMul, Nat.zero_mul, Nat.one_mul, List.drop_succ_cons, List.drop_zero, List.take_succ_cons, List.take_zero])) | ((with_reducible refine gl ?_); first | refine ml hm rfl rfl rfl ?_ | refine mlw hm rfl rfl rfl ?_ | (refine mlr hm rfl rfl rfl ?_; try simp only [List.drop_succ_cons, List.drop_zero, List.take_succ_cons, List.take_zero])) | ((with_reducible refine gs ?_); (first | refine ms hm rfl rfl rfl rfl rfl ?_ | refine msw hm rfl rfl rfl rfl ?_ | refine msr hm rfl rfl rfl rfl ?_); clear hm; intro w hm; (try simp only [splice, List.set_cons_zero, List.set_cons_succ] at hm)) | ((with_reducible refine gb ?_); (first | refine mem_box hm rfl rfl rfl ?_ | refine mem_box1 hm rfl rfl rfl rfl ?_); clear hm; intro n w hm) | ((with_reducible refine ga ?_); refine mem_alloc hm rfl rfl ?_; clear hm; intro n w hm) | go_values | go_skip | go_guarded | go_step | go_upon | ((with_reducible refine bp ?_); go_back) | ((with_reducible refine up ?_); first | (simp only [Int.not_lt, Int.not_le] at *; go_simp) | (go_values <;> (try go_simp)) | (go_ite <;> go_prune <;> (try go_simp)) | (split <;> (first | (rename_i hx; exact (hx _ rfl).elim) | go_prune))))
        go_roundw
        case rel => (try (first | ((repeat apply Exists.intro); refine ⟨?_, rfl⟩) | (repeat refine ex_any ?_))); exact ⟨k + 1, by omega, by go_num, by rw [(HN ()).out]; exact (Sl.of (hm.drop (by repeat (first | exact List.Sublist.refl _ | exact .cons_cons _ (List.sublist_cons_self _ _) | refine List.Sublist.cons _ ?_))) hf HX2.out)⟩
        case measure => simp [intOf]; omega
      · have hnext : (movesK 1 b (k + 1)).map iv = (movesK 1 b k).map iv ++ [iv k] := by rw [hn, if_neg hSb, List.map_append]; rfl
        clear hn hlen
        generalize (movesK 1 b k).map iv = xs at hm hf hx hnext
        have HN : Unit → Hid _ := fun _ => Lib.hid hnext
        have HX2 := Lib.hid hx
        have hdd : decide (S = b) = false := by simpa using hSb
        have HD : Unit → Hid _ := fun _ => Lib.hid hdd
        clear hnext hS hSb hdd
        repeat' (first | ((with_reducible refine gbs ?_); refine mbs hm rfl rfl rfl ?_; clear hm; intro n w hm; (try simp only [List.flatMap_cons, List.flatMap_nil, Value.cells, List.append_nil, List.cons_append, List.nil_append] at hm)) | ((with_reducible refine gap ?_); refine map_ hm rfl rfl rfl rfl hf ?_; clear hm hf; intro g cap more w hm hf; rw [List.take_left' hx] at hm hf; (try simp only [List.eraseIdx_cons_succ, List.eraseIdx_cons_zero, Nat.zero_add, Nat.reduceAdd, Nat.reduceSub, Nat.reduceLT, if_true, if_false] at hm)) | (go_at_call 83; refine mem_call hm (HS.out _) ?_; clear hm; intro w hm; (try simp only [nums, List.map_cons, List.map_nil])) | ((with_reducible refine gcmp ?_); refine mcmp ((HD ()).out) (by first | exact .inl rfl | exact .inr rfl) rfl rfl rfl rfl ?_; (try simp only [cmpV, Bool.not_true, Bool.not_false])) | ((with_reducible refine gix ?_); first | refine mix rfl rfl rfl rfl ?_ | refine mixr rfl rfl rfl rfl ?_; (try simp only [Int.toNat_zero, Int.reduceToNat, Nat.reduceMul, Nat.zero_mul, Nat.one_mul, List.drop_succ_cons, List.drop_zero, List.take_succ_cons, List.take_zero])) | ((with_reducible refine gl ?_); first | refine ml hm rfl rfl rfl ?_ | refine mlw hm rfl rfl rfl ?_ | (refine mlr hm rfl rfl rfl ?_; try simp only [List.drop_succ_cons, List.drop_zero, List.take_succ_cons, List.take_zero])) | ((with_reducible refine gs ?_); (first | refine ms hm rfl rfl rfl rfl rfl ?_ | refine msw hm rfl rfl rfl rfl ?_ | refine msr hm rfl rfl rfl rfl ?_); clear hm; intro w hm; (try simp only [splice, List.set_cons_zero, List.set_cons_succ] at hm)) | ((with_reducible refine gb ?_); (first | refine mem_box hm rfl rfl rfl ?_ | refine mem_box1 hm rfl rfl rfl rfl ?_); clear hm; intro n w hm) | ((with_reducible refine ga ?_); refine mem_alloc hm rfl rfl ?_; clear hm; intro n w hm) | go_values | go_skip | go_guarded | go_step | go_upon | ((with_reducible refine bp ?_); go_back) | ((with_reducible refine up ?_); first | (simp only [Int.not_lt, Int.not_le] at *; go_simp) | (go_values <;> (try go_simp)) | (go_ite <;> go_prune <;> (try go_simp)) | (split <;> (first | (rename_i hx; exact (hx _ rfl).elim) | go_prune))))
        go_roundw
        case rel => (try (first | ((repeat apply Exists.intro); refine ⟨?_, rfl⟩) | (repeat refine ex_any ?_))); exact ⟨k + 1, by omega, by go_num, by rw [(HN ()).out]; exact (Sl.of hm hf (by rw [List.length_append, HX2.out]; simp)).drop (by repeat (first | exact List.Sublist.refl _ | exact .cons_cons _ (List.sublist_cons_self _ _) | refine List.Sublist.cons _ ?_))⟩
        case measure => simp [intOf]; omega
    · obtain rfl : k = 4 := by omega
      rw [(HX ()).out] at hm hf hx
      repeat' (first  | ((with_reducible refine gix ?_); first | refine mix rfl rfl rfl rfl ?_ | refine mixr rfl rfl rfl rfl ?_; (try simp only [Int.toNat_zero, Int.reduceToNat, Nat.reduceMul, Nat.zero_mul, Nat.one_mul, List.drop_succ_cons, List.drop_zero, List.take_succ_cons, List.take_zero])) | ((with_reducible refine gl ?_); first | refine ml hm rfl rfl rfl ?_ | refine mlw hm rfl rfl rfl ?_ | (refine mlr hm rfl rfl rfl ?_; try simp only [List.drop_succ_cons, List.drop_zero, List.take_succ_cons, List.take_zero])) | ((with_reducible refine gs ?_); (first | refine ms hm rfl rfl rfl rfl rfl ?_ | refine msw hm rfl rfl rfl rfl ?_ | refine msr hm rfl rfl rfl rfl ?_); clear hm; intro w hm; (try simp only [splice, List.set_cons_zero, List.set_cons_succ] at hm)) | ((with_reducible refine gb ?_); (first | refine mem_box hm rfl rfl rfl ?_ | refine mem_box1 hm rfl rfl rfl rfl ?_); clear hm; intro n w hm) | ((with_reducible refine ga ?_); refine mem_alloc hm rfl rfl ?_; clear hm; intro n w hm) | go_values | go_skip | go_guarded | go_step | go_upon | ((with_reducible refine bp ?_); go_back) | ((with_reducible refine up ?_); first | (simp only [Int.not_lt, Int.not_le] at *; go_simp) | (go_values <;> (try go_simp)) | (go_ite <;> go_prune <;> (try go_simp)) | (split <;> (first | (rename_i hx; exact (hx _ rfl).elim) | go_prune))))
      (try simp only [Exit.inBlock, Exit.then])
      (first | (refine ret1 rfl rfl (by (first | exact Res.tmp rfl | exact Res.atw hm rfl | exact Res.at hm rfl)) ?_) | (refine ret2 rfl rfl (by (first | exact Res.tmp rfl | exact Res.atw hm rfl | exact Res.at hm rfl)) (by (first | exact Res.tmp rfl | exact Res.atw hm rfl | exact Res.at hm rfl)) ?_) | (refine ret3 rfl rfl (by (first | exact Res.tmp rfl | exact Res.atw hm rfl | exact Res.at hm rfl)) (by (first | exact Res.tmp rfl | exact Res.atw hm rfl | exact Res.at hm rfl)) (by (first | exact Res.tmp rfl | exact Res.atw hm rfl | exact Res.at hm rfl)) ?_) | (refine ret4 rfl rfl (by (first | exact Res.tmp rfl | exact Res.atw hm rfl | exact Res.at hm rfl)) (by (first | exact Res.tmp rfl | exact Res.atw hm rfl | exact Res.at hm rfl)) (by (first | exact Res.tmp rfl | exact Res.atw hm rfl | exact Res.at hm rfl)) (by (first | exact Res.tmp rfl | exact Res.atw hm rfl | exact Res.at hm rfl)) ?_) | fail "ret")
      exact ⟨_, rfl, (Sl.of hm hf hx).drop (List.nil_sublist _)⟩
theorem impl_isMove (b : List Int) (hl : b.length = 16) (hok : okL b = true) (d : Nat) (hd : d ≤ 3) (w0 : World) : Calls Try.prog 30 #[.agg (nums b), iv d] w0 fun e w' => e = .returned (.bool (mvB b d)) ∧ Below w0.heap.size w0 w' := by
  have hB := impl_IsBoard b hl
  have hD := impl_isDirection d
  rw [hok] at hB
  rw [show inB (d : Int) 0 3 = true from inB_iff.2 (by omega)] at hD
  have hG := fun (w0 w : World) (σ : List Blk) (g i c : Nat) (more : List Value) (hm : Mem w0 w σ) (hA : At σ g (iv d :: more) 3 i) => impl_slides1 (c := c) (more := more) (g := g) (i := i) d hd b hl hok hm
  have hsl := slideB_len 1 d b
  rw [hl] at hsl
  unfold mvB
  rw [Int.toNat_natCast]
  generalize slideB 1 d b = S at *
  have HG := Lib.hid hG
  have HB := Lib.hid hB
  have HD := Lib.hid hD
  clear hG hB hD hok
  cases hq : decide (S = b)
  all_goals
    have HQ : Unit → Hid _ := fun _ => Lib.hid hq
    clear hq
    go_enter Try.func30, Try.ntmps30
    have hm := Mem.start w0
    simp only [nums_map] at *
    repeat' (first | ((with_reducible refine gqw ?_); first | (refine qw_skipR (by decide +kernel) ?_) | ((with_reducible refine gqwc ?_); refine qw_cmp (HQ ()).out (.inr rfl) hm rfl (by decide +kernel) rfl rfl rfl rfl (by decide +kernel) (by decide +kernel) (fun _ _ _ _ h => h) ?_) | ((with_reducible refine gqwl ?_); first | refine qw_load hm rfl (by decide +kernel) rfl rfl rfl (by decide +kernel) (by decide +kernel) (fun _ _ _ _ h => h) ?_ | refine qw_loadW hm rfl (by decide +kernel) rfl rfl rfl (by decide +kernel) (by decide +kernel) (fun _ _ _ _ h => h) ?_ | (refine qw_loadR hm rfl (by decide +kernel) rfl rfl rfl (by decide +kernel) (by decide +kernel) (fun _ _ _ _ h => h) ?_; (try simp only [List.drop_succ_cons, List.drop_zero, List.take_succ_cons, List.take_zero]))) | (refine qw_pure hm (by decide +kernel) (by decide +kernel) rfl (by decide +kernel) (by decide +kernel) (fun _ _ _ _ h => h) (MS.any2 hm) ?_; intro hn K hK; go_simp; (try go_ints); (try simp [↓IntWalk.iteOmega, go_sem]); first | (refine hK _ ?_; clear hK K hn) | (apply Exists.intro; refine ⟨fun _ => ?_, hK _ ?_⟩; (first | rfl | done); clear hK K hn)) | (refine qw_not hm rfl (by decide +kernel) rfl (by decide +kernel) (by decide +kernel) (fun _ _ _ h => h) ?_) | refine qw_skip ?_) | ((with_reducible refine gqwn ?_); first | (refine qw_done (by decide +kernel) ?_; (try simp only [Act.put, List.setIfInBounds_toArray, List.set_cons_zero, List.set_cons_succ])) | refine qw_all (by decide +kernel) ?_) | ((with_reducible refine gaf ?_); first | exact af_end | refine af_skip (by decide +kernel) ?_ | refine af_go ?_ ?_) | ((with_reducible refine exit_go ?_); refine ⟨hm.drop (by first | exact List.Sublist.refl _ | exact List.sublist_cons_self _ _ | (repeat (first | exact List.Sublist.refl _ | (with_reducible refine List.Sublist.cons_cons _ ?_) | refine List.Sublist.cons _ ?_))), ?_⟩) | (go_at_call 44; refine mem_call hm (HB.out _) ?_; clear hm; intro w hm; (try simp only [nums, List.map_cons, List.map_nil])) | (go_at_call 63; refine mem_call hm (HD.out _) ?_; clear hm; intro w hm; (try simp only [nums, List.map_cons, List.map_nil])) | (go_at_call 64; refine mem_callM (HG.out _ _ _ _ _ _ _ hm inferInstance) ?_; clear hm; intro w hm; (try simp only [])) | ((with_reducible refine gbs ?_); refine mbs hm rfl rfl rfl ?_; clear hm; intro n w hm; (try simp only [List.flatMap_cons, List.flatMap_nil, Value.cells, List.append_nil, List.cons_append, List.nil_append] at hm)) | ((with_reducible refine gap ?_); refine map_ hm rfl rfl rfl rfl hf0 ?_; clear hm; intro g cap more w hm hf; simp only [Nat.zero_mul, List.take_zero, List.nil_append] at hm hf; (try simp only [List.eraseIdx_cons_succ, List.eraseIdx_cons_zero, Nat.zero_add, Nat.reduceAdd, Nat.reduceSub, Nat.reduceLT, if_true, if_false] at hm)) | ((with_reducible refine gcmp ?_); refine mcmp ((HQ ()).out) (by first | exact .inl rfl | exact .inr rfl) rfl rfl rfl rfl ?_; (try simp only [cmpV, Bool.not_true, Bool.not_false])) | ((with_reducible refine gd ?_); refine any_start hm (by kernel_rfl) ?_; clear hm; intro w hm) | ((with_reducible refine gix ?_); first | refine mix rfl rfl rfl rfl ?_ | refine mixr rfl rfl rfl rfl ?_; (try simp only [Int.toNat_zero, Int.reduceToNat, Nat.reduceMul, Nat.zero_mul, Nat.one_mul, List.drop_succ_cons, List.drop_zero, List.take_succ_cons, List.take_zero])) | ((with_reducible refine gl ?_); first | refine ml hm rfl rfl rfl ?_ | refine mlw hm rfl rfl rfl ?_ | (refine mlr hm rfl rfl rfl ?_; try simp only [List.drop_succ_cons, List.drop_zero, List.take_succ_cons, List.take_zero])) | ((with_reducible refine gs ?_); (first | refine ms hm rfl rfl rfl rfl rfl ?_ | refine msw hm rfl rfl rfl rfl ?_ | refine msr hm rfl rfl rfl rfl ?_); clear hm; intro w hm; (try simp only [splice, List.set_cons_zero, List.set_cons_succ] at hm)) | ((with_reducible refine gb ?_); (first | refine mem_box hm rfl rfl rfl ?_ | refine mem_box1 hm rfl rfl rfl rfl ?_); clear hm; intro n w hm) | ((with_reducible refine ga ?_); refine mem_alloc hm rfl rfl ?_; clear hm; intro n w hm) | go_values | go_skip | go_guarded | go_step | go_upon | ((with_reducible refine bp ?_); go_back) | ((with_reducible refine up ?_); first | (simp only [Int.not_lt, Int.not_le] at *; go_simp) | (go_values <;> (try go_simp)) | (go_ite <;> go_prune <;> (try go_simp)) | (split <;> (first | (rename_i hx; exact (hx _ rfl).elim) | go_prune))))
    all_goals
      (try simp only [Exit.inBlock, Exit.then])
      (first | (refine ret1 rfl rfl (by (first | exact Res.tmp rfl | exact Res.atw hm rfl | exact Res.at hm rfl)) ?_) | (refine ret2 rfl rfl (by (first | exact Res.tmp rfl | exact Res.atw hm rfl | exact Res.at hm rfl)) (by (first | exact Res.tmp rfl | exact Res.atw hm rfl | exact Res.at hm rfl)) ?_) | (refine ret3 rfl rfl (by (first | exact Res.tmp rfl | exact Res.atw hm rfl | exact Res.at hm rfl)) (by (first | exact Res.tmp rfl | exact Res.atw hm rfl | exact Res.at hm rfl)) (by (first | exact Res.tmp rfl | exact Res.atw hm rfl | exact Res.at hm rfl)) ?_) | (refine ret4 rfl rfl (by (first | exact Res.tmp rfl | exact Res.atw hm rfl | exact Res.at hm rfl)) (by (first | exact Res.tmp rfl | exact Res.atw hm rfl | exact Res.at hm rfl)) (by (first | exact Res.tmp rfl | exact Res.atw hm rfl | exact Res.at hm rfl)) (by (first | exact Res.tmp rfl | exact Res.atw hm rfl | exact Res.at hm rfl)) ?_) | fail "ret")
      exact ⟨rfl, hm.below⟩
set_option maxHeartbeats 2000000 in
theorem ix_move {w0 w : World} {σ : List Blk} {g i cap : Nat} {t : TypeId} (b : List Int) (hl : b.length = 16) (hok : okL b = true) {o : List Int} (ho : o.length = 4) (h3 : ∀ x ∈ o, 0 ≤ x ∧ x ≤ 3) (hm : Mem w0 w σ) [At σ g (o.map iv) t i] :
    Calls Try.prog 95 #[.slice (some ⟨g, 0, none⟩) 4 cap, .func (.func 30) #[.agg (b.map iv).toArray] #[]] w fun e w' => e = .returned (iv (ixZ (mvB b) o)) ∧ Mem w0 w' σ := by
  have hP : ∀ x ∈ o, ∀ w0 : World, Calls Try.prog 30 #[.agg (b.map iv).toArray, iv x] w0 fun e w' => e = .returned (.bool (mvB b x)) ∧ Below w0.heap.size w0 w' := fun x hx w0 => by
    obtain ⟨d, rfl⟩ := Int.eq_ofNat_of_zero_le (h3 x hx).1
    exact impl_isMove b hl hok d (by have := (h3 _ hx).2; omega) w0
  obtain ⟨x0, x1, x2, x3, rfl⟩ := list4 ho
  have ha := hP x0 (by simp)
  have hb := hP x1 (by simp)
  have hc := hP x2 (by simp)
  have hd := hP x3 (by simp)
  have he : ixZ (mvB b) [x0, x1, x2, x3] = if mvB b x0 then 0 else if mvB b x1 then 1 else if mvB b x2 then 2 else if mvB b x3 then 3 else -1 := by
    simp only [ixZ, List.findIdx_cons, List.findIdx_nil, List.length_cons, List.length_nil]
    cases mvB b x0 <;> cases mvB b x1 <;> cases mvB b x2 <;> cases mvB b x3 <;> rfl
  rw [he]
  clear hP he hl hok h3 ho
  generalize mvB b x0 = qa at *
  generalize mvB b x1 = qb at *
  generalize mvB b x2 = qc at *
  generalize mvB b x3 = qd at *
  generalize (b.map iv).toArray = B at *
  simp only [List.map_cons, List.map_nil] at *
  have HA := Lib.hid ha
  have HB := Lib.hid hb
  have HC := Lib.hid hc
  have HD := Lib.hid hd
  clear ha hb hc hd
  cases qa
  all_goals try cases qb
  all_goals try cases qc
  all_goals try cases qd
  all_goals
    go_enter Try.func95, Try.ntmps95
    repeat' (first | (go_at_call 30; refine mem_call hm (by first | with_reducible exact HA.out _ | with_reducible exact HB.out _ | with_reducible exact HC.out _ | with_reducible exact HD.out _) ?_; clear hm; intro w hm; (try simp only [nums, List.map_cons, List.map_nil])) | ((with_reducible refine gix ?_); first | refine mix rfl rfl rfl rfl ?_ | refine mixr rfl rfl rfl rfl ?_; (try simp only [Int.toNat_zero, Int.reduceToNat, Nat.reduceMul, Nat.zero_mul, Nat.one_mul, List.drop_succ_cons, List.drop_zero, List.take_succ_cons, List.take_zero])) | ((with_reducible refine gl ?_); first | refine ml hm rfl rfl rfl ?_ | refine mlw hm rfl rfl rfl ?_ | (refine mlr hm rfl rfl rfl ?_; try simp only [List.drop_succ_cons, List.drop_zero, List.take_succ_cons, List.take_zero])) | ((with_reducible refine gs ?_); (first | refine ms hm rfl rfl rfl rfl rfl ?_ | refine msw hm rfl rfl rfl rfl ?_ | refine msr hm rfl rfl rfl rfl ?_); clear hm; intro w hm; (try simp only [splice, List.set_cons_zero, List.set_cons_succ] at hm)) | ((with_reducible refine gb ?_); (first | refine mem_box hm rfl rfl rfl ?_ | refine mem_box1 hm rfl rfl rfl rfl ?_); clear hm; intro n w hm) | ((with_reducible refine ga ?_); refine mem_alloc hm rfl rfl ?_; clear hm; intro n w hm) | ((with_reducible refine wp_loop_rounds 18 ?_); rw [rounds_succ]) | (with_reducible rw [rounds_succ]) | go_values | go_skip | go_guarded | go_step | go_upon | ((with_reducible refine bp ?_); go_back) | ((with_reducible refine up ?_); first | (simp only [Int.not_lt, Int.not_le] at *; go_simp) | (go_values <;> (try go_simp)) | (go_ite <;> go_prune <;> (try go_simp)) | (split <;> (first | (rename_i hx; exact (hx _ rfl).elim) | go_prune))))
    (try simp only [Exit.inBlock, Exit.then])
    (first | (refine ret1 rfl rfl (by (first | exact Res.tmp rfl | exact Res.atw hm rfl | exact Res.at hm rfl)) ?_) | (refine ret2 rfl rfl (by (first | exact Res.tmp rfl | exact Res.atw hm rfl | exact Res.at hm rfl)) (by (first | exact Res.tmp rfl | exact Res.atw hm rfl | exact Res.at hm rfl)) ?_) | (refine ret3 rfl rfl (by (first | exact Res.tmp rfl | exact Res.atw hm rfl | exact Res.at hm rfl)) (by (first | exact Res.tmp rfl | exact Res.atw hm rfl | exact Res.at hm rfl)) (by (first | exact Res.tmp rfl | exact Res.atw hm rfl | exact Res.at hm rfl)) ?_) | (refine ret4 rfl rfl (by (first | exact Res.tmp rfl | exact Res.atw hm rfl | exact Res.at hm rfl)) (by (first | exact Res.tmp rfl | exact Res.atw hm rfl | exact Res.at hm rfl)) (by (first | exact Res.tmp rfl | exact Res.atw hm rfl | exact Res.at hm rfl)) (by (first | exact Res.tmp rfl | exact Res.atw hm rfl | exact Res.at hm rfl)) ?_) | fail "ret")
    exact ⟨rfl, hm.drop (by repeat (first | exact List.Sublist.refl _ | refine List.Sublist.cons _ ?_))⟩
end Go.Proofs.Ytelnajpjanmliaa

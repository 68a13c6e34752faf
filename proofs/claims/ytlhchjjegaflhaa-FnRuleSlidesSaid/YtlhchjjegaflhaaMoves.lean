/-
  Walks of the moves by a rule.
-/
import Derived.Test.YtlhchjjegaflhaaSlide
import Derived.Test.YtlhchjjegaflhaaSlide2
import Derived.Test.YtlhchjjegaflhaaInts
import Derived.Test.YtlhchjjegaflhaaCmp
set_option linter.unusedVariables false
set_option linter.unusedSimpArgs false
namespace Go.Proofs.Ytlhchjjegaflhaa
open Go.RowKit Slm
/-- Those of the first n directions that are moves by a rule. -/
def movesK (rule : Int) (b : List Int) : Nat → List Int
  | 0 => []
  | n + 1 => movesK rule b n ++ if slideB rule n b = b then [] else [(n : Int)]
theorem movesK_succ (rule : Int) (b : List Int) (n : Nat) : movesK rule b (n + 1) = movesK rule b n ++ if slideB rule n b = b then [] else [(n : Int)] := rfl
theorem movesK_len (rule : Int) (b : List Int) : ∀ n, (movesK rule b n).length ≤ n
  | 0 => by simp [movesK]
  | n + 1 => by
    have := movesK_len rule b n
    simp only [movesK, List.length_append]
    split <;> simp <;> omega
set_option maxHeartbeats 1000000 in
theorem spec_l10Moves (b : List Int) (hl : b.length = 16) (hok : okL b = true) (rule : Int) (w0 : World) : Calls Try.prog 62 #[.agg (nums b), iv rule] w0 fun e w' => ∃ v, e = .returned v ∧ Sl w0 w' v 3 1 ((movesK rule b 4).map iv) [] := by
  have Q1 := Lib.hid hok
  clear hok
  generalize hX : movesK rule b 4 = X
  have HX : Unit → Hid (movesK rule b 4 = X) := fun _ => Lib.hid hX
  clear hX
  go_enter Try.func62, Try.ntmps62
  have hm := Mem.start w0
  simp only [nums_map]
  repeat' (first | ((with_reducible refine gbs ?_); refine mbs hm rfl rfl rfl ?_; clear hm; intro n w hm; (try simp only [List.flatMap_cons, List.flatMap_nil, Value.cells, List.append_nil, List.cons_append, List.nil_append] at hm)) | ((with_reducible refine gap ?_); refine map_ hm rfl rfl rfl rfl hf ?_; clear hm hf; intro g cap more w hm hf; rw [List.take_left' hx] at hm hf; (try simp only [List.eraseIdx_cons_succ, List.eraseIdx_cons_zero, Nat.zero_add, Nat.reduceAdd, Nat.reduceSub, Nat.reduceLT, if_true, if_false] at hm)) | ((with_reducible refine gix ?_); first | refine mix rfl rfl rfl rfl ?_ | refine mixr rfl rfl rfl rfl ?_; (try simp only [Int.toNat_zero, Int.reduceToNat, Nat.reduceMul, Nat.zero_mul, Nat.one_mul, List.drop_succ_cons, List.drop_zero, List.take_succ_cons, List.take_zero])) | ((with_reducible refine gl ?_); first | refine ml hm rfl rfl rfl ?_ | refine mlw hm rfl rfl rfl ?_ | (refine mlr hm rfl rfl rfl ?_; try simp only [List.drop_succ_cons, List.drop_zero, List.take_succ_cons, List.take_zero])) | ((with_reducible refine gs ?_); (first | refine ms hm rfl rfl rfl rfl rfl ?_ | refine msw hm rfl rfl rfl rfl ?_ | refine msr hm rfl rfl rfl rfl ?_); clear hm; intro w hm; (try simp only [splice, List.set_cons_zero, List.set_cons_succ] at hm)) | ((with_reducible refine gb ?_); (first | refine mem_box hm rfl rfl rfl ?_ | refine mem_box1 hm rfl rfl rfl rfl ?_); clear hm; intro n w hm) | ((with_reducible refine ga ?_); refine mem_alloc hm rfl rfl ?_; clear hm; intro n w hm) | go_values | go_skip | go_guarded | go_step | go_upon | ((with_reducible refine bp ?_); go_back) | ((with_reducible refine up ?_); first | (simp only [Int.not_lt, Int.not_le] at *; go_simp) | (go_values <;> (try go_simp)) | (go_ite <;> go_prune <;> (try go_simp)) | (split <;> (first | (rename_i hx; exact (hx _ rfl).elim) | go_prune))))
  obtain ⟨σ, hσ, hS⟩ := Sl.sig2 (Sl.new hm (e := 3) (s := 1))
  go_loopw [5, 6] (fun out ix wr => ∃ k : Nat, k ≤ 4 ∧ ix = iv k ∧ Sl w0 wr out 3 1 ((movesK rule b k).map iv) σ) (fun _ ix _ => 4 - (intOf ix).toNat)
  case atStart => exact ⟨0, by omega, rfl, hS⟩
  case round =>
    clear hm hS
    obtain ⟨k, hk, rfl, g, more, len, cap, rfl, hm, hf, hx⟩ := hrel
    subst hσ
    by_cases hlt : k < 4
    · have hS := spec_l10Slide k (by omega) b hl Q1.out rule
      have hsl := slideB_len rule k b
      have hn := movesK_succ rule b k
      have hlen := movesK_len rule b k
      have hlen2 : len ≤ 4 := by simp at hx; omega
      generalize slideB rule k b = S at *
      rw [hl] at hsl
      have HS := Lib.hid hS
      by_cases hSb : S = b
      · have hnext : (movesK rule b (k + 1)).map iv = (movesK rule b k).map iv := by rw [hn, if_pos hSb, List.append_nil]
        clear hn hlen
        generalize (movesK rule b k).map iv = xs at hm hf hx hnext
        have HN : Unit → Hid _ := fun _ => Lib.hid hnext
        have HX2 := Lib.hid hx
        have hdd : decide (S = b) = true := by simpa using hSb
        have HD : Unit → Hid _ := fun _ => Lib.hid hdd
        clear hnext hS hSb hdd
        repeat' (first | ((with_reducible refine gbs ?_); refine mbs hm rfl rfl rfl ?_; clear hm; intro n w hm; (try simp only [List.flatMap_cons, List.flatMap_nil, Value.cells, List.append_nil, List.cons_append, List.nil_append] at hm)) | ((with_reducible refine gap ?_); refine map_ hm rfl rfl rfl rfl hf ?_; clear hm hf; intro g cap more w hm hf; rw [List.take_left' hx] at hm hf; (try simp only [List.eraseIdx_cons_succ, List.eraseIdx_cons_zero, Nat.zero_add, Nat.reduceAdd, Nat.reduceSub, Nat.reduceLT, if_true, if_false] at hm)) | ((with_reducible refine gd ?_); refine mf_start (st := []) hm (by kernel_rfl) (by kernel_rfl) rfl ?_; intro hne; (repeat (first | ((with_reducible refine gcmpF ?_); refine fcmp ((HD ()).out) (by first | exact .inl rfl | exact .inr rfl) rfl rfl rfl rfl ?_; (try simp only [cmpV, Bool.not_true, Bool.not_false])) | ((with_reducible refine gfl ?_); first | refine fl rfl rfl rfl ?_ | refine flw rfl rfl rfl ?_ | (refine flr rfl rfl rfl ?_; try simp only [List.drop_succ_cons, List.drop_zero, List.take_succ_cons, List.take_zero])) | ((with_reducible refine gfs ?_); first | refine fs rfl rfl rfl rfl rfl ?_ | refine fsw rfl rfl rfl rfl ?_ | refine fsr rfl rfl rfl rfl ?_) | (refine wpF_step (by rfl) (hne _ (by decide)) ?_; intro hn K hK; go_simp; (try go_ints); (try simp [↓IntWalk.iteOmega, go_sem]); first | (refine hK _ ?_; clear hK K hn) | (apply Exists.intro; refine ⟨fun _ => ?_, hK _ ?_⟩; (first | (go_at_call 58; exact (HS.out _)) | fail); clear hK K hn)))); refine wpF_nil ?_; clear hm hne; intro w hm; (try simp only [famEnd, modB, splice, List.set_cons_zero, List.set_cons_succ, set_iv] at hm)) | ((with_reducible refine gix ?_); first | refine mix rfl rfl rfl rfl ?_ | refine mixr rfl rfl rfl rfl ?_; (try simp only [Int.toNat_zero, Int.reduceToNat, Nat.reduceMul, Nat.zero_mul, Nat.one_mul, List.drop_succ_cons, List.drop_zero, List.take_succ_cons, List.take_zero])) | ((with_reducible refine gl ?_); first | refine ml hm rfl rfl rfl ?_ | refine mlw hm rfl rfl rfl ?_ | (refine mlr hm rfl rfl rfl ?_; try simp only [List.drop_succ_cons, List.drop_zero, List.take_succ_cons, List.take_zero])) | ((with_reducible refine gs ?_); (first | refine ms hm rfl rfl rfl rfl rfl ?_ | refine msw hm rfl rfl rfl rfl ?_ | refine msr hm rfl rfl rfl rfl ?_); clear hm; intro w hm; (try simp only [splice, List.set_cons_zero, List.set_cons_succ] at hm)) | ((with_reducible refine gb ?_); (first | refine mem_box hm rfl rfl rfl ?_ | refine mem_box1 hm rfl rfl rfl rfl ?_); clear hm; intro n w hm) | ((with_reducible refine ga ?_); refine mem_alloc hm rfl rfl ?_; clear hm; intro n w hm) | go_values | go_skip | go_guarded | go_step | go_upon | ((with_reducible refine bp ?_); go_back) | ((with_reducible refine up ?_); first | (simp only [Int.not_lt, Int.not_le] at *; go_simp) | (go_values <;> (try go_simp)) | (go_ite <;> go_prune <;> (try go_simp)) | (split <;> (first | (rename_i hx; exact (hx _ rfl).elim) | go_prune))))
        go_roundw
        case rel => (try (first | ((repeat apply Exists.intro); refine ⟨?_, rfl⟩) | (repeat refine ex_any ?_))); exact ⟨k + 1, by omega, by go_num, by rw [(HN ()).out]; exact (Sl.of (hm.drop (by exact List.Sublist.refl _)) hf HX2.out)⟩
        case measure => simp [intOf]; omega
      · have hnext : (movesK rule b (k + 1)).map iv = (movesK rule b k).map iv ++ [iv k] := by rw [hn, if_neg hSb, List.map_append]; rfl
        clear hn hlen
        generalize (movesK rule b k).map iv = xs at hm hf hx hnext
        have HN : Unit → Hid _ := fun _ => Lib.hid hnext
        have HX2 := Lib.hid hx
        have hdd : decide (S = b) = false := by simpa using hSb
        have HD : Unit → Hid _ := fun _ => Lib.hid hdd
        clear hnext hS hSb hdd
        repeat' (first | ((with_reducible refine gbs ?_); refine mbs hm rfl rfl rfl ?_; clear hm; intro n w hm; (try simp only [List.flatMap_cons, List.flatMap_nil, Value.cells, List.append_nil, List.cons_append, List.nil_append] at hm)) | ((with_reducible refine gap ?_); refine map_ hm rfl rfl rfl rfl hf ?_; clear hm hf; intro g cap more w hm hf; rw [List.take_left' hx] at hm hf; (try simp only [List.eraseIdx_cons_succ, List.eraseIdx_cons_zero, Nat.zero_add, Nat.reduceAdd, Nat.reduceSub, Nat.reduceLT, if_true, if_false] at hm)) | ((with_reducible refine gd ?_); refine mf_start (st := []) hm (by kernel_rfl) (by kernel_rfl) rfl ?_; intro hne; (repeat (first | ((with_reducible refine gcmpF ?_); refine fcmp ((HD ()).out) (by first | exact .inl rfl | exact .inr rfl) rfl rfl rfl rfl ?_; (try simp only [cmpV, Bool.not_true, Bool.not_false])) | ((with_reducible refine gfl ?_); first | refine fl rfl rfl rfl ?_ | refine flw rfl rfl rfl ?_ | (refine flr rfl rfl rfl ?_; try simp only [List.drop_succ_cons, List.drop_zero, List.take_succ_cons, List.take_zero])) | ((with_reducible refine gfs ?_); first | refine fs rfl rfl rfl rfl rfl ?_ | refine fsw rfl rfl rfl rfl ?_ | refine fsr rfl rfl rfl rfl ?_) | (refine wpF_step (by rfl) (hne _ (by decide)) ?_; intro hn K hK; go_simp; (try go_ints); (try simp [↓IntWalk.iteOmega, go_sem]); first | (refine hK _ ?_; clear hK K hn) | (apply Exists.intro; refine ⟨fun _ => ?_, hK _ ?_⟩; (first | (go_at_call 58; exact (HS.out _)) | fail); clear hK K hn)))); refine wpF_nil ?_; clear hm hne; intro w hm; (try simp only [famEnd, modB, splice, List.set_cons_zero, List.set_cons_succ, set_iv] at hm)) | ((with_reducible refine gix ?_); first | refine mix rfl rfl rfl rfl ?_ | refine mixr rfl rfl rfl rfl ?_; (try simp only [Int.toNat_zero, Int.reduceToNat, Nat.reduceMul, Nat.zero_mul, Nat.one_mul, List.drop_succ_cons, List.drop_zero, List.take_succ_cons, List.take_zero])) | ((with_reducible refine gl ?_); first | refine ml hm rfl rfl rfl ?_ | refine mlw hm rfl rfl rfl ?_ | (refine mlr hm rfl rfl rfl ?_; try simp only [List.drop_succ_cons, List.drop_zero, List.take_succ_cons, List.take_zero])) | ((with_reducible refine gs ?_); (first | refine ms hm rfl rfl rfl rfl rfl ?_ | refine msw hm rfl rfl rfl rfl ?_ | refine msr hm rfl rfl rfl rfl ?_); clear hm; intro w hm; (try simp only [splice, List.set_cons_zero, List.set_cons_succ] at hm)) | ((with_reducible refine gb ?_); (first | refine mem_box hm rfl rfl rfl ?_ | refine mem_box1 hm rfl rfl rfl rfl ?_); clear hm; intro n w hm) | ((with_reducible refine ga ?_); refine mem_alloc hm rfl rfl ?_; clear hm; intro n w hm) | go_values | go_skip | go_guarded | go_step | go_upon | ((with_reducible refine bp ?_); go_back) | ((with_reducible refine up ?_); first | (simp only [Int.not_lt, Int.not_le] at *; go_simp) | (go_values <;> (try go_simp)) | (go_ite <;> go_prune <;> (try go_simp)) | (split <;> (first | (rename_i hx; exact (hx _ rfl).elim) | go_prune))))
        go_roundw
        case rel => (try (first | ((repeat apply Exists.intro); refine ⟨?_, rfl⟩) | (repeat refine ex_any ?_))); exact ⟨k + 1, by omega, by go_num, by rw [(HN ()).out]; exact (Sl.of hm hf (by rw [List.length_append, HX2.out]; simp)).drop (by exact List.Sublist.refl _)⟩
        case measure => simp [intOf]; omega
    · obtain rfl : k = 4 := by omega
      rw [(HX ()).out] at hm hf hx
      repeat' (first  | ((with_reducible refine gix ?_); first | refine mix rfl rfl rfl rfl ?_ | refine mixr rfl rfl rfl rfl ?_; (try simp only [Int.toNat_zero, Int.reduceToNat, Nat.reduceMul, Nat.zero_mul, Nat.one_mul, List.drop_succ_cons, List.drop_zero, List.take_succ_cons, List.take_zero])) | ((with_reducible refine gl ?_); first | refine ml hm rfl rfl rfl ?_ | refine mlw hm rfl rfl rfl ?_ | (refine mlr hm rfl rfl rfl ?_; try simp only [List.drop_succ_cons, List.drop_zero, List.take_succ_cons, List.take_zero])) | ((with_reducible refine gs ?_); (first | refine ms hm rfl rfl rfl rfl rfl ?_ | refine msw hm rfl rfl rfl rfl ?_ | refine msr hm rfl rfl rfl rfl ?_); clear hm; intro w hm; (try simp only [splice, List.set_cons_zero, List.set_cons_succ] at hm)) | ((with_reducible refine gb ?_); (first | refine mem_box hm rfl rfl rfl ?_ | refine mem_box1 hm rfl rfl rfl rfl ?_); clear hm; intro n w hm) | ((with_reducible refine ga ?_); refine mem_alloc hm rfl rfl ?_; clear hm; intro n w hm) | go_values | go_skip | go_guarded | go_step | go_upon | ((with_reducible refine bp ?_); go_back) | ((with_reducible refine up ?_); first | (simp only [Int.not_lt, Int.not_le] at *; go_simp) | (go_values <;> (try go_simp)) | (go_ite <;> go_prune <;> (try go_simp)) | (split <;> (first | (rename_i hx; exact (hx _ rfl).elim) | go_prune))))
      (try simp only [Exit.inBlock, Exit.then])
      (first | (refine ret1 rfl rfl (by (first | exact Res.tmp rfl | exact Res.atw hm rfl | exact Res.at hm rfl)) ?_) | (refine ret2 rfl rfl (by (first | exact Res.tmp rfl | exact Res.atw hm rfl | exact Res.at hm rfl)) (by (first | exact Res.tmp rfl | exact Res.atw hm rfl | exact Res.at hm rfl)) ?_) | (refine ret3 rfl rfl (by (first | exact Res.tmp rfl | exact Res.atw hm rfl | exact Res.at hm rfl)) (by (first | exact Res.tmp rfl | exact Res.atw hm rfl | exact Res.at hm rfl)) (by (first | exact Res.tmp rfl | exact Res.atw hm rfl | exact Res.at hm rfl)) ?_) | (refine ret4 rfl rfl (by (first | exact Res.tmp rfl | exact Res.atw hm rfl | exact Res.at hm rfl)) (by (first | exact Res.tmp rfl | exact Res.atw hm rfl | exact Res.at hm rfl)) (by (first | exact Res.tmp rfl | exact Res.atw hm rfl | exact Res.at hm rfl)) (by (first | exact Res.tmp rfl | exact Res.atw hm rfl | exact Res.at hm rfl)) ?_) | fail "ret")
      exact ⟨_, rfl, (Sl.of hm hf hx).drop (List.nil_sublist _)⟩
set_option maxHeartbeats 1000000 in
theorem impl_movesBy (b : List Int) (hl : b.length = 16) (hok : okL b = true) (rule : Int) (w0 : World) : Calls Try.prog 61 #[.agg (nums b), iv rule] w0 fun e w' => ∃ v, e = .returned v ∧ Sl w0 w' v 3 1 ((movesK rule b 4).map iv) [] := by
  have Q1 := Lib.hid hok
  clear hok
  generalize hX : movesK rule b 4 = X
  have HX : Unit → Hid (movesK rule b 4 = X) := fun _ => Lib.hid hX
  clear hX
  go_enter Try.func61, Try.ntmps61
  have hm := Mem.start w0
  simp only [nums_map]
  repeat' (first | ((with_reducible refine gbs ?_); refine mbs hm rfl rfl rfl ?_; clear hm; intro n w hm; (try simp only [List.flatMap_cons, List.flatMap_nil, Value.cells, List.append_nil, List.cons_append, List.nil_append] at hm)) | ((with_reducible refine gap ?_); refine map_ hm rfl rfl rfl rfl hf ?_; clear hm hf; intro g cap more w hm hf; rw [List.take_left' hx] at hm hf; (try simp only [List.eraseIdx_cons_succ, List.eraseIdx_cons_zero, Nat.zero_add, Nat.reduceAdd, Nat.reduceSub, Nat.reduceLT, if_true, if_false] at hm)) | ((with_reducible refine gix ?_); first | refine mix rfl rfl rfl rfl ?_ | refine mixr rfl rfl rfl rfl ?_; (try simp only [Int.toNat_zero, Int.reduceToNat, Nat.reduceMul, Nat.zero_mul, Nat.one_mul, List.drop_succ_cons, List.drop_zero, List.take_succ_cons, List.take_zero])) | ((with_reducible refine gl ?_); first | refine ml hm rfl rfl rfl ?_ | refine mlw hm rfl rfl rfl ?_ | (refine mlr hm rfl rfl rfl ?_; try simp only [List.drop_succ_cons, List.drop_zero, List.take_succ_cons, List.take_zero])) | ((with_reducible refine gs ?_); (first | refine ms hm rfl rfl rfl rfl rfl ?_ | refine msw hm rfl rfl rfl rfl ?_ | refine msr hm rfl rfl rfl rfl ?_); clear hm; intro w hm; (try simp only [splice, List.set_cons_zero, List.set_cons_succ] at hm)) | ((with_reducible refine gb ?_); (first | refine mem_box hm rfl rfl rfl ?_ | refine mem_box1 hm rfl rfl rfl rfl ?_); clear hm; intro n w hm) | ((with_reducible refine ga ?_); refine mem_alloc hm rfl rfl ?_; clear hm; intro n w hm) | go_values | go_skip | go_guarded | go_step | go_upon | ((with_reducible refine bp ?_); go_back) | ((with_reducible refine up ?_); first | (simp only [Int.not_lt, Int.not_le] at *; go_simp) | (go_values <;> (try go_simp)) | (go_ite <;> go_prune <;> (try go_simp)) | (split <;> (first | (rename_i hx; exact (hx _ rfl).elim) | go_prune))))
  obtain ⟨σ, hσ, hS⟩ := Sl.sig2 (Sl.new hm (e := 3) (s := 1))
  go_loopw [5, 10] (fun out ix wr => ∃ k : Nat, k ≤ 4 ∧ ix = iv k ∧ Sl w0 wr out 3 1 ((movesK rule b k).map iv) σ) (fun _ ix _ => 4 - (intOf ix).toNat)
  case atStart => exact ⟨0, by omega, rfl, hS⟩
  case round =>
    clear hm hS
    obtain ⟨k, hk, rfl, g, more, len, cap, rfl, hm, hf, hx⟩ := hrel
    subst hσ
    by_cases hlt : k < 4
    · have hS := impl_slideBy k (by omega) b hl Q1.out rule
      have hsl := slideB_len rule k b
      have hn := movesK_succ rule b k
      have hlen := movesK_len rule b k
      have hlen2 : len ≤ 4 := by simp at hx; omega
      generalize slideB rule k b = S at *
      rw [hl] at hsl
      have HS := Lib.hid hS
      by_cases hSb : S = b
      · have hnext : (movesK rule b (k + 1)).map iv = (movesK rule b k).map iv := by rw [hn, if_pos hSb, List.append_nil]
        clear hn hlen
        generalize (movesK rule b k).map iv = xs at hm hf hx hnext
        have HN : Unit → Hid _ := fun _ => Lib.hid hnext
        have HX2 := Lib.hid hx
        have hdd : decide (S = b) = true := by simpa using hSb
        have HD : Unit → Hid _ := fun _ => Lib.hid hdd
        clear hnext hS hSb hdd
        repeat' (first | ((with_reducible refine gbs ?_); refine mbs hm rfl rfl rfl ?_; clear hm; intro n w hm; (try simp only [List.flatMap_cons, List.flatMap_nil, Value.cells, List.append_nil, List.cons_append, List.nil_append] at hm)) | ((with_reducible refine gap ?_); refine map_ hm rfl rfl rfl rfl hf ?_; clear hm hf; intro g cap more w hm hf; rw [List.take_left' hx] at hm hf; (try simp only [List.eraseIdx_cons_succ, List.eraseIdx_cons_zero, Nat.zero_add, Nat.reduceAdd, Nat.reduceSub, Nat.reduceLT, if_true, if_false] at hm)) | (go_at_call 54; refine mem_call hm (HS.out _) ?_; clear hm; intro w hm; (try simp only [nums, List.map_cons, List.map_nil])) | ((with_reducible refine gcmp ?_); refine mcmp ((HD ()).out) (by first | exact .inl rfl | exact .inr rfl) rfl rfl rfl rfl ?_; (try simp only [cmpV, Bool.not_true, Bool.not_false])) | ((with_reducible refine gix ?_); first | refine mix rfl rfl rfl rfl ?_ | refine mixr rfl rfl rfl rfl ?_; (try simp only [Int.toNat_zero, Int.reduceToNat, Nat.reduceMul, Nat.zero_mul, Nat.one_mul, List.drop_succ_cons, List.drop_zero, List.take_succ_cons, List.take_zero])) | ((with_reducible refine gl ?_); first | refine ml hm rfl rfl rfl ?_ | refine mlw hm rfl rfl rfl ?_ | (refine mlr hm rfl rfl rfl ?_; try simp only [List.drop_succ_cons, List.drop_zero, List.take_succ_cons, List.take_zero])) | ((with_reducible refine gs ?_); (first | refine ms hm rfl rfl rfl rfl rfl ?_ | refine msw hm rfl rfl rfl rfl ?_ | refine msr hm rfl rfl rfl rfl ?_); clear hm; intro w hm; (try simp only [splice, List.set_cons_zero, List.set_cons_succ] at hm)) | ((with_reducible refine gb ?_); (first | refine mem_box hm rfl rfl rfl ?_ | refine mem_box1 hm rfl rfl rfl rfl ?_); clear hm; intro n w hm) | ((with_reducible refine ga ?_); refine mem_alloc hm rfl rfl ?_; clear hm; intro n w hm) | go_values | go_skip | go_guarded | go_step | go_upon | ((with_reducible refine bp ?_); go_back) | ((with_reducible refine up ?_); first | (simp only [Int.not_lt, Int.not_le] at *; go_simp) | (go_values <;> (try go_simp)) | (go_ite <;> go_prune <;> (try go_simp)) | (split <;> (first | (rename_i hx; exact (hx _ rfl).elim) | go_prune))))
        go_roundw
        case rel => (try (first | ((repeat apply Exists.intro); refine ⟨?_, rfl⟩) | (repeat refine ex_any ?_))); exact ⟨k + 1, by omega, by go_num, by rw [(HN ()).out]; exact (Sl.of (hm.drop (by first | exact List.sublist_cons_self _ _ | exact .cons_cons _ (List.sublist_cons_self _ _) | exact .cons _ (List.Sublist.refl _))) hf HX2.out)⟩
        case measure => simp [intOf]; omega
      · have hnext : (movesK rule b (k + 1)).map iv = (movesK rule b k).map iv ++ [iv k] := by rw [hn, if_neg hSb, List.map_append]; rfl
        clear hn hlen
        generalize (movesK rule b k).map iv = xs at hm hf hx hnext
        have HN : Unit → Hid _ := fun _ => Lib.hid hnext
        have HX2 := Lib.hid hx
        have hdd : decide (S = b) = false := by simpa using hSb
        have HD : Unit → Hid _ := fun _ => Lib.hid hdd
        clear hnext hS hSb hdd
        repeat' (first | ((with_reducible refine gbs ?_); refine mbs hm rfl rfl rfl ?_; clear hm; intro n w hm; (try simp only [List.flatMap_cons, List.flatMap_nil, Value.cells, List.append_nil, List.cons_append, List.nil_append] at hm)) | ((with_reducible refine gap ?_); refine map_ hm rfl rfl rfl rfl hf ?_; clear hm hf; intro g cap more w hm hf; rw [List.take_left' hx] at hm hf; (try simp only [List.eraseIdx_cons_succ, List.eraseIdx_cons_zero, Nat.zero_add, Nat.reduceAdd, Nat.reduceSub, Nat.reduceLT, if_true, if_false] at hm)) | (go_at_call 54; refine mem_call hm (HS.out _) ?_; clear hm; intro w hm; (try simp only [nums, List.map_cons, List.map_nil])) | ((with_reducible refine gcmp ?_); refine mcmp ((HD ()).out) (by first | exact .inl rfl | exact .inr rfl) rfl rfl rfl rfl ?_; (try simp only [cmpV, Bool.not_true, Bool.not_false])) | ((with_reducible refine gix ?_); first | refine mix rfl rfl rfl rfl ?_ | refine mixr rfl rfl rfl rfl ?_; (try simp only [Int.toNat_zero, Int.reduceToNat, Nat.reduceMul, Nat.zero_mul, Nat.one_mul, List.drop_succ_cons, List.drop_zero, List.take_succ_cons, List.take_zero])) | ((with_reducible refine gl ?_); first | refine ml hm rfl rfl rfl ?_ | refine mlw hm rfl rfl rfl ?_ | (refine mlr hm rfl rfl rfl ?_; try simp only [List.drop_succ_cons, List.drop_zero, List.take_succ_cons, List.take_zero])) | ((with_reducible refine gs ?_); (first | refine ms hm rfl rfl rfl rfl rfl ?_ | refine msw hm rfl rfl rfl rfl ?_ | refine msr hm rfl rfl rfl rfl ?_); clear hm; intro w hm; (try simp only [splice, List.set_cons_zero, List.set_cons_succ] at hm)) | ((with_reducible refine gb ?_); (first | refine mem_box hm rfl rfl rfl ?_ | refine mem_box1 hm rfl rfl rfl rfl ?_); clear hm; intro n w hm) | ((with_reducible refine ga ?_); refine mem_alloc hm rfl rfl ?_; clear hm; intro n w hm) | go_values | go_skip | go_guarded | go_step | go_upon | ((with_reducible refine bp ?_); go_back) | ((with_reducible refine up ?_); first | (simp only [Int.not_lt, Int.not_le] at *; go_simp) | (go_values <;> (try go_simp)) | (go_ite <;> go_prune <;> (try go_simp)) | (split <;> (first | (rename_i hx; exact (hx _ rfl).elim) | go_prune))))
        go_roundw
        case rel => (try (first | ((repeat apply Exists.intro); refine ⟨?_, rfl⟩) | (repeat refine ex_any ?_))); exact ⟨k + 1, by omega, by go_num, by rw [(HN ()).out]; exact (Sl.of hm hf (by rw [List.length_append, HX2.out]; simp)).drop (by first | exact List.sublist_cons_self _ _ | exact .cons_cons _ (List.sublist_cons_self _ _) | exact .cons _ (List.Sublist.refl _))⟩
        case measure => simp [intOf]; omega
    · obtain rfl : k = 4 := by omega
      rw [(HX ()).out] at hm hf hx
      repeat' (first  | ((with_reducible refine gix ?_); first | refine mix rfl rfl rfl rfl ?_ | refine mixr rfl rfl rfl rfl ?_; (try simp only [Int.toNat_zero, Int.reduceToNat, Nat.reduceMul, Nat.zero_mul, Nat.one_mul, List.drop_succ_cons, List.drop_zero, List.take_succ_cons, List.take_zero])) | ((with_reducible refine gl ?_); first | refine ml hm rfl rfl rfl ?_ | refine mlw hm rfl rfl rfl ?_ | (refine mlr hm rfl rfl rfl ?_; try simp only [List.drop_succ_cons, List.drop_zero, List.take_succ_cons, List.take_zero])) | ((with_reducible refine gs ?_); (first | refine ms hm rfl rfl rfl rfl rfl ?_ | refine msw hm rfl rfl rfl rfl ?_ | refine msr hm rfl rfl rfl rfl ?_); clear hm; intro w hm; (try simp only [splice, List.set_cons_zero, List.set_cons_succ] at hm)) | ((with_reducible refine gb ?_); (first | refine mem_box hm rfl rfl rfl ?_ | refine mem_box1 hm rfl rfl rfl rfl ?_); clear hm; intro n w hm) | ((with_reducible refine ga ?_); refine mem_alloc hm rfl rfl ?_; clear hm; intro n w hm) | go_values | go_skip | go_guarded | go_step | go_upon | ((with_reducible refine bp ?_); go_back) | ((with_reducible refine up ?_); first | (simp only [Int.not_lt, Int.not_le] at *; go_simp) | (go_values <;> (try go_simp)) | (go_ite <;> go_prune <;> (try go_simp)) | (split <;> (first | (rename_i hx; exact (hx _ rfl).elim) | go_prune))))
      (try simp only [Exit.inBlock, Exit.then])
      (first | (refine ret1 rfl rfl (by (first | exact Res.tmp rfl | exact Res.atw hm rfl | exact Res.at hm rfl)) ?_) | (refine ret2 rfl rfl (by (first | exact Res.tmp rfl | exact Res.atw hm rfl | exact Res.at hm rfl)) (by (first | exact Res.tmp rfl | exact Res.atw hm rfl | exact Res.at hm rfl)) ?_) | (refine ret3 rfl rfl (by (first | exact Res.tmp rfl | exact Res.atw hm rfl | exact Res.at hm rfl)) (by (first | exact Res.tmp rfl | exact Res.atw hm rfl | exact Res.at hm rfl)) (by (first | exact Res.tmp rfl | exact Res.atw hm rfl | exact Res.at hm rfl)) ?_) | (refine ret4 rfl rfl (by (first | exact Res.tmp rfl | exact Res.atw hm rfl | exact Res.at hm rfl)) (by (first | exact Res.tmp rfl | exact Res.atw hm rfl | exact Res.at hm rfl)) (by (first | exact Res.tmp rfl | exact Res.atw hm rfl | exact Res.at hm rfl)) (by (first | exact Res.tmp rfl | exact Res.atw hm rfl | exact Res.at hm rfl)) ?_) | fail "ret")
      exact ⟨_, rfl, (Sl.of hm hf hx).drop (List.nil_sublist _)⟩
end Go.Proofs.Ytlhchjjegaflhaa

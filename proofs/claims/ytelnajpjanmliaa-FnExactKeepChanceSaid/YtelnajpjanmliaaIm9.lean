/-
  Walks of the program: placements, boards with them.
-/
import Derived.Test.YtelnajpjanmliaaRoom
import Derived.Test.YtelnajpjanmliaaBoards
set_option linter.unusedVariables false
set_option linter.unusedSimpArgs false
namespace Go.Proofs.Ytelnajpjanmliaa
open Go.RowKit Slm
/-- A placement as three numbers. -/
def plI (p : Nat × Nat) : List Int := [((p.1 / 4 : Nat) : Int), ((p.1 % 4 : Nat) : Int), (p.2 : Int)]
theorem plI_len (p : Nat × Nat) : (plI p).length = 3 := rfl
def plc2 (k : Nat) : List (Nat × Nat) := [(k, 1), (k, 2)]
theorem plc_def (S : List Int) : plc S = (emptyL S).flatMap plc2 := rfl
theorem plc2_len (l : List Nat) : (l.flatMap plc2).length = l.length * 2 := by
  induction l with
  | nil => rfl
  | cons a l ih => rw [List.flatMap_cons, List.length_append, ih]; simp [plc2]; omega
theorem impl_placements (S : List Int) (hl : S.length = 16) (w0 : World) : Calls Try.prog 115 #[.agg (nums S)] w0 fun e w' => ∃ v, e = .returned v ∧ Sl w0 w' v 135 3 (((plc S).flatMap plI).map iv) [] := by
  have hE := impl_empty S hl
  have hle := emptyL_len S
  rw [plc_def]
  have hel := ecells_len (emptyL S)
  generalize emptyL S = E at *
  generalize hX : ((E.flatMap plc2).flatMap plI).map iv = X
  have HX : Unit → Hid _ := fun _ => Lib.hid hX
  clear hX
  have HE := Lib.hid hE
  clear hE
  go_enter Try.func115, Try.ntmps115
  have hm := Mem.start w0
  simp only [nums_map] at *
  repeat' (first | ((with_reducible refine gbs ?_); refine mbs hm rfl rfl rfl ?_; clear hm; intro n w hm; (try simp only [List.flatMap_cons, List.flatMap_nil, Value.cells, List.append_nil, List.cons_append, List.nil_append] at hm)) | ((with_reducible refine gap ?_); refine map_ hm rfl rfl rfl rfl hf0 ?_; clear hm; intro g cap more w hm hf; simp only [Nat.zero_mul, List.take_zero, List.nil_append] at hm hf; (try simp only [List.eraseIdx_cons_succ, List.eraseIdx_cons_zero, Nat.zero_add, Nat.reduceAdd, Nat.reduceSub, Nat.reduceLT, if_true, if_false] at hm)) | (go_at_call 119; refine mem_callN hm (HE.out _) ?_; clear hm; intro g more len cap w hm hf hx; (try simp only [])) | ((with_reducible refine gix ?_); first | refine mix rfl rfl rfl rfl ?_ | refine mixr rfl rfl rfl rfl ?_; (try simp only [Int.toNat_zero, Int.reduceToNat, Nat.reduceMul, Nat.zero_mul, Nat.one_mul, List.drop_succ_cons, List.drop_zero, List.take_succ_cons, List.take_zero])) | ((with_reducible refine gl ?_); first | refine ml hm rfl rfl rfl ?_ | refine mlw hm rfl rfl rfl ?_ | (refine mlr hm rfl rfl rfl ?_; try simp only [List.drop_succ_cons, List.drop_zero, List.take_succ_cons, List.take_zero])) | ((with_reducible refine gs ?_); (first | refine ms hm rfl rfl rfl rfl rfl ?_ | refine msw hm rfl rfl rfl rfl ?_ | refine msr hm rfl rfl rfl rfl ?_); clear hm; intro w hm; (try simp only [splice, List.set_cons_zero, List.set_cons_succ] at hm)) | ((with_reducible refine gb ?_); (first | refine mem_box hm rfl rfl rfl ?_ | refine mem_box1 hm rfl rfl rfl rfl ?_); clear hm; intro n w hm) | ((with_reducible refine ga ?_); refine mem_alloc hm rfl rfl ?_; clear hm; intro n w hm) | go_values | go_skip | go_guarded | go_step | go_upon | ((with_reducible refine bp ?_); go_back) | ((with_reducible refine up ?_); first | (simp only [Int.not_lt, Int.not_le] at *; go_simp) | (go_values <;> (try go_simp)) | (go_ite <;> go_prune <;> (try go_simp)) | (split <;> (first | (rename_i hx; exact (hx _ rfl).elim) | go_prune))))
  obtain rfl : len = E.length := by omega
  replace hm := hm.front 1 _ rfl
  simp only [List.eraseIdx_cons_succ, List.eraseIdx_cons_zero] at hm
  obtain ⟨τ, hτ, hS⟩ := Sl.sig (Sl.new hm (e := 135) (s := 3))
  clear hf hx
  go_loopw [3, 10] (fun out ix wr => ∃ k : Nat, k ≤ E.length ∧ ix = iv k ∧ Sl w0 wr out 135 3 ((((E.take k).flatMap plc2).flatMap plI).map iv) τ) (fun _ ix _ => E.length - (intOf ix).toNat)
  case atStart => exact ⟨0, by omega, rfl, hS⟩
  case round =>
    clear hm hS
    obtain ⟨k, hk, rfl, g2, more2, len, cap2, rfl, hm, hf, hx⟩ := hrel
    subst hτ
    by_cases hlt : k < E.length
    · have hv := ecells_get hlt more
      have hlE : (ecells E ++ more).length = E.length * 2 + more.length := by rw [List.length_append, hel]
      have hxk : ((((E.take k).flatMap plc2).flatMap plI).map iv).length = k * 6 := by
        rw [List.length_map, fm_len (s := 3) _ (fun a _ => plI_len a), plc2_len, List.length_take]; omega
      have hlen2 : len ≤ 32 := by omega
      have hnext : (((E.take (k + 1)).flatMap plc2).flatMap plI).map iv = (((E.take k).flatMap plc2).flatMap plI).map iv ++ [iv ((E[k] / 4 : Nat) : Int), iv ((E[k] % 4 : Nat) : Int), iv 1, iv ((E[k] / 4 : Nat) : Int), iv ((E[k] % 4 : Nat) : Int), iv 2] := by
        rw [List.take_succ_eq_append_getElem hlt, List.flatMap_append, List.flatMap_append, List.map_append]
        rfl
      simp only [ecell] at hv
      generalize ((E[k] / 4 : Nat) : Int) = ca at *
      generalize ((E[k] % 4 : Nat) : Int) = cb at *
      generalize (((E.take k).flatMap plc2).flatMap plI).map iv = xs at hm hf hx hnext hxk
      generalize ecells E ++ more = cs at *
      have HN := Lib.hid hnext
      have HX2 := Lib.hid hx
      clear hnext hxk
      repeat' (first | (with_reducible rw [hv]) | ((with_reducible refine gbs ?_); refine mbs hm rfl rfl rfl ?_; clear hm; intro n w hm; (try simp only [List.flatMap_cons, List.flatMap_nil, Value.cells, List.append_nil, List.cons_append, List.nil_append] at hm)) | ((with_reducible refine gap ?_); refine map_ hm rfl rfl rfl rfl hf ?_; clear hm hf; intro g cap more w hm hf; rw [List.take_left' hx] at hm hf; (try simp only [List.eraseIdx_cons_succ, List.eraseIdx_cons_zero, Nat.zero_add, Nat.reduceAdd, Nat.reduceSub, Nat.reduceLT, if_true, if_false] at hm)) | ((with_reducible refine gix ?_); first | refine mix rfl rfl rfl rfl ?_ | refine mixr rfl rfl rfl rfl ?_; (try simp only [Int.toNat_zero, Int.reduceToNat, Nat.reduceMul, Nat.zero_mul, Nat.one_mul, List.drop_succ_cons, List.drop_zero, List.take_succ_cons, List.take_zero])) | ((with_reducible refine gl ?_); first | refine ml hm rfl rfl rfl ?_ | refine mlw hm rfl rfl rfl ?_ | (refine mlr hm rfl rfl rfl ?_; try simp only [List.drop_succ_cons, List.drop_zero, List.take_succ_cons, List.take_zero])) | ((with_reducible refine gs ?_); (first | refine ms hm rfl rfl rfl rfl rfl ?_ | refine msw hm rfl rfl rfl rfl ?_ | refine msr hm rfl rfl rfl rfl ?_); clear hm; intro w hm; (try simp only [splice, List.set_cons_zero, List.set_cons_succ] at hm)) | ((with_reducible refine gb ?_); (first | refine mem_box hm rfl rfl rfl ?_ | refine mem_box1 hm rfl rfl rfl rfl ?_); clear hm; intro n w hm) | ((with_reducible refine ga ?_); refine mem_alloc hm rfl rfl ?_; clear hm; intro n w hm) | go_values | go_skip | go_guarded | go_step | go_upon | ((with_reducible refine bp ?_); go_back) | ((with_reducible refine up ?_); first | (simp only [Int.not_lt, Int.not_le] at *; go_simp) | (go_values <;> (try go_simp)) | (go_ite <;> go_prune <;> (try go_simp)) | (split <;> (first | (rename_i hx; exact (hx _ rfl).elim) | go_prune))))
      go_roundw
      case rel => (try (first | ((repeat apply Exists.intro); refine ⟨?_, rfl⟩) | (repeat refine ex_any ?_))); exact ⟨k + 1, by omega, by go_num, by rw [HN.out]; exact (Sl.of hm hf (by rw [List.length_append, HX2.out]; simp; omega)).drop (by repeat (first | exact List.Sublist.refl _ | refine List.Sublist.cons _ ?_))⟩
      case measure => simp [intOf]; omega
    · obtain rfl : k = E.length := by omega
      rw [List.take_length, (HX ()).out] at hm hf hx
      repeat' (first  | ((with_reducible refine gix ?_); first | refine mix rfl rfl rfl rfl ?_ | refine mixr rfl rfl rfl rfl ?_; (try simp only [Int.toNat_zero, Int.reduceToNat, Nat.reduceMul, Nat.zero_mul, Nat.one_mul, List.drop_succ_cons, List.drop_zero, List.take_succ_cons, List.take_zero])) | ((with_reducible refine gl ?_); first | refine ml hm rfl rfl rfl ?_ | refine mlw hm rfl rfl rfl ?_ | (refine mlr hm rfl rfl rfl ?_; try simp only [List.drop_succ_cons, List.drop_zero, List.take_succ_cons, List.take_zero])) | ((with_reducible refine gs ?_); (first | refine ms hm rfl rfl rfl rfl rfl ?_ | refine msw hm rfl rfl rfl rfl ?_ | refine msr hm rfl rfl rfl rfl ?_); clear hm; intro w hm; (try simp only [splice, List.set_cons_zero, List.set_cons_succ] at hm)) | ((with_reducible refine gb ?_); (first | refine mem_box hm rfl rfl rfl ?_ | refine mem_box1 hm rfl rfl rfl rfl ?_); clear hm; intro n w hm) | ((with_reducible refine ga ?_); refine mem_alloc hm rfl rfl ?_; clear hm; intro n w hm) | go_values | go_skip | go_guarded | go_step | go_upon | ((with_reducible refine bp ?_); go_back) | ((with_reducible refine up ?_); first | (simp only [Int.not_lt, Int.not_le] at *; go_simp) | (go_values <;> (try go_simp)) | (go_ite <;> go_prune <;> (try go_simp)) | (split <;> (first | (rename_i hx; exact (hx _ rfl).elim) | go_prune))))
      (try simp only [Exit.inBlock, Exit.then])
      (first | (refine ret1 rfl rfl (by (first | exact Res.tmp rfl | exact Res.atw hm rfl | exact Res.at hm rfl)) ?_) | (refine ret2 rfl rfl (by (first | exact Res.tmp rfl | exact Res.atw hm rfl | exact Res.at hm rfl)) (by (first | exact Res.tmp rfl | exact Res.atw hm rfl | exact Res.at hm rfl)) ?_) | (refine ret3 rfl rfl (by (first | exact Res.tmp rfl | exact Res.atw hm rfl | exact Res.at hm rfl)) (by (first | exact Res.tmp rfl | exact Res.atw hm rfl | exact Res.at hm rfl)) (by (first | exact Res.tmp rfl | exact Res.atw hm rfl | exact Res.at hm rfl)) ?_) | (refine ret4 rfl rfl (by (first | exact Res.tmp rfl | exact Res.atw hm rfl | exact Res.at hm rfl)) (by (first | exact Res.tmp rfl | exact Res.atw hm rfl | exact Res.at hm rfl)) (by (first | exact Res.tmp rfl | exact Res.atw hm rfl | exact Res.at hm rfl)) (by (first | exact Res.tmp rfl | exact Res.atw hm rfl | exact Res.at hm rfl)) ?_) | fail "ret")
      exact ⟨_, rfl, (Sl.of hm hf hx).drop (List.nil_sublist _)⟩
theorem impl_placed (S : List Int) (hl : S.length = 16) (p : Nat × Nat) (hp : p.1 < 16) (w0 : World) : Calls Try.prog 116 #[.agg (nums S), .agg ((plI p).map iv).toArray] w0 fun e w' => e = .returned (.agg (nums (setP S p))) ∧ Below w0.heap.size w0 w' := by
  obtain ⟨k, t⟩ := p
  have hc : k / 4 < 4 := by simp only at hp; omega
  have hc2 : k % 4 < 4 := by omega
  have hk : 4 * (k / 4) + k % 4 = k := by omega
  unfold setP plI
  simp only [nums_map, List.map_cons, List.map_nil] at *
  generalize hr : k / 4 = r at *
  generalize hcc : k % 4 = c at *
  have hset : S.set k (t : Int) = S.set (r * 4 + c) (t : Int) := by rw [← hk, Nat.mul_comm]
  have hl16 : (S.map iv).length = 16 := by simpa using hl
  rw [hset]
  have hr4 : (r : Int) < 4 := by omega
  have hc4 : (c : Int) < 4 := by omega
  clear hset hk hr hcc hp
  go_enter Try.func116, Try.ntmps116
  have hm := Mem.start w0
  repeat' (first | ((with_reducible refine gd ?_); refine mf_start1 9 2 hm (by kernel_rfl) (by kernel_rfl) rfl ?_; apply Exists.intro; intro hne; (repeat (first | ((with_reducible refine gfl ?_); first | refine fl rfl rfl rfl ?_ | refine flw rfl rfl rfl ?_ | (refine flr rfl rfl rfl ?_; try simp only [List.drop_succ_cons, List.drop_zero, List.take_succ_cons, List.take_zero])) | ((with_reducible refine gfs ?_); first | refine fs rfl rfl rfl rfl rfl ?_ | refine fsw rfl rfl rfl rfl ?_ | refine fsr rfl rfl rfl rfl ?_) | (refine wpF_step (by rfl) (hne _ (by decide)) ?_; intro hn K hK; go_simp; (try go_ints); (try simp [↓IntWalk.iteOmega, go_sem]); first | (refine hK _ ?_; clear hK K hn) | (apply Exists.intro; refine ⟨fun _ => ?_, hK _ ?_⟩; (first | fail | fail); clear hK K hn)))); refine wpF_nil ?_; clear hm hne; intro w hm; (try simp only [famEnd, modB, splice, List.set_cons_zero, List.set_cons_succ, set_iv] at hm)) | ((with_reducible refine gix ?_); first | refine mix rfl rfl rfl rfl ?_ | refine mixr rfl rfl rfl rfl ?_; (try simp only [Int.toNat_zero, Int.reduceToNat, Nat.reduceMul, Nat.zero_mul, Nat.one_mul, List.drop_succ_cons, List.drop_zero, List.take_succ_cons, List.take_zero])) | ((with_reducible refine gl ?_); first | refine ml hm rfl rfl rfl ?_ | refine mlw hm rfl rfl rfl ?_ | (refine mlr hm rfl rfl rfl ?_; try simp only [List.drop_succ_cons, List.drop_zero, List.take_succ_cons, List.take_zero])) | ((with_reducible refine gs ?_); (first | refine ms hm rfl rfl rfl rfl rfl ?_ | refine msw hm rfl rfl rfl rfl ?_ | refine msr hm rfl rfl rfl rfl ?_); clear hm; intro w hm; (try simp only [splice, List.set_cons_zero, List.set_cons_succ] at hm)) | ((with_reducible refine gb ?_); (first | refine mem_box hm rfl rfl rfl ?_ | refine mem_box1 hm rfl rfl rfl rfl ?_); clear hm; intro n w hm) | ((with_reducible refine ga ?_); refine mem_alloc hm rfl rfl ?_; clear hm; intro n w hm) | go_values | go_skip | go_guarded | go_step | go_upon | ((with_reducible refine bp ?_); go_back) | ((with_reducible refine up ?_); first | (simp only [Int.not_lt, Int.not_le] at *; go_simp) | (go_values <;> (try go_simp)) | (go_ite <;> go_prune <;> (try go_simp)) | (split <;> (first | (rename_i hx; exact (hx _ rfl).elim) | go_prune))))
  (try simp only [Exit.inBlock, Exit.then])
  (first | (refine ret1 rfl rfl (by (first | exact Res.tmp rfl | exact Res.atw hm rfl | exact Res.at hm rfl)) ?_) | (refine ret2 rfl rfl (by (first | exact Res.tmp rfl | exact Res.atw hm rfl | exact Res.at hm rfl)) (by (first | exact Res.tmp rfl | exact Res.atw hm rfl | exact Res.at hm rfl)) ?_) | (refine ret3 rfl rfl (by (first | exact Res.tmp rfl | exact Res.atw hm rfl | exact Res.at hm rfl)) (by (first | exact Res.tmp rfl | exact Res.atw hm rfl | exact Res.at hm rfl)) (by (first | exact Res.tmp rfl | exact Res.atw hm rfl | exact Res.at hm rfl)) ?_) | (refine ret4 rfl rfl (by (first | exact Res.tmp rfl | exact Res.atw hm rfl | exact Res.at hm rfl)) (by (first | exact Res.tmp rfl | exact Res.atw hm rfl | exact Res.at hm rfl)) (by (first | exact Res.tmp rfl | exact Res.atw hm rfl | exact Res.at hm rfl)) (by (first | exact Res.tmp rfl | exact Res.atw hm rfl | exact Res.at hm rfl)) ?_) | fail "ret")
  exact ⟨rfl, hm.below⟩
end Go.Proofs.Ytelnajpjanmliaa

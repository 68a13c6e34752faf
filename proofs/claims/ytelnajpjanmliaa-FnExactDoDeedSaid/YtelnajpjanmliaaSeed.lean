/-
  Walks of the empty cells of a board, of the program; the tile by a seed.
-/
import Derived.Test.YtelnajpjanmliaaDelQ
import Derived.Test.YtelnajpjanmliaaSmall
set_option linter.unusedVariables false
set_option linter.unusedSimpArgs false
namespace Go.Proofs.Ytelnajpjanmliaa
open Go.RowKit Slm
theorem ecells_range (n : Nat) : ecells (List.range (n + 1)) = ecells (List.range n) ++ ecell n := by
  rw [List.range_succ, ecells_append, ecells_cons]; simp [ecells]
theorem impl_cells (w0 : World) : Calls Try.prog 106 #[] w0 fun e w' => ∃ v, e = .returned v ∧ Sl w0 w' v 40 2 (ecells (List.range 16)) [] := by
  have HR := Lib.hid ecells_range
  generalize hE : ecells (List.range 16) = E
  have HE := Lib.hid hE
  clear hE
  go_enter Try.func106, Try.ntmps106
  have hm := Mem.start w0
  repeat' (first | ((with_reducible refine gbs ?_); refine mbs hm rfl rfl rfl ?_; clear hm; intro n w hm; (try simp only [List.flatMap_cons, List.flatMap_nil, Value.cells, List.append_nil, List.cons_append, List.nil_append] at hm)) | ((with_reducible refine gap ?_); refine map_ hm rfl rfl rfl rfl hf ?_; clear hm hf; intro g cap more w hm hf; rw [List.take_left' hx] at hm hf; (try simp only [List.eraseIdx_cons_succ, List.eraseIdx_cons_zero, Nat.zero_add, Nat.reduceAdd, Nat.reduceSub, Nat.reduceLT, if_true, if_false] at hm)) | ((with_reducible refine gix ?_); first | refine mix rfl rfl rfl rfl ?_ | refine mixr rfl rfl rfl rfl ?_; (try simp only [Int.toNat_zero, Int.reduceToNat, Nat.reduceMul, Nat.zero_mul, Nat.one_mul, List.drop_succ_cons, List.drop_zero, List.take_succ_cons, List.take_zero])) | ((with_reducible refine gl ?_); first | refine ml hm rfl rfl rfl ?_ | refine mlw hm rfl rfl rfl ?_ | (refine mlr hm rfl rfl rfl ?_; try simp only [List.drop_succ_cons, List.drop_zero, List.take_succ_cons, List.take_zero])) | ((with_reducible refine gs ?_); (first | refine ms hm rfl rfl rfl rfl rfl ?_ | refine msw hm rfl rfl rfl rfl ?_ | refine msr hm rfl rfl rfl rfl ?_); clear hm; intro w hm; (try simp only [splice, List.set_cons_zero, List.set_cons_succ] at hm)) | ((with_reducible refine gb ?_); (first | refine mem_box hm rfl rfl rfl ?_ | refine mem_box1 hm rfl rfl rfl rfl ?_); clear hm; intro n w hm) | ((with_reducible refine ga ?_); refine mem_alloc hm rfl rfl ?_; clear hm; intro n w hm) | go_values | go_skip | go_guarded | go_step | go_upon | ((with_reducible refine bp ?_); go_back) | ((with_reducible refine up ?_); first | (simp only [Int.not_lt, Int.not_le] at *; go_simp) | (go_values <;> (try go_simp)) | (go_ite <;> go_prune <;> (try go_simp)) | (split <;> (first | (rename_i hx; exact (hx _ rfl).elim) | go_prune))))
  obtain ⟨σ, hσ, hS⟩ := Sl.sig (Sl.new hm (e := 40) (s := 2))
  go_loopw [1, 4] (fun out i wr => ∃ k : Nat, k ≤ 16 ∧ i = iv k ∧ Sl w0 wr out 40 2 (ecells (List.range k)) σ) (fun _ i _ => 16 - (intOf i).toNat)
  case atStart => exact ⟨0, by omega, rfl, hS⟩
  case round =>
    clear hm hS
    obtain ⟨k, hk, rfl, g, more, len, cap, rfl, hm, hf, hx⟩ := hrel
    by_cases hlt : k < 16
    · have hd : decide ((k : Int) < 16) = true := by simp; omega
      have hnext := HR.out k
      have b1 : len = k := by rw [ecells_len] at hx; simp at hx; omega
      subst b1
      subst hσ
      simp only [ecell] at hnext
      generalize ecells (List.range len) = xs at hm hf hx hnext
      have HN := Lib.hid hnext
      have HX := Lib.hid hx
      clear hnext
      repeat' (first | ((with_reducible refine gbs ?_); refine mbs hm rfl rfl rfl ?_; clear hm; intro n w hm; (try simp only [List.flatMap_cons, List.flatMap_nil, Value.cells, List.append_nil, List.cons_append, List.nil_append] at hm)) | ((with_reducible refine gap ?_); refine map_ hm rfl rfl rfl rfl hf ?_; clear hm hf; intro g cap more w hm hf; rw [List.take_left' hx] at hm hf; (try simp only [List.eraseIdx_cons_succ, List.eraseIdx_cons_zero, Nat.zero_add, Nat.reduceAdd, Nat.reduceSub, Nat.reduceLT, if_true, if_false] at hm)) | ((with_reducible refine gix ?_); first | refine mix rfl rfl rfl rfl ?_ | refine mixr rfl rfl rfl rfl ?_; (try simp only [Int.toNat_zero, Int.reduceToNat, Nat.reduceMul, Nat.zero_mul, Nat.one_mul, List.drop_succ_cons, List.drop_zero, List.take_succ_cons, List.take_zero])) | ((with_reducible refine gl ?_); first | refine ml hm rfl rfl rfl ?_ | refine mlw hm rfl rfl rfl ?_ | (refine mlr hm rfl rfl rfl ?_; try simp only [List.drop_succ_cons, List.drop_zero, List.take_succ_cons, List.take_zero])) | ((with_reducible refine gs ?_); (first | refine ms hm rfl rfl rfl rfl rfl ?_ | refine msw hm rfl rfl rfl rfl ?_ | refine msr hm rfl rfl rfl rfl ?_); clear hm; intro w hm; (try simp only [splice, List.set_cons_zero, List.set_cons_succ] at hm)) | ((with_reducible refine gb ?_); (first | refine mem_box hm rfl rfl rfl ?_ | refine mem_box1 hm rfl rfl rfl rfl ?_); clear hm; intro n w hm) | ((with_reducible refine ga ?_); refine mem_alloc hm rfl rfl ?_; clear hm; intro n w hm) | go_values | go_skip | go_guarded | go_step | go_upon | ((with_reducible refine bp ?_); go_back) | ((with_reducible refine up ?_); first | (simp only [Int.not_lt, Int.not_le] at *; go_simp) | (go_values <;> (try go_simp)) | (go_ite <;> go_prune <;> (try go_simp)) | (split <;> (first | (rename_i hx; exact (hx _ rfl).elim) | go_prune))))
      go_roundw
      case rel => (try (first | ((repeat apply Exists.intro); refine ⟨?_, rfl⟩) | (repeat refine ex_any ?_))); exact ⟨len + 1, by omega, by go_num, by rw [HN.out]; exact Sl.of hm hf (by rw [List.length_append, HX.out]; simp; omega)⟩
      case measure => simp [intOf]; omega
    · obtain rfl : k = 16 := by omega
      rw [HE.out] at hm hf hx
      subst hσ
      repeat' (first  | ((with_reducible refine gix ?_); first | refine mix rfl rfl rfl rfl ?_ | refine mixr rfl rfl rfl rfl ?_; (try simp only [Int.toNat_zero, Int.reduceToNat, Nat.reduceMul, Nat.zero_mul, Nat.one_mul, List.drop_succ_cons, List.drop_zero, List.take_succ_cons, List.take_zero])) | ((with_reducible refine gl ?_); first | refine ml hm rfl rfl rfl ?_ | refine mlw hm rfl rfl rfl ?_ | (refine mlr hm rfl rfl rfl ?_; try simp only [List.drop_succ_cons, List.drop_zero, List.take_succ_cons, List.take_zero])) | ((with_reducible refine gs ?_); (first | refine ms hm rfl rfl rfl rfl rfl ?_ | refine msw hm rfl rfl rfl rfl ?_ | refine msr hm rfl rfl rfl rfl ?_); clear hm; intro w hm; (try simp only [splice, List.set_cons_zero, List.set_cons_succ] at hm)) | ((with_reducible refine gb ?_); (first | refine mem_box hm rfl rfl rfl ?_ | refine mem_box1 hm rfl rfl rfl rfl ?_); clear hm; intro n w hm) | ((with_reducible refine ga ?_); refine mem_alloc hm rfl rfl ?_; clear hm; intro n w hm) | go_values | go_skip | go_guarded | go_step | go_upon | ((with_reducible refine bp ?_); go_back) | ((with_reducible refine up ?_); first | (simp only [Int.not_lt, Int.not_le] at *; go_simp) | (go_values <;> (try go_simp)) | (go_ite <;> go_prune <;> (try go_simp)) | (split <;> (first | (rename_i hx; exact (hx _ rfl).elim) | go_prune))))
      (try simp only [Exit.inBlock, Exit.then])
      (first | (refine ret1 rfl rfl (by (first | exact Res.tmp rfl | exact Res.atw hm rfl | exact Res.at hm rfl)) ?_) | (refine ret2 rfl rfl (by (first | exact Res.tmp rfl | exact Res.atw hm rfl | exact Res.at hm rfl)) (by (first | exact Res.tmp rfl | exact Res.atw hm rfl | exact Res.at hm rfl)) ?_) | (refine ret3 rfl rfl (by (first | exact Res.tmp rfl | exact Res.atw hm rfl | exact Res.at hm rfl)) (by (first | exact Res.tmp rfl | exact Res.atw hm rfl | exact Res.at hm rfl)) (by (first | exact Res.tmp rfl | exact Res.atw hm rfl | exact Res.at hm rfl)) ?_) | (refine ret4 rfl rfl (by (first | exact Res.tmp rfl | exact Res.atw hm rfl | exact Res.at hm rfl)) (by (first | exact Res.tmp rfl | exact Res.atw hm rfl | exact Res.at hm rfl)) (by (first | exact Res.tmp rfl | exact Res.atw hm rfl | exact Res.at hm rfl)) (by (first | exact Res.tmp rfl | exact Res.atw hm rfl | exact Res.at hm rfl)) ?_) | fail "ret")
      exact ⟨_, rfl, (Sl.of hm hf hx).drop (List.nil_sublist _)⟩
theorem impl_empty1 {w0 w : World} {σ : List Blk} {n : Nat} {b : List Int} (hl : b.length = 16) (hm : Mem w0 w σ) (hmem : (⟨n, b.map iv, 30⟩ : Blk) ∈ σ) (k : Nat) (hk : k < 16) :
    Calls Try.prog 155 #[.agg (ecell k).toArray, .pointer (some ⟨n, 0, none⟩)] w fun e w' => e = .returned (.bool (decide (atL b k ≠ 0))) ∧ Mem w0 w' σ := by
  obtain ⟨i, hi⟩ := List.getElem?_of_mem hmem
  haveI : At σ n (b.map iv) 30 i := ⟨hi⟩
  clear hi hmem
  have hA := impl_at n ((k / 4 : Nat) : Int) ((k % 4 : Nat) : Int) (by omega) (by omega)
  rw [show (4 * ((k / 4 : Nat) : Int) + ((k % 4 : Nat) : Int)).toNat = k from by omega] at hA
  have hv := get_iv (b := b) (p := k) (by omega)
  have hlen : (b.map iv).length = 16 := by simpa using hl
  generalize atL b k = x at *
  have HA := Lib.hid hA
  clear hA
  go_enter Try.func155, Try.ntmps155
  simp only [ecell]
  repeat' (first | (go_at_call 67; refine mem_call hm (HA.out _) ?_; clear hm; intro w hm; (try simp only [nums, List.map_cons, List.map_nil])) | ((with_reducible refine gix ?_); first | refine mix rfl rfl rfl rfl ?_ | refine mixr rfl rfl rfl rfl ?_; (try simp only [Int.toNat_zero, Int.reduceToNat, Nat.reduceMul, Nat.zero_mul, Nat.one_mul, List.drop_succ_cons, List.drop_zero, List.take_succ_cons, List.take_zero])) | ((with_reducible refine gl ?_); first | refine ml hm rfl rfl rfl ?_ | refine mlw hm rfl rfl rfl ?_ | (refine mlr hm rfl rfl rfl ?_; try simp only [List.drop_succ_cons, List.drop_zero, List.take_succ_cons, List.take_zero])) | ((with_reducible refine gs ?_); (first | refine ms hm rfl rfl rfl rfl rfl ?_ | refine msw hm rfl rfl rfl rfl ?_ | refine msr hm rfl rfl rfl rfl ?_); clear hm; intro w hm; (try simp only [splice, List.set_cons_zero, List.set_cons_succ] at hm)) | ((with_reducible refine gb ?_); (first | refine mem_box hm rfl rfl rfl ?_ | refine mem_box1 hm rfl rfl rfl rfl ?_); clear hm; intro n w hm) | ((with_reducible refine ga ?_); refine mem_alloc hm rfl rfl ?_; clear hm; intro n w hm) | go_values | go_skip | go_guarded | go_step | go_upon | ((with_reducible refine bp ?_); go_back) | ((with_reducible refine up ?_); first | (simp only [Int.not_lt, Int.not_le] at *; go_simp) | (go_values <;> (try go_simp)) | (go_ite <;> go_prune <;> (try go_simp)) | (split <;> (first | (rename_i hx; exact (hx _ rfl).elim) | go_prune))))
  (try simp only [Exit.inBlock, Exit.then])
  (first | (refine ret1 rfl rfl (by (first | exact Res.tmp rfl | exact Res.atw hm rfl | exact Res.at hm rfl)) ?_) | (refine ret2 rfl rfl (by (first | exact Res.tmp rfl | exact Res.atw hm rfl | exact Res.at hm rfl)) (by (first | exact Res.tmp rfl | exact Res.atw hm rfl | exact Res.at hm rfl)) ?_) | (refine ret3 rfl rfl (by (first | exact Res.tmp rfl | exact Res.atw hm rfl | exact Res.at hm rfl)) (by (first | exact Res.tmp rfl | exact Res.atw hm rfl | exact Res.at hm rfl)) (by (first | exact Res.tmp rfl | exact Res.atw hm rfl | exact Res.at hm rfl)) ?_) | (refine ret4 rfl rfl (by (first | exact Res.tmp rfl | exact Res.atw hm rfl | exact Res.at hm rfl)) (by (first | exact Res.tmp rfl | exact Res.atw hm rfl | exact Res.at hm rfl)) (by (first | exact Res.tmp rfl | exact Res.atw hm rfl | exact Res.at hm rfl)) (by (first | exact Res.tmp rfl | exact Res.atw hm rfl | exact Res.at hm rfl)) ?_) | fail "ret")
  exact ⟨by by_cases h : x = 0 <;> simp [h], hm.drop (List.sublist_cons_self _ _)⟩
theorem impl_empty (b : List Int) (hl : b.length = 16) (w0 : World) : Calls Try.prog 119 #[.agg (nums b)] w0 fun e w' => ∃ v, e = .returned v ∧ Sl w0 w' v 40 2 (ecells (emptyL b)) [] := by
  have he : (List.range 16).filter (fun k => !decide (atL b k ≠ 0)) = emptyL b := by
    unfold emptyL emptyK
    congr 1
    funext k
    by_cases h : atL b k = 0 <;> simp [h]
  have HE := Lib.hid he
  have hC := impl_cells
  have hxl : (List.range 16).length = 16 := by simp
  have hmem : ∀ x ∈ List.range 16, x < 16 := by intro x h; simpa using h
  have hel := ecells_len (List.range 16)
  generalize List.range 16 = R at *
  have HC := Lib.hid hC
  have HM := Lib.hid hmem
  clear hC hmem he
  go_enter Try.func119, Try.ntmps119
  have hm := Mem.start w0
  simp only [nums_map]
  repeat' (first | (go_at_call 106; refine mem_callN hm (HC.out _) ?_; clear hm; intro g more len cap w hm hf hx; (try simp only [])) | (go_at_call 154; refine mem_callS (delP_empty hm hf (by omega) (by omega) (fun k => decide (atL b k ≠ 0)) (fun x hxm wr σ' h hm => impl_empty1 hl hm (h _ (by simp)) x (HM.out x hxm))) ?_; clear hm; intro g more len cap w hm hf hx; (try simp only [])) | ((with_reducible refine gix ?_); first | refine mix rfl rfl rfl rfl ?_ | refine mixr rfl rfl rfl rfl ?_; (try simp only [Int.toNat_zero, Int.reduceToNat, Nat.reduceMul, Nat.zero_mul, Nat.one_mul, List.drop_succ_cons, List.drop_zero, List.take_succ_cons, List.take_zero])) | ((with_reducible refine gl ?_); first | refine ml hm rfl rfl rfl ?_ | refine mlw hm rfl rfl rfl ?_ | (refine mlr hm rfl rfl rfl ?_; try simp only [List.drop_succ_cons, List.drop_zero, List.take_succ_cons, List.take_zero])) | ((with_reducible refine gs ?_); (first | refine ms hm rfl rfl rfl rfl rfl ?_ | refine msw hm rfl rfl rfl rfl ?_ | refine msr hm rfl rfl rfl rfl ?_); clear hm; intro w hm; (try simp only [splice, List.set_cons_zero, List.set_cons_succ] at hm)) | ((with_reducible refine gb ?_); (first | refine mem_box hm rfl rfl rfl ?_ | refine mem_box1 hm rfl rfl rfl rfl ?_); clear hm; intro n w hm) | ((with_reducible refine ga ?_); refine mem_alloc hm rfl rfl ?_; clear hm; intro n w hm) | go_values | go_skip | go_guarded | go_step | go_upon | ((with_reducible refine bp ?_); go_back) | ((with_reducible refine up ?_); first | (simp only [Int.not_lt, Int.not_le] at *; go_simp) | (go_values <;> (try go_simp)) | (go_ite <;> go_prune <;> (try go_simp)) | (split <;> (first | (rename_i hx; exact (hx _ rfl).elim) | go_prune))))
  (try simp only [Exit.inBlock, Exit.then])
  (first | (refine ret1 rfl rfl (by (first | exact Res.tmp rfl | exact Res.atw hm rfl | exact Res.at hm rfl)) ?_) | (refine ret2 rfl rfl (by (first | exact Res.tmp rfl | exact Res.atw hm rfl | exact Res.at hm rfl)) (by (first | exact Res.tmp rfl | exact Res.atw hm rfl | exact Res.at hm rfl)) ?_) | (refine ret3 rfl rfl (by (first | exact Res.tmp rfl | exact Res.atw hm rfl | exact Res.at hm rfl)) (by (first | exact Res.tmp rfl | exact Res.atw hm rfl | exact Res.at hm rfl)) (by (first | exact Res.tmp rfl | exact Res.atw hm rfl | exact Res.at hm rfl)) ?_) | (refine ret4 rfl rfl (by (first | exact Res.tmp rfl | exact Res.atw hm rfl | exact Res.at hm rfl)) (by (first | exact Res.tmp rfl | exact Res.atw hm rfl | exact Res.at hm rfl)) (by (first | exact Res.tmp rfl | exact Res.atw hm rfl | exact Res.at hm rfl)) (by (first | exact Res.tmp rfl | exact Res.atw hm rfl | exact Res.at hm rfl)) ?_) | fail "ret")
  rw [HE.out] at hm hf hx
  exact ⟨_, rfl, (Sl.of hm hf hx).drop (List.nil_sublist _)⟩
def seedCell (b : List Int) (n : Nat) : Nat := (emptyL b).getD (n / 16 % (emptyL b).length) 0
def seedT (n : Nat) : Int := if n % 16 = 0 then 2 else 1
def cellI (k : Nat) : List Int := [((k / 4 : Nat) : Int), ((k % 4 : Nat) : Int)]
def seedTileV (b : List Int) (s : Int) : List Int × Int × Bool := if okL b = true ∧ inB s 0 65535 = true ∧ (emptyL b).length ≠ 0 then (cellI (seedCell b s.toNat), seedT s.toNat, true) else ([0, 0], 0, false)
end Go.Proofs.Ytelnajpjanmliaa

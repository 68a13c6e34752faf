/-
  Walks of the empty cells of a board, of the program; the tile by a seed.
-/
import Derived.Test.YtelnajpjanmliaaGreatDelQ
import Derived.Test.YtelnajpjanmliaaGreatSmall
set_option linter.unusedVariables false
set_option linter.unusedSimpArgs false
namespace Go.Proofs.YtelnajpjanmliaaGreat
open Go.RowKit Slm
theorem ecells_range (n : Nat) : ecells (List.range (n + 1)) = ecells (List.range n) ++ ecell n := by
  rw [List.range_succ, ecells_append, ecells_cons]; simp [ecells]
theorem impl_cells (w0 : World) : Calls Tryz.prog 69 #[] w0 fun e w' => ∃ v, e = .returned v ∧ Sl w0 w' v 60 2 (ecells (List.range 16)) [] := by
  have HR := Lib.hid ecells_range
  generalize hE : ecells (List.range 16) = E
  have HE := Lib.hid hE
  clear hE
  go_enter Tryz.func69, Tryz.ntmps69
  have hm := Mem.start w0
  repeat' (first | ((with_reducible refine gbs ?_); refine mbs hm rfl rfl rfl ?_; clear hm; intro n w hm; (try simp only [List.flatMap_cons, List.flatMap_nil, Value.cells, List.append_nil, List.cons_append, List.nil_append] at hm)) | ((with_reducible refine gap ?_); refine map_ hm rfl rfl rfl rfl hf ?_; clear hm hf; intro g cap more w hm hf; rw [List.take_left' hx] at hm hf; (try simp only [List.eraseIdx_cons_succ, List.eraseIdx_cons_zero, Nat.zero_add, Nat.reduceAdd, Nat.reduceSub, Nat.reduceLT, if_true, if_false] at hm)) | ((with_reducible refine gix ?_); first | refine mix rfl rfl rfl rfl ?_ | refine mixr rfl rfl rfl rfl ?_; (try simp only [Int.toNat_zero, Int.reduceToNat, Nat.reduceMul, Nat.zero_mul, Nat.one_mul, List.drop_succ_cons, List.drop_zero, List.take_succ_cons, List.take_zero])) | ((with_reducible refine gl ?_); first | refine ml hm rfl rfl rfl ?_ | refine mlw hm rfl rfl rfl ?_ | (refine mlr hm rfl rfl rfl ?_; try simp only [List.drop_succ_cons, List.drop_zero, List.take_succ_cons, List.take_zero])) | ((with_reducible refine gs ?_); (first | refine ms hm rfl rfl rfl rfl rfl ?_ | refine msw hm rfl rfl rfl rfl ?_ | refine msr hm rfl rfl rfl rfl ?_); clear hm; intro w hm; (try simp only [splice, List.set_cons_zero, List.set_cons_succ] at hm)) | ((with_reducible refine gb ?_); (first | refine mem_box hm rfl rfl rfl ?_ | refine mem_box1 hm rfl rfl rfl rfl ?_); clear hm; intro n w hm) | ((with_reducible refine ga ?_); refine mem_alloc hm rfl rfl ?_; clear hm; intro n w hm) | go_values | go_skip | go_guarded | go_step | go_upon | ((with_reducible refine bp ?_); go_back) | ((with_reducible refine up ?_); first | (simp only [Int.not_lt, Int.not_le] at *; go_simp) | (go_values <;> (try go_simp)) | (go_ite <;> go_prune <;> (try go_simp)) | (split <;> (first | (rename_i hx; exact (hx _ rfl).elim) | go_prune))))
  obtain ⟨σ, hσ, hS⟩ := Sl.sig (Sl.new hm (e := 60) (s := 2))
  go_loopw [1, 4] (fun out i wr => ∃ k : Nat, k ≤ 16 ∧ i = iv k ∧ Sl w0 wr out 60 2 (ecells (List.range k)) σ) (fun _ i _ => 16 - (intOf i).toNat)
  case atStart => exact ⟨0, by omega, rfl, hS⟩
  case round =>
    clear hm hS
    obtain ⟨k, hk, rfl, g, more, len, cap, rfl, hm, hf, hx⟩ := hrel
    by_cases hlt : k < 16
    · have hd : decide ((k : Int) < 16) = true := by simp; omega
      have hnext := HR.out k
      have b1 : len = k := by rw [ecells_len] at hx; simp at hx; omega
      subst b1
      subst hσ
      simp only [ecell] at hnext
      generalize ecells (List.range len) = xs at hm hf hx hnext
      have HN := Lib.hid hnext
      have HX := Lib.hid hx
      clear hnext
      repeat' (first | ((with_reducible refine gbs ?_); refine mbs hm rfl rfl rfl ?_; clear hm; intro n w hm; (try simp only [List.flatMap_cons, List.flatMap_nil, Value.cells, List.append_nil, List.cons_append, List.nil_append] at hm)) | ((with_reducible refine gap ?_); refine map_ hm rfl rfl rfl rfl hf ?_; clear hm hf; intro g cap more w hm hf; rw [List.take_left' hx] at hm hf; (try simp only [List.eraseIdx_cons_succ, List.eraseIdx_cons_zero, Nat.zero_add, Nat.reduceAdd, Nat.reduceSub, Nat.reduceLT, if_true, if_false] at hm)) | ((with_reducible refine gix ?_); first | refine mix rfl rfl rfl rfl ?_ | refine mixr rfl rfl rfl rfl ?_; (try simp only [Int.toNat_zero, Int.reduceToNat, Nat.reduceMul, Nat.zero_mul, Nat.one_mul, List.drop_succ_cons, List.drop_zero, List.take_succ_cons, List.take_zero])) | ((with_reducible refine gl ?_); first | refine ml hm rfl rfl rfl ?_ | refine mlw hm rfl rfl rfl ?_ | (refine mlr hm rfl rfl rfl ?_; try simp only [List.drop_succ_cons, List.drop_zero, List.take_succ_cons, List.take_zero])) | ((with_reducible refine gs ?_); (first | refine ms hm rfl rfl rfl rfl rfl ?_ | refine msw hm rfl rfl rfl rfl ?_ | refine msr hm rfl rfl rfl rfl ?_); clear hm; intro w hm; (try simp only [splice, List.set_cons_zero, List.set_cons_succ] at hm)) | ((with_reducible refine gb ?_); (first | refine mem_box hm rfl rfl rfl ?_ | refine mem_box1 hm rfl rfl rfl rfl ?_); clear hm; intro n w hm) | ((with_reducible refine ga ?_); refine mem_alloc hm rfl rfl ?_; clear hm; intro n w hm) | go_values | go_skip | go_guarded | go_step | go_upon | ((with_reducible refine bp ?_); go_back) | ((with_reducible refine up ?_); first | (simp only [Int.not_lt, Int.not_le] at *; go_simp) | (go_values <;> (try go_simp)) | (go_ite <;> go_prune <;> (try go_simp)) | (split <;> (first | (rename_i hx; exact (hx _ rfl).elim) | go_prune))))
      go_roundw
      case rel => (try (first | ((repeat apply Exists.intro); refine ⟨?_, rfl⟩) | (repeat refine ex_any ?_))); exact ⟨len + 1, by omega, by go_num, by rw [HN.out]; exact Sl.of hm hf (by rw [List.length_append, HX.out]; simp; omega)⟩
      case measure => simp [intOf]; omega
    · obtain rfl : k = 16 := by omega
      rw [HE.out] at hm hf hx
      subst hσ
      repeat' (first  | ((with_reducible refine gix ?_); first | refine mix rfl rfl rfl rfl ?_ | refine mixr rfl rfl rfl rfl ?_; (try simp only [Int.toNat_zero, Int.reduceToNat, Nat.reduceMul, Nat.zero_mul, Nat.one_mul, List.drop_succ_cons, List.drop_zero, List.take_succ_cons, List.take_zero])) | ((with_reducible refine gl ?_); first | refine ml hm rfl rfl rfl ?_ | refine mlw hm rfl rfl rfl ?_ | (refine mlr hm rfl rfl rfl ?_; try simp only [List.drop_succ_cons, List.drop_zero, List.take_succ_cons, List.take_zero])) | ((with_reducible refine gs ?_); (first | refine ms hm rfl rfl rfl rfl rfl ?_ | refine msw hm rfl rfl rfl rfl ?_ | refine msr hm rfl rfl rfl rfl ?_); clear hm; intro w hm; (try simp only [splice, List.set_cons_zero, List.set_cons_succ] at hm)) | ((with_reducible refine gb ?_); (first | refine mem_box hm rfl rfl rfl ?_ | refine mem_box1 hm rfl rfl rfl rfl ?_); clear hm; intro n w hm) | ((with_reducible refine ga ?_); refine mem_alloc hm rfl rfl ?_; clear hm; intro n w hm) | go_values | go_skip | go_guarded | go_step | go_upon | ((with_reducible refine bp ?_); go_back) | ((with_reducible refine up ?_); first | (simp only [Int.not_lt, Int.not_le] at *; go_simp) | (go_values <;> (try go_simp)) | (go_ite <;> go_prune <;> (try go_simp)) | (split <;> (first | (rename_i hx; exact (hx _ rfl).elim) | go_prune))))
      (try simp only [Exit.inBlock, Exit.then])
      (first | (refine ret1 rfl rfl (by (first | exact Res.tmp rfl | exact Res.atw hm rfl | exact Res.at hm rfl)) ?_) | (refine ret2 rfl rfl (by (first | exact Res.tmp rfl | exact Res.atw hm rfl | exact Res.at hm rfl)) (by (first | exact Res.tmp rfl | exact Res.atw hm rfl | exact Res.at hm rfl)) ?_) | (refine ret3 rfl rfl (by (first | exact Res.tmp rfl | exact Res.atw hm rfl | exact Res.at hm rfl)) (by (first | exact Res.tmp rfl | exact Res.atw hm rfl | exact Res.at hm rfl)) (by (first | exact Res.tmp rfl | exact Res.atw hm rfl | exact Res.at hm rfl)) ?_) | (refine ret4 rfl rfl (by (first | exact Res.tmp rfl | exact Res.atw hm rfl | exact Res.at hm rfl)) (by (first | exact Res.tmp rfl | exact Res.atw hm rfl | exact Res.at hm rfl)) (by (first | exact Res.tmp rfl | exact Res.atw hm rfl | exact Res.at hm rfl)) (by (first | exact Res.tmp rfl | exact Res.atw hm rfl | exact Res.at hm rfl)) ?_) | fail "ret")
      exact ⟨_, rfl, (Sl.of hm hf hx).drop (List.nil_sublist _)⟩
def seedCell (b : List Int) (n : Nat) : Nat := (emptyL b).getD (n / 16 % (emptyL b).length) 0
def seedT (n : Nat) : Int := if n % 16 = 0 then 2 else 1
def cellI (k : Nat) : List Int := [((k / 4 : Nat) : Int), ((k % 4 : Nat) : Int)]
def seedTileV (b : List Int) (s : Int) : List Int × Int × Bool := if okL b = true ∧ inB s 0 65535 = true ∧ (emptyL b).length ≠ 0 then (cellI (seedCell b s.toNat), seedT s.toNat, true) else ([0, 0], 0, false)
end Go.Proofs.YtelnajpjanmliaaGreat

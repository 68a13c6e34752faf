/-
  Walks of the numerals, the checksums and the encodings of records.
-/
import Derived.Test.YtjmolkamaeonmaaDoorStr
import Derived.Lib.AppendIntMem
import Derived.Lib.SmallJoins
set_option linter.unusedVariables false
set_option linter.unusedSimpArgs false
namespace Go.Proofs.YtjmolkamaeonmaaDoor
open Go.RowKit Slm
/-- What the library's variables hold. -/
structure Env (w : World) : Prop where
  tab : Lib.TabIs Tryd.prog w "internal/strconv.uint64pow10" .u64 Lib.pow10Tab
  big : ∃ m, w.cell? ⟨0, 0, none⟩ = some (.int .i64 m)
theorem Env.mem {w0 w : World} {σ : List Blk} (h : Env w0) (hm : Mem w0 w σ) : Env w :=
  ⟨Joins.tab_stays (g := 1) (by kernel_rfl) h.tab hm.below (Nat.le_refl _), by
    obtain ⟨m, hc⟩ := h.big
    exact ⟨m, (hm.old (World.block_lt_of_cell? w0 _ hc)).trans hc⟩⟩
theorem strconv_Itoa (n : Nat) (hn : n ≤ 9223372036854775807) (w : World) (hE : Env w) : Calls Tryd.prog 50 #[iv n] w fun e w' => e = .returned (.string (bs (Lib.decDigits n))) ∧ Below w.heap.size w w' := by
  refine (Tryd.strconv_Itoa n (by omega) (by omega) w hE.tab).mono fun e w' ⟨he, k, os, hw⟩ => ⟨?_, hw ▸ Lib.below_grow _ w (Nat.le_refl _) k os⟩
  rw [he, Lib.itoa_nonneg]
  rfl
theorem digits_at (d : Nat) (h : d < 10) : (⟨#[48, 49, 50, 51, 52, 53, 54, 55, 56, 57]⟩ : ByteArray).extract d (d + 1) = bs [UInt8.ofNat (48 + d)] := by
  obtain rfl | rfl | rfl | rfl | rfl | rfl | rfl | rfl | rfl | rfl : d = 0 ∨ d = 1 ∨ d = 2 ∨ d = 3 ∨ d = 4 ∨ d = 5 ∨ d = 6 ∨ d = 7 ∨ d = 8 ∨ d = 9 := by omega
  all_goals rfl
theorem nDigits_20 {u : Nat} (h1 : 1 ≤ u) (h2 : u < 18446744073709551616) : Lib.nDigits u ≤ 20 := by
  have := Lib.numDigits_eq u h1 h2
  split at this <;> omega
theorem spec_l1Num (n : Nat) (hn : n ≤ 9223372036854775807) (w : World) : Calls Tryd.prog 69 #[iv n] w fun e w' => e = .returned (.string (bs (Lib.decDigits n))) ∧ Below w.heap.size w w' := by
  induction n using Nat.strongRecOn generalizing w with
  | ind n ih =>
    by_cases h10 : n < 10
    · have hd := digits_at n h10
      have hx : Lib.decDigits n = [UInt8.ofNat (48 + n)] := Lib.decDigits_one h10
      rw [hx]
      generalize UInt8.ofNat (48 + n) = u at *
      clear ih hx
      go_enter Tryd.func69, Tryd.ntmps69
      have hm := Mem.start w
      repeat' (first  | ((with_reducible refine gix ?_); first | refine mix rfl rfl rfl rfl ?_ | refine mixr rfl rfl rfl rfl ?_; (try simp only [Int.toNat_zero, Int.reduceToNat, Nat.reduceMul, Nat.zero_mul, Nat.one_mul, List.drop_succ_cons, List.drop_zero, List.take_succ_cons, List.take_zero])) | ((with_reducible refine gl ?_); first | refine ml hm rfl rfl rfl ?_ | refine mlw hm rfl rfl rfl ?_ | (refine mlr hm rfl rfl rfl ?_; try simp only [List.drop_succ_cons, List.drop_zero, List.take_succ_cons, List.take_zero])) | ((with_reducible refine gs ?_); (first | refine ms hm rfl rfl rfl rfl rfl ?_ | refine msw hm rfl rfl rfl rfl ?_ | refine msr hm rfl rfl rfl rfl ?_); clear hm; intro w hm; (try simp only [splice, List.set_cons_zero, List.set_cons_succ] at hm)) | ((with_reducible refine gb ?_); (first | refine mem_box hm rfl rfl rfl ?_ | refine mem_box1 hm rfl rfl rfl rfl ?_); clear hm; intro n w hm) | ((with_reducible refine ga ?_); refine mem_alloc hm rfl rfl ?_; clear hm; intro n w hm) | go_values | go_skip | go_guarded | go_step | go_upon | ((with_reducible refine bp ?_); go_back) | ((with_reducible refine up ?_); first | (simp only [Int.not_lt, Int.not_le] at *; go_simp) | (go_values <;> (try go_simp)) | (go_ite <;> go_prune <;> (try go_simp)) | (split <;> (first | (rename_i hx; exact (hx _ rfl).elim) | go_prune))))
      (try simp only [Exit.inBlock, Exit.then])
      (first | (refine ret1 rfl rfl (by (first | exact Res.tmp rfl | exact Res.atw hm rfl | exact Res.at hm rfl)) ?_) | (refine ret2 rfl rfl (by (first | exact Res.tmp rfl | exact Res.atw hm rfl | exact Res.at hm rfl)) (by (first | exact Res.tmp rfl | exact Res.atw hm rfl | exact Res.at hm rfl)) ?_) | (refine ret3 rfl rfl (by (first | exact Res.tmp rfl | exact Res.atw hm rfl | exact Res.at hm rfl)) (by (first | exact Res.tmp rfl | exact Res.atw hm rfl | exact Res.at hm rfl)) (by (first | exact Res.tmp rfl | exact Res.atw hm rfl | exact Res.at hm rfl)) ?_) | (refine ret4 rfl rfl (by (first | exact Res.tmp rfl | exact Res.atw hm rfl | exact Res.at hm rfl)) (by (first | exact Res.tmp rfl | exact Res.atw hm rfl | exact Res.at hm rfl)) (by (first | exact Res.tmp rfl | exact Res.atw hm rfl | exact Res.at hm rfl)) (by (first | exact Res.tmp rfl | exact Res.atw hm rfl | exact Res.at hm rfl)) ?_) | fail "ret")
      exact ⟨rfl, hm.below⟩
    · have hC := ih (n / 10) (by omega) (by omega)
      have hd := digits_at (n % 10) (by omega)
      have hx : Lib.decDigits n = Lib.decDigits (n / 10) ++ [UInt8.ofNat (48 + n % 10)] := by rw [Lib.decDigits, dif_neg h10]
      rw [hx, ← bs_app]
      have hl : (bs (Lib.decDigits (n / 10))).size ≤ 20 := by
        rw [bs_size, Lib.decDigits_length]
        exact nDigits_20 (by omega) (by omega)
      have e1 : ((n / 10 : Nat) : Int) = (n : Int) / 10 := by omega
      rw [e1] at hC
      generalize UInt8.ofNat (48 + n % 10) = u at *
      have hu := bs_size [u]
      simp only [List.length_cons, List.length_nil] at hu
      generalize bs (Lib.decDigits (n / 10)) = D at *
      generalize bs [u] = U at *
      have HC := Lib.hid hC
      clear hC ih hx
      go_enter Tryd.func69, Tryd.ntmps69
      have hm := Mem.start w
      repeat' (first | ((with_reducible refine gd ?_); refine mf_start (st := []) hm (by kernel_rfl) (by kernel_rfl) rfl ?_; intro hne; (repeat (first | ((with_reducible refine gfl ?_); first | refine fl rfl rfl rfl ?_ | refine flw rfl rfl rfl ?_ | (refine flr rfl rfl rfl ?_; try simp only [List.drop_succ_cons, List.drop_zero, List.take_succ_cons, List.take_zero])) | ((with_reducible refine gfs ?_); first | refine fs rfl rfl rfl rfl rfl ?_ | refine fsw rfl rfl rfl rfl ?_ | refine fsr rfl rfl rfl rfl ?_) | (refine wpF_step (by rfl) (hne _ (by decide)) ?_; intro hn K hK; go_simp; (try go_ints); (try simp [↓IntWalk.iteOmega, go_sem]); first | (refine hK _ ?_; clear hK K hn) | (apply Exists.intro; refine ⟨fun _ => ?_, hK _ ?_⟩; (first | (go_at_call 69; with_reducible exact (HC.out _)) | fail); clear hK K hn)))); refine wpF_nil ?_; clear hm hne; intro w hm; (try simp only [famEnd, modB, splice, List.set_cons_zero, List.set_cons_succ, set_iv] at hm)) | ((with_reducible refine gix ?_); first | refine mix rfl rfl rfl rfl ?_ | refine mixr rfl rfl rfl rfl ?_; (try simp only [Int.toNat_zero, Int.reduceToNat, Nat.reduceMul, Nat.zero_mul, Nat.one_mul, List.drop_succ_cons, List.drop_zero, List.take_succ_cons, List.take_zero])) | ((with_reducible refine gl ?_); first | refine ml hm rfl rfl rfl ?_ | refine mlw hm rfl rfl rfl ?_ | (refine mlr hm rfl rfl rfl ?_; try simp only [List.drop_succ_cons, List.drop_zero, List.take_succ_cons, List.take_zero])) | ((with_reducible refine gs ?_); (first | refine ms hm rfl rfl rfl rfl rfl ?_ | refine msw hm rfl rfl rfl rfl ?_ | refine msr hm rfl rfl rfl rfl ?_); clear hm; intro w hm; (try simp only [splice, List.set_cons_zero, List.set_cons_succ] at hm)) | ((with_reducible refine gb ?_); (first | refine mem_box hm rfl rfl rfl ?_ | refine mem_box1 hm rfl rfl rfl rfl ?_); clear hm; intro n w hm) | ((with_reducible refine ga ?_); refine mem_alloc hm rfl rfl ?_; clear hm; intro n w hm) | go_values | go_skip | go_guarded | go_step | go_upon | ((with_reducible refine bp ?_); go_back) | ((with_reducible refine up ?_); first | (simp only [Int.not_lt, Int.not_le] at *; go_simp) | (go_values <;> (try go_simp)) | (go_ite <;> go_prune <;> (try go_simp)) | (split <;> (first | (rename_i hx; exact (hx _ rfl).elim) | go_prune))))
      (try simp only [Exit.inBlock, Exit.then])
      (first | (refine ret1 rfl rfl (by (first | exact Res.tmp rfl | exact Res.atw hm rfl | exact Res.at hm rfl)) ?_) | (refine ret2 rfl rfl (by (first | exact Res.tmp rfl | exact Res.atw hm rfl | exact Res.at hm rfl)) (by (first | exact Res.tmp rfl | exact Res.atw hm rfl | exact Res.at hm rfl)) ?_) | (refine ret3 rfl rfl (by (first | exact Res.tmp rfl | exact Res.atw hm rfl | exact Res.at hm rfl)) (by (first | exact Res.tmp rfl | exact Res.atw hm rfl | exact Res.at hm rfl)) (by (first | exact Res.tmp rfl | exact Res.atw hm rfl | exact Res.at hm rfl)) ?_) | (refine ret4 rfl rfl (by (first | exact Res.tmp rfl | exact Res.atw hm rfl | exact Res.at hm rfl)) (by (first | exact Res.tmp rfl | exact Res.atw hm rfl | exact Res.at hm rfl)) (by (first | exact Res.tmp rfl | exact Res.atw hm rfl | exact Res.at hm rfl)) (by (first | exact Res.tmp rfl | exact Res.atw hm rfl | exact Res.at hm rfl)) ?_) | fail "ret")
      exact ⟨rfl, hm.below⟩
/-- The checksum of bytes. -/
def sumL (l : List UInt8) : Nat := l.foldl (fun h c => (41 * h + c.toNat + 1) % 999979) 7
theorem sumL_succ {l : List UInt8} {k : Nat} (h : k < l.length) : sumL (l.take (k + 1)) = (41 * sumL (l.take k) + l[k].toNat + 1) % 999979 := by
  rw [List.take_succ_eq_append_getElem h, sumL, List.foldl_append]; rfl
theorem sumL_lt (l : List UInt8) : sumL l < 999979 := by
  rcases List.eq_nil_or_concat l with rfl | ⟨l', c, rfl⟩
  · decide
  · rw [sumL, List.concat_eq_append, List.foldl_append]
    exact Nat.mod_lt _ (by decide)
theorem spec_l1Sum (l : List UInt8) (hl : l.length ≤ 9223372036854775807) (w : World) : Calls Tryd.prog 78 #[.string (bs l)] w fun e w' => e = .returned (iv (sumL l)) ∧ Below w.heap.size w w' := by
  have hsz := bs_size l
  go_enter Tryd.func78, Tryd.ntmps78
  have hm := Mem.start w
  repeat' (first  | ((with_reducible refine gix ?_); first | refine mix rfl rfl rfl rfl ?_ | refine mixr rfl rfl rfl rfl ?_; (try simp only [Int.toNat_zero, Int.reduceToNat, Nat.reduceMul, Nat.zero_mul, Nat.one_mul, List.drop_succ_cons, List.drop_zero, List.take_succ_cons, List.take_zero])) | ((with_reducible refine gl ?_); first | refine ml hm rfl rfl rfl ?_ | refine mlw hm rfl rfl rfl ?_ | (refine mlr hm rfl rfl rfl ?_; try simp only [List.drop_succ_cons, List.drop_zero, List.take_succ_cons, List.take_zero])) | ((with_reducible refine gs ?_); (first | refine ms hm rfl rfl rfl rfl rfl ?_ | refine msw hm rfl rfl rfl rfl ?_ | refine msr hm rfl rfl rfl rfl ?_); clear hm; intro w hm; (try simp only [splice, List.set_cons_zero, List.set_cons_succ] at hm)) | ((with_reducible refine gb ?_); (first | refine mem_box hm rfl rfl rfl ?_ | refine mem_box1 hm rfl rfl rfl rfl ?_); clear hm; intro n w hm) | ((with_reducible refine ga ?_); refine mem_alloc hm rfl rfl ?_; clear hm; intro n w hm) | go_values | go_skip | go_guarded | go_step | go_upon | ((with_reducible refine bp ?_); go_back) | ((with_reducible refine up ?_); first | (simp only [Int.not_lt, Int.not_le] at *; go_simp) | (go_values <;> (try go_simp)) | (go_ite <;> go_prune <;> (try go_simp)) | (split <;> (first | (rename_i hx; exact (hx _ rfl).elim) | go_prune))))
  go_loopw [3, 4] (fun s i wr => ∃ k : Nat, k ≤ l.length ∧ i = iv k ∧ s = iv (sumL (l.take k)) ∧ Mem w wr []) (fun _ i _ => l.length - (intOf i).toNat)
  case atStart => exact ⟨0, by omega, rfl, rfl, hm⟩
  case round =>
    clear hm
    obtain ⟨k, hk, rfl, rfl, hm⟩ := hrel
    by_cases hlt : k < l.length
    · have hg := bs_get l k (by omega) hlt
      have hwr := u8_wrap l[k]
      have h8 := UInt8.toNat_lt l[k]
      have hs := sumL_lt (l.take k)
      have hn := sumL_succ hlt
      generalize sumL (l.take k) = s at *
      have HN := Lib.hid hn
      clear hn
      repeat' (first  | ((with_reducible refine gix ?_); first | refine mix rfl rfl rfl rfl ?_ | refine mixr rfl rfl rfl rfl ?_; (try simp only [Int.toNat_zero, Int.reduceToNat, Nat.reduceMul, Nat.zero_mul, Nat.one_mul, List.drop_succ_cons, List.drop_zero, List.take_succ_cons, List.take_zero])) | ((with_reducible refine gl ?_); first | refine ml hm rfl rfl rfl ?_ | refine mlw hm rfl rfl rfl ?_ | (refine mlr hm rfl rfl rfl ?_; try simp only [List.drop_succ_cons, List.drop_zero, List.take_succ_cons, List.take_zero])) | ((with_reducible refine gs ?_); (first | refine ms hm rfl rfl rfl rfl rfl ?_ | refine msw hm rfl rfl rfl rfl ?_ | refine msr hm rfl rfl rfl rfl ?_); clear hm; intro w hm; (try simp only [splice, List.set_cons_zero, List.set_cons_succ] at hm)) | ((with_reducible refine gb ?_); (first | refine mem_box hm rfl rfl rfl ?_ | refine mem_box1 hm rfl rfl rfl rfl ?_); clear hm; intro n w hm) | ((with_reducible refine ga ?_); refine mem_alloc hm rfl rfl ?_; clear hm; intro n w hm) | go_values | go_skip | go_guarded | go_step | go_upon | ((with_reducible refine bp ?_); go_back) | ((with_reducible refine up ?_); first | (simp only [Int.not_lt, Int.not_le] at *; go_simp) | (go_values <;> (try go_simp)) | (go_ite <;> go_prune <;> (try go_simp)) | (split <;> (first | (rename_i hx; exact (hx _ rfl).elim) | go_prune))))
      go_roundw
      case rel => (try (first | ((repeat apply Exists.intro); refine ⟨?_, rfl⟩) | (repeat refine ex_any ?_))); exact ⟨k + 1, by omega, by go_num, by rw [HN.out]; go_num, hm⟩
      case measure => simp [intOf]; omega
    · obtain rfl : k = l.length := by omega
      rw [List.take_length]
      repeat' (first  | ((with_reducible refine gix ?_); first | refine mix rfl rfl rfl rfl ?_ | refine mixr rfl rfl rfl rfl ?_; (try simp only [Int.toNat_zero, Int.reduceToNat, Nat.reduceMul, Nat.zero_mul, Nat.one_mul, List.drop_succ_cons, List.drop_zero, List.take_succ_cons, List.take_zero])) | ((with_reducible refine gl ?_); first | refine ml hm rfl rfl rfl ?_ | refine mlw hm rfl rfl rfl ?_ | (refine mlr hm rfl rfl rfl ?_; try simp only [List.drop_succ_cons, List.drop_zero, List.take_succ_cons, List.take_zero])) | ((with_reducible refine gs ?_); (first | refine ms hm rfl rfl rfl rfl rfl ?_ | refine msw hm rfl rfl rfl rfl ?_ | refine msr hm rfl rfl rfl rfl ?_); clear hm; intro w hm; (try simp only [splice, List.set_cons_zero, List.set_cons_succ] at hm)) | ((with_reducible refine gb ?_); (first | refine mem_box hm rfl rfl rfl ?_ | refine mem_box1 hm rfl rfl rfl rfl ?_); clear hm; intro n w hm) | ((with_reducible refine ga ?_); refine mem_alloc hm rfl rfl ?_; clear hm; intro n w hm) | go_values | go_skip | go_guarded | go_step | go_upon | ((with_reducible refine bp ?_); go_back) | ((with_reducible refine up ?_); first | (simp only [Int.not_lt, Int.not_le] at *; go_simp) | (go_values <;> (try go_simp)) | (go_ite <;> go_prune <;> (try go_simp)) | (split <;> (first | (rename_i hx; exact (hx _ rfl).elim) | go_prune))))
      (try simp only [Exit.inBlock, Exit.then])
      (first | (refine ret1 rfl rfl (by (first | exact Res.tmp rfl | exact Res.atw hm rfl | exact Res.at hm rfl)) ?_) | (refine ret2 rfl rfl (by (first | exact Res.tmp rfl | exact Res.atw hm rfl | exact Res.at hm rfl)) (by (first | exact Res.tmp rfl | exact Res.atw hm rfl | exact Res.at hm rfl)) ?_) | (refine ret3 rfl rfl (by (first | exact Res.tmp rfl | exact Res.atw hm rfl | exact Res.at hm rfl)) (by (first | exact Res.tmp rfl | exact Res.atw hm rfl | exact Res.at hm rfl)) (by (first | exact Res.tmp rfl | exact Res.atw hm rfl | exact Res.at hm rfl)) ?_) | (refine ret4 rfl rfl (by (first | exact Res.tmp rfl | exact Res.atw hm rfl | exact Res.at hm rfl)) (by (first | exact Res.tmp rfl | exact Res.atw hm rfl | exact Res.at hm rfl)) (by (first | exact Res.tmp rfl | exact Res.atw hm rfl | exact Res.at hm rfl)) (by (first | exact Res.tmp rfl | exact Res.atw hm rfl | exact Res.at hm rfl)) ?_) | fail "ret")
      exact ⟨rfl, hm.below⟩
theorem impl_Checksum (l : List UInt8) (hl : l.length ≤ 4000) (w : World) : Calls Tryd.prog 70 #[.string (bs l)] w fun e w' => e = .returned (.tuple #[iv (sumL l), .bool true]) ∧ Below w.heap.size w w' := by
  have hsz := bs_size l
  go_enter Tryd.func70, Tryd.ntmps70
  have hm := Mem.start w
  repeat' (first  | ((with_reducible refine gix ?_); first | refine mix rfl rfl rfl rfl ?_ | refine mixr rfl rfl rfl rfl ?_; (try simp only [Int.toNat_zero, Int.reduceToNat, Nat.reduceMul, Nat.zero_mul, Nat.one_mul, List.drop_succ_cons, List.drop_zero, List.take_succ_cons, List.take_zero])) | ((with_reducible refine gl ?_); first | refine ml hm rfl rfl rfl ?_ | refine mlw hm rfl rfl rfl ?_ | (refine mlr hm rfl rfl rfl ?_; try simp only [List.drop_succ_cons, List.drop_zero, List.take_succ_cons, List.take_zero])) | ((with_reducible refine gs ?_); (first | refine ms hm rfl rfl rfl rfl rfl ?_ | refine msw hm rfl rfl rfl rfl ?_ | refine msr hm rfl rfl rfl rfl ?_); clear hm; intro w hm; (try simp only [splice, List.set_cons_zero, List.set_cons_succ] at hm)) | ((with_reducible refine gb ?_); (first | refine mem_box hm rfl rfl rfl ?_ | refine mem_box1 hm rfl rfl rfl rfl ?_); clear hm; intro n w hm) | ((with_reducible refine ga ?_); refine mem_alloc hm rfl rfl ?_; clear hm; intro n w hm) | go_values | go_skip | go_guarded | go_step | go_upon | ((with_reducible refine bp ?_); go_back) | ((with_reducible refine up ?_); first | (simp only [Int.not_lt, Int.not_le] at *; go_simp) | (go_values <;> (try go_simp)) | (go_ite <;> go_prune <;> (try go_simp)) | (split <;> (first | (rename_i hx; exact (hx _ rfl).elim) | go_prune))))
  go_loopw [4, 5, 11] (fun x y i wr => ∃ k : Nat, k ≤ l.length ∧ i = iv k ∧ x = iv (sumL (l.take k)) ∧ Mem w wr []) (fun _ _ i _ => l.length - (intOf i).toNat)
  case atStart => exact ⟨0, by omega, rfl, rfl, hm⟩
  case round =>
    clear hm
    obtain ⟨k, hk, rfl, rfl, hm⟩ := hrel
    by_cases hlt : k < l.length
    · have hg := bs_get l k (by omega) hlt
      have hwr := u8_wrap l[k]
      have h8 := UInt8.toNat_lt l[k]
      have hs := sumL_lt (l.take k)
      have hn := sumL_succ hlt
      generalize sumL (l.take k) = s at *
      have HN := Lib.hid hn
      clear hn
      repeat' (first  | ((with_reducible refine gix ?_); first | refine mix rfl rfl rfl rfl ?_ | refine mixr rfl rfl rfl rfl ?_; (try simp only [Int.toNat_zero, Int.reduceToNat, Nat.reduceMul, Nat.zero_mul, Nat.one_mul, List.drop_succ_cons, List.drop_zero, List.take_succ_cons, List.take_zero])) | ((with_reducible refine gl ?_); first | refine ml hm rfl rfl rfl ?_ | refine mlw hm rfl rfl rfl ?_ | (refine mlr hm rfl rfl rfl ?_; try simp only [List.drop_succ_cons, List.drop_zero, List.take_succ_cons, List.take_zero])) | ((with_reducible refine gs ?_); (first | refine ms hm rfl rfl rfl rfl rfl ?_ | refine msw hm rfl rfl rfl rfl ?_ | refine msr hm rfl rfl rfl rfl ?_); clear hm; intro w hm; (try simp only [splice, List.set_cons_zero, List.set_cons_succ] at hm)) | ((with_reducible refine gb ?_); (first | refine mem_box hm rfl rfl rfl ?_ | refine mem_box1 hm rfl rfl rfl rfl ?_); clear hm; intro n w hm) | ((with_reducible refine ga ?_); refine mem_alloc hm rfl rfl ?_; clear hm; intro n w hm) | go_values | go_skip | go_guarded | go_step | go_upon | ((with_reducible refine bp ?_); go_back) | ((with_reducible refine up ?_); first | (simp only [Int.not_lt, Int.not_le] at *; go_simp) | (go_values <;> (try go_simp)) | (go_ite <;> go_prune <;> (try go_simp)) | (split <;> (first | (rename_i hx; exact (hx _ rfl).elim) | go_prune))))
      go_roundw
      case rel => (try (first | ((repeat apply Exists.intro); refine ⟨?_, rfl⟩) | (repeat refine ex_any ?_))); exact ⟨k + 1, by omega, by go_num, by rw [HN.out]; go_num, hm⟩
      case measure => simp [intOf]; omega
    · obtain rfl : k = l.length := by omega
      rw [List.take_length]
      repeat' (first  | ((with_reducible refine gix ?_); first | refine mix rfl rfl rfl rfl ?_ | refine mixr rfl rfl rfl rfl ?_; (try simp only [Int.toNat_zero, Int.reduceToNat, Nat.reduceMul, Nat.zero_mul, Nat.one_mul, List.drop_succ_cons, List.drop_zero, List.take_succ_cons, List.take_zero])) | ((with_reducible refine gl ?_); first | refine ml hm rfl rfl rfl ?_ | refine mlw hm rfl rfl rfl ?_ | (refine mlr hm rfl rfl rfl ?_; try simp only [List.drop_succ_cons, List.drop_zero, List.take_succ_cons, List.take_zero])) | ((with_reducible refine gs ?_); (first | refine ms hm rfl rfl rfl rfl rfl ?_ | refine msw hm rfl rfl rfl rfl ?_ | refine msr hm rfl rfl rfl rfl ?_); clear hm; intro w hm; (try simp only [splice, List.set_cons_zero, List.set_cons_succ] at hm)) | ((with_reducible refine gb ?_); (first | refine mem_box hm rfl rfl rfl ?_ | refine mem_box1 hm rfl rfl rfl rfl ?_); clear hm; intro n w hm) | ((with_reducible refine ga ?_); refine mem_alloc hm rfl rfl ?_; clear hm; intro n w hm) | go_values | go_skip | go_guarded | go_step | go_upon | ((with_reducible refine bp ?_); go_back) | ((with_reducible refine up ?_); first | (simp only [Int.not_lt, Int.not_le] at *; go_simp) | (go_values <;> (try go_simp)) | (go_ite <;> go_prune <;> (try go_simp)) | (split <;> (first | (rename_i hx; exact (hx _ rfl).elim) | go_prune))))
      (try simp only [Exit.inBlock, Exit.then])
      (first | (refine ret1 rfl rfl (by (first | exact Res.tmp rfl | exact Res.atw hm rfl | exact Res.at hm rfl)) ?_) | (refine ret2 rfl rfl (by (first | exact Res.tmp rfl | exact Res.atw hm rfl | exact Res.at hm rfl)) (by (first | exact Res.tmp rfl | exact Res.atw hm rfl | exact Res.at hm rfl)) ?_) | (refine ret3 rfl rfl (by (first | exact Res.tmp rfl | exact Res.atw hm rfl | exact Res.at hm rfl)) (by (first | exact Res.tmp rfl | exact Res.atw hm rfl | exact Res.at hm rfl)) (by (first | exact Res.tmp rfl | exact Res.atw hm rfl | exact Res.at hm rfl)) ?_) | (refine ret4 rfl rfl (by (first | exact Res.tmp rfl | exact Res.atw hm rfl | exact Res.at hm rfl)) (by (first | exact Res.tmp rfl | exact Res.atw hm rfl | exact Res.at hm rfl)) (by (first | exact Res.tmp rfl | exact Res.atw hm rfl | exact Res.at hm rfl)) (by (first | exact Res.tmp rfl | exact Res.atw hm rfl | exact Res.at hm rfl)) ?_) | fail "ret")
      exact ⟨rfl, hm.below⟩
/-- A text with its checksum. -/
def sealL (l : List UInt8) : List UInt8 := l ++ 35 :: Lib.decDigits (sumL l)
theorem dig_size {n : Nat} (h : n < 1000000) : (bs (Lib.decDigits n)).size ≤ 20 := by
  rw [bs_size, Lib.decDigits_length]
  by_cases h0 : n = 0
  · subst h0; rw [Lib.nDigits_small (by decide)]; decide
  · exact nDigits_20 (by omega) (by omega)
theorem sealL_len (l : List UInt8) : (sealL l).length ≤ l.length + 21 := by
  have := dig_size (Nat.lt_of_lt_of_le (sumL_lt l) (by decide))
  rw [bs_size] at this
  simp only [sealL, List.length_append, List.length_cons]; omega
theorem sealL_bs (l : List UInt8) : bs l ++ (⟨#[35]⟩ : ByteArray) ++ bs (Lib.decDigits (sumL l)) = bs (sealL l) := by
  rw [show (⟨#[35]⟩ : ByteArray) = bs [35] from rfl, bs_app, bs_app, sealL]
  simp
theorem spec_l1Seal (l : List UInt8) (hl : l.length ≤ 4611686018427387904) (w : World) : Calls Tryd.prog 68 #[.string (bs l)] w fun e w' => e = .returned (.string (bs (sealL l))) ∧ Below w.heap.size w w' := by
  have hS := spec_l1Sum l (by omega)
  have hlt := sumL_lt l
  have hN := spec_l1Num (sumL l) (by omega)
  have hd := dig_size (Nat.lt_of_lt_of_le hlt (by decide))
  have hx := sealL_bs l
  have hsz := bs_size l
  generalize bs (sealL l) = R at *
  generalize bs (Lib.decDigits (sumL l)) = D at *
  generalize bs l = B at *
  generalize sumL l = s at *
  have HS := Lib.hid hS
  have HN := Lib.hid hN
  have HX := Lib.hid hx
  clear hS hN hx
  go_enter Tryd.func68, Tryd.ntmps68
  have hm := Mem.start w
  repeat' (first | (go_at_call 78; refine mem_call hm (HS.out _) ?_; clear hm; intro w hm; (try simp only [nums, List.map_cons, List.map_nil])) | (go_at_call 69; refine mem_call hm (HN.out _) ?_; clear hm; intro w hm; (try simp only [nums, List.map_cons, List.map_nil])) | ((with_reducible refine gix ?_); first | refine mix rfl rfl rfl rfl ?_ | refine mixr rfl rfl rfl rfl ?_; (try simp only [Int.toNat_zero, Int.reduceToNat, Nat.reduceMul, Nat.zero_mul, Nat.one_mul, List.drop_succ_cons, List.drop_zero, List.take_succ_cons, List.take_zero])) | ((with_reducible refine gl ?_); first | refine ml hm rfl rfl rfl ?_ | refine mlw hm rfl rfl rfl ?_ | (refine mlr hm rfl rfl rfl ?_; try simp only [List.drop_succ_cons, List.drop_zero, List.take_succ_cons, List.take_zero])) | ((with_reducible refine gs ?_); (first | refine ms hm rfl rfl rfl rfl rfl ?_ | refine msw hm rfl rfl rfl rfl ?_ | refine msr hm rfl rfl rfl rfl ?_); clear hm; intro w hm; (try simp only [splice, List.set_cons_zero, List.set_cons_succ] at hm)) | ((with_reducible refine gb ?_); (first | refine mem_box hm rfl rfl rfl ?_ | refine mem_box1 hm rfl rfl rfl rfl ?_); clear hm; intro n w hm) | ((with_reducible refine ga ?_); refine mem_alloc hm rfl rfl ?_; clear hm; intro n w hm) | go_values | go_skip | go_guarded | go_step | go_upon | ((with_reducible refine bp ?_); go_back) | ((with_reducible refine up ?_); first | (simp only [Int.not_lt, Int.not_le] at *; go_simp) | (go_values <;> (try go_simp)) | (go_ite <;> go_prune <;> (try go_simp)) | (split <;> (first | (rename_i hx; exact (hx _ rfl).elim) | go_prune))))
  (try simp only [Exit.inBlock, Exit.then])
  (first | (refine ret1 rfl rfl (by (first | exact Res.tmp rfl | exact Res.atw hm rfl | exact Res.at hm rfl)) ?_) | (refine ret2 rfl rfl (by (first | exact Res.tmp rfl | exact Res.atw hm rfl | exact Res.at hm rfl)) (by (first | exact Res.tmp rfl | exact Res.atw hm rfl | exact Res.at hm rfl)) ?_) | (refine ret3 rfl rfl (by (first | exact Res.tmp rfl | exact Res.atw hm rfl | exact Res.at hm rfl)) (by (first | exact Res.tmp rfl | exact Res.atw hm rfl | exact Res.at hm rfl)) (by (first | exact Res.tmp rfl | exact Res.atw hm rfl | exact Res.at hm rfl)) ?_) | (refine ret4 rfl rfl (by (first | exact Res.tmp rfl | exact Res.atw hm rfl | exact Res.at hm rfl)) (by (first | exact Res.tmp rfl | exact Res.atw hm rfl | exact Res.at hm rfl)) (by (first | exact Res.tmp rfl | exact Res.atw hm rfl | exact Res.at hm rfl)) (by (first | exact Res.tmp rfl | exact Res.atw hm rfl | exact Res.at hm rfl)) ?_) | fail "ret")
  exact ⟨by rw [HX.out], hm.below⟩
theorem strings_Contains1 (l : List UInt8) (c : UInt8) (w : World) : Calls Tryd.prog 71 #[.string (bs l), .string ⟨#[c]⟩] w fun e w' => e = .returned (.bool (decide (c ∈ l))) ∧ Below w.heap.size w w' := by
  refine (Tryd.strings_Contains_one (bs l) c w).mono fun e w' ⟨he, hw⟩ => ⟨?_, hw ▸ Below.refl _ _⟩
  rw [he]
  have : decide (0 ≤ Lib.indexByte (bs l).data.toList c) = decide (c ∈ l) := by
    rw [show (bs l).data.toList = l by simp [bs], decide_eq_decide]
    exact index_mem l c
  rw [this]
theorem impl_AppendChecksum (l : List UInt8) (hl : l.length ≤ 3900) (h35 : (35 : UInt8) ∉ l) (w : World) (hE : Env w) : Calls Tryd.prog 49 #[.string (bs l)] w fun e w' => e = .returned (.tuple #[.string (bs (sealL l)), .bool true]) ∧ Below w.heap.size w w' := by
  have hS := impl_Checksum l (by omega)
  have hlt := sumL_lt l
  have hN := strconv_Itoa (sumL l) (by omega)
  have hC := strings_Contains1 l 35
  have hd := dig_size (Nat.lt_of_lt_of_le hlt (by decide))
  have hx := sealL_bs l
  have hsz := bs_size l
  have hsz2 := bs_size (sealL l)
  have hle := sealL_len l
  rw [show decide ((35 : UInt8) ∈ l) = false from decide_eq_false h35] at hC
  generalize bs (sealL l) = R at *
  generalize bs (Lib.decDigits (sumL l)) = D at *
  generalize bs l = B at *
  generalize sumL l = s at *
  have HS := Lib.hid hS
  have HN := Lib.hid hN
  have HC := Lib.hid hC
  clear hS hN hC h35
  go_enter Tryd.func49, Tryd.ntmps49
  have hm := Mem.start w
  repeat' (first | (go_at_call 70; refine mem_call hm (HS.out _) ?_; clear hm; intro w hm; (try simp only [nums, List.map_cons, List.map_nil])) | (go_at_call 50; refine mem_call hm (HN.out _ (hE.mem hm)) ?_; clear hm; intro w hm; (try simp only [nums, List.map_cons, List.map_nil])) | (go_at_call 71; refine mem_call hm (HC.out _) ?_; clear hm; intro w hm; (try simp only [nums, List.map_cons, List.map_nil])) | ((with_reducible refine gix ?_); first | refine mix rfl rfl rfl rfl ?_ | refine mixr rfl rfl rfl rfl ?_; (try simp only [Int.toNat_zero, Int.reduceToNat, Nat.reduceMul, Nat.zero_mul, Nat.one_mul, List.drop_succ_cons, List.drop_zero, List.take_succ_cons, List.take_zero])) | ((with_reducible refine gl ?_); first | refine ml hm rfl rfl rfl ?_ | refine mlw hm rfl rfl rfl ?_ | (refine mlr hm rfl rfl rfl ?_; try simp only [List.drop_succ_cons, List.drop_zero, List.take_succ_cons, List.take_zero])) | ((with_reducible refine gs ?_); (first | refine ms hm rfl rfl rfl rfl rfl ?_ | refine msw hm rfl rfl rfl rfl ?_ | refine msr hm rfl rfl rfl rfl ?_); clear hm; intro w hm; (try simp only [splice, List.set_cons_zero, List.set_cons_succ] at hm)) | ((with_reducible refine gb ?_); (first | refine mem_box hm rfl rfl rfl ?_ | refine mem_box1 hm rfl rfl rfl rfl ?_); clear hm; intro n w hm) | ((with_reducible refine ga ?_); refine mem_alloc hm rfl rfl ?_; clear hm; intro n w hm) | go_values | go_skip | go_guarded | go_step | go_upon | ((with_reducible refine bp ?_); go_back) | ((with_reducible refine up ?_); first | (simp only [Int.not_lt, Int.not_le] at *; go_simp) | (go_values <;> (try go_simp)) | (go_ite <;> go_prune <;> (try go_simp)) | (split <;> (first | (rename_i hx; exact (hx _ rfl).elim) | go_prune))))
  (try simp only [Exit.inBlock, Exit.then])
  (first | (refine ret1 rfl rfl (by (first | exact Res.tmp rfl | exact Res.atw hm rfl | exact Res.at hm rfl)) ?_) | (refine ret2 rfl rfl (by (first | exact Res.tmp rfl | exact Res.atw hm rfl | exact Res.at hm rfl)) (by (first | exact Res.tmp rfl | exact Res.atw hm rfl | exact Res.at hm rfl)) ?_) | (refine ret3 rfl rfl (by (first | exact Res.tmp rfl | exact Res.atw hm rfl | exact Res.at hm rfl)) (by (first | exact Res.tmp rfl | exact Res.atw hm rfl | exact Res.at hm rfl)) (by (first | exact Res.tmp rfl | exact Res.atw hm rfl | exact Res.at hm rfl)) ?_) | (refine ret4 rfl rfl (by (first | exact Res.tmp rfl | exact Res.atw hm rfl | exact Res.at hm rfl)) (by (first | exact Res.tmp rfl | exact Res.atw hm rfl | exact Res.at hm rfl)) (by (first | exact Res.tmp rfl | exact Res.atw hm rfl | exact Res.at hm rfl)) (by (first | exact Res.tmp rfl | exact Res.atw hm rfl | exact Res.at hm rfl)) ?_) | fail "ret")
  exact ⟨rfl, hm.below⟩
/-- The body of a record's encoding, and its line. -/
def bodyL (k : Nat) (c r : List UInt8) : List UInt8 := Lib.decDigits k ++ 32 :: (c ++ 64 :: r)
def lineL (k : Nat) (c r : List UInt8) : List UInt8 := sealL (bodyL k c r) ++ [10]
theorem bodyL_bs (k : Nat) (c r : List UInt8) : bs (Lib.decDigits k) ++ (⟨#[32]⟩ : ByteArray) ++ bs c ++ (⟨#[64]⟩ : ByteArray) ++ bs r = bs (bodyL k c r) := by
  rw [show (⟨#[32]⟩ : ByteArray) = bs [32] from rfl, show (⟨#[64]⟩ : ByteArray) = bs [64] from rfl, bs_app, bs_app, bs_app, bs_app, bodyL]
  simp
theorem bodyL_len {k : Nat} (hk : k < 1000000) (c r : List UInt8) : (bodyL k c r).length ≤ c.length + r.length + 22 := by
  have := dig_size hk
  rw [bs_size] at this
  simp only [bodyL, List.length_append, List.length_cons]; omega
theorem spec_l12Line (k : Nat) (hk : k < 1000000) (c r : List UInt8) (hc : c.length ≤ 160) (hr : r.length ≤ 250) (w : World) : Calls Tryd.prog 47 #[iv k, .agg #[.string (bs c), .string (bs r)]] w fun e w' => e = .returned (.string (bs (lineL k c r))) ∧ Below w.heap.size w w' := by
  have hN := spec_l1Num k (by omega)
  have hb := bodyL_len hk c r
  have hS := spec_l1Seal (bodyL k c r) (by omega)
  have hd := dig_size hk
  have h1 := bs_size c
  have h2 := bs_size r
  have hle := sealL_len (bodyL k c r)
  have h3 := bs_size (sealL (bodyL k c r))
  rw [← bodyL_bs] at hS
  have hx : bs (lineL k c r) = bs (sealL (bodyL k c r)) ++ (⟨#[10]⟩ : ByteArray) := by
    rw [show (⟨#[10]⟩ : ByteArray) = bs [10] from rfl, bs_app, lineL]
  rw [hx]
  generalize bs (sealL (bodyL k c r)) = R at *
  generalize bs (Lib.decDigits k) = D at *
  generalize bs c = C at *
  generalize bs r = Q at *
  have HS := Lib.hid hS
  have HN := Lib.hid hN
  clear hS hN hx
  go_enter Tryd.func47, Tryd.ntmps47
  have hm := Mem.start w
  repeat' (first | ((with_reducible refine gd ?_); refine mf_start (st := []) hm (by kernel_rfl) (by kernel_rfl) rfl ?_; intro hne; (repeat (first | ((with_reducible refine gfl ?_); first | refine fl rfl rfl rfl ?_ | refine flw rfl rfl rfl ?_ | (refine flr rfl rfl rfl ?_; try simp only [List.drop_succ_cons, List.drop_zero, List.take_succ_cons, List.take_zero])) | ((with_reducible refine gfs ?_); first | refine fs rfl rfl rfl rfl rfl ?_ | refine fsw rfl rfl rfl rfl ?_ | refine fsr rfl rfl rfl rfl ?_) | (refine wpF_step (by rfl) (hne _ (by decide)) ?_; intro hn K hK; go_simp; (try go_ints); (try simp [↓IntWalk.iteOmega, go_sem]); first | (refine hK _ ?_; clear hK K hn) | (apply Exists.intro; refine ⟨fun _ => ?_, hK _ ?_⟩; (first | (go_at_call 69; with_reducible exact (HN.out _)) | (go_at_call 68; with_reducible exact (HS.out _)) | fail); clear hK K hn)))); refine wpF_nil ?_; clear hm hne; intro w hm; (try simp only [famEnd, modB, splice, List.set_cons_zero, List.set_cons_succ, set_iv] at hm)) | ((with_reducible refine gix ?_); first | refine mix rfl rfl rfl rfl ?_ | refine mixr rfl rfl rfl rfl ?_; (try simp only [Int.toNat_zero, Int.reduceToNat, Nat.reduceMul, Nat.zero_mul, Nat.one_mul, List.drop_succ_cons, List.drop_zero, List.take_succ_cons, List.take_zero])) | ((with_reducible refine gl ?_); first | refine ml hm rfl rfl rfl ?_ | refine mlw hm rfl rfl rfl ?_ | (refine mlr hm rfl rfl rfl ?_; try simp only [List.drop_succ_cons, List.drop_zero, List.take_succ_cons, List.take_zero])) | ((with_reducible refine gs ?_); (first | refine ms hm rfl rfl rfl rfl rfl ?_ | refine msw hm rfl rfl rfl rfl ?_ | refine msr hm rfl rfl rfl rfl ?_); clear hm; intro w hm; (try simp only [splice, List.set_cons_zero, List.set_cons_succ] at hm)) | ((with_reducible refine gb ?_); (first | refine mem_box hm rfl rfl rfl ?_ | refine mem_box1 hm rfl rfl rfl rfl ?_); clear hm; intro n w hm) | ((with_reducible refine ga ?_); refine mem_alloc hm rfl rfl ?_; clear hm; intro n w hm) | go_values | go_skip | go_guarded | go_step | go_upon | ((with_reducible refine bp ?_); go_back) | ((with_reducible refine up ?_); first | (simp only [Int.not_lt, Int.not_le] at *; go_simp) | (go_values <;> (try go_simp)) | (go_ite <;> go_prune <;> (try go_simp)) | (split <;> (first | (rename_i hx; exact (hx _ rfl).elim) | go_prune))))
  (try simp only [Exit.inBlock, Exit.then])
  (first | (refine ret1 rfl rfl (by (first | exact Res.tmp rfl | exact Res.atw hm rfl | exact Res.at hm rfl)) ?_) | (refine ret2 rfl rfl (by (first | exact Res.tmp rfl | exact Res.atw hm rfl | exact Res.at hm rfl)) (by (first | exact Res.tmp rfl | exact Res.atw hm rfl | exact Res.at hm rfl)) ?_) | (refine ret3 rfl rfl (by (first | exact Res.tmp rfl | exact Res.atw hm rfl | exact Res.at hm rfl)) (by (first | exact Res.tmp rfl | exact Res.atw hm rfl | exact Res.at hm rfl)) (by (first | exact Res.tmp rfl | exact Res.atw hm rfl | exact Res.at hm rfl)) ?_) | (refine ret4 rfl rfl (by (first | exact Res.tmp rfl | exact Res.atw hm rfl | exact Res.at hm rfl)) (by (first | exact Res.tmp rfl | exact Res.atw hm rfl | exact Res.at hm rfl)) (by (first | exact Res.tmp rfl | exact Res.atw hm rfl | exact Res.at hm rfl)) (by (first | exact Res.tmp rfl | exact Res.atw hm rfl | exact Res.at hm rfl)) ?_) | fail "ret")
  exact ⟨rfl, hm.below⟩
theorem recB_facts {c r : List UInt8} (h : recB c r = true) : c ≠ [] ∧ c.length ≤ 160 ∧ r.length ≤ 250 ∧ (64 : UInt8) ∉ c ∧ c.all okByte = true ∧ r.all okByte = true := by
  simp only [recB, cmdB, okB, Bool.and_eq_true, Bool.not_eq_true', decide_eq_true_eq, decide_eq_false_iff_not] at h
  obtain ⟨⟨⟨h1, h2, h3⟩, h4⟩, h5, h6⟩ := h
  exact ⟨h1, h3, h6, h4, h2, h5⟩
theorem ok_no35 {l : List UInt8} (h : l.all okByte = true) : (35 : UInt8) ∉ l := fun hm => by
  have := List.all_eq_true.1 h _ hm
  exact absurd this (by decide)
theorem ok_no10 {l : List UInt8} (h : l.all okByte = true) : (10 : UInt8) ∉ l := fun hm => by
  have := List.all_eq_true.1 h _ hm
  exact absurd this (by decide)
theorem dig_mem {n : Nat} {x : UInt8} (h : x ∈ Lib.decDigits n) : 48 ≤ x.toNat ∧ x.toNat ≤ 57 := by
  induction n using Nat.strongRecOn with
  | ind n ih =>
    rw [Lib.decDigits] at h
    split at h
    · rename_i h10
      rw [List.mem_singleton] at h
      subst h
      rw [UInt8.toNat_ofNat']
      omega
    · rename_i h10
      rcases List.mem_append.1 h with h | h
      · exact ih _ (by omega) h
      · rw [List.mem_singleton] at h
        subst h
        rw [UInt8.toNat_ofNat']
        omega
theorem dig_no {n : Nat} (x : UInt8) (h : x.toNat < 48 ∨ 57 < x.toNat) : x ∉ Lib.decDigits n := fun hm => by
  have := dig_mem hm
  omega
theorem body_no35 {k : Nat} {c r : List UInt8} (h : recB c r = true) : (35 : UInt8) ∉ bodyL k c r := by
  obtain ⟨_, _, _, _, h5, h6⟩ := recB_facts h
  simp only [bodyL, List.mem_append, List.mem_cons, not_or]
  exact ⟨dig_no 35 (by decide), by decide, ok_no35 h5, by decide, ok_no35 h6⟩
theorem spec_EncodeRecord_good (k : Nat) (hk : k ≤ 59) (c r : List UInt8) (h : recB c r = true) (w : World) : Calls Tryd.prog 13 #[iv k, .agg #[.string (bs c), .string (bs r)]] w fun e w' => e = .returned (.tuple #[.string (bs (lineL k c r)), .bool true]) ∧ Below w.heap.size w w' := by
  obtain ⟨_, hc, hr, _, _, _⟩ := recB_facts h
  have hI := spec_l1In k 0 59
  rw [inB_iff.2 (show (0 : Int) ≤ k ∧ (k : Int) ≤ 59 by omega)] at hI
  have hR := spec_l12Record c r (by omega) (by omega)
  rw [h] at hR
  have hL := spec_l12Line k (by omega) c r hc hr
  generalize bs (lineL k c r) = R at *
  generalize bs c = C at *
  generalize bs r = Q at *
  have HI := Lib.hid hI
  have HR := Lib.hid hR
  have HL := Lib.hid hL
  clear hI hR hL h
  go_enter Tryd.func13, Tryd.ntmps13
  have hm := Mem.start w
  repeat' (first | (go_at_call 45; refine mem_call hm (HI.out _) ?_; clear hm; intro w hm; (try simp only [nums, List.map_cons, List.map_nil])) | (go_at_call 46; refine mem_call hm (HR.out _) ?_; clear hm; intro w hm; (try simp only [nums, List.map_cons, List.map_nil])) | (go_at_call 47; refine mem_call hm (HL.out _) ?_; clear hm; intro w hm; (try simp only [nums, List.map_cons, List.map_nil])) | ((with_reducible refine gix ?_); first | refine mix rfl rfl rfl rfl ?_ | refine mixr rfl rfl rfl rfl ?_; (try simp only [Int.toNat_zero, Int.reduceToNat, Nat.reduceMul, Nat.zero_mul, Nat.one_mul, List.drop_succ_cons, List.drop_zero, List.take_succ_cons, List.take_zero])) | ((with_reducible refine gl ?_); first | refine ml hm rfl rfl rfl ?_ | refine mlw hm rfl rfl rfl ?_ | (refine mlr hm rfl rfl rfl ?_; try simp only [List.drop_succ_cons, List.drop_zero, List.take_succ_cons, List.take_zero])) | ((with_reducible refine gs ?_); (first | refine ms hm rfl rfl rfl rfl rfl ?_ | refine msw hm rfl rfl rfl rfl ?_ | refine msr hm rfl rfl rfl rfl ?_); clear hm; intro w hm; (try simp only [splice, List.set_cons_zero, List.set_cons_succ] at hm)) | ((with_reducible refine gb ?_); (first | refine mem_box hm rfl rfl rfl ?_ | refine mem_box1 hm rfl rfl rfl rfl ?_); clear hm; intro n w hm) | ((with_reducible refine ga ?_); refine mem_alloc hm rfl rfl ?_; clear hm; intro n w hm) | go_values | go_skip | go_guarded | go_step | go_upon | ((with_reducible refine bp ?_); go_back) | ((with_reducible refine up ?_); first | (simp only [Int.not_lt, Int.not_le] at *; go_simp) | (go_values <;> (try go_simp)) | (go_ite <;> go_prune <;> (try go_simp)) | (split <;> (first | (rename_i hx; exact (hx _ rfl).elim) | go_prune))))
  (try simp only [Exit.inBlock, Exit.then])
  (first | (refine ret1 rfl rfl (by (first | exact Res.tmp rfl | exact Res.atw hm rfl | exact Res.at hm rfl)) ?_) | (refine ret2 rfl rfl (by (first | exact Res.tmp rfl | exact Res.atw hm rfl | exact Res.at hm rfl)) (by (first | exact Res.tmp rfl | exact Res.atw hm rfl | exact Res.at hm rfl)) ?_) | (refine ret3 rfl rfl (by (first | exact Res.tmp rfl | exact Res.atw hm rfl | exact Res.at hm rfl)) (by (first | exact Res.tmp rfl | exact Res.atw hm rfl | exact Res.at hm rfl)) (by (first | exact Res.tmp rfl | exact Res.atw hm rfl | exact Res.at hm rfl)) ?_) | (refine ret4 rfl rfl (by (first | exact Res.tmp rfl | exact Res.atw hm rfl | exact Res.at hm rfl)) (by (first | exact Res.tmp rfl | exact Res.atw hm rfl | exact Res.at hm rfl)) (by (first | exact Res.tmp rfl | exact Res.atw hm rfl | exact Res.at hm rfl)) (by (first | exact Res.tmp rfl | exact Res.atw hm rfl | exact Res.at hm rfl)) ?_) | fail "ret")
  exact ⟨rfl, hm.below⟩
theorem spec_EncodeRecord_bad (k : Int) (c r : List UInt8) (hc : c.length ≤ 9223372036854775807) (hr : r.length ≤ 9223372036854775807) (h : (inB k 0 59 && recB c r) = false) (w : World) : Calls Tryd.prog 13 #[iv k, .agg #[.string (bs c), .string (bs r)]] w fun e w' => e = .returned (.tuple #[.string (bs []), .bool false]) ∧ Below w.heap.size w w' := by
  have hI := spec_l1In k 0 59
  have hR := spec_l12Record c r hc hr
  generalize inB k 0 59 = q1 at *
  generalize recB c r = q2 at *
  generalize bs c = C at *
  generalize bs r = Q at *
  cases q1 <;> cases q2
  case true.true => simp at h
  all_goals
    have HI := Lib.hid hI
    have HR := Lib.hid hR
    clear hI hR h
    go_enter Tryd.func13, Tryd.ntmps13
    have hm := Mem.start w
    repeat' (first | (go_at_call 45; refine mem_call hm (HI.out _) ?_; clear hm; intro w hm; (try simp only [nums, List.map_cons, List.map_nil])) | (go_at_call 46; refine mem_call hm (HR.out _) ?_; clear hm; intro w hm; (try simp only [nums, List.map_cons, List.map_nil])) | ((with_reducible refine gix ?_); first | refine mix rfl rfl rfl rfl ?_ | refine mixr rfl rfl rfl rfl ?_; (try simp only [Int.toNat_zero, Int.reduceToNat, Nat.reduceMul, Nat.zero_mul, Nat.one_mul, List.drop_succ_cons, List.drop_zero, List.take_succ_cons, List.take_zero])) | ((with_reducible refine gl ?_); first | refine ml hm rfl rfl rfl ?_ | refine mlw hm rfl rfl rfl ?_ | (refine mlr hm rfl rfl rfl ?_; try simp only [List.drop_succ_cons, List.drop_zero, List.take_succ_cons, List.take_zero])) | ((with_reducible refine gs ?_); (first | refine ms hm rfl rfl rfl rfl rfl ?_ | refine msw hm rfl rfl rfl rfl ?_ | refine msr hm rfl rfl rfl rfl ?_); clear hm; intro w hm; (try simp only [splice, List.set_cons_zero, List.set_cons_succ] at hm)) | ((with_reducible refine gb ?_); (first | refine mem_box hm rfl rfl rfl ?_ | refine mem_box1 hm rfl rfl rfl rfl ?_); clear hm; intro n w hm) | ((with_reducible refine ga ?_); refine mem_alloc hm rfl rfl ?_; clear hm; intro n w hm) | go_values | go_skip | go_guarded | go_step | go_upon | ((with_reducible refine bp ?_); go_back) | ((with_reducible refine up ?_); first | (simp only [Int.not_lt, Int.not_le] at *; go_simp) | (go_values <;> (try go_simp)) | (go_ite <;> go_prune <;> (try go_simp)) | (split <;> (first | (rename_i hx; exact (hx _ rfl).elim) | go_prune))))
    (try simp only [Exit.inBlock, Exit.then])
    (first | (refine ret1 rfl rfl (by (first | exact Res.tmp rfl | exact Res.atw hm rfl | exact Res.at hm rfl)) ?_) | (refine ret2 rfl rfl (by (first | exact Res.tmp rfl | exact Res.atw hm rfl | exact Res.at hm rfl)) (by (first | exact Res.tmp rfl | exact Res.atw hm rfl | exact Res.at hm rfl)) ?_) | (refine ret3 rfl rfl (by (first | exact Res.tmp rfl | exact Res.atw hm rfl | exact Res.at hm rfl)) (by (first | exact Res.tmp rfl | exact Res.atw hm rfl | exact Res.at hm rfl)) (by (first | exact Res.tmp rfl | exact Res.atw hm rfl | exact Res.at hm rfl)) ?_) | (refine ret4 rfl rfl (by (first | exact Res.tmp rfl | exact Res.atw hm rfl | exact Res.at hm rfl)) (by (first | exact Res.tmp rfl | exact Res.atw hm rfl | exact Res.at hm rfl)) (by (first | exact Res.tmp rfl | exact Res.atw hm rfl | exact Res.at hm rfl)) (by (first | exact Res.tmp rfl | exact Res.atw hm rfl | exact Res.at hm rfl)) ?_) | fail "ret")
    exact ⟨rfl, hm.below⟩
theorem impl_EncodeRecord_bad (k : Int) (c r : List UInt8) (hc : c.length ≤ 9223372036854775807) (hr : r.length ≤ 9223372036854775807) (h : (inB k 0 59 && recB c r) = false) (w : World) : Calls Tryd.prog 15 #[iv k, .agg #[.string (bs c), .string (bs r)]] w fun e w' => e = .returned (.tuple #[.string (bs []), .bool false]) ∧ Below w.heap.size w w' := by
  have hI := impl_in k 0 59
  have hR := impl_IsValidRecord c r hc hr
  generalize inB k 0 59 = q1 at *
  generalize recB c r = q2 at *
  generalize bs c = C at *
  generalize bs r = Q at *
  cases q1 <;> cases q2
  case true.true => simp at h
  all_goals
    have HI := Lib.hid hI
    have HR := Lib.hid hR
    clear hI hR h
    go_enter Tryd.func15, Tryd.ntmps15
    have hm := Mem.start w
    repeat' (first | (go_at_call 48; refine mem_call hm (HI.out _) ?_; clear hm; intro w hm; (try simp only [nums, List.map_cons, List.map_nil])) | (go_at_call 40; refine mem_call hm (HR.out _) ?_; clear hm; intro w hm; (try simp only [nums, List.map_cons, List.map_nil])) | ((with_reducible refine gix ?_); first | refine mix rfl rfl rfl rfl ?_ | refine mixr rfl rfl rfl rfl ?_; (try simp only [Int.toNat_zero, Int.reduceToNat, Nat.reduceMul, Nat.zero_mul, Nat.one_mul, List.drop_succ_cons, List.drop_zero, List.take_succ_cons, List.take_zero])) | ((with_reducible refine gl ?_); first | refine ml hm rfl rfl rfl ?_ | refine mlw hm rfl rfl rfl ?_ | (refine mlr hm rfl rfl rfl ?_; try simp only [List.drop_succ_cons, List.drop_zero, List.take_succ_cons, List.take_zero])) | ((with_reducible refine gs ?_); (first | refine ms hm rfl rfl rfl rfl rfl ?_ | refine msw hm rfl rfl rfl rfl ?_ | refine msr hm rfl rfl rfl rfl ?_); clear hm; intro w hm; (try simp only [splice, List.set_cons_zero, List.set_cons_succ] at hm)) | ((with_reducible refine gb ?_); (first | refine mem_box hm rfl rfl rfl ?_ | refine mem_box1 hm rfl rfl rfl rfl ?_); clear hm; intro n w hm) | ((with_reducible refine ga ?_); refine mem_alloc hm rfl rfl ?_; clear hm; intro n w hm) | go_values | go_skip | go_guarded | go_step | go_upon | ((with_reducible refine bp ?_); go_back) | ((with_reducible refine up ?_); first | (simp only [Int.not_lt, Int.not_le] at *; go_simp) | (go_values <;> (try go_simp)) | (go_ite <;> go_prune <;> (try go_simp)) | (split <;> (first | (rename_i hx; exact (hx _ rfl).elim) | go_prune))))
    (try simp only [Exit.inBlock, Exit.then])
    (first | (refine ret1 rfl rfl (by (first | exact Res.tmp rfl | exact Res.atw hm rfl | exact Res.at hm rfl)) ?_) | (refine ret2 rfl rfl (by (first | exact Res.tmp rfl | exact Res.atw hm rfl | exact Res.at hm rfl)) (by (first | exact Res.tmp rfl | exact Res.atw hm rfl | exact Res.at hm rfl)) ?_) | (refine ret3 rfl rfl (by (first | exact Res.tmp rfl | exact Res.atw hm rfl | exact Res.at hm rfl)) (by (first | exact Res.tmp rfl | exact Res.atw hm rfl | exact Res.at hm rfl)) (by (first | exact Res.tmp rfl | exact Res.atw hm rfl | exact Res.at hm rfl)) ?_) | (refine ret4 rfl rfl (by (first | exact Res.tmp rfl | exact Res.atw hm rfl | exact Res.at hm rfl)) (by (first | exact Res.tmp rfl | exact Res.atw hm rfl | exact Res.at hm rfl)) (by (first | exact Res.tmp rfl | exact Res.atw hm rfl | exact Res.at hm rfl)) (by (first | exact Res.tmp rfl | exact Res.atw hm rfl | exact Res.at hm rfl)) ?_) | fail "ret")
    exact ⟨rfl, hm.below⟩
theorem impl_EncodeRecord_good (k : Nat) (hk : k ≤ 59) (c r : List UInt8) (h : recB c r = true) (w : World) (hE : Env w) : Calls Tryd.prog 15 #[iv k, .agg #[.string (bs c), .string (bs r)]] w fun e w' => e = .returned (.tuple #[.string (bs (lineL k c r)), .bool true]) ∧ Below w.heap.size w w' := by
  obtain ⟨_, hc, hr, _, _, _⟩ := recB_facts h
  have hI := impl_in k 0 59
  rw [inB_iff.2 (show (0 : Int) ≤ k ∧ (k : Int) ≤ 59 by omega)] at hI
  have hR := impl_IsValidRecord c r (by omega) (by omega)
  rw [h] at hR
  have hb := bodyL_len (k := k) (by omega) c r
  have hL := impl_AppendChecksum (bodyL k c r) (by omega) (body_no35 h)
  have hL := fun (w' : World) (σ : List Blk) (hm : Mem w w' σ) => hL w' (hE.mem hm)
  have hN := fun (w' : World) (σ : List Blk) (hm : Mem w w' σ) => strconv_Itoa k (by omega) w' (hE.mem hm)
  have hd := dig_size (n := k) (by omega)
  have h1 := bs_size c
  have h2 := bs_size r
  have hle := sealL_len (bodyL k c r)
  have h3 := bs_size (sealL (bodyL k c r))
  rw [← bodyL_bs] at hL
  have hx : bs (lineL k c r) = bs (sealL (bodyL k c r)) ++ (⟨#[10]⟩ : ByteArray) := by
    rw [show (⟨#[10]⟩ : ByteArray) = bs [10] from rfl, bs_app, lineL]
  rw [hx]
  generalize bs (sealL (bodyL k c r)) = R at *
  generalize bs (Lib.decDigits k) = D at *
  generalize bs c = C at *
  generalize bs r = Q at *
  have HI := Lib.hid hI
  have HR := Lib.hid hR
  have HL := Lib.hid hL
  have HN := Lib.hid hN
  clear hI hR hL hN h hx
  go_enter Tryd.func15, Tryd.ntmps15
  have hm := Mem.start w
  repeat' (first | (go_at_call 48; refine mem_call hm (HI.out _) ?_; clear hm; intro w hm; (try simp only [nums, List.map_cons, List.map_nil])) | (go_at_call 40; refine mem_call hm (HR.out _) ?_; clear hm; intro w hm; (try simp only [nums, List.map_cons, List.map_nil])) | ((with_reducible refine gd ?_); refine mf_start (st := []) hm (by kernel_rfl) (by kernel_rfl) rfl ?_; intro hne; (repeat (first | ((with_reducible refine gfl ?_); first | refine fl rfl rfl rfl ?_ | refine flw rfl rfl rfl ?_ | (refine flr rfl rfl rfl ?_; try simp only [List.drop_succ_cons, List.drop_zero, List.take_succ_cons, List.take_zero])) | ((with_reducible refine gfs ?_); first | refine fs rfl rfl rfl rfl rfl ?_ | refine fsw rfl rfl rfl rfl ?_ | refine fsr rfl rfl rfl rfl ?_) | (refine wpF_step (by rfl) (hne _ (by decide)) ?_; intro hn K hK; go_simp; (try go_ints); (try simp [↓IntWalk.iteOmega, go_sem]); first | (refine hK _ ?_; clear hK K hn) | (apply Exists.intro; refine ⟨fun _ => ?_, hK _ ?_⟩; (first | (go_at_call 50; exact (HN.out _ _ (FW.h _))) | (go_at_call 49; exact (HL.out _ _ (FW.h _))) | fail); clear hK K hn)))); refine wpF_nil ?_; clear hm hne; intro w hm; (try simp only [famEnd, modB, splice, List.set_cons_zero, List.set_cons_succ, set_iv] at hm)) | ((with_reducible refine gix ?_); first | refine mix rfl rfl rfl rfl ?_ | refine mixr rfl rfl rfl rfl ?_; (try simp only [Int.toNat_zero, Int.reduceToNat, Nat.reduceMul, Nat.zero_mul, Nat.one_mul, List.drop_succ_cons, List.drop_zero, List.take_succ_cons, List.take_zero])) | ((with_reducible refine gl ?_); first | refine ml hm rfl rfl rfl ?_ | refine mlw hm rfl rfl rfl ?_ | (refine mlr hm rfl rfl rfl ?_; try simp only [List.drop_succ_cons, List.drop_zero, List.take_succ_cons, List.take_zero])) | ((with_reducible refine gs ?_); (first | refine ms hm rfl rfl rfl rfl rfl ?_ | refine msw hm rfl rfl rfl rfl ?_ | refine msr hm rfl rfl rfl rfl ?_); clear hm; intro w hm; (try simp only [splice, List.set_cons_zero, List.set_cons_succ] at hm)) | ((with_reducible refine gb ?_); (first | refine mem_box hm rfl rfl rfl ?_ | refine mem_box1 hm rfl rfl rfl rfl ?_); clear hm; intro n w hm) | ((with_reducible refine ga ?_); refine mem_alloc hm rfl rfl ?_; clear hm; intro n w hm) | go_values | go_skip | go_guarded | go_step | go_upon | ((with_reducible refine bp ?_); go_back) | ((with_reducible refine up ?_); first | (simp only [Int.not_lt, Int.not_le] at *; go_simp) | (go_values <;> (try go_simp)) | (go_ite <;> go_prune <;> (try go_simp)) | (split <;> (first | (rename_i hx; exact (hx _ rfl).elim) | go_prune))))
  (try simp only [Exit.inBlock, Exit.then])
  (first | (refine ret1 rfl rfl (by (first | exact Res.tmp rfl | exact Res.atw hm rfl | exact Res.at hm rfl)) ?_) | (refine ret2 rfl rfl (by (first | exact Res.tmp rfl | exact Res.atw hm rfl | exact Res.at hm rfl)) (by (first | exact Res.tmp rfl | exact Res.atw hm rfl | exact Res.at hm rfl)) ?_) | (refine ret3 rfl rfl (by (first | exact Res.tmp rfl | exact Res.atw hm rfl | exact Res.at hm rfl)) (by (first | exact Res.tmp rfl | exact Res.atw hm rfl | exact Res.at hm rfl)) (by (first | exact Res.tmp rfl | exact Res.atw hm rfl | exact Res.at hm rfl)) ?_) | (refine ret4 rfl rfl (by (first | exact Res.tmp rfl | exact Res.atw hm rfl | exact Res.at hm rfl)) (by (first | exact Res.tmp rfl | exact Res.atw hm rfl | exact Res.at hm rfl)) (by (first | exact Res.tmp rfl | exact Res.atw hm rfl | exact Res.at hm rfl)) (by (first | exact Res.tmp rfl | exact Res.atw hm rfl | exact Res.at hm rfl)) ?_) | fail "ret")
  exact ⟨rfl, hm.below⟩
end Go.Proofs.YtjmolkamaeonmaaDoor

/-
  Walks of CommonMoves: the library's deletion by a predicate, over numbers, with a closure that reads a block.
-/
import Derived.Test.YtlhchjjegaflhaaMoves
import Derived.Test.YtlhchjjegaflhaaDel
set_option linter.unusedVariables false
set_option linter.unusedSimpArgs false
namespace Go.Proofs.Ytlhchjjegaflhaa
open Go.RowKit Slm
theorem ixF_common {w0 w : World} {σ : List Blk} {g i len cap : Nat} {xs : List Int} {more : List Value} {cp : Value} (hm : Mem w0 w σ) [At σ g (xs.map iv ++ more) 3 i] (hx : xs.length = len) (hl : len ≤ 1000000) (p : Int → Bool)
    (hp : ∀ x ∈ xs, ∀ wr σ', (∀ bk ∈ σ, bk ∈ σ') → Mem w0 wr σ' → Calls Try.prog 69 #[iv x, cp] wr fun e w' => e = .returned (.bool (p x)) ∧ Mem w0 w' σ') :
    Calls Try.prog 100 #[.slice (some ⟨g, 0, none⟩) len cap, .func (.func 69) #[] #[cp]] w fun e w' => e = .returned (iv (ixZ p xs)) ∧ Mem w0 w' σ := by
  go_enter Try.func100, Try.ntmps100
  have HP := Lib.hid hp
  clear hp
  repeat' (first  | ((with_reducible refine gix ?_); first | refine mix rfl rfl rfl rfl ?_ | refine mixr rfl rfl rfl rfl ?_; (try simp only [Int.toNat_zero, Int.reduceToNat, Nat.reduceMul, Nat.zero_mul, Nat.one_mul, List.drop_succ_cons, List.drop_zero, List.take_succ_cons, List.take_zero])) | ((with_reducible refine gl ?_); first | refine ml hm rfl rfl rfl ?_ | refine mlw hm rfl rfl rfl ?_ | (refine mlr hm rfl rfl rfl ?_; try simp only [List.drop_succ_cons, List.drop_zero, List.take_succ_cons, List.take_zero])) | ((with_reducible refine gs ?_); (first | refine ms hm rfl rfl rfl rfl rfl ?_ | refine msw hm rfl rfl rfl rfl ?_ | refine msr hm rfl rfl rfl rfl ?_); clear hm; intro w hm; (try simp only [splice, List.set_cons_zero, List.set_cons_succ] at hm)) | ((with_reducible refine gb ?_); (first | refine mem_box hm rfl rfl rfl ?_ | refine mem_box1 hm rfl rfl rfl rfl ?_); clear hm; intro n w hm) | ((with_reducible refine ga ?_); refine mem_alloc hm rfl rfl ?_; clear hm; intro n w hm) | go_values | go_skip | go_guarded | go_step | go_upon | ((with_reducible refine bp ?_); go_back) | ((with_reducible refine up ?_); first | (simp only [Int.not_lt, Int.not_le] at *; go_simp) | (go_values <;> (try go_simp)) | (go_ite <;> go_prune <;> (try go_simp)) | (split <;> (first | (rename_i hx; exact (hx _ rfl).elim) | go_prune))))
  go_loopw [8] (fun i wr => ∃ k : Nat, k ≤ len ∧ i = iv k ∧ (∀ j (h : j < k) (h' : j < xs.length), p xs[j] = false) ∧ Mem w0 wr σ) (fun i _ => len - (intOf i).toNat)
  case atStart => exact ⟨0, by omega, rfl, by intro j h; omega, hm⟩
  case round =>
    clear hm
    obtain ⟨k, hk, rfl, hall, hm⟩ := hrel
    have HA := Lib.hid hall
    clear hall
    by_cases hlt : k < len
    · have hk' : k < xs.length := by omega
      have hv : (xs.map iv ++ more)[k]? = some (iv xs[k]) := by rw [List.getElem?_append_left (by simpa using hk'), List.getElem?_map, List.getElem?_eq_getElem hk']; rfl
      have hmem : xs[k] ∈ xs := List.getElem_mem hk'
      generalize hq : xs[k] = x at hv hmem
      cases hpx : p x
      · have HX := Lib.hid hpx
        repeat' (first | (go_at_call 69; refine mem_callM (HP.out _ hmem _ _ (fun _ h => by simp [h]) hm) ?_; clear hm; intro w hm; simp only [HX.out]) | ((with_reducible refine gix ?_); first | refine mix rfl rfl rfl rfl ?_ | refine mixr rfl rfl rfl rfl ?_; (try simp only [Int.toNat_zero, Int.reduceToNat, Nat.reduceMul, Nat.zero_mul, Nat.one_mul, List.drop_succ_cons, List.drop_zero, List.take_succ_cons, List.take_zero])) | ((with_reducible refine gl ?_); first | refine ml hm rfl rfl rfl ?_ | refine mlw hm rfl rfl rfl ?_ | (refine mlr hm rfl rfl rfl ?_; try simp only [List.drop_succ_cons, List.drop_zero, List.take_succ_cons, List.take_zero])) | ((with_reducible refine gs ?_); (first | refine ms hm rfl rfl rfl rfl rfl ?_ | refine msw hm rfl rfl rfl rfl ?_ | refine msr hm rfl rfl rfl rfl ?_); clear hm; intro w hm; (try simp only [splice, List.set_cons_zero, List.set_cons_succ] at hm)) | ((with_reducible refine gb ?_); (first | refine mem_box hm rfl rfl rfl ?_ | refine mem_box1 hm rfl rfl rfl rfl ?_); clear hm; intro n w hm) | ((with_reducible refine ga ?_); refine mem_alloc hm rfl rfl ?_; clear hm; intro n w hm) | go_values | go_skip | go_guarded | go_step | go_upon | ((with_reducible refine bp ?_); go_back) | ((with_reducible refine up ?_); first | (simp only [Int.not_lt, Int.not_le] at *; go_simp) | (go_values <;> (try go_simp)) | (go_ite <;> go_prune <;> (try go_simp)) | (split <;> (first | (rename_i hx; exact (hx _ rfl).elim) | go_prune))))
        go_roundw
        case rel =>
          refine ⟨k + 1, by omega, by go_num, fun j h h' => ?_, hm⟩
          by_cases hj : j = k
          · subst hj; rw [hq]; exact HX.out
          · exact HA.out j (by omega) h'
        case measure => simp [intOf]; omega
      · have HX := Lib.hid hpx
        repeat' (first | (go_at_call 69; refine mem_callM (HP.out _ hmem _ _ (fun _ h => by simp [h]) hm) ?_; clear hm; intro w hm; simp only [HX.out]) | ((with_reducible refine gix ?_); first | refine mix rfl rfl rfl rfl ?_ | refine mixr rfl rfl rfl rfl ?_; (try simp only [Int.toNat_zero, Int.reduceToNat, Nat.reduceMul, Nat.zero_mul, Nat.one_mul, List.drop_succ_cons, List.drop_zero, List.take_succ_cons, List.take_zero])) | ((with_reducible refine gl ?_); first | refine ml hm rfl rfl rfl ?_ | refine mlw hm rfl rfl rfl ?_ | (refine mlr hm rfl rfl rfl ?_; try simp only [List.drop_succ_cons, List.drop_zero, List.take_succ_cons, List.take_zero])) | ((with_reducible refine gs ?_); (first | refine ms hm rfl rfl rfl rfl rfl ?_ | refine msw hm rfl rfl rfl rfl ?_ | refine msr hm rfl rfl rfl rfl ?_); clear hm; intro w hm; (try simp only [splice, List.set_cons_zero, List.set_cons_succ] at hm)) | ((with_reducible refine gb ?_); (first | refine mem_box hm rfl rfl rfl ?_ | refine mem_box1 hm rfl rfl rfl rfl ?_); clear hm; intro n w hm) | ((with_reducible refine ga ?_); refine mem_alloc hm rfl rfl ?_; clear hm; intro n w hm) | go_values | go_skip | go_guarded | go_step | go_upon | ((with_reducible refine bp ?_); go_back) | ((with_reducible refine up ?_); first | (simp only [Int.not_lt, Int.not_le] at *; go_simp) | (go_values <;> (try go_simp)) | (go_ite <;> go_prune <;> (try go_simp)) | (split <;> (first | (rename_i hx; exact (hx _ rfl).elim) | go_prune))))
        (try simp only [Exit.inBlock, Exit.then])
        (first | (refine ret1 rfl rfl (by (first | exact Res.tmp rfl | exact Res.atw hm rfl | exact Res.at hm rfl)) ?_) | (refine ret2 rfl rfl (by (first | exact Res.tmp rfl | exact Res.atw hm rfl | exact Res.at hm rfl)) (by (first | exact Res.tmp rfl | exact Res.atw hm rfl | exact Res.at hm rfl)) ?_) | (refine ret3 rfl rfl (by (first | exact Res.tmp rfl | exact Res.atw hm rfl | exact Res.at hm rfl)) (by (first | exact Res.tmp rfl | exact Res.atw hm rfl | exact Res.at hm rfl)) (by (first | exact Res.tmp rfl | exact Res.atw hm rfl | exact Res.at hm rfl)) ?_) | (refine ret4 rfl rfl (by (first | exact Res.tmp rfl | exact Res.atw hm rfl | exact Res.at hm rfl)) (by (first | exact Res.tmp rfl | exact Res.atw hm rfl | exact Res.at hm rfl)) (by (first | exact Res.tmp rfl | exact Res.atw hm rfl | exact Res.at hm rfl)) (by (first | exact Res.tmp rfl | exact Res.atw hm rfl | exact Res.at hm rfl)) ?_) | fail "ret")
        exact ⟨ret_iv (ixZ_here hk' (by rw [hq]; exact HX.out) (fun j h => HA.out j h _)).symm, hm⟩
    · have : k = len := by omega
      subst this
      repeat' (first  | ((with_reducible refine gix ?_); first | refine mix rfl rfl rfl rfl ?_ | refine mixr rfl rfl rfl rfl ?_; (try simp only [Int.toNat_zero, Int.reduceToNat, Nat.reduceMul, Nat.zero_mul, Nat.one_mul, List.drop_succ_cons, List.drop_zero, List.take_succ_cons, List.take_zero])) | ((with_reducible refine gl ?_); first | refine ml hm rfl rfl rfl ?_ | refine mlw hm rfl rfl rfl ?_ | (refine mlr hm rfl rfl rfl ?_; try simp only [List.drop_succ_cons, List.drop_zero, List.take_succ_cons, List.take_zero])) | ((with_reducible refine gs ?_); (first | refine ms hm rfl rfl rfl rfl rfl ?_ | refine msw hm rfl rfl rfl rfl ?_ | refine msr hm rfl rfl rfl rfl ?_); clear hm; intro w hm; (try simp only [splice, List.set_cons_zero, List.set_cons_succ] at hm)) | ((with_reducible refine gb ?_); (first | refine mem_box hm rfl rfl rfl ?_ | refine mem_box1 hm rfl rfl rfl rfl ?_); clear hm; intro n w hm) | ((with_reducible refine ga ?_); refine mem_alloc hm rfl rfl ?_; clear hm; intro n w hm) | go_values | go_skip | go_guarded | go_step | go_upon | ((with_reducible refine bp ?_); go_back) | ((with_reducible refine up ?_); first | (simp only [Int.not_lt, Int.not_le] at *; go_simp) | (go_values <;> (try go_simp)) | (go_ite <;> go_prune <;> (try go_simp)) | (split <;> (first | (rename_i hx; exact (hx _ rfl).elim) | go_prune))))
      (try simp only [Exit.inBlock, Exit.then])
      (first | (refine ret1 rfl rfl (by (first | exact Res.tmp rfl | exact Res.atw hm rfl | exact Res.at hm rfl)) ?_) | (refine ret2 rfl rfl (by (first | exact Res.tmp rfl | exact Res.atw hm rfl | exact Res.at hm rfl)) (by (first | exact Res.tmp rfl | exact Res.atw hm rfl | exact Res.at hm rfl)) ?_) | (refine ret3 rfl rfl (by (first | exact Res.tmp rfl | exact Res.atw hm rfl | exact Res.at hm rfl)) (by (first | exact Res.tmp rfl | exact Res.atw hm rfl | exact Res.at hm rfl)) (by (first | exact Res.tmp rfl | exact Res.atw hm rfl | exact Res.at hm rfl)) ?_) | (refine ret4 rfl rfl (by (first | exact Res.tmp rfl | exact Res.atw hm rfl | exact Res.at hm rfl)) (by (first | exact Res.tmp rfl | exact Res.atw hm rfl | exact Res.at hm rfl)) (by (first | exact Res.tmp rfl | exact Res.atw hm rfl | exact Res.at hm rfl)) (by (first | exact Res.tmp rfl | exact Res.atw hm rfl | exact Res.at hm rfl)) ?_) | fail "ret")
      exact ⟨ret_iv (ixZ_none (fun j h => HA.out j (by omega) h)).symm, hm⟩
set_option maxHeartbeats 1000000 in
theorem delF_common {w0 w : World} {σ : List Blk} {g len cap : Nat} {xs : List Int} {more : List Value} {cp : Value} (hm : Mem w0 w (⟨g, xs.map iv ++ more, 3⟩ :: σ)) (hf : Fit (xs.map iv ++ more) 1 len cap) (hx : xs.length = len) (hl : len ≤ 1000000) (p : Int → Bool)
    (hp : ∀ x ∈ xs, ∀ wr σ', (∀ bk ∈ σ, bk ∈ σ') → Mem w0 wr σ' → Calls Try.prog 69 #[iv x, cp] wr fun e w' => e = .returned (.bool (p x)) ∧ Mem w0 w' σ') :
    Calls Try.prog 68 #[.slice (some ⟨g, 0, none⟩) len cap, .func (.func 69) #[] #[cp]] w fun e w' => ∃ v, e = .returned v ∧ Sl w0 w' v 3 1 ((xs.filter fun x => !p x).map iv) σ := by
  go_enter Try.func68, Try.ntmps68
  have hI := fun (w : World) (hm : Mem w0 w (⟨g, xs.map iv ++ more, 3⟩ :: σ)) => ixF_common (g := g) (more := more) (cap := cap) hm hx hl p (fun x hxm wr σ' h hm => hp x hxm wr σ' (fun b hb => h b (.tail _ hb)) hm)
  have hsz := hf.size
  have hle := hf.le
  have hmost := hf.most
  simp only [List.length_append, List.length_map] at hsz
  have HP := Lib.hid hp
  clear hp
  have HF := Lib.hid hf
  clear hf
  rcases ixZ_cases p xs with ⟨h1, h2⟩ | ⟨k, hk, h1, hpk, h2⟩
  · rw [h1] at hI
    have HI := Lib.hid hI
    have H2 := Lib.hid h2
    clear hI h1 h2
    repeat' (first | (go_at_call 100; refine mem_callM (HI.out _ hm) ?_; clear hm; intro w hm; (try simp only [])) | ((with_reducible refine gix ?_); first | refine mix rfl rfl rfl rfl ?_ | refine mixr rfl rfl rfl rfl ?_; (try simp only [Int.toNat_zero, Int.reduceToNat, Nat.reduceMul, Nat.zero_mul, Nat.one_mul, List.drop_succ_cons, List.drop_zero, List.take_succ_cons, List.take_zero])) | ((with_reducible refine gl ?_); first | refine ml hm rfl rfl rfl ?_ | refine mlw hm rfl rfl rfl ?_ | (refine mlr hm rfl rfl rfl ?_; try simp only [List.drop_succ_cons, List.drop_zero, List.take_succ_cons, List.take_zero])) | ((with_reducible refine gs ?_); (first | refine ms hm rfl rfl rfl rfl rfl ?_ | refine msw hm rfl rfl rfl rfl ?_ | refine msr hm rfl rfl rfl rfl ?_); clear hm; intro w hm; (try simp only [splice, List.set_cons_zero, List.set_cons_succ] at hm)) | ((with_reducible refine gb ?_); (first | refine mem_box hm rfl rfl rfl ?_ | refine mem_box1 hm rfl rfl rfl rfl ?_); clear hm; intro n w hm) | ((with_reducible refine ga ?_); refine mem_alloc hm rfl rfl ?_; clear hm; intro n w hm) | go_values | go_skip | go_guarded | go_step | go_upon | ((with_reducible refine bp ?_); go_back) | ((with_reducible refine up ?_); first | (simp only [Int.not_lt, Int.not_le] at *; go_simp) | (go_values <;> (try go_simp)) | (go_ite <;> go_prune <;> (try go_simp)) | (split <;> (first | (rename_i hx; exact (hx _ rfl).elim) | go_prune))))
    (try simp only [Exit.inBlock, Exit.then])
    (first | (refine ret1 rfl rfl (by (first | exact Res.tmp rfl | exact Res.atw hm rfl | exact Res.at hm rfl)) ?_) | (refine ret2 rfl rfl (by (first | exact Res.tmp rfl | exact Res.atw hm rfl | exact Res.at hm rfl)) (by (first | exact Res.tmp rfl | exact Res.atw hm rfl | exact Res.at hm rfl)) ?_) | (refine ret3 rfl rfl (by (first | exact Res.tmp rfl | exact Res.atw hm rfl | exact Res.at hm rfl)) (by (first | exact Res.tmp rfl | exact Res.atw hm rfl | exact Res.at hm rfl)) (by (first | exact Res.tmp rfl | exact Res.atw hm rfl | exact Res.at hm rfl)) ?_) | (refine ret4 rfl rfl (by (first | exact Res.tmp rfl | exact Res.atw hm rfl | exact Res.at hm rfl)) (by (first | exact Res.tmp rfl | exact Res.atw hm rfl | exact Res.at hm rfl)) (by (first | exact Res.tmp rfl | exact Res.atw hm rfl | exact Res.at hm rfl)) (by (first | exact Res.tmp rfl | exact Res.atw hm rfl | exact Res.at hm rfl)) ?_) | fail "ret")
    exact ⟨_, rfl, by rw [H2.out]; exact Sl.of hm HF.out (by simp [hx])⟩
  · rw [h1] at hI
    have HI := Lib.hid hI
    have H2 := Lib.hid h2
    have HK := Lib.hid hpk
    clear hI h1 h2 hpk
    repeat' (first | (go_at_call 100; refine mem_callM (HI.out _ hm) ?_; clear hm; intro w hm; (try simp only [])) | ((with_reducible refine gix ?_); first | refine mix rfl rfl rfl rfl ?_ | refine mixr rfl rfl rfl rfl ?_; (try simp only [Int.toNat_zero, Int.reduceToNat, Nat.reduceMul, Nat.zero_mul, Nat.one_mul, List.drop_succ_cons, List.drop_zero, List.take_succ_cons, List.take_zero])) | ((with_reducible refine gl ?_); first | refine ml hm rfl rfl rfl ?_ | refine mlw hm rfl rfl rfl ?_ | (refine mlr hm rfl rfl rfl ?_; try simp only [List.drop_succ_cons, List.drop_zero, List.take_succ_cons, List.take_zero])) | ((with_reducible refine gs ?_); (first | refine ms hm rfl rfl rfl rfl rfl ?_ | refine msw hm rfl rfl rfl rfl ?_ | refine msr hm rfl rfl rfl rfl ?_); clear hm; intro w hm; (try simp only [splice, List.set_cons_zero, List.set_cons_succ] at hm)) | ((with_reducible refine gb ?_); (first | refine mem_box hm rfl rfl rfl ?_ | refine mem_box1 hm rfl rfl rfl rfl ?_); clear hm; intro n w hm) | ((with_reducible refine ga ?_); refine mem_alloc hm rfl rfl ?_; clear hm; intro n w hm) | go_values | go_skip | go_guarded | go_step | go_upon | ((with_reducible refine bp ?_); go_back) | ((with_reducible refine up ?_); first | (simp only [Int.not_lt, Int.not_le] at *; go_simp) | (go_values <;> (try go_simp)) | (go_ite <;> go_prune <;> (try go_simp)) | (split <;> (first | (rename_i hx; exact (hx _ rfl).elim) | go_prune))))
    go_loopw [5, 6] (fun i j wr => ∃ (jn : Nat) (C : List Value) (kept : List Int), jn ≤ len ∧ kept = (xs.take jn).filter (fun x => !p x) ∧ kept.length < jn ∧ i = iv kept.length ∧ j = iv jn ∧ C.length = xs.length + more.length ∧ C.take kept.length = kept.map iv ∧ C.drop jn = (xs.drop jn).map iv ++ more ∧ Mem w0 wr (⟨g, C, 3⟩ :: σ)) (fun _ j _ => len - (intOf j).toNat)
    case atStart =>
      have e : (xs.take (k + 1)).filter (fun x => !p x) = xs.take k := by
        rw [filter_take _ _ _ hk, H2.out, HK.out]; simp
      refine ⟨k + 1, xs.map iv ++ more, xs.take k, by omega, e.symm, by simp; omega, by simp; omega, by go_num, by simp, ?_, ?_, hm⟩
      · rw [show (xs.take k).length = k from by (simp only [List.length_take]; omega), List.take_append_of_le_length (by simp; omega), List.map_take]
      · rw [List.drop_append_of_le_length (by simp; omega), List.map_drop]
    case round =>
      clear hm
      obtain ⟨jn, C, kept, hj, hkept, hlt, rfl, rfl, hC, hT, hD, hm⟩ := hrel
      have HKE := Lib.hid hkept
      have HT := Lib.hid hT
      clear hkept hT
      by_cases hjl : jn < len
      · have hj' : jn < xs.length := by omega
        obtain ⟨hv, hD'⟩ := drop_at hD hj'
        have hft := filter_take (fun x => !p x) xs jn hj'
        have HD := Lib.hid hD'
        clear hD hD'
        have hmem : xs[jn] ∈ xs := List.getElem_mem hj'
        generalize hq : xs[jn] = x at hv hft hmem
        clear hq
        cases hpx : p x
        all_goals
          have HX := Lib.hid hpx
          rw [hpx] at hft
          have HFT := Lib.hid hft
          clear hft hpx
          repeat' (first | (go_at_call 69; refine mem_callM (HP.out _ hmem _ _ (fun _ h => by simp [h]) hm) ?_; clear hm; intro w hm; simp only [HX.out]) | ((with_reducible refine gix ?_); first | refine mix rfl rfl rfl rfl ?_ | refine mixr rfl rfl rfl rfl ?_; (try simp only [Int.toNat_zero, Int.reduceToNat, Nat.reduceMul, Nat.zero_mul, Nat.one_mul, List.drop_succ_cons, List.drop_zero, List.take_succ_cons, List.take_zero])) | ((with_reducible refine gl ?_); first | refine ml hm rfl rfl rfl ?_ | refine mlw hm rfl rfl rfl ?_ | (refine mlr hm rfl rfl rfl ?_; try simp only [List.drop_succ_cons, List.drop_zero, List.take_succ_cons, List.take_zero])) | ((with_reducible refine gs ?_); (first | refine ms hm rfl rfl rfl rfl rfl ?_ | refine msw hm rfl rfl rfl rfl ?_ | refine msr hm rfl rfl rfl rfl ?_); clear hm; intro w hm; (try simp only [splice, List.set_cons_zero, List.set_cons_succ] at hm)) | ((with_reducible refine gb ?_); (first | refine mem_box hm rfl rfl rfl ?_ | refine mem_box1 hm rfl rfl rfl rfl ?_); clear hm; intro n w hm) | ((with_reducible refine ga ?_); refine mem_alloc hm rfl rfl ?_; clear hm; intro n w hm) | go_values | go_skip | go_guarded | go_step | go_upon | ((with_reducible refine bp ?_); go_back) | ((with_reducible refine up ?_); first | (simp only [Int.not_lt, Int.not_le] at *; go_simp) | (go_values <;> (try go_simp)) | (go_ite <;> go_prune <;> (try go_simp)) | (split <;> (first | (rename_i hx; exact (hx _ rfl).elim) | go_prune))))
          go_roundw
        case rel =>
          (try (first | ((repeat apply Exists.intro); refine ⟨?_, rfl⟩) | (repeat refine ex_any ?_)))
          refine ⟨jn + 1, C.set kept.length (iv x), kept ++ [x], by omega, ?_, by simp <;> omega, by first | rfl | go_num | simp, by first | rfl | go_num | simp, by simpa using hC, ?_, ?_, hm⟩
          · rw [HFT.out, HKE.out]; rfl
          · rw [List.length_append]
            rw [show kept.length + [x].length = kept.length + 1 from rfl, take_set (by omega), HT.out]; simp
          · rw [drop_set (by omega), HD.out]
        case measure => simp [intOf]; omega
        case rel =>
          (try (first | ((repeat apply Exists.intro); refine ⟨?_, rfl⟩) | (repeat refine ex_any ?_)))
          refine ⟨jn + 1, C, kept, by omega, ?_, by omega, by go_num, by go_num, hC, HT.out, HD.out, hm⟩
          rw [HFT.out, HKE.out]; simp
        case measure => simp [intOf]; omega
      · have hjn : jn = len := by omega
        subst hjn
        have hkl : kept.length ≤ xs.length := by omega
        repeat' (first | ((with_reducible refine gcl ?_); refine mclr hm rfl rfl rfl ?_; clear hm; intro Z w hZ hm; (try simp only [List.set_cons_zero, List.set_cons_succ] at hm)) | ((with_reducible refine gix ?_); first | refine mix rfl rfl rfl rfl ?_ | refine mixr rfl rfl rfl rfl ?_; (try simp only [Int.toNat_zero, Int.reduceToNat, Nat.reduceMul, Nat.zero_mul, Nat.one_mul, List.drop_succ_cons, List.drop_zero, List.take_succ_cons, List.take_zero])) | ((with_reducible refine gl ?_); first | refine ml hm rfl rfl rfl ?_ | refine mlw hm rfl rfl rfl ?_ | (refine mlr hm rfl rfl rfl ?_; try simp only [List.drop_succ_cons, List.drop_zero, List.take_succ_cons, List.take_zero])) | ((with_reducible refine gs ?_); (first | refine ms hm rfl rfl rfl rfl rfl ?_ | refine msw hm rfl rfl rfl rfl ?_ | refine msr hm rfl rfl rfl rfl ?_); clear hm; intro w hm; (try simp only [splice, List.set_cons_zero, List.set_cons_succ] at hm)) | ((with_reducible refine gb ?_); (first | refine mem_box hm rfl rfl rfl ?_ | refine mem_box1 hm rfl rfl rfl rfl ?_); clear hm; intro n w hm) | ((with_reducible refine ga ?_); refine mem_alloc hm rfl rfl ?_; clear hm; intro n w hm) | go_values | go_skip | go_guarded | go_step | go_upon | ((with_reducible refine bp ?_); go_back) | ((with_reducible refine up ?_); first | (simp only [Int.not_lt, Int.not_le] at *; go_simp) | (go_values <;> (try go_simp)) | (go_ite <;> go_prune <;> (try go_simp)) | (split <;> (first | (rename_i hx; exact (hx _ rfl).elim) | go_prune))))
        (try simp only [Exit.inBlock, Exit.then])
        (first | (refine ret1 rfl rfl (by (first | exact Res.tmp rfl | exact Res.atw hm rfl | exact Res.at hm rfl)) ?_) | (refine ret2 rfl rfl (by (first | exact Res.tmp rfl | exact Res.atw hm rfl | exact Res.at hm rfl)) (by (first | exact Res.tmp rfl | exact Res.atw hm rfl | exact Res.at hm rfl)) ?_) | (refine ret3 rfl rfl (by (first | exact Res.tmp rfl | exact Res.atw hm rfl | exact Res.at hm rfl)) (by (first | exact Res.tmp rfl | exact Res.atw hm rfl | exact Res.at hm rfl)) (by (first | exact Res.tmp rfl | exact Res.atw hm rfl | exact Res.at hm rfl)) ?_) | (refine ret4 rfl rfl (by (first | exact Res.tmp rfl | exact Res.atw hm rfl | exact Res.at hm rfl)) (by (first | exact Res.tmp rfl | exact Res.atw hm rfl | exact Res.at hm rfl)) (by (first | exact Res.tmp rfl | exact Res.atw hm rfl | exact Res.at hm rfl)) (by (first | exact Res.tmp rfl | exact Res.atw hm rfl | exact Res.at hm rfl)) ?_) | fail "ret")
        refine ⟨_, rfl, ?_⟩
        have hke := HKE.out
        rw [List.take_of_length_le (by omega)] at hke
        rw [← hke]
        have hS : splice C kept.length Z = kept.map iv ++ (splice C kept.length Z).drop kept.length := by
          conv => lhs; rw [← List.take_append_drop kept.length (splice C kept.length Z)]
          congr 1
          rw [← HT.out]
          apply List.ext_getElem?
          intro q
          by_cases hq : q < kept.length
          · rw [List.getElem?_take_of_lt hq, List.getElem?_take_of_lt hq, splice_get _ _ _ _ (by omega), if_neg (by omega)]
          · rw [List.getElem?_eq_none (by simp; omega), List.getElem?_eq_none (by simp; omega)]
        rw [hS] at hm
        refine Sl.of hm ⟨by omega, hmost, ?_⟩ (by simp)
        rw [← hS]
        simp
        omega
end Go.Proofs.Ytlhchjjegaflhaa

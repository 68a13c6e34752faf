/-
  Walks of the empty cells of a board: the library's deletion by a predicate, over lists of cells; the tile by a seed.
-/
import Derived.Test.YtelnajpjanmliaaDelP
set_option linter.unusedVariables false
set_option linter.unusedSimpArgs false
namespace Go.Proofs.Ytelnajpjanmliaa
open Go.RowKit Slm
theorem drop_at2 {C : List Value} {xs : List Nat} {more : List Value} {j : Nat} (h : C.drop (j * 2) = ecells (xs.drop j) ++ more) (hj : j < xs.length) : (C.drop (j * 2)).take 2 = ecell xs[j] ∧ C.drop ((j + 1) * 2) = ecells (xs.drop (j + 1)) ++ more := by
  have e : xs.drop j = xs[j] :: xs.drop (j + 1) := List.drop_eq_getElem_cons hj
  rw [e, ecells_cons, List.append_assoc] at h
  refine ⟨by rw [h]; rfl, ?_⟩
  rw [show (j + 1) * 2 = j * 2 + 2 from by omega, ← List.drop_drop, h]
  rfl
theorem drop_spl {C v : List Value} {i j : Nat} (hi : i + v.length ≤ C.length) (h : i + v.length ≤ j) : (splice C i v).drop j = C.drop j := by
  apply List.ext_getElem?
  intro q
  rw [List.getElem?_drop, List.getElem?_drop, splice_get _ _ _ _ hi, if_neg (by omega)]
theorem take_spl {C v : List Value} {i : Nat} (hi : i + v.length ≤ C.length) : (splice C i v).take (i + v.length) = C.take i ++ v := by
  apply List.ext_getElem?
  intro q
  by_cases hq : q < i + v.length
  · rw [List.getElem?_take_of_lt hq, splice_get _ _ _ _ hi]
    by_cases hqi : i ≤ q
    · rw [if_pos ⟨hqi, hq⟩, List.getElem?_append_right (by simp; omega)]
      congr 1
      simp; omega
    · rw [if_neg (by omega), List.getElem?_append_left (by simp; omega), List.getElem?_take_of_lt (by omega)]
  · rw [List.getElem?_eq_none (by simp; omega), List.getElem?_eq_none (by simp; omega)]
theorem ecell_len (k : Nat) : (ecell k).length = 2 := rfl
set_option maxHeartbeats 1000000 in
theorem delP_empty {w0 w : World} {σ : List Blk} {g len cap : Nat} {xs : List Nat} {more : List Value} {cp : Value} (hm : Mem w0 w (⟨g, ecells xs ++ more, 40⟩ :: σ)) (hf : Fit (ecells xs ++ more) 2 len cap) (hx : xs.length = len) (hl : len ≤ 1000000) (p : Nat → Bool)
    (hp : ∀ x ∈ xs, ∀ wr σ', (∀ bk ∈ σ, bk ∈ σ') → Mem w0 wr σ' → Calls Try.prog 155 #[.agg (ecell x).toArray, cp] wr fun e w' => e = .returned (.bool (p x)) ∧ Mem w0 w' σ') :
    Calls Try.prog 154 #[.slice (some ⟨g, 0, none⟩) len cap, .func (.func 155) #[] #[cp]] w fun e w' => ∃ v, e = .returned v ∧ Sl w0 w' v 40 2 (ecells (xs.filter fun x => !p x)) σ := by
  go_enter Try.func154, Try.ntmps154
  have hI := fun (w : World) (hm : Mem w0 w (⟨g, ecells xs ++ more, 40⟩ :: σ)) => ixP_empty (g := g) (more := more) (cap := cap) hm hx hl p (fun x hxm wr σ' h hm => hp x hxm wr σ' (fun b hb => h b (.tail _ hb)) hm)
  have hsz := hf.size
  have hle := hf.le
  have hmost := hf.most
  simp only [List.length_append, ecells_len] at hsz
  have HP := Lib.hid hp
  clear hp
  have HF := Lib.hid hf
  clear hf
  rcases ixZ_cases p xs with ⟨h1, h2⟩ | ⟨k, hk, h1, hpk, h2⟩
  · rw [h1] at hI
    have HI := Lib.hid hI
    have H2 := Lib.hid h2
    clear hI h1 h2
    repeat' (first | (go_at_call 168; refine mem_callM (HI.out _ hm) ?_; clear hm; intro w hm; (try simp only [])) | ((with_reducible refine gix ?_); first | refine mix rfl rfl rfl rfl ?_ | refine mixr rfl rfl rfl rfl ?_; (try simp only [Int.toNat_zero, Int.reduceToNat, Nat.reduceMul, Nat.zero_mul, Nat.one_mul, List.drop_succ_cons, List.drop_zero, List.take_succ_cons, List.take_zero])) | ((with_reducible refine gl ?_); first | refine ml hm rfl rfl rfl ?_ | refine mlw hm rfl rfl rfl ?_ | (refine mlr hm rfl rfl rfl ?_; try simp only [List.drop_succ_cons, List.drop_zero, List.take_succ_cons, List.take_zero])) | ((with_reducible refine gs ?_); (first | refine ms hm rfl rfl rfl rfl rfl ?_ | refine msw hm rfl rfl rfl rfl ?_ | refine msr hm rfl rfl rfl rfl ?_); clear hm; intro w hm; (try simp only [splice, List.set_cons_zero, List.set_cons_succ] at hm)) | ((with_reducible refine gb ?_); (first | refine mem_box hm rfl rfl rfl ?_ | refine mem_box1 hm rfl rfl rfl rfl ?_); clear hm; intro n w hm) | ((with_reducible refine ga ?_); refine mem_alloc hm rfl rfl ?_; clear hm; intro n w hm) | go_values | go_skip | go_guarded | go_step | go_upon | ((with_reducible refine bp ?_); go_back) | ((with_reducible refine up ?_); first | (simp only [Int.not_lt, Int.not_le] at *; go_simp) | (go_values <;> (try go_simp)) | (go_ite <;> go_prune <;> (try go_simp)) | (split <;> (first | (rename_i hx; exact (hx _ rfl).elim) | go_prune))))
    (try simp only [Exit.inBlock, Exit.then])
    (first | (refine ret1 rfl rfl (by (first | exact Res.tmp rfl | exact Res.atw hm rfl | exact Res.at hm rfl)) ?_) | (refine ret2 rfl rfl (by (first | exact Res.tmp rfl | exact Res.atw hm rfl | exact Res.at hm rfl)) (by (first | exact Res.tmp rfl | exact Res.atw hm rfl | exact Res.at hm rfl)) ?_) | (refine ret3 rfl rfl (by (first | exact Res.tmp rfl | exact Res.atw hm rfl | exact Res.at hm rfl)) (by (first | exact Res.tmp rfl | exact Res.atw hm rfl | exact Res.at hm rfl)) (by (first | exact Res.tmp rfl | exact Res.atw hm rfl | exact Res.at hm rfl)) ?_) | (refine ret4 rfl rfl (by (first | exact Res.tmp rfl | exact Res.atw hm rfl | exact Res.at hm rfl)) (by (first | exact Res.tmp rfl | exact Res.atw hm rfl | exact Res.at hm rfl)) (by (first | exact Res.tmp rfl | exact Res.atw hm rfl | exact Res.at hm rfl)) (by (first | exact Res.tmp rfl | exact Res.atw hm rfl | exact Res.at hm rfl)) ?_) | fail "ret")
    exact ⟨_, rfl, by rw [H2.out]; exact Sl.of hm HF.out (by rw [ecells_len, hx])⟩
  · rw [h1] at hI
    have HI := Lib.hid hI
    have H2 := Lib.hid h2
    have HK := Lib.hid hpk
    clear hI h1 h2 hpk
    repeat' (first | (go_at_call 168; refine mem_callM (HI.out _ hm) ?_; clear hm; intro w hm; (try simp only [])) | ((with_reducible refine gix ?_); first | refine mix rfl rfl rfl rfl ?_ | refine mixr rfl rfl rfl rfl ?_; (try simp only [Int.toNat_zero, Int.reduceToNat, Nat.reduceMul, Nat.zero_mul, Nat.one_mul, List.drop_succ_cons, List.drop_zero, List.take_succ_cons, List.take_zero])) | ((with_reducible refine gl ?_); first | refine ml hm rfl rfl rfl ?_ | refine mlw hm rfl rfl rfl ?_ | (refine mlr hm rfl rfl rfl ?_; try simp only [List.drop_succ_cons, List.drop_zero, List.take_succ_cons, List.take_zero])) | ((with_reducible refine gs ?_); (first | refine ms hm rfl rfl rfl rfl rfl ?_ | refine msw hm rfl rfl rfl rfl ?_ | refine msr hm rfl rfl rfl rfl ?_); clear hm; intro w hm; (try simp only [splice, List.set_cons_zero, List.set_cons_succ] at hm)) | ((with_reducible refine gb ?_); (first | refine mem_box hm rfl rfl rfl ?_ | refine mem_box1 hm rfl rfl rfl rfl ?_); clear hm; intro n w hm) | ((with_reducible refine ga ?_); refine mem_alloc hm rfl rfl ?_; clear hm; intro n w hm) | go_values | go_skip | go_guarded | go_step | go_upon | ((with_reducible refine bp ?_); go_back) | ((with_reducible refine up ?_); first | (simp only [Int.not_lt, Int.not_le] at *; go_simp) | (go_values <;> (try go_simp)) | (go_ite <;> go_prune <;> (try go_simp)) | (split <;> (first | (rename_i hx; exact (hx _ rfl).elim) | go_prune))))
    go_loopw [5, 6] (fun i j wr => ∃ (jn : Nat) (C : List Value) (kept : List Nat), jn ≤ len ∧ (Unit → Hid (kept = (xs.take jn).filter (fun x => !p x))) ∧ kept.length < jn ∧ i = iv kept.length ∧ j = iv jn ∧ C.length = xs.length * 2 + more.length ∧ (Unit → Hid (C.take (kept.length * 2) = ecells kept)) ∧ C.drop (jn * 2) = ecells (xs.drop jn) ++ more ∧ Mem w0 wr (⟨g, C, 40⟩ :: σ)) (fun _ j _ => len - (intOf j).toNat)
    case atStart =>
      have e : (xs.take (k + 1)).filter (fun x => !p x) = xs.take k := by
        rw [filter_take _ _ _ hk, H2.out, HK.out]; simp
      have et : ecells xs = ecells (xs.take k) ++ ecells (xs.drop k) := by rw [← ecells_append, List.take_append_drop]
      refine ⟨k + 1, ecells xs ++ more, xs.take k, by omega, fun _ => Lib.hid e.symm, by simp; omega, by simp; omega, by go_num, by simp [ecells_len], fun _ => Lib.hid ?_, ?_, hm⟩
      · rw [et, List.append_assoc]
        exact List.take_left' (by rw [ecells_len])
      · rw [List.drop_append_of_le_length (by rw [ecells_len]; omega), ecells_drop]
    case round =>
      clear hm
      obtain ⟨jn, C, kept, hj, hkept, hlt, rfl, rfl, hC, hT, hD, hm⟩ := hrel
      by_cases hjl : jn < len
      · have hj' : jn < xs.length := by omega
        obtain ⟨hv, hD'⟩ := drop_at2 hD hj'
        have hft := filter_take (fun x => !p x) xs jn hj'
        have hmem : xs[jn] ∈ xs := List.getElem_mem hj'
        have HD : Unit → Hid _ := fun _ => Lib.hid hD'
        clear hD hD'
        generalize hq : xs[jn] = x at hv hft hmem
        clear hq
        have hcl := ecell_len x
        have hP := HP.out x hmem
        have hce : ∀ l, ecells (l ++ [x]) = ecells l ++ ecell x := fun l => by rw [ecells_append, ecells_cons]; simp [ecells]
        obtain ⟨ca, cb, hcx⟩ : ∃ a b : Int, ecell x = [iv a, iv b] := ⟨_, _, rfl⟩
        rw [hcx] at hv hP hcl hce
        have HCE := Lib.hid hce
        clear hce hcx
        have HPX := Lib.hid hP
        clear hP
        cases hpx : p x
        all_goals
          rw [hpx] at hft HPX
          have HFT := Lib.hid hft
          clear hft hpx
          have hb : kept.length * 2 + 2 ≤ C.length := by omega
          repeat' (first | (with_reducible rw [hv]) | (go_at_call 155; refine mem_callM (HPX.out _ _ (fun _ h => by simp [h]) hm) ?_; clear hm; intro w hm; (try simp only [])) | ((with_reducible refine gix ?_); first | refine mix rfl rfl rfl rfl ?_ | refine mixr rfl rfl rfl rfl ?_; (try simp only [Int.toNat_zero, Int.reduceToNat, Nat.reduceMul, Nat.zero_mul, Nat.one_mul, List.drop_succ_cons, List.drop_zero, List.take_succ_cons, List.take_zero])) | ((with_reducible refine gl ?_); first | refine ml hm rfl rfl rfl ?_ | refine mlw hm rfl rfl rfl ?_ | (refine mlr hm rfl rfl rfl ?_; try simp only [List.drop_succ_cons, List.drop_zero, List.take_succ_cons, List.take_zero])) | ((with_reducible refine gs ?_); (first | refine ms hm rfl rfl rfl rfl rfl ?_ | refine msw hm rfl rfl rfl rfl ?_ | refine msr hm rfl rfl rfl rfl ?_); clear hm; intro w hm; (try simp only [splice, List.set_cons_zero, List.set_cons_succ] at hm)) | ((with_reducible refine gb ?_); (first | refine mem_box hm rfl rfl rfl ?_ | refine mem_box1 hm rfl rfl rfl rfl ?_); clear hm; intro n w hm) | ((with_reducible refine ga ?_); refine mem_alloc hm rfl rfl ?_; clear hm; intro n w hm) | go_values | go_skip | go_guarded | go_step | go_upon | ((with_reducible refine bp ?_); go_back) | ((with_reducible refine up ?_); first | (simp only [Int.not_lt, Int.not_le] at *; go_simp) | (go_values <;> (try go_simp)) | (go_ite <;> go_prune <;> (try go_simp)) | (split <;> (first | (rename_i hx; exact (hx _ rfl).elim) | go_prune))))
          go_roundw
        case rel =>
          (try (first | ((repeat apply Exists.intro); refine ⟨?_, rfl⟩) | (repeat refine ex_any ?_)))
          refine ⟨jn + 1, splice C (kept.length * 2) [iv ca, iv cb], kept ++ [x], by omega, fun _ => Lib.hid ?_, by simp <;> omega, by first | rfl | go_num | simp, by first | rfl | go_num | simp, by simpa using hC, fun _ => Lib.hid ?_, ?_, hm.drop (List.sublist_cons_self _ _)⟩
          · rw [HFT.out, (hkept ()).out]; rfl
          · rw [List.length_append, HCE.out, ← (hT ()).out, show (kept.length + [x].length) * 2 = kept.length * 2 + [iv ca, iv cb].length from by simp; omega, take_spl (by omega)]
          · rw [drop_spl (by omega) (by omega), (HD ()).out]
        case measure => simp [intOf]; omega
        case rel =>
          (try (first | ((repeat apply Exists.intro); refine ⟨?_, rfl⟩) | (repeat refine ex_any ?_)))
          refine ⟨jn + 1, C, kept, by omega, fun _ => Lib.hid ?_, by omega, by go_num, by go_num, hC, hT, (HD ()).out, hm.drop (List.sublist_cons_self _ _)⟩
          rw [HFT.out, (hkept ()).out]; simp
        case measure => simp [intOf]; omega
      · have hjn : jn = len := by omega
        subst hjn
        have hkl : kept.length ≤ xs.length := by omega
        repeat' (first | ((with_reducible refine gcl ?_); refine mclr hm rfl rfl rfl ?_; clear hm; intro Z w hZ hm; (try simp only [List.set_cons_zero, List.set_cons_succ] at hm)) | ((with_reducible refine gix ?_); first | refine mix rfl rfl rfl rfl ?_ | refine mixr rfl rfl rfl rfl ?_; (try simp only [Int.toNat_zero, Int.reduceToNat, Nat.reduceMul, Nat.zero_mul, Nat.one_mul, List.drop_succ_cons, List.drop_zero, List.take_succ_cons, List.take_zero])) | ((with_reducible refine gl ?_); first | refine ml hm rfl rfl rfl ?_ | refine mlw hm rfl rfl rfl ?_ | (refine mlr hm rfl rfl rfl ?_; try simp only [List.drop_succ_cons, List.drop_zero, List.take_succ_cons, List.take_zero])) | ((with_reducible refine gs ?_); (first | refine ms hm rfl rfl rfl rfl rfl ?_ | refine msw hm rfl rfl rfl rfl ?_ | refine msr hm rfl rfl rfl rfl ?_); clear hm; intro w hm; (try simp only [splice, List.set_cons_zero, List.set_cons_succ] at hm)) | ((with_reducible refine gb ?_); (first | refine mem_box hm rfl rfl rfl ?_ | refine mem_box1 hm rfl rfl rfl rfl ?_); clear hm; intro n w hm) | ((with_reducible refine ga ?_); refine mem_alloc hm rfl rfl ?_; clear hm; intro n w hm) | go_values | go_skip | go_guarded | go_step | go_upon | ((with_reducible refine bp ?_); go_back) | ((with_reducible refine up ?_); first | (simp only [Int.not_lt, Int.not_le] at *; go_simp) | (go_values <;> (try go_simp)) | (go_ite <;> go_prune <;> (try go_simp)) | (split <;> (first | (rename_i hx; exact (hx _ rfl).elim) | go_prune))))
        (try simp only [Exit.inBlock, Exit.then])
        (first | (refine ret1 rfl rfl (by (first | exact Res.tmp rfl | exact Res.atw hm rfl | exact Res.at hm rfl)) ?_) | (refine ret2 rfl rfl (by (first | exact Res.tmp rfl | exact Res.atw hm rfl | exact Res.at hm rfl)) (by (first | exact Res.tmp rfl | exact Res.atw hm rfl | exact Res.at hm rfl)) ?_) | (refine ret3 rfl rfl (by (first | exact Res.tmp rfl | exact Res.atw hm rfl | exact Res.at hm rfl)) (by (first | exact Res.tmp rfl | exact Res.atw hm rfl | exact Res.at hm rfl)) (by (first | exact Res.tmp rfl | exact Res.atw hm rfl | exact Res.at hm rfl)) ?_) | (refine ret4 rfl rfl (by (first | exact Res.tmp rfl | exact Res.atw hm rfl | exact Res.at hm rfl)) (by (first | exact Res.tmp rfl | exact Res.atw hm rfl | exact Res.at hm rfl)) (by (first | exact Res.tmp rfl | exact Res.atw hm rfl | exact Res.at hm rfl)) (by (first | exact Res.tmp rfl | exact Res.atw hm rfl | exact Res.at hm rfl)) ?_) | fail "ret")
        refine ⟨_, rfl, ?_⟩
        have hke := (hkept ()).out
        rw [List.take_of_length_le (by omega)] at hke
        rw [← hke]
        have hS : splice C (kept.length * 2) Z = ecells kept ++ (splice C (kept.length * 2) Z).drop (kept.length * 2) := by
          conv => lhs; rw [← List.take_append_drop (kept.length * 2) (splice C (kept.length * 2) Z)]
          congr 1
          rw [← (hT ()).out]
          apply List.ext_getElem?
          intro q
          by_cases hq : q < kept.length * 2
          · rw [List.getElem?_take_of_lt hq, List.getElem?_take_of_lt hq, splice_get _ _ _ _ (by omega), if_neg (by omega)]
          · rw [List.getElem?_eq_none (by simp; omega), List.getElem?_eq_none (by simp; omega)]
        rw [hS] at hm
        refine Sl.of hm ⟨by omega, hmost, ?_⟩ (by rw [ecells_len])
        rw [← hS]
        simp
        omega
end Go.Proofs.Ytelnajpjanmliaa

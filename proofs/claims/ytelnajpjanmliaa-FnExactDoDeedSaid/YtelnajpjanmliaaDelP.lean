/-
  Walks of the empty cells of a board: the library's deletion by a predicate, over lists of cells.
-/
import Derived.Test.YtelnajpjanmliaaEmpty
set_option linter.unusedVariables false
set_option linter.unusedSimpArgs false
namespace Go.Proofs.Ytelnajpjanmliaa
open Go.RowKit Slm
/-- A cell as it lies in a slice. -/
def ecell (k : Nat) : List Value := [iv ((k / 4 : Nat) : Int), iv ((k % 4 : Nat) : Int)]
theorem ecells_cons (k : Nat) (l : List Nat) : ecells (k :: l) = ecell k ++ ecells l := by simp [ecells, ecell]
theorem ecells_append (l m : List Nat) : ecells (l ++ m) = ecells l ++ ecells m := by simp [ecells]
theorem ecells_drop : ∀ (l : List Nat) (k : Nat), (ecells l).drop (k * 2) = ecells (l.drop k)
  | [], k => by simp [ecells]
  | x :: l, 0 => by simp
  | x :: l, k + 1 => by
    rw [ecells_cons, List.drop_succ_cons, ← ecells_drop l k, show (k + 1) * 2 = k * 2 + 2 from by omega]
    simp [ecell]
theorem ecells_get {l : List Nat} {k : Nat} (h : k < l.length) (more : List Value) : ((ecells l ++ more).drop (k * 2)).take 2 = ecell l[k] := by
  rw [List.drop_append_of_le_length (by rw [ecells_len]; omega), ecells_drop, List.drop_eq_getElem_cons h, ecells_cons, List.append_assoc]
  simp [ecell]
theorem ixP_empty {w0 w : World} {σ : List Blk} {g i len cap : Nat} {xs : List Nat} {more : List Value} {cp : Value} (hm : Mem w0 w σ) [At σ g (ecells xs ++ more) 40 i] (hx : xs.length = len) (hl : len ≤ 1000000) (p : Nat → Bool)
    (hp : ∀ x ∈ xs, ∀ wr σ', (∀ bk ∈ σ, bk ∈ σ') → Mem w0 wr σ' → Calls Try.prog 155 #[.agg (ecell x).toArray, cp] wr fun e w' => e = .returned (.bool (p x)) ∧ Mem w0 w' σ') :
    Calls Try.prog 168 #[.slice (some ⟨g, 0, none⟩) len cap, .func (.func 155) #[] #[cp]] w fun e w' => e = .returned (iv (ixZ p xs)) ∧ Mem w0 w' σ := by
  go_enter Try.func168, Try.ntmps168
  have HP := Lib.hid hp
  clear hp
  have hlen : (ecells xs ++ more).length = len * 2 + more.length := by rw [List.length_append, ecells_len, hx]
  repeat' (first  | ((with_reducible refine gix ?_); first | refine mix rfl rfl rfl rfl ?_ | refine mixr rfl rfl rfl rfl ?_; (try simp only [Int.toNat_zero, Int.reduceToNat, Nat.reduceMul, Nat.zero_mul, Nat.one_mul, List.drop_succ_cons, List.drop_zero, List.take_succ_cons, List.take_zero])) | ((with_reducible refine gl ?_); first | refine ml hm rfl rfl rfl ?_ | refine mlw hm rfl rfl rfl ?_ | (refine mlr hm rfl rfl rfl ?_; try simp only [List.drop_succ_cons, List.drop_zero, List.take_succ_cons, List.take_zero])) | ((with_reducible refine gs ?_); (first | refine ms hm rfl rfl rfl rfl rfl ?_ | refine msw hm rfl rfl rfl rfl ?_ | refine msr hm rfl rfl rfl rfl ?_); clear hm; intro w hm; (try simp only [splice, List.set_cons_zero, List.set_cons_succ] at hm)) | ((with_reducible refine gb ?_); (first | refine mem_box hm rfl rfl rfl ?_ | refine mem_box1 hm rfl rfl rfl rfl ?_); clear hm; intro n w hm) | ((with_reducible refine ga ?_); refine mem_alloc hm rfl rfl ?_; clear hm; intro n w hm) | go_values | go_skip | go_guarded | go_step | go_upon | ((with_reducible refine bp ?_); go_back) | ((with_reducible refine up ?_); first | (simp only [Int.not_lt, Int.not_le] at *; go_simp) | (go_values <;> (try go_simp)) | (go_ite <;> go_prune <;> (try go_simp)) | (split <;> (first | (rename_i hx; exact (hx _ rfl).elim) | go_prune))))
  go_loopw [8] (fun i wr => ∃ k : Nat, k ≤ len ∧ i = iv k ∧ (Unit → Hid (∀ j (h : j < k) (h' : j < xs.length), p xs[j] = false)) ∧ Mem w0 wr σ) (fun i _ => len - (intOf i).toNat)
  case atStart => exact ⟨0, by omega, rfl, fun _ => Lib.hid (by intro j h; omega), hm⟩
  case round =>
    clear hm
    obtain ⟨k, hk, rfl, HA, hm⟩ := hrel
    by_cases hlt : k < len
    · have hk' : k < xs.length := by omega
      have hv := ecells_get hk' more
      have hmem : xs[k] ∈ xs := List.getElem_mem hk'
      generalize hq : xs[k] = x at hv hmem
      have hP := HP.out x hmem
      generalize ecell x = cx at hv hP
      have HPX := Lib.hid hP
      have HQ : Unit → Hid (xs[k] = x) := fun _ => Lib.hid hq
      clear hP hq
      cases hpx : p x
      · rw [hpx] at HPX
        have HX : Unit → Hid (p x = false) := fun _ => Lib.hid hpx
        clear hpx
        repeat' (first | (go_at_call 155; refine mem_callM (HPX.out _ _ (fun _ h => by simp [h]) hm) ?_; clear hm; intro w hm; (try simp only [])) | ((with_reducible refine gix ?_); first | refine mix rfl rfl rfl rfl ?_ | refine mixr rfl rfl rfl rfl ?_; (try simp only [Int.toNat_zero, Int.reduceToNat, Nat.reduceMul, Nat.zero_mul, Nat.one_mul, List.drop_succ_cons, List.drop_zero, List.take_succ_cons, List.take_zero])) | ((with_reducible refine gl ?_); first | refine ml hm rfl rfl rfl ?_ | refine mlw hm rfl rfl rfl ?_ | (refine mlr hm rfl rfl rfl ?_; try simp only [List.drop_succ_cons, List.drop_zero, List.take_succ_cons, List.take_zero])) | ((with_reducible refine gs ?_); (first | refine ms hm rfl rfl rfl rfl rfl ?_ | refine msw hm rfl rfl rfl rfl ?_ | refine msr hm rfl rfl rfl rfl ?_); clear hm; intro w hm; (try simp only [splice, List.set_cons_zero, List.set_cons_succ] at hm)) | ((with_reducible refine gb ?_); (first | refine mem_box hm rfl rfl rfl ?_ | refine mem_box1 hm rfl rfl rfl rfl ?_); clear hm; intro n w hm) | ((with_reducible refine ga ?_); refine mem_alloc hm rfl rfl ?_; clear hm; intro n w hm) | go_values | go_skip | go_guarded | go_step | go_upon | ((with_reducible refine bp ?_); go_back) | ((with_reducible refine up ?_); first | (simp only [Int.not_lt, Int.not_le] at *; go_simp) | (go_values <;> (try go_simp)) | (go_ite <;> go_prune <;> (try go_simp)) | (split <;> (first | (rename_i hx; exact (hx _ rfl).elim) | go_prune))))
        go_roundw
        case rel =>
          (try (first | ((repeat apply Exists.intro); refine ⟨?_, rfl⟩) | (repeat refine ex_any ?_)))
          refine ⟨k + 1, by omega, by go_num, fun _ => Lib.hid (fun j h h' => ?_), hm⟩
          by_cases hj : j = k
          · subst hj; rw [(HQ ()).out]; exact (HX ()).out
          · exact (HA ()).out j (by omega) h'
        case measure => simp [intOf]; omega
      · rw [hpx] at HPX
        have HX : Unit → Hid (p x = true) := fun _ => Lib.hid hpx
        clear hpx
        repeat' (first | (go_at_call 155; refine mem_callM (HPX.out _ _ (fun _ h => by simp [h]) hm) ?_; clear hm; intro w hm; (try simp only [])) | ((with_reducible refine gix ?_); first | refine mix rfl rfl rfl rfl ?_ | refine mixr rfl rfl rfl rfl ?_; (try simp only [Int.toNat_zero, Int.reduceToNat, Nat.reduceMul, Nat.zero_mul, Nat.one_mul, List.drop_succ_cons, List.drop_zero, List.take_succ_cons, List.take_zero])) | ((with_reducible refine gl ?_); first | refine ml hm rfl rfl rfl ?_ | refine mlw hm rfl rfl rfl ?_ | (refine mlr hm rfl rfl rfl ?_; try simp only [List.drop_succ_cons, List.drop_zero, List.take_succ_cons, List.take_zero])) | ((with_reducible refine gs ?_); (first | refine ms hm rfl rfl rfl rfl rfl ?_ | refine msw hm rfl rfl rfl rfl ?_ | refine msr hm rfl rfl rfl rfl ?_); clear hm; intro w hm; (try simp only [splice, List.set_cons_zero, List.set_cons_succ] at hm)) | ((with_reducible refine gb ?_); (first | refine mem_box hm rfl rfl rfl ?_ | refine mem_box1 hm rfl rfl rfl rfl ?_); clear hm; intro n w hm) | ((with_reducible refine ga ?_); refine mem_alloc hm rfl rfl ?_; clear hm; intro n w hm) | go_values | go_skip | go_guarded | go_step | go_upon | ((with_reducible refine bp ?_); go_back) | ((with_reducible refine up ?_); first | (simp only [Int.not_lt, Int.not_le] at *; go_simp) | (go_values <;> (try go_simp)) | (go_ite <;> go_prune <;> (try go_simp)) | (split <;> (first | (rename_i hx; exact (hx _ rfl).elim) | go_prune))))
        (try simp only [Exit.inBlock, Exit.then])
        (first | (refine ret1 rfl rfl (by (first | exact Res.tmp rfl | exact Res.atw hm rfl | exact Res.at hm rfl)) ?_) | (refine ret2 rfl rfl (by (first | exact Res.tmp rfl | exact Res.atw hm rfl | exact Res.at hm rfl)) (by (first | exact Res.tmp rfl | exact Res.atw hm rfl | exact Res.at hm rfl)) ?_) | (refine ret3 rfl rfl (by (first | exact Res.tmp rfl | exact Res.atw hm rfl | exact Res.at hm rfl)) (by (first | exact Res.tmp rfl | exact Res.atw hm rfl | exact Res.at hm rfl)) (by (first | exact Res.tmp rfl | exact Res.atw hm rfl | exact Res.at hm rfl)) ?_) | (refine ret4 rfl rfl (by (first | exact Res.tmp rfl | exact Res.atw hm rfl | exact Res.at hm rfl)) (by (first | exact Res.tmp rfl | exact Res.atw hm rfl | exact Res.at hm rfl)) (by (first | exact Res.tmp rfl | exact Res.atw hm rfl | exact Res.at hm rfl)) (by (first | exact Res.tmp rfl | exact Res.atw hm rfl | exact Res.at hm rfl)) ?_) | fail "ret")
        exact ⟨ret_iv (ixZ_here hk' (by rw [(HQ ()).out]; exact (HX ()).out) (fun j h => (HA ()).out j h _)).symm, hm⟩
    · have : k = len := by omega
      subst this
      repeat' (first  | ((with_reducible refine gix ?_); first | refine mix rfl rfl rfl rfl ?_ | refine mixr rfl rfl rfl rfl ?_; (try simp only [Int.toNat_zero, Int.reduceToNat, Nat.reduceMul, Nat.zero_mul, Nat.one_mul, List.drop_succ_cons, List.drop_zero, List.take_succ_cons, List.take_zero])) | ((with_reducible refine gl ?_); first | refine ml hm rfl rfl rfl ?_ | refine mlw hm rfl rfl rfl ?_ | (refine mlr hm rfl rfl rfl ?_; try simp only [List.drop_succ_cons, List.drop_zero, List.take_succ_cons, List.take_zero])) | ((with_reducible refine gs ?_); (first | refine ms hm rfl rfl rfl rfl rfl ?_ | refine msw hm rfl rfl rfl rfl ?_ | refine msr hm rfl rfl rfl rfl ?_); clear hm; intro w hm; (try simp only [splice, List.set_cons_zero, List.set_cons_succ] at hm)) | ((with_reducible refine gb ?_); (first | refine mem_box hm rfl rfl rfl ?_ | refine mem_box1 hm rfl rfl rfl rfl ?_); clear hm; intro n w hm) | ((with_reducible refine ga ?_); refine mem_alloc hm rfl rfl ?_; clear hm; intro n w hm) | go_values | go_skip | go_guarded | go_step | go_upon | ((with_reducible refine bp ?_); go_back) | ((with_reducible refine up ?_); first | (simp only [Int.not_lt, Int.not_le] at *; go_simp) | (go_values <;> (try go_simp)) | (go_ite <;> go_prune <;> (try go_simp)) | (split <;> (first | (rename_i hx; exact (hx _ rfl).elim) | go_prune))))
      (try simp only [Exit.inBlock, Exit.then])
      (first | (refine ret1 rfl rfl (by (first | exact Res.tmp rfl | exact Res.atw hm rfl | exact Res.at hm rfl)) ?_) | (refine ret2 rfl rfl (by (first | exact Res.tmp rfl | exact Res.atw hm rfl | exact Res.at hm rfl)) (by (first | exact Res.tmp rfl | exact Res.atw hm rfl | exact Res.at hm rfl)) ?_) | (refine ret3 rfl rfl (by (first | exact Res.tmp rfl | exact Res.atw hm rfl | exact Res.at hm rfl)) (by (first | exact Res.tmp rfl | exact Res.atw hm rfl | exact Res.at hm rfl)) (by (first | exact Res.tmp rfl | exact Res.atw hm rfl | exact Res.at hm rfl)) ?_) | (refine ret4 rfl rfl (by (first | exact Res.tmp rfl | exact Res.atw hm rfl | exact Res.at hm rfl)) (by (first | exact Res.tmp rfl | exact Res.atw hm rfl | exact Res.at hm rfl)) (by (first | exact Res.tmp rfl | exact Res.atw hm rfl | exact Res.at hm rfl)) (by (first | exact Res.tmp rfl | exact Res.atw hm rfl | exact Res.at hm rfl)) ?_) | fail "ret")
      exact ⟨ret_iv (ixZ_none (fun j h => (HA ()).out j (by omega) h)).symm, hm⟩
end Go.Proofs.Ytelnajpjanmliaa

/-
  Snakes: plain mathematics, and walks of the program's snake and of the reference's count of tiles.
-/
import Derived.Test.YtelnajpjanmliaaForm
import Derived.Test.YtelnajpjanmliaaEqv
set_option linter.unusedVariables false
set_option linter.unusedSimpArgs false
namespace Go.Proofs.Ytelnajpjanmliaa
open Go.RowKit Slm
/-- The cell of the first snake. -/
def sn0 (i : Nat) : Int × Int := (((i / 4 : Nat) : Int), if (i / 4) % 2 = 1 then 3 - ((i % 4 : Nat) : Int) else ((i % 4 : Nat) : Int))
def snC (k i : Nat) : Int × Int := mvZ k (sn0 i)
theorem sn0_bd {i : Nat} (h : i < 16) : (0 ≤ (sn0 i).1 ∧ (sn0 i).1 ≤ 3) ∧ (0 ≤ (sn0 i).2 ∧ (sn0 i).2 ≤ 3) := by
  unfold sn0
  simp only
  split <;> omega
theorem snC_bd {k i : Nat} (hk : k ≤ 7) (h : i < 16) : (0 ≤ (snC k i).1 ∧ (snC k i).1 ≤ 3) ∧ (0 ≤ (snC k i).2 ∧ (snC k i).2 ≤ 3) := by
  have := sn0_bd h
  exact mvZ_bd hk this.1 this.2
/-- The cells of a snake, one after the other, behind some of them. -/
def snK (k : Nat) : Nat → List Int
  | 0 => [0, 0, 0, 0, 0, 0, 0, 0, 0, 0, 0, 0, 0, 0, 0, 0, 0, 0, 0, 0, 0, 0, 0, 0, 0, 0, 0, 0, 0, 0, 0, 0]
  | i + 1 => ((snK k i).set (i * 2) (snC k i).1).set (i * 2 + 1) (snC k i).2
theorem snK_len (k : Nat) : ∀ i, (snK k i).length = 32
  | 0 => rfl
  | i + 1 => by rw [snK, List.length_set, List.length_set, snK_len k i]
theorem snK_get : ∀ k, k < 8 → ∀ i, i < 16 → ((snK k 16).drop (i * 2)).take 2 = [(snC k i).1, (snC k i).2] := by decide +kernel
/-- The place of a cell of a snake. -/
def snP (k i : Nat) : Nat := (4 * (snC k i).1 + (snC k i).2).toNat
theorem snP_lt {k i : Nat} (hk : k ≤ 7) (h : i < 16) : snP k i < 16 := by have := snC_bd hk h; unfold snP; omega
theorem snP_inj : ∀ k, k < 8 → ∀ i, i < 16 → ∀ j, j < 16 → snP k i = snP k j → i = j := by decide +kernel
/-- A board along a snake, behind some cells. -/
def sbK (k : Nat) (V : Nat → Int) : Nat → List Int
  | 0 => [0, 0, 0, 0, 0, 0, 0, 0, 0, 0, 0, 0, 0, 0, 0, 0]
  | i + 1 => (sbK k V i).set (snP k i) (V i)
theorem sbK_len (k : Nat) (V : Nat → Int) : ∀ i, (sbK k V i).length = 16
  | 0 => rfl
  | i + 1 => by rw [sbK, List.length_set, sbK_len k V i]
theorem sbK_congr {k : Nat} {V W : Nat → Int} : ∀ n, (∀ i, i < n → V i = W i) → sbK k V n = sbK k W n
  | 0, _ => rfl
  | n + 1, h => by rw [sbK, sbK, sbK_congr n fun i hi => h i (by omega), h n (by omega)]
theorem sbK_other {k : Nat} (hk : k ≤ 7) {V : Nat → Int} {j : Nat} (hj : j < 16) : ∀ n, n ≤ j → (sbK k V n)[snP k j]? = some 0
  | 0, _ => by
    have h := snP_lt hk hj
    simp only [sbK]
    generalize snP k j = q at h
    have : q = 0 ∨ q = 1 ∨ q = 2 ∨ q = 3 ∨ q = 4 ∨ q = 5 ∨ q = 6 ∨ q = 7 ∨ q = 8 ∨ q = 9 ∨ q = 10 ∨ q = 11 ∨ q = 12 ∨ q = 13 ∨ q = 14 ∨ q = 15 := by omega
    rcases this with rfl | rfl | rfl | rfl | rfl | rfl | rfl | rfl | rfl | rfl | rfl | rfl | rfl | rfl | rfl | rfl <;> rfl
  | n + 1, h => by
    rw [sbK, List.getElem?_set_ne (fun e => by have := snP_inj k (by omega) n (by omega) j hj e; omega)]
    exact sbK_other hk hj n (by omega)
/-- Cells behind the last tile get nothing. -/
theorem sbK_zero {k : Nat} (hk : k ≤ 7) {V : Nat → Int} {n : Nat} : ∀ m, n + m ≤ 16 → (∀ i, n ≤ i → i < 16 → V i = 0) → sbK k V (n + m) = sbK k V n
  | 0, _, _ => rfl
  | m + 1, h, hv => by
    rw [← Nat.add_assoc, sbK, hv (n + m) (by omega) (by omega)]
    have h1 := sbK_other hk (V := V) (j := n + m) (by omega) (n + m) (Nat.le_refl _)
    have h2 : (sbK k V (n + m)).set (snP k (n + m)) 0 = sbK k V (n + m) := by
      apply List.ext_getElem?
      intro i
      by_cases hi : snP k (n + m) = i
      · subst hi
        rw [h1, List.getElem?_set_self (by rw [sbK_len]; exact snP_lt hk (by omega))]
      · rw [List.getElem?_set_ne hi]
    rw [h2]
    exact sbK_zero hk m (by omega) hv
/-! ### the tiles of a board in descending order -/
def cntB (b : List Int) (t : Nat) : Nat := b.countP fun x : Int => decide (x = (t : Int))
/-- All tiles greater than t, the greatest first. -/
def dscB (b : List Int) : Nat → List Int
  | 0 => []
  | n + 1 => dscB b n ++ List.replicate (cntB b (17 - n)) ((17 - n : Nat) : Int)
theorem dscB_bd (b : List Int) : ∀ n, n ≤ 17 → ∀ x ∈ dscB b n, (18 - n : Nat) ≤ x ∧ x ≤ 17
  | 0, _, x, hx => by cases hx
  | n + 1, hn, x, hx => by
    rcases List.mem_append.1 hx with h | h
    · have := dscB_bd b n (by omega) x h; omega
    · have := List.eq_of_mem_replicate h; omega
theorem dscB_sorted (b : List Int) : ∀ n, n ≤ 17 → (dscB b n).Pairwise (fun x y => y ≤ x)
  | 0, _ => List.Pairwise.nil
  | n + 1, hn => by
    rw [dscB, List.pairwise_append]
    refine ⟨dscB_sorted b n (by omega), ?_, fun x hx y hy => ?_⟩
    · rw [List.pairwise_replicate]; right; omega
    · have h1 := dscB_bd b n (by omega) x hx
      have h2 := List.eq_of_mem_replicate hy
      omega
theorem cnt_dsc (b : List Int) (t : Nat) (h1 : 1 ≤ t) (h2 : t ≤ 17) : ∀ n, n ≤ 17 → (dscB b n).countP (fun x => decide (x = (t : Int))) = if 18 - n ≤ t then cntB b t else 0
  | 0, _ => by rw [if_neg (by omega)]; rfl
  | n + 1, hn => by
    rw [dscB, List.countP_append, cnt_dsc b t h1 h2 n (by omega), List.countP_replicate]
    by_cases ht : 17 - n = t
    · rw [if_neg (by omega), if_pos (by simp; omega), if_pos (by omega), ht]; omega
    · rw [if_neg (show ¬ (decide (((17 - n : Nat) : Int) = (t : Int)) = true) by simp; omega)]
      by_cases h : 18 - n ≤ t
      · rw [if_pos h, if_pos (by omega)]; rfl
      · rw [if_neg h, if_neg (by omega)]
def allD (b : List Int) : List Int := dscB b 17 ++ List.replicate (cntB b 0) 0
theorem allD_sorted (b : List Int) : (allD b).Pairwise (fun x y => y ≤ x) := by
  rw [allD, List.pairwise_append]
  refine ⟨dscB_sorted b 17 (by omega), ?_, fun x hx y hy => ?_⟩
  · rw [List.pairwise_replicate]; right; omega
  · have h1 := dscB_bd b 17 (by omega) x hx
    have h2 := List.eq_of_mem_replicate hy
    omega
theorem okL_mem {b : List Int} (h : okL b = true) {x : Int} (hx : x ∈ b) : 0 ≤ x ∧ x ≤ 17 := by
  unfold okL at h
  have := List.all_eq_true.1 h x hx
  exact inB_iff.1 this
theorem allD_perm {b : List Int} (h : okL b = true) : (allD b).Perm b := by
  rw [List.perm_iff_count]
  intro x
  have hc : ∀ l : List Int, l.count x = l.countP fun y => decide (y = x) := fun l => by
    rw [List.count]; congr 1
  rw [hc, hc, allD, List.countP_append, List.countP_replicate]
  by_cases hx : 0 ≤ x ∧ x ≤ 17
  · obtain ⟨t, rfl⟩ := Int.eq_ofNat_of_zero_le hx.1
    by_cases h0 : t = 0
    · subst h0
      have : (dscB b 17).countP (fun y => decide (y = ((0 : Nat) : Int))) = 0 := by
        rw [List.countP_eq_zero]
        intro y hy
        have := dscB_bd b 17 (by omega) y hy
        simp; omega
      rw [this, if_pos (by simp), Nat.zero_add, cntB]
    · rw [cnt_dsc b t (by omega) (by omega) 17 (by omega), if_pos (by omega), if_neg (by simp; omega), Nat.add_zero, cntB]
  · have h1 : b.countP (fun y => decide (y = x)) = 0 := by
      rw [List.countP_eq_zero]
      intro y hy
      have := okL_mem h hy
      simp; omega
    have h2 : (dscB b 17).countP (fun y => decide (y = x)) = 0 := by
      rw [List.countP_eq_zero]
      intro y hy
      have := dscB_bd b 17 (by omega) y hy
      simp; omega
    rw [h1, h2, if_neg (by simp; omega)]
theorem allD_len {b : List Int} (hl : b.length = 16) (h : okL b = true) : (allD b).length = 16 := by rw [(allD_perm h).length_eq, hl]
/-- The sorted numbers, from the last on. -/
theorem sort_allD {b : List Int} (h : okL b = true) : (b.mergeSort fun x y => decide (x ≤ y)).reverse = allD b := by
  have hp := List.mergeSort_perm b (fun x y => decide (x ≤ y))
  have hs : (b.mergeSort fun x y => decide (x ≤ y)).Pairwise (fun x y => decide (x ≤ y) = true) := List.pairwise_mergeSort (by intro a b c; simp; omega) (by intro a b; simp; omega) b
  refine List.Perm.eq_of_pairwise (le := fun x y : Int => y ≤ x) (fun a c _ _ h1 h2 => by omega) ?_ (allD_sorted b) ?_
  · rw [List.pairwise_reverse]
    exact hs.imp fun h => of_decide_eq_true h
  · exact (List.reverse_perm _).trans (hp.trans (allD_perm h).symm)
theorem sort_get {b : List Int} (hl : b.length = 16) (h : okL b = true) {i : Nat} (hi : i < 16) : (b.mergeSort fun x y => decide (x ≤ y))[15 - i]? = some ((allD b).getD i 0) := by
  have hml : (b.mergeSort fun x y => decide (x ≤ y)).length = 16 := by simp [hl]
  rw [← sort_allD h, List.getD_eq_getElem?_getD, List.getElem?_reverse (by omega), hml, show 16 - 1 - i = 15 - i from by omega, List.getElem?_eq_getElem (by omega)]
  rfl
set_option maxHeartbeats 1000000 in
theorem impl_snake (k : Nat) (hk : k ≤ 7) (w0 : World) : Calls Try.prog 71 #[iv k] w0 fun e w' => e = .returned (.agg ((snK k 16).map iv).toArray) ∧ Below w0.heap.size w0 w' := by
  have hC := impl_cells
  have hG := fun (j : Nat) (h : j < (List.range 16).length) (more : List Value) => ecells_get h more
  have hxl : (ecells (List.range 16)).length = 32 := by rw [ecells_len]; rfl
  have hMv : ∀ i, i < 16 → ∀ w : World, Calls Try.prog 107 #[iv k, .agg #[iv (sn0 i).1, iv (sn0 i).2]] w fun e w' => e = .returned (.agg #[iv (snC k i).1, iv (snC k i).2]) ∧ Below w.heap.size w w' := fun i hi => impl_moved k hk (sn0 i).1 (sn0 i).2 (sn0_bd hi).1 (sn0_bd hi).2
  have hSt : ∀ i, snK k (i + 1) = ((snK k i).set (i * 2) (snC k i).1).set (i * 2 + 1) (snC k i).2 := fun _ => rfl
  have hS0 : snK k 0 = [0, 0, 0, 0, 0, 0, 0, 0, 0, 0, 0, 0, 0, 0, 0, 0, 0, 0, 0, 0, 0, 0, 0, 0, 0, 0, 0, 0, 0, 0, 0, 0] := rfl
  have hSl := snK_len k
  have hRg : ∀ j (h : j < (List.range 16).length), (List.range 16)[j] = j := fun j h => by simp
  have h16 : (List.range 16).length = 16 := by simp
  generalize snK k = sk at *
  generalize List.range 16 = R at *
  have HC := Lib.hid hC
  have HG := Lib.hid hG
  have HMv := Lib.hid hMv
  have HSt := Lib.hid hSt
  have HSl := Lib.hid hSl
  have HRg := Lib.hid hRg
  clear hC hG hMv hSt hSl hRg
  go_enter Try.func71, Try.ntmps71
  have hm := Mem.start w0
  (try simp only [nums_map] at *)
  repeat' (first | (go_at_call 106; refine mem_callN hm (HC.out _) ?_; clear hm; intro g more len cap w hm hf hx; (try simp only [])) | ((with_reducible refine gix ?_); first | refine mix rfl rfl rfl rfl ?_ | refine mixr rfl rfl rfl rfl ?_; (try simp only [Int.toNat_zero, Int.reduceToNat, Nat.reduceMul, Nat.zero_mul, Nat.one_mul, List.drop_succ_cons, List.drop_zero, List.take_succ_cons, List.take_zero])) | ((with_reducible refine gl ?_); first | refine ml hm rfl rfl rfl ?_ | refine mlw hm rfl rfl rfl ?_ | (refine mlr hm rfl rfl rfl ?_; try simp only [List.drop_succ_cons, List.drop_zero, List.take_succ_cons, List.take_zero])) | ((with_reducible refine gs ?_); (first | refine ms hm rfl rfl rfl rfl rfl ?_ | refine msw hm rfl rfl rfl rfl ?_ | refine msr hm rfl rfl rfl rfl ?_); clear hm; intro w hm; (try simp only [splice, List.set_cons_zero, List.set_cons_succ] at hm)) | ((with_reducible refine gb ?_); (first | refine mem_box hm rfl rfl rfl ?_ | refine mem_box1 hm rfl rfl rfl rfl ?_); clear hm; intro n w hm) | ((with_reducible refine ga ?_); refine mem_alloc hm rfl rfl ?_; clear hm; intro n w hm) | go_values | go_skip | go_guarded | go_step | go_upon | ((with_reducible refine bp ?_); go_back) | ((with_reducible refine up ?_); first | (simp only [Int.not_lt, Int.not_le] at *; go_simp) | (go_values <;> (try go_simp)) | (go_ite <;> go_prune <;> (try go_simp)) | (split <;> (first | (rename_i hx; exact (hx _ rfl).elim) | go_prune))))
  obtain rfl : len = 16 := by omega
  clear hf hx
  obtain ⟨τ, hτ, hm⟩ := Mem.sig hm
  go_loopw [9] (fun ix wr => ∃ j : Nat, j ≤ 16 ∧ ix = iv j ∧ Mem w0 wr (modB τ 1 ((sk j).map iv))) (fun ix _ => 16 - (intOf ix).toNat)
  case atStart => exact ⟨0, by omega, rfl, by rw [hS0]; subst hτ; exact hm⟩
  case round =>
    clear hm
    obtain ⟨j, hj, rfl, hm⟩ := hrel
    subst hτ
    simp only [modB] at hm
    by_cases hlt : j < 16
    · have hv := HG.out j (by omega) more
      rw [HRg.out j (by omega), ecell] at hv
      have hM := HMv.out j hlt
      have hsj := HSt.out j
      have hl1 := HSl.out j
      have hs1 : (sn0 j).1 = ((j / 4 : Nat) : Int) := rfl
      have hs2 : (sn0 j).2 = if (j / 4) % 2 = 1 then 3 - ((j % 4 : Nat) : Int) else ((j % 4 : Nat) : Int) := rfl
      rw [hs1, hs2] at hM
      have hl3 : ((sk j).map iv).length = 32 := by simpa using hl1
      generalize hF1 : sk (j + 1) = F1 at *
      have HF1 : Unit → Hid _ := fun _ => Lib.hid hF1
      clear hF1 hs1 hs2
      generalize sk j = F0 at *
      have HSJ : Unit → Hid _ := fun _ => Lib.hid hsj
      clear hsj
      have hxl2 : (ecells R ++ more).length = 32 + more.length := by rw [List.length_append, hxl]
      generalize ecells R ++ more = cs at *
      generalize (snC k j).1 = r1 at *
      generalize (snC k j).2 = c1 at *
      have hr3 : ((j / 4 : Nat) : Int) ≤ 3 := by omega
      have hc3 : ((j % 4 : Nat) : Int) ≤ 3 := by omega
      by_cases hodd : (j / 4) % 2 = 1
      · rw [if_pos hodd] at hM
        have hro : ((j / 4 : Nat) : Int) % 2 = 1 := by omega
        have hr0 : 0 ≤ ((j / 4 : Nat) : Int) := by omega
        have hc0 : 0 ≤ ((j % 4 : Nat) : Int) := by omega
        generalize ((j / 4 : Nat) : Int) = r0 at *
        generalize ((j % 4 : Nat) : Int) = c0 at *
        have HM := Lib.hid hM
        clear hM hodd
        repeat' (first | (with_reducible rw [hv]) | (go_at_call 107; refine mem_call hm (HM.out _) ?_; clear hm; intro w hm; (try simp only [nums, List.map_cons, List.map_nil])) | ((with_reducible refine gix ?_); first | refine mix rfl rfl rfl rfl ?_ | refine mixr rfl rfl rfl rfl ?_; (try simp only [Int.toNat_zero, Int.reduceToNat, Nat.reduceMul, Nat.zero_mul, Nat.one_mul, List.drop_succ_cons, List.drop_zero, List.take_succ_cons, List.take_zero])) | ((with_reducible refine gl ?_); first | refine ml hm rfl rfl rfl ?_ | refine mlw hm rfl rfl rfl ?_ | (refine mlr hm rfl rfl rfl ?_; try simp only [List.drop_succ_cons, List.drop_zero, List.take_succ_cons, List.take_zero])) | ((with_reducible refine gs ?_); (first | refine ms hm rfl rfl rfl rfl rfl ?_ | refine msw hm rfl rfl rfl rfl ?_ | refine msr hm rfl rfl rfl rfl ?_); clear hm; intro w hm; (try simp only [splice, List.set_cons_zero, List.set_cons_succ] at hm)) | ((with_reducible refine gb ?_); (first | refine mem_box hm rfl rfl rfl ?_ | refine mem_box1 hm rfl rfl rfl rfl ?_); clear hm; intro n w hm) | ((with_reducible refine ga ?_); refine mem_alloc hm rfl rfl ?_; clear hm; intro n w hm) | go_values | go_skip | go_guarded | go_step | go_upon | ((with_reducible refine bp ?_); go_back) | ((with_reducible refine up ?_); first | (simp only [Int.not_lt, Int.not_le] at *; go_simp) | (go_values <;> (try go_simp)) | (go_ite <;> go_prune <;> (try go_simp)) | (split <;> (first | (rename_i hx; exact (hx _ rfl).elim) | go_prune))))
        go_roundw
        case rel => (try (first | ((repeat apply Exists.intro); refine ⟨?_, rfl⟩) | (repeat refine ex_any ?_))); exact ⟨j + 1, by omega, by go_num, by simp only [modB]; rw [(HF1 ()).out, (HSJ ()).out]; simp only [set_iv] at hm; exact hm.drop (by repeat (first | exact List.Sublist.refl _ | refine List.Sublist.cons _ ?_))⟩
        case measure => simp [intOf]; omega
      · rw [if_neg hodd] at hM
        have hro : ((j / 4 : Nat) : Int) % 2 = 0 := by omega
        have hr0 : 0 ≤ ((j / 4 : Nat) : Int) := by omega
        have hc0 : 0 ≤ ((j % 4 : Nat) : Int) := by omega
        generalize ((j / 4 : Nat) : Int) = r0 at *
        generalize ((j % 4 : Nat) : Int) = c0 at *
        have HM := Lib.hid hM
        clear hM hodd
        repeat' (first | (with_reducible rw [hv]) | (go_at_call 107; refine mem_call hm (HM.out _) ?_; clear hm; intro w hm; (try simp only [nums, List.map_cons, List.map_nil])) | ((with_reducible refine gix ?_); first | refine mix rfl rfl rfl rfl ?_ | refine mixr rfl rfl rfl rfl ?_; (try simp only [Int.toNat_zero, Int.reduceToNat, Nat.reduceMul, Nat.zero_mul, Nat.one_mul, List.drop_succ_cons, List.drop_zero, List.take_succ_cons, List.take_zero])) | ((with_reducible refine gl ?_); first | refine ml hm rfl rfl rfl ?_ | refine mlw hm rfl rfl rfl ?_ | (refine mlr hm rfl rfl rfl ?_; try simp only [List.drop_succ_cons, List.drop_zero, List.take_succ_cons, List.take_zero])) | ((with_reducible refine gs ?_); (first | refine ms hm rfl rfl rfl rfl rfl ?_ | refine msw hm rfl rfl rfl rfl ?_ | refine msr hm rfl rfl rfl rfl ?_); clear hm; intro w hm; (try simp only [splice, List.set_cons_zero, List.set_cons_succ] at hm)) | ((with_reducible refine gb ?_); (first | refine mem_box hm rfl rfl rfl ?_ | refine mem_box1 hm rfl rfl rfl rfl ?_); clear hm; intro n w hm) | ((with_reducible refine ga ?_); refine mem_alloc hm rfl rfl ?_; clear hm; intro n w hm) | go_values | go_skip | go_guarded | go_step | go_upon | ((with_reducible refine bp ?_); go_back) | ((with_reducible refine up ?_); first | (simp only [Int.not_lt, Int.not_le] at *; go_simp) | (go_values <;> (try go_simp)) | (go_ite <;> go_prune <;> (try go_simp)) | (split <;> (first | (rename_i hx; exact (hx _ rfl).elim) | go_prune))))
        go_roundw
        case rel => (try (first | ((repeat apply Exists.intro); refine ⟨?_, rfl⟩) | (repeat refine ex_any ?_))); exact ⟨j + 1, by omega, by go_num, by simp only [modB]; rw [(HF1 ()).out, (HSJ ()).out]; simp only [set_iv] at hm; exact hm.drop (by repeat (first | exact List.Sublist.refl _ | refine List.Sublist.cons _ ?_))⟩
        case measure => simp [intOf]; omega
    · obtain rfl : j = 16 := by omega
      generalize hff : sk 16 = F at *
      have HFF : Unit → Hid _ := fun _ => Lib.hid hff
      clear hff
      have hl1 : F.length = 32 := by rw [← (HFF ()).out]; exact HSl.out 16
      have hl3 : (F.map iv).length = 32 := by simpa using hl1
      repeat' (first  | ((with_reducible refine gix ?_); first | refine mix rfl rfl rfl rfl ?_ | refine mixr rfl rfl rfl rfl ?_; (try simp only [Int.toNat_zero, Int.reduceToNat, Nat.reduceMul, Nat.zero_mul, Nat.one_mul, List.drop_succ_cons, List.drop_zero, List.take_succ_cons, List.take_zero])) | ((with_reducible refine gl ?_); first | refine ml hm rfl rfl rfl ?_ | refine mlw hm rfl rfl rfl ?_ | (refine mlr hm rfl rfl rfl ?_; try simp only [List.drop_succ_cons, List.drop_zero, List.take_succ_cons, List.take_zero])) | ((with_reducible refine gs ?_); (first | refine ms hm rfl rfl rfl rfl rfl ?_ | refine msw hm rfl rfl rfl rfl ?_ | refine msr hm rfl rfl rfl rfl ?_); clear hm; intro w hm; (try simp only [splice, List.set_cons_zero, List.set_cons_succ] at hm)) | ((with_reducible refine gb ?_); (first | refine mem_box hm rfl rfl rfl ?_ | refine mem_box1 hm rfl rfl rfl rfl ?_); clear hm; intro n w hm) | ((with_reducible refine ga ?_); refine mem_alloc hm rfl rfl ?_; clear hm; intro n w hm) | go_values | go_skip | go_guarded | go_step | go_upon | ((with_reducible refine bp ?_); go_back) | ((with_reducible refine up ?_); first | (simp only [Int.not_lt, Int.not_le] at *; go_simp) | (go_values <;> (try go_simp)) | (go_ite <;> go_prune <;> (try go_simp)) | (split <;> (first | (rename_i hx; exact (hx _ rfl).elim) | go_prune))))
      (try simp only [Exit.inBlock, Exit.then])
      (first | (refine ret1 rfl rfl (by (first | exact Res.tmp rfl | exact Res.atw hm rfl | exact Res.at hm rfl)) ?_) | (refine ret2 rfl rfl (by (first | exact Res.tmp rfl | exact Res.atw hm rfl | exact Res.at hm rfl)) (by (first | exact Res.tmp rfl | exact Res.atw hm rfl | exact Res.at hm rfl)) ?_) | (refine ret3 rfl rfl (by (first | exact Res.tmp rfl | exact Res.atw hm rfl | exact Res.at hm rfl)) (by (first | exact Res.tmp rfl | exact Res.atw hm rfl | exact Res.at hm rfl)) (by (first | exact Res.tmp rfl | exact Res.atw hm rfl | exact Res.at hm rfl)) ?_) | (refine ret4 rfl rfl (by (first | exact Res.tmp rfl | exact Res.atw hm rfl | exact Res.at hm rfl)) (by (first | exact Res.tmp rfl | exact Res.atw hm rfl | exact Res.at hm rfl)) (by (first | exact Res.tmp rfl | exact Res.atw hm rfl | exact Res.at hm rfl)) (by (first | exact Res.tmp rfl | exact Res.atw hm rfl | exact Res.at hm rfl)) ?_) | fail "ret")
      rw [(HFF ()).out]
      exact ⟨rfl, hm.below⟩
/-- How many tiles of each kind there are in some cells. -/
def cnK (b : List Int) : Nat → List Int
  | 0 => [0, 0, 0, 0, 0, 0, 0, 0, 0, 0, 0, 0, 0, 0, 0, 0, 0, 0]
  | j + 1 => (cnK b j).set (atL b j).toNat ((cnK b j).getD (atL b j).toNat 0 + 1)
theorem cnK_len (b : List Int) : ∀ j, (cnK b j).length = 18
  | 0 => rfl
  | j + 1 => by rw [cnK, List.length_set, cnK_len b j]
theorem cnK_get {b : List Int} (hl : b.length = 16) (h : okL b = true) {t : Nat} (ht : t < 18) : ∀ j, j ≤ 16 → (cnK b j).getD t 0 = (b.take j).countP fun x : Int => decide (x = (t : Int))
  | 0, _ => by
    have : t = 0 ∨ t = 1 ∨ t = 2 ∨ t = 3 ∨ t = 4 ∨ t = 5 ∨ t = 6 ∨ t = 7 ∨ t = 8 ∨ t = 9 ∨ t = 10 ∨ t = 11 ∨ t = 12 ∨ t = 13 ∨ t = 14 ∨ t = 15 ∨ t = 16 ∨ t = 17 := by omega
    rcases this with rfl | rfl | rfl | rfl | rfl | rfl | rfl | rfl | rfl | rfl | rfl | rfl | rfl | rfl | rfl | rfl | rfl | rfl <;> rfl
  | j + 1, hj => by
    have ih := cnK_get hl h ht j (by omega)
    have hjl : j < b.length := by omega
    have hx := okL_mem h (List.getElem_mem hjl)
    have ha : atL b j = b[j] := by simp [atL, hjl]
    rw [cnK, List.take_succ_eq_append_getElem hjl, List.countP_append, List.countP_cons, List.countP_nil, List.getD_eq_getElem?_getD, ha]
    by_cases he : b[j].toNat = t
    · have hd : b[j] = (t : Int) := by omega
      rw [he, List.getElem?_set_self (by rw [cnK_len]; omega), Option.getD_some, ih, if_pos (by simp [hd])]
      simp
    · rw [List.getElem?_set_ne he, ← List.getD_eq_getElem?_getD, ih, if_neg (by simp; omega)]
      simp
theorem cnK_cnt {b : List Int} (hl : b.length = 16) (h : okL b = true) {t : Nat} (ht : t < 18) : (cnK b 16).getD t 0 = (cntB b t : Nat) := by
  rw [cnK_get hl h ht 16 (by omega), List.take_of_length_le (by omega), cntB]
theorem cnK_bd {b : List Int} (hl : b.length = 16) (h : okL b = true) {t : Nat} (ht : t < 18) {j : Nat} (hj : j ≤ 16) : 0 ≤ (cnK b j).getD t 0 ∧ (cnK b j).getD t 0 ≤ 16 := by
  rw [cnK_get hl h ht j hj]
  have := List.countP_le_length (p := fun x : Int => decide (x = (t : Int))) (l := b.take j)
  rw [List.length_take] at this
  omega
set_option maxHeartbeats 1000000 in
theorem spec_CountTiles_ok (b : List Int) (hl : b.length = 16) (hok : okL b = true) (w0 : World) : Calls Try.prog 147 #[.agg (nums b)] w0 fun e w' => e = .returned (.tuple #[.agg (nums (cnK b 16)), .bool true]) ∧ Below w0.heap.size w0 w' := by
  have hB := spec_l2Board b hl
  rw [hok] at hB
  have hSt : ∀ j, cnK b (j + 1) = (cnK b j).set (atL b j).toNat ((cnK b j).getD (atL b j).toNat 0 + 1) := fun _ => rfl
  have hS0 : cnK b 0 = [0, 0, 0, 0, 0, 0, 0, 0, 0, 0, 0, 0, 0, 0, 0, 0, 0, 0] := rfl
  have hSl := cnK_len b
  have hbd := fun (j : Nat) (hj : j ≤ 16) (t : Nat) (ht : t < 18) => cnK_bd hl hok ht hj
  have hat := fun (j : Nat) (hj : j < 16) => by
    have hx := okL_mem hok (List.getElem_mem (show j < b.length by omega))
    have ha : atL b j = b[j] := by simp [atL, show j < b.length by omega]
    exact (show 0 ≤ atL b j ∧ atL b j ≤ 17 by rw [ha]; exact hx)
  have hgv := fun (j : Nat) (hj : j < 16) => get_iv (b := b) (p := j) (by omega)
  have hbl : (b.map iv).length = 16 := by simpa using hl
  generalize cnK b = ck at *
  have HB := Lib.hid hB
  have HSt := Lib.hid hSt
  have HSl := Lib.hid hSl
  have HBD := Lib.hid hbd
  have HAT := Lib.hid hat
  have HGV := Lib.hid hgv
  clear hB hSt hSl hbd hat hgv hok
  go_enter Try.func147, Try.ntmps147
  have hm := Mem.start w0
  simp only [nums_map] at *
  repeat' (first | (go_at_call 41; refine mem_call hm (HB.out _) ?_; clear hm; intro w hm; (try simp only [nums, List.map_cons, List.map_nil])) | ((with_reducible refine gix ?_); first | refine mix rfl rfl rfl rfl ?_ | refine mixr rfl rfl rfl rfl ?_; (try simp only [Int.toNat_zero, Int.reduceToNat, Nat.reduceMul, Nat.zero_mul, Nat.one_mul, List.drop_succ_cons, List.drop_zero, List.take_succ_cons, List.take_zero])) | ((with_reducible refine gl ?_); first | refine ml hm rfl rfl rfl ?_ | refine mlw hm rfl rfl rfl ?_ | (refine mlr hm rfl rfl rfl ?_; try simp only [List.drop_succ_cons, List.drop_zero, List.take_succ_cons, List.take_zero])) | ((with_reducible refine gs ?_); (first | refine ms hm rfl rfl rfl rfl rfl ?_ | refine msw hm rfl rfl rfl rfl ?_ | refine msr hm rfl rfl rfl rfl ?_); clear hm; intro w hm; (try simp only [splice, List.set_cons_zero, List.set_cons_succ] at hm)) | ((with_reducible refine gb ?_); (first | refine mem_box hm rfl rfl rfl ?_ | refine mem_box1 hm rfl rfl rfl rfl ?_); clear hm; intro n w hm) | ((with_reducible refine ga ?_); refine mem_alloc hm rfl rfl ?_; clear hm; intro n w hm) | go_values | go_skip | go_guarded | go_step | go_upon | ((with_reducible refine bp ?_); go_back) | ((with_reducible refine up ?_); first | (simp only [Int.not_lt, Int.not_le] at *; go_simp) | (go_values <;> (try go_simp)) | (go_ite <;> go_prune <;> (try go_simp)) | (split <;> (first | (rename_i hx; exact (hx _ rfl).elim) | go_prune))))
  obtain ⟨τ, hτ, hm⟩ := Mem.sig hm
  go_loopw [5, 6] (fun r _ wr => ∃ k : Nat, k ≤ 4 ∧ r = iv k ∧ Mem w0 wr (modB τ 0 ((ck (4 * k)).map iv))) (fun r _ _ => 4 - (intOf r).toNat)
  case atStart => exact ⟨0, by omega, rfl, by rw [Nat.mul_zero, hS0]; subst hτ; exact hm⟩
  case round =>
    clear hm
    obtain ⟨k, hk, rfl, hm⟩ := hrel
    by_cases hlt : k < 4
    · have hd : decide ((k : Int) < 4) = true := by simp; omega
      subst hτ
      simp only [modB] at hm
      have hl4 := HSl.out (4 * k)
      generalize hc4 : ck (4 * k) = C4 at *
      have HC4 : Unit → Hid _ := fun _ => Lib.hid hc4
      clear hc4
      have hl4b : (C4.map iv).length = 18 := by simpa using hl4
      repeat' (first  | ((with_reducible refine gix ?_); first | refine mix rfl rfl rfl rfl ?_ | refine mixr rfl rfl rfl rfl ?_; (try simp only [Int.toNat_zero, Int.reduceToNat, Nat.reduceMul, Nat.zero_mul, Nat.one_mul, List.drop_succ_cons, List.drop_zero, List.take_succ_cons, List.take_zero])) | ((with_reducible refine gl ?_); first | refine ml hm rfl rfl rfl ?_ | refine mlw hm rfl rfl rfl ?_ | (refine mlr hm rfl rfl rfl ?_; try simp only [List.drop_succ_cons, List.drop_zero, List.take_succ_cons, List.take_zero])) | ((with_reducible refine gs ?_); (first | refine ms hm rfl rfl rfl rfl rfl ?_ | refine msw hm rfl rfl rfl rfl ?_ | refine msr hm rfl rfl rfl rfl ?_); clear hm; intro w hm; (try simp only [splice, List.set_cons_zero, List.set_cons_succ] at hm)) | ((with_reducible refine gb ?_); (first | refine mem_box hm rfl rfl rfl ?_ | refine mem_box1 hm rfl rfl rfl rfl ?_); clear hm; intro n w hm) | ((with_reducible refine ga ?_); refine mem_alloc hm rfl rfl ?_; clear hm; intro n w hm) | go_values | go_skip | go_guarded | go_step | go_upon | ((with_reducible refine bp ?_); go_back) | ((with_reducible refine up ?_); first | (simp only [Int.not_lt, Int.not_le] at *; go_simp) | (go_values <;> (try go_simp)) | (go_ite <;> go_prune <;> (try go_simp)) | (split <;> (first | (rename_i hx; exact (hx _ rfl).elim) | go_prune))))
      obtain ⟨τ, hτ, hm⟩ := Mem.sig hm
      go_loopw [6] (fun c wr => ∃ j : Nat, j ≤ 4 ∧ c = iv j ∧ Mem w0 wr (modB τ 0 ((ck (4 * k + j)).map iv))) (fun c _ => 4 - (intOf c).toNat)
      case atStart => exact ⟨0, by omega, rfl, by rw [Nat.add_zero, (HC4 ()).out]; subst hτ; exact hm⟩
      case round =>
        clear hm
        obtain ⟨j, hj, rfl, hm⟩ := hrel
        subst hτ
        simp only [modB] at hm
        by_cases hjt : j < 4
        · have hk4 : (k : Int) < 4 := by omega
          have hj4 : (j : Int) < 4 := by omega
          have hv := HGV.out (4 * k + j) (by omega)
          have hv' : (b.map iv)[k * 4 + j]? = some (iv (atL b (4 * k + j))) := by rw [show k * 4 + j = 4 * k + j from by omega]; exact hv
          obtain ⟨x0, x17⟩ := HAT.out (4 * k + j) (by omega)
          have hs := HSt.out (4 * k + j)
          have hlc := HSl.out (4 * k + j)
          have hbb := HBD.out (4 * k + j) (by omega) (atL b (4 * k + j)).toNat (by omega)
          clear hv
          generalize hc5 : ck (4 * k + (j + 1)) = C5 at *
          have HC5 : Unit → Hid _ := fun _ => Lib.hid hc5
          clear hc5
          generalize ck (4 * k + j) = C at *
          generalize atL b (4 * k + j) = x at *
          have hcg : (C.map iv)[x.toNat]? = some (iv (C.getD x.toNat 0)) := by
            rw [List.getElem?_map, List.getElem?_eq_getElem (show x.toNat < C.length by omega), List.getD_eq_getElem?_getD, List.getElem?_eq_getElem (show x.toNat < C.length by omega)]; rfl
          generalize C.getD x.toNat 0 = y at *
          have HSJ : Unit → Hid _ := fun _ => Lib.hid hs
          clear hs
          have hlcb : (C.map iv).length = 18 := by simpa using hlc
          obtain ⟨y0, y16⟩ := hbb
          repeat' (first  | ((with_reducible refine gix ?_); first | refine mix rfl rfl rfl rfl ?_ | refine mixr rfl rfl rfl rfl ?_; (try simp only [Int.toNat_zero, Int.reduceToNat, Nat.reduceMul, Nat.zero_mul, Nat.one_mul, List.drop_succ_cons, List.drop_zero, List.take_succ_cons, List.take_zero])) | ((with_reducible refine gl ?_); first | refine ml hm rfl rfl rfl ?_ | refine mlw hm rfl rfl rfl ?_ | (refine mlr hm rfl rfl rfl ?_; try simp only [List.drop_succ_cons, List.drop_zero, List.take_succ_cons, List.take_zero])) | ((with_reducible refine gs ?_); (first | refine ms hm rfl rfl rfl rfl rfl ?_ | refine msw hm rfl rfl rfl rfl ?_ | refine msr hm rfl rfl rfl rfl ?_); clear hm; intro w hm; (try simp only [splice, List.set_cons_zero, List.set_cons_succ] at hm)) | ((with_reducible refine gb ?_); (first | refine mem_box hm rfl rfl rfl ?_ | refine mem_box1 hm rfl rfl rfl rfl ?_); clear hm; intro n w hm) | ((with_reducible refine ga ?_); refine mem_alloc hm rfl rfl ?_; clear hm; intro n w hm) | go_values | go_skip | go_guarded | go_step | go_upon | ((with_reducible refine bp ?_); go_back) | ((with_reducible refine up ?_); first | (simp only [Int.not_lt, Int.not_le] at *; go_simp) | (go_values <;> (try go_simp)) | (go_ite <;> go_prune <;> (try go_simp)) | (split <;> (first | (rename_i hx; exact (hx _ rfl).elim) | go_prune))))
          go_roundw
          case rel => (try (first | ((repeat apply Exists.intro); refine ⟨?_, rfl⟩) | (repeat refine ex_any ?_))); exact ⟨j + 1, by omega, by go_num, by simp only [modB]; rw [(HC5 ()).out, (HSJ ()).out]; simp only [set_iv] at hm; exact hm.drop (by repeat (first | exact List.Sublist.refl _ | refine List.Sublist.cons _ ?_))⟩
          case measure => simp [intOf]; omega
        · obtain rfl : j = 4 := by omega
          generalize hcc : ck (4 * k + 4) = C at *
          have HCC : Unit → Hid _ := fun _ => Lib.hid hcc
          clear hcc
          repeat' (first  | ((with_reducible refine gix ?_); first | refine mix rfl rfl rfl rfl ?_ | refine mixr rfl rfl rfl rfl ?_; (try simp only [Int.toNat_zero, Int.reduceToNat, Nat.reduceMul, Nat.zero_mul, Nat.one_mul, List.drop_succ_cons, List.drop_zero, List.take_succ_cons, List.take_zero])) | ((with_reducible refine gl ?_); first | refine ml hm rfl rfl rfl ?_ | refine mlw hm rfl rfl rfl ?_ | (refine mlr hm rfl rfl rfl ?_; try simp only [List.drop_succ_cons, List.drop_zero, List.take_succ_cons, List.take_zero])) | ((with_reducible refine gs ?_); (first | refine ms hm rfl rfl rfl rfl rfl ?_ | refine msw hm rfl rfl rfl rfl ?_ | refine msr hm rfl rfl rfl rfl ?_); clear hm; intro w hm; (try simp only [splice, List.set_cons_zero, List.set_cons_succ] at hm)) | ((with_reducible refine gb ?_); (first | refine mem_box hm rfl rfl rfl ?_ | refine mem_box1 hm rfl rfl rfl rfl ?_); clear hm; intro n w hm) | ((with_reducible refine ga ?_); refine mem_alloc hm rfl rfl ?_; clear hm; intro n w hm) | go_values | go_skip | go_guarded | go_step | go_upon | ((with_reducible refine bp ?_); go_back) | ((with_reducible refine up ?_); first | (simp only [Int.not_lt, Int.not_le] at *; go_simp) | (go_values <;> (try go_simp)) | (go_ite <;> go_prune <;> (try go_simp)) | (split <;> (first | (rename_i hx; exact (hx _ rfl).elim) | go_prune))))
          go_roundw
          case rel => (try (first | ((repeat apply Exists.intro); refine ⟨?_, rfl⟩) | (repeat refine ex_any ?_))); exact ⟨k + 1, by omega, by go_num, by simp only [modB]; rw [show 4 * (k + 1) = 4 * k + 4 from by omega, (HCC ()).out]; exact hm.drop (by repeat (first | exact List.Sublist.refl _ | refine List.Sublist.cons _ ?_))⟩
          case measure => simp [intOf]; omega
    · obtain rfl : k = 4 := by omega
      subst hτ
      simp only [modB] at hm
      have hl4 := HSl.out 16
      rw [show 4 * 4 = 16 from rfl] at hm
      generalize hff : ck 16 = F at *
      have HFF : Unit → Hid _ := fun _ => Lib.hid hff
      clear hff
      have hl3 : (F.map iv).length = 18 := by simpa using hl4
      repeat' (first  | ((with_reducible refine gix ?_); first | refine mix rfl rfl rfl rfl ?_ | refine mixr rfl rfl rfl rfl ?_; (try simp only [Int.toNat_zero, Int.reduceToNat, Nat.reduceMul, Nat.zero_mul, Nat.one_mul, List.drop_succ_cons, List.drop_zero, List.take_succ_cons, List.take_zero])) | ((with_reducible refine gl ?_); first | refine ml hm rfl rfl rfl ?_ | refine mlw hm rfl rfl rfl ?_ | (refine mlr hm rfl rfl rfl ?_; try simp only [List.drop_succ_cons, List.drop_zero, List.take_succ_cons, List.take_zero])) | ((with_reducible refine gs ?_); (first | refine ms hm rfl rfl rfl rfl rfl ?_ | refine msw hm rfl rfl rfl rfl ?_ | refine msr hm rfl rfl rfl rfl ?_); clear hm; intro w hm; (try simp only [splice, List.set_cons_zero, List.set_cons_succ] at hm)) | ((with_reducible refine gb ?_); (first | refine mem_box hm rfl rfl rfl ?_ | refine mem_box1 hm rfl rfl rfl rfl ?_); clear hm; intro n w hm) | ((with_reducible refine ga ?_); refine mem_alloc hm rfl rfl ?_; clear hm; intro n w hm) | go_values | go_skip | go_guarded | go_step | go_upon | ((with_reducible refine bp ?_); go_back) | ((with_reducible refine up ?_); first | (simp only [Int.not_lt, Int.not_le] at *; go_simp) | (go_values <;> (try go_simp)) | (go_ite <;> go_prune <;> (try go_simp)) | (split <;> (first | (rename_i hx; exact (hx _ rfl).elim) | go_prune))))
      (try simp only [Exit.inBlock, Exit.then])
      (first | (refine ret1 rfl rfl (by (first | exact Res.tmp rfl | exact Res.atw hm rfl | exact Res.at hm rfl)) ?_) | (refine ret2 rfl rfl (by (first | exact Res.tmp rfl | exact Res.atw hm rfl | exact Res.at hm rfl)) (by (first | exact Res.tmp rfl | exact Res.atw hm rfl | exact Res.at hm rfl)) ?_) | (refine ret3 rfl rfl (by (first | exact Res.tmp rfl | exact Res.atw hm rfl | exact Res.at hm rfl)) (by (first | exact Res.tmp rfl | exact Res.atw hm rfl | exact Res.at hm rfl)) (by (first | exact Res.tmp rfl | exact Res.atw hm rfl | exact Res.at hm rfl)) ?_) | (refine ret4 rfl rfl (by (first | exact Res.tmp rfl | exact Res.atw hm rfl | exact Res.at hm rfl)) (by (first | exact Res.tmp rfl | exact Res.atw hm rfl | exact Res.at hm rfl)) (by (first | exact Res.tmp rfl | exact Res.atw hm rfl | exact Res.at hm rfl)) (by (first | exact Res.tmp rfl | exact Res.atw hm rfl | exact Res.at hm rfl)) ?_) | fail "ret")
      rw [(HFF ()).out]
      exact ⟨rfl, hm.below⟩
end Go.Proofs.Ytelnajpjanmliaa

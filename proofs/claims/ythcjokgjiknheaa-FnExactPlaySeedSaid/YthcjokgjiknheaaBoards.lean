/-
  Walks of the boards of a replay.
-/
import Derived.Test.YthcjokgjiknheaaSteps
set_option linter.unusedVariables false
set_option linter.unusedSimpArgs false
namespace Go.Proofs.Ythcjokgjiknheaa
open Go.RowKit Slm
theorem Sl.lit {w0 w : World} {σ : List Blk} {g len s : Nat} {e : TypeId} {xs : List Value} (hm : Mem w0 w (⟨g, xs, e⟩ :: σ)) (hx : xs.length = len * s) (hl : len ≤ maxLen) : Sl w0 w (.slice (some ⟨g, 0, none⟩) len len) e s xs σ :=
  ⟨g, [], len, len, rfl, by simpa using hm, ⟨Nat.le_refl _, hl, by simpa using hx⟩, hx⟩
def stpAt (S : List Stp) (k : Nat) : Stp := S.getD k (0, 0, 0, 0)
/-- The board behind k steps. -/
def bdK (b : List Int) (S : List Stp) : Nat → List Int
  | 0 => b
  | k + 1 => nextB (bdK b S k) (stpAt S k).1 (stpAt S k).2.1 (stpAt S k).2.2.1 (stpAt S k).2.2.2
def isK (b : List Int) (S : List Stp) (k : Nat) : Bool := stpB (bdK b S k) (stpAt S k).1 (stpAt S k).2.1 (stpAt S k).2.2.1 (stpAt S k).2.2.2
/-- Whether the first n are steps. -/
def okK (b : List Int) (S : List Stp) : Nat → Bool
  | 0 => true
  | k + 1 => okK b S k && isK b S k
def sumK2 (b : List Int) (S : List Stp) : Nat → Int
  | 0 => 0
  | k + 1 => sumK2 b S k + scoreB (stpAt S k).1.toNat (bdK b S k)
def bdsK (b : List Int) (S : List Stp) (n : Nat) : List (List Int) := (List.range (n + 1)).map (bdK b S)
/-- Whether a replay is valid. -/
def valR (b : List Int) (S : List Stp) : Bool := okL b && (decide (S.length ≤ 40) && okK b S S.length)
def bdsR (b : List Int) (S : List Stp) : List (List Int) := if valR b S = true then bdsK b S S.length else []
def sumR (b : List Int) (S : List Stp) : Int := if valR b S = true then sumK2 b S S.length else 0
theorem okK_mono {b : List Int} {S : List Stp} {n : Nat} : ∀ {k : Nat}, okK b S (n + k) = true → okK b S n = true
  | 0, h => h
  | k + 1, h => by
    rw [← Nat.add_assoc] at h
    simp only [okK, Bool.and_eq_true] at h
    exact okK_mono h.1
theorem okK_lt {b : List Int} {S : List Stp} {n k : Nat} (h : okK b S n = true) (hk : k ≤ n) : okK b S k = true := by
  obtain ⟨d, rfl⟩ : ∃ d, n = k + d := ⟨n - k, by omega⟩
  exact okK_mono h
theorem bdK_len {b : List Int} (hl : b.length = 16) (S : List Stp) : ∀ k, (bdK b S k).length = 16
  | 0 => hl
  | k + 1 => nextB_len (bdK_len hl S k) _ _ _ _
theorem bdK_ok {b : List Int} (h : okL b = true) (S : List Stp) : ∀ k, okK b S k = true → okL (bdK b S k) = true
  | 0, _ => h
  | k + 1, hk => by
    simp only [okK, Bool.and_eq_true] at hk
    exact nextB_ok (bdK_ok h S k hk.1) hk.2
theorem bdsK_succ (b : List Int) (S : List Stp) (n : Nat) : bdsK b S (n + 1) = bdsK b S n ++ [bdK b S (n + 1)] := by
  unfold bdsK
  rw [List.range_succ, List.map_append]
  rfl
theorem bdsK_len (b : List Int) (S : List Stp) (n : Nat) : (bdsK b S n).length = n + 1 := by simp [bdsK]
theorem bdsK_16 {b : List Int} (hl : b.length = 16) (S : List Stp) (n : Nat) : ∀ x ∈ bdsK b S n, x.length = 16 := by
  intro x hx
  obtain ⟨k, _, rfl⟩ := List.mem_map.1 hx
  exact bdK_len hl S k
theorem bdsK_get (b : List Int) (S : List Stp) (n k : Nat) (h : k ≤ n) : (bdsK b S n)[k]'(by rw [bdsK_len]; omega) = bdK b S k := by simp [bdsK]
theorem bdsK_row {b : List Int} (hl : b.length = 16) (S : List Stp) (n k : Nat) (h : k ≤ n) (more : List Value) : ((((bdsK b S n).flatten).map iv ++ more).drop (k * 16)).take 16 = (bdK b S k).map iv := by
  have h1 := fm_get (f := fun x : List Int => x) (l := bdsK b S n) (k := k) (by rw [bdsK_len]; omega) (bdsK_16 hl S n) more
  rw [bdsK_get b S n k h] at h1
  have e : (bdsK b S n).flatMap (fun x => x) = (bdsK b S n).flatten := by simp [List.flatMap_def]
  rw [e] at h1
  exact h1
theorem bdsK_flat {b : List Int} (hl : b.length = 16) (S : List Stp) (n : Nat) : ((bdsK b S n).flatten).length = (n + 1) * 16 := by
  have h1 := fm_len (f := fun x : List Int => x) (bdsK b S n) (bdsK_16 hl S n)
  have e : (bdsK b S n).flatMap (fun x => x) = (bdsK b S n).flatten := by simp [List.flatMap_def]
  rw [e, bdsK_len] at h1
  exact h1
theorem stpAt_get {S : List Stp} {k : Nat} (h : k < S.length) : stpAt S k = S[k] := by simp [stpAt, h]
theorem sumK2_bd {b : List Int} (h : okL b = true) (S : List Stp) : ∀ k, okK b S k = true → 0 ≤ sumK2 b S k ∧ sumK2 b S k ≤ 2097152 * k
  | 0, _ => by simp [sumK2]
  | k + 1, hk => by
    simp only [okK, Bool.and_eq_true] at hk
    have h1 := sumK2_bd h S k hk.1
    have h2 := scoreB_bd (bdK_ok h S k hk.1) (stpAt S k).1.toNat
    simp only [sumK2]
    omega
set_option maxHeartbeats 1000000 in
theorem spec_l11Boards {w0 w : World} {σ : List Blk} {g i cap : Nat} {more : List Value} (b : List Int) (hl : b.length = 16) (S : List Stp) (hm : Mem w0 w σ) [At σ g ((S.flatMap stI).map iv ++ more) 55 i] :
    Calls Try.prog 43 #[.agg (b.map iv ++ [Value.slice (some ⟨g, 0, none⟩) S.length cap]).toArray] w fun e w' => ∃ u, e = .returned (.tuple #[u, iv (sumR b S), .bool (valR b S)]) ∧ Sl w0 w' u 31 16 (((bdsR b S).flatten).map iv) σ := by
  have hB := spec_l2Board b hl
  have h16 : ∀ v : Value, ((b.map iv ++ [v]).take 16) = b.map iv := fun v => List.take_left' (by simpa using hl)
  have hv16 : ∀ v : Value, (b.map iv ++ [v])[16]? = some v := fun v => by rw [List.getElem?_append_right (by simp [hl])]; simp [hl]
  have hl17 : ∀ v : Value, (b.map iv ++ [v]).length = 17 := fun v => by simp [hl]
  simp only [nums_map] at hB
  cases hok : okL b
  · have hv0 : valR b S = false := by simp [valR, hok]
    have hbr : bdsR b S = [] := by simp [bdsR, hv0]
    have hsr : sumR b S = 0 := by simp [sumR, hv0]
    rw [hv0, hbr, hsr]
    rw [hok] at hB
    have HB := Lib.hid hB
    have hv16' := hv16 (Value.slice (some ⟨g, 0, none⟩) S.length cap)
    have hl17' := hl17 (Value.slice (some ⟨g, 0, none⟩) S.length cap)
    have h16' := h16 (Value.slice (some ⟨g, 0, none⟩) S.length cap)
    generalize hr : b.map iv ++ [Value.slice (some ⟨g, 0, none⟩) S.length cap] = rc at *
    generalize hcs : (S.flatMap stI).map iv ++ more = cs at *
    clear hB h16 hv16 hl17 hr hcs hv0 hbr hsr hok
    go_enter Try.func43, Try.ntmps43
    repeat' (first | (with_reducible rw [h16']) | (go_at_call 62; refine mem_call hm (HB.out _) ?_; clear hm; intro w hm; (try simp only [nums, List.map_cons, List.map_nil])) | ((with_reducible refine gbs ?_); refine mbs hm rfl rfl rfl ?_; clear hm; intro n w hm; (try simp only [List.flatMap_cons, List.flatMap_nil, Value.cells, List.append_nil, List.cons_append, List.nil_append] at hm)) | ((with_reducible refine gap ?_); refine map_ hm rfl rfl rfl rfl hf ?_; clear hm hf; intro g cap more w hm hf; rw [List.take_left' hx] at hm hf; (try simp only [List.eraseIdx_cons_succ, List.eraseIdx_cons_zero, Nat.zero_add, Nat.reduceAdd, Nat.reduceSub, Nat.reduceLT, if_true, if_false] at hm)) | ((with_reducible refine gix ?_); first | refine mix rfl rfl rfl rfl ?_ | refine mixr rfl rfl rfl rfl ?_; (try simp only [Int.toNat_zero, Int.reduceToNat, Nat.reduceMul, Nat.zero_mul, Nat.one_mul, List.drop_succ_cons, List.drop_zero, List.take_succ_cons, List.take_zero])) | ((with_reducible refine gl ?_); first | refine ml hm rfl rfl rfl ?_ | refine mlw hm rfl rfl rfl ?_ | (refine mlr hm rfl rfl rfl ?_; try simp only [List.drop_succ_cons, List.drop_zero, List.take_succ_cons, List.take_zero])) | ((with_reducible refine gs ?_); (first | refine ms hm rfl rfl rfl rfl rfl ?_ | refine msw hm rfl rfl rfl rfl ?_ | refine msr hm rfl rfl rfl rfl ?_); clear hm; intro w hm; (try simp only [splice, List.set_cons_zero, List.set_cons_succ] at hm)) | ((with_reducible refine gb ?_); (first | refine mem_box hm rfl rfl rfl ?_ | refine mem_box1 hm rfl rfl rfl rfl ?_); clear hm; intro n w hm) | ((with_reducible refine ga ?_); refine mem_alloc hm rfl rfl ?_; clear hm; intro n w hm) | go_values | go_skip | go_guarded | go_step | go_upon | ((with_reducible refine bp ?_); go_back) | ((with_reducible refine up ?_); first | (simp only [Int.not_lt, Int.not_le] at *; go_simp) | (go_values <;> (try go_simp)) | (go_ite <;> go_prune <;> (try go_simp)) | (split <;> (first | (rename_i hx; exact (hx _ rfl).elim) | go_prune))))
    (try simp only [Exit.inBlock, Exit.then])
    (first | (refine ret1 rfl rfl (by (first | exact Res.tmp rfl | exact Res.atw hm rfl | exact Res.at hm rfl)) ?_) | (refine ret2 rfl rfl (by (first | exact Res.tmp rfl | exact Res.atw hm rfl | exact Res.at hm rfl)) (by (first | exact Res.tmp rfl | exact Res.atw hm rfl | exact Res.at hm rfl)) ?_) | (refine ret3 rfl rfl (by (first | exact Res.tmp rfl | exact Res.atw hm rfl | exact Res.at hm rfl)) (by (first | exact Res.tmp rfl | exact Res.atw hm rfl | exact Res.at hm rfl)) (by (first | exact Res.tmp rfl | exact Res.atw hm rfl | exact Res.at hm rfl)) ?_) | (refine ret4 rfl rfl (by (first | exact Res.tmp rfl | exact Res.atw hm rfl | exact Res.at hm rfl)) (by (first | exact Res.tmp rfl | exact Res.atw hm rfl | exact Res.at hm rfl)) (by (first | exact Res.tmp rfl | exact Res.atw hm rfl | exact Res.at hm rfl)) (by (first | exact Res.tmp rfl | exact Res.atw hm rfl | exact Res.at hm rfl)) ?_) | fail "ret")
    exact ⟨_, rfl, (Sl.new hm).drop (List.sublist_cons_self _ _)⟩
  by_cases hn : S.length ≤ 40
  case neg =>
    have hv0 : valR b S = false := by simp [valR, hn]
    have hbr : bdsR b S = [] := by simp [bdsR, hv0]
    have hsr : sumR b S = 0 := by simp [sumR, hv0]
    rw [hv0, hbr, hsr]
    rw [hok] at hB
    have HB := Lib.hid hB
    have hv16' := hv16 (Value.slice (some ⟨g, 0, none⟩) S.length cap)
    have hl17' := hl17 (Value.slice (some ⟨g, 0, none⟩) S.length cap)
    have h16' := h16 (Value.slice (some ⟨g, 0, none⟩) S.length cap)
    generalize hr : b.map iv ++ [Value.slice (some ⟨g, 0, none⟩) S.length cap] = rc at *
    generalize hcs : (S.flatMap stI).map iv ++ more = cs at *
    clear hB h16 hv16 hl17 hr hcs hv0 hbr hsr hok
    go_enter Try.func43, Try.ntmps43
    repeat' (first | (with_reducible rw [h16']) | (go_at_call 62; refine mem_call hm (HB.out _) ?_; clear hm; intro w hm; (try simp only [nums, List.map_cons, List.map_nil])) | ((with_reducible refine gbs ?_); refine mbs hm rfl rfl rfl ?_; clear hm; intro n w hm; (try simp only [List.flatMap_cons, List.flatMap_nil, Value.cells, List.append_nil, List.cons_append, List.nil_append] at hm)) | ((with_reducible refine gap ?_); refine map_ hm rfl rfl rfl rfl hf ?_; clear hm hf; intro g cap more w hm hf; rw [List.take_left' hx] at hm hf; (try simp only [List.eraseIdx_cons_succ, List.eraseIdx_cons_zero, Nat.zero_add, Nat.reduceAdd, Nat.reduceSub, Nat.reduceLT, if_true, if_false] at hm)) | ((with_reducible refine gix ?_); first | refine mix rfl rfl rfl rfl ?_ | refine mixr rfl rfl rfl rfl ?_; (try simp only [Int.toNat_zero, Int.reduceToNat, Nat.reduceMul, Nat.zero_mul, Nat.one_mul, List.drop_succ_cons, List.drop_zero, List.take_succ_cons, List.take_zero])) | ((with_reducible refine gl ?_); first | refine ml hm rfl rfl rfl ?_ | refine mlw hm rfl rfl rfl ?_ | (refine mlr hm rfl rfl rfl ?_; try simp only [List.drop_succ_cons, List.drop_zero, List.take_succ_cons, List.take_zero])) | ((with_reducible refine gs ?_); (first | refine ms hm rfl rfl rfl rfl rfl ?_ | refine msw hm rfl rfl rfl rfl ?_ | refine msr hm rfl rfl rfl rfl ?_); clear hm; intro w hm; (try simp only [splice, List.set_cons_zero, List.set_cons_succ] at hm)) | ((with_reducible refine gb ?_); (first | refine mem_box hm rfl rfl rfl ?_ | refine mem_box1 hm rfl rfl rfl rfl ?_); clear hm; intro n w hm) | ((with_reducible refine ga ?_); refine mem_alloc hm rfl rfl ?_; clear hm; intro n w hm) | go_values | go_skip | go_guarded | go_step | go_upon | ((with_reducible refine bp ?_); go_back) | ((with_reducible refine up ?_); first | (simp only [Int.not_lt, Int.not_le] at *; go_simp) | (go_values <;> (try go_simp)) | (go_ite <;> go_prune <;> (try go_simp)) | (split <;> (first | (rename_i hx; exact (hx _ rfl).elim) | go_prune))))
    (try simp only [Exit.inBlock, Exit.then])
    (first | (refine ret1 rfl rfl (by (first | exact Res.tmp rfl | exact Res.atw hm rfl | exact Res.at hm rfl)) ?_) | (refine ret2 rfl rfl (by (first | exact Res.tmp rfl | exact Res.atw hm rfl | exact Res.at hm rfl)) (by (first | exact Res.tmp rfl | exact Res.atw hm rfl | exact Res.at hm rfl)) ?_) | (refine ret3 rfl rfl (by (first | exact Res.tmp rfl | exact Res.atw hm rfl | exact Res.at hm rfl)) (by (first | exact Res.tmp rfl | exact Res.atw hm rfl | exact Res.at hm rfl)) (by (first | exact Res.tmp rfl | exact Res.atw hm rfl | exact Res.at hm rfl)) ?_) | (refine ret4 rfl rfl (by (first | exact Res.tmp rfl | exact Res.atw hm rfl | exact Res.at hm rfl)) (by (first | exact Res.tmp rfl | exact Res.atw hm rfl | exact Res.at hm rfl)) (by (first | exact Res.tmp rfl | exact Res.atw hm rfl | exact Res.at hm rfl)) (by (first | exact Res.tmp rfl | exact Res.atw hm rfl | exact Res.at hm rfl)) ?_) | fail "ret")
    exact ⟨_, rfl, (Sl.new hm).drop (List.sublist_cons_self _ _)⟩
  have hG := fun (k : Nat) (h : k < S.length) => fm_get h (fun a _ => stI_len a) more
  have hnS : ((S.flatMap stI).map iv ++ more).length = S.length * 4 + more.length := by rw [List.length_append, List.length_map, fm_len S (fun a _ => stI_len a)]
  rw [hok] at hB
  generalize hcs : (S.flatMap stI).map iv ++ more = cs at *
  clear hcs
  have HB := Lib.hid hB
  have HG := Lib.hid hG
  have H16 := Lib.hid h16
  have hv16' := hv16 (Value.slice (some ⟨g, 0, none⟩) S.length cap)
  have hl17' := hl17 (Value.slice (some ⟨g, 0, none⟩) S.length cap)
  have h16' := h16 (Value.slice (some ⟨g, 0, none⟩) S.length cap)
  generalize hr : b.map iv ++ [Value.slice (some ⟨g, 0, none⟩) S.length cap] = rc at *
  clear hB hG h16 hv16 hl17 hr
  go_enter Try.func43, Try.ntmps43
  have hval : valR b S = okK b S S.length := by simp [valR, hok, hn]
  have hok' := hok
  have HO := Lib.hid hok'
  clear hok'
  repeat' (first | (with_reducible rw [h16']) | (go_at_call 62; refine mem_call hm (HB.out _) ?_; clear hm; intro w hm; (try simp only [nums, List.map_cons, List.map_nil])) | ((with_reducible refine gbs ?_); refine mbs hm rfl rfl rfl ?_ rfl (by simp [Value.cells]; assumption); clear hm; intro n w hm; (try simp only [List.flatMap_cons, List.flatMap_nil, Value.cells, List.append_nil, List.cons_append, List.nil_append] at hm)) | ((with_reducible refine gix ?_); first | refine mix rfl rfl rfl rfl ?_ | refine mixr rfl rfl rfl rfl ?_; (try simp only [Int.toNat_zero, Int.reduceToNat, Nat.reduceMul, Nat.zero_mul, Nat.one_mul, List.drop_succ_cons, List.drop_zero, List.take_succ_cons, List.take_zero])) | ((with_reducible refine gl ?_); first | refine ml hm rfl rfl rfl ?_ | refine mlw hm rfl rfl rfl ?_ | (refine mlr hm rfl rfl rfl ?_; try simp only [List.drop_succ_cons, List.drop_zero, List.take_succ_cons, List.take_zero])) | ((with_reducible refine gs ?_); (first | refine ms hm rfl rfl rfl rfl rfl ?_ | refine msw hm rfl rfl rfl rfl ?_ | refine msr hm rfl rfl rfl rfl ?_); clear hm; intro w hm; (try simp only [splice, List.set_cons_zero, List.set_cons_succ] at hm)) | ((with_reducible refine gb ?_); (first | refine mem_box hm rfl rfl rfl ?_ | refine mem_box1 hm rfl rfl rfl rfl ?_); clear hm; intro n w hm) | ((with_reducible refine ga ?_); refine mem_alloc hm rfl rfl ?_; clear hm; intro n w hm) | go_values | go_skip | go_guarded | go_step | go_upon | ((with_reducible refine bp ?_); go_back) | ((with_reducible refine up ?_); first | (simp only [Int.not_lt, Int.not_le] at *; go_simp) | (go_values <;> (try go_simp)) | (go_ite <;> go_prune <;> (try go_simp)) | (split <;> (first | (rename_i hx; exact (hx _ rfl).elim) | go_prune))))
  have hb0 : (bdsK b S 0).flatten = b := by simp [bdsK, bdK]
  have hS1 := Sl.lit (s := 16) (len := 1) hm (by simp [hl]) (by decide)
  rw [← hb0] at hS1
  obtain ⟨τ, hτ, hS1⟩ := Sl.sig2 hS1
  go_loopw [5, 6, 7] (fun u s ix wr => ∃ k : Nat, k ≤ S.length ∧ ix = iv k ∧ s = iv (sumK2 b S k) ∧ okK b S k = true ∧ Sl w0 wr u 31 16 (((bdsK b S k).flatten).map iv) τ) (fun _ _ ix _ => S.length - (intOf ix).toNat)
  case atStart => exact ⟨0, by omega, rfl, rfl, rfl, hS1⟩
  case round =>
    clear hm hS1
    obtain ⟨k, hk, rfl, rfl, hokk, g2, more2, len, cap2, rfl, hm, hf, hx⟩ := hrel
    subst hτ
    have hfl := bdsK_flat hl S k
    have hlen : len = k + 1 := by rw [List.length_map] at hx; omega
    subst hlen
    have hbd := sumK2_bd hok S k hokk
    by_cases hlt : k < S.length
    · have hv := HG.out k hlt
      have hrow := bdsK_row hl S k k (Nat.le_refl _) more2
      have hbl := bdK_len hl S k
      have hbo := bdK_ok hok S k hokk
      have hnl := nextB_len hbl (stpAt S k).1 (stpAt S k).2.1 (stpAt S k).2.2.1 (stpAt S k).2.2.2
      have hD := spec_l5Do (bdK b S k) hbl hbo (stpAt S k).1 (stpAt S k).2.1 (stpAt S k).2.2.1 (stpAt S k).2.2.2
      have hsc := scoreB_bd hbo (stpAt S k).1.toNat
      have hstp := stpAt_get hlt
      rw [← hstp] at hv
      have hnext : ((bdsK b S (k + 1)).flatten).map iv = ((bdsK b S k).flatten).map iv ++ (nextB (bdK b S k) (stpAt S k).1 (stpAt S k).2.1 (stpAt S k).2.2.1 (stpAt S k).2.2.2).map iv := by rw [bdsK_succ, List.flatten_append, List.map_append]; simp [bdK]
      have hsum : sumK2 b S (k + 1) = sumK2 b S k + scoreB (stpAt S k).1.toNat (bdK b S k) := rfl
      have hok1 : okK b S (k + 1) = (okK b S k && isK b S k) := rfl
      rw [hokk, Bool.true_and] at hok1
      have hcl : ((((bdsK b S k).flatten).map iv) ++ more2).length = (k + 1) * 16 + more2.length := by rw [List.length_append, List.length_map, hfl]
      have hz : z16.length = 16 := rfl
      cases his : isK b S k
      · have hf0 : valR b S = false := by
          rw [hval]
          cases h : okK b S S.length with
          | false => rfl
          | true => have := okK_lt h (show k + 1 ≤ S.length by omega); rw [hok1, his] at this; cases this
        have hbr : bdsR b S = [] := by simp [bdsR, hf0]
        have hsr : sumR b S = 0 := by simp [sumR, hf0]
        unfold isK at his
        rw [doB, doS, his] at hD
        simp only [Bool.false_eq_true, if_false] at hD
        have HF : Unit → Hid _ := fun _ => Lib.hid hf0
        have HR : Unit → Hid _ := fun _ => Lib.hid hbr
        have HSR : Unit → Hid _ := fun _ => Lib.hid hsr
        clear hf0 hbr hsr his hok1 hnext hsum hnl hokk hval hstp hsc hbo hx hfl
        generalize sumK2 b S k = sm at *
        generalize (((bdsK b S k).flatten).map iv) ++ more2 = ocs at *
        generalize bdK b S k = B at *
        generalize z16 = Z at *
        generalize stpAt S k = st at *
        obtain ⟨d, r, c, t⟩ := st
        simp only [stI, nums_map, List.map_cons, List.map_nil] at hD hv
        have HD := Lib.hid hD
        clear hD
        repeat' (first | (with_reducible rw [hv]) | (with_reducible rw [hrow]) | ((with_reducible refine gd ?_); refine wp_region_var 14 15 8 31 hm (by kernel_rfl) (by decide +kernel) (by decide +kernel) rfl ?_; refine ⟨Z.map iv, ?_⟩; have hne := MS.any hm; (repeat (first | (refine nAv (by decide) rfl rfl ?_) | (refine nSv (by decide) (by decide) rfl rfl rfl (by intro d h; cases h; decide) (Nat.le_of_ble_eq_true rfl) ?_) | (refine nlate (Nat.ne_of_beq_eq_false rfl) (Nat.ne_of_beq_eq_false rfl) (by rfl) ?_; apply Exists.intro; refine ⟨fun p => ?_, ?_⟩; focus (refine ⟨by rfl, fun w hm => ?_⟩; go_simp; (try refine ⟨rfl, ?_⟩); first | done | exact ⟨rfl, rfl⟩ | rfl)) | (with_reducible rw [hv]) | (with_reducible rw [hrow]) | (go_at_call 57; exact (HD.out _)) | ((with_reducible refine gnl ?_); first | refine nl rfl rfl rfl ?_ | refine nlw rfl rfl rfl ?_ | (refine nlr rfl rfl rfl ?_; try simp only [List.drop_succ_cons, List.drop_zero, List.take_succ_cons, List.take_zero])) | (refine nstep (Nat.ne_of_beq_eq_false rfl) (Nat.ne_of_beq_eq_false rfl) (by rfl) hne ?_; intro hn K hK; go_simp; (try go_ints); (try simp [↓IntWalk.iteOmega, go_sem]); first | (refine hK _ ?_; clear hK K hn) | (apply Exists.intro; refine ⟨fun _ => ?_, hK _ ?_⟩; (first | (refine nAv (by decide) rfl rfl ?_) | (refine nSv (by decide) (by decide) rfl rfl rfl (by intro d h; cases h; decide) (Nat.le_of_ble_eq_true rfl) ?_) | (refine nlate (Nat.ne_of_beq_eq_false rfl) (Nat.ne_of_beq_eq_false rfl) (by rfl) ?_; apply Exists.intro; refine ⟨fun p => ?_, ?_⟩; focus (refine ⟨by rfl, fun w hm => ?_⟩; go_simp; (try refine ⟨rfl, ?_⟩); first | done | exact ⟨rfl, rfl⟩ | rfl)) | (with_reducible rw [hv]) | (with_reducible rw [hrow]) | (go_at_call 57; exact (HD.out _)) | fail); clear hK K hn)))); refine nnil ?_; clear hm hne; intro n w hm; (try simp only [Act.put, List.setIfInBounds_toArray, List.set_cons_zero, List.set_cons_succ])) | ((with_reducible refine gbs ?_); refine mbs hm rfl rfl rfl ?_; clear hm; intro n w hm; (try simp only [List.flatMap_cons, List.flatMap_nil, Value.cells, List.append_nil, List.cons_append, List.nil_append] at hm)) | ((with_reducible refine gap ?_); refine map_ hm rfl rfl rfl rfl hf ?_; clear hm hf; intro g cap more w hm hf; rw [List.take_left' hx] at hm hf; (try simp only [List.eraseIdx_cons_succ, List.eraseIdx_cons_zero, Nat.zero_add, Nat.reduceAdd, Nat.reduceSub, Nat.reduceLT, if_true, if_false] at hm)) | ((with_reducible refine gix ?_); first | refine mix rfl rfl rfl rfl ?_ | refine mixr rfl rfl rfl rfl ?_; (try simp only [Int.toNat_zero, Int.reduceToNat, Nat.reduceMul, Nat.zero_mul, Nat.one_mul, List.drop_succ_cons, List.drop_zero, List.take_succ_cons, List.take_zero])) | ((with_reducible refine gl ?_); first | refine ml hm rfl rfl rfl ?_ | refine mlw hm rfl rfl rfl ?_ | (refine mlr hm rfl rfl rfl ?_; try simp only [List.drop_succ_cons, List.drop_zero, List.take_succ_cons, List.take_zero])) | ((with_reducible refine gs ?_); (first | refine ms hm rfl rfl rfl rfl rfl ?_ | refine msw hm rfl rfl rfl rfl ?_ | refine msr hm rfl rfl rfl rfl ?_); clear hm; intro w hm; (try simp only [splice, List.set_cons_zero, List.set_cons_succ] at hm)) | ((with_reducible refine gb ?_); (first | refine mem_box hm rfl rfl rfl ?_ | refine mem_box1 hm rfl rfl rfl rfl ?_); clear hm; intro n w hm) | ((with_reducible refine ga ?_); refine mem_alloc hm rfl rfl ?_; clear hm; intro n w hm) | go_values | go_skip | go_guarded | go_step | go_upon | ((with_reducible refine bp ?_); go_back) | ((with_reducible refine up ?_); first | (simp only [Int.not_lt, Int.not_le] at *; go_simp) | (go_values <;> (try go_simp)) | (go_ite <;> go_prune <;> (try go_simp)) | (split <;> (first | (rename_i hx; exact (hx _ rfl).elim) | go_prune))))
        (try simp only [Exit.inBlock, Exit.then])
        (first | (refine ret1 rfl rfl (by (first | exact Res.tmp rfl | exact Res.atw hm rfl | exact Res.at hm rfl)) ?_) | (refine ret2 rfl rfl (by (first | exact Res.tmp rfl | exact Res.atw hm rfl | exact Res.at hm rfl)) (by (first | exact Res.tmp rfl | exact Res.atw hm rfl | exact Res.at hm rfl)) ?_) | (refine ret3 rfl rfl (by (first | exact Res.tmp rfl | exact Res.atw hm rfl | exact Res.at hm rfl)) (by (first | exact Res.tmp rfl | exact Res.atw hm rfl | exact Res.at hm rfl)) (by (first | exact Res.tmp rfl | exact Res.atw hm rfl | exact Res.at hm rfl)) ?_) | (refine ret4 rfl rfl (by (first | exact Res.tmp rfl | exact Res.atw hm rfl | exact Res.at hm rfl)) (by (first | exact Res.tmp rfl | exact Res.atw hm rfl | exact Res.at hm rfl)) (by (first | exact Res.tmp rfl | exact Res.atw hm rfl | exact Res.at hm rfl)) (by (first | exact Res.tmp rfl | exact Res.atw hm rfl | exact Res.at hm rfl)) ?_) | fail "ret")
        rw [(HF ()).out, (HR ()).out, (HSR ()).out]
        exact ⟨_, rfl, (Sl.new hm).drop (.cons _ (.cons _ (List.sublist_cons_self _ _)))⟩
      · have hok2 : okK b S (k + 1) = true := by rw [hok1, his]
        unfold isK at his
        rw [doB, doS, his] at hD
        simp only [if_true] at hD
        have HN : Unit → Hid _ := fun _ => Lib.hid hnext
        have HO2 : Unit → Hid _ := fun _ => Lib.hid hok2
        have HSM : Unit → Hid _ := fun _ => Lib.hid hsum
        clear his hok1 hok2 hokk hval hstp hbo hfl hz hnext hsum
        generalize sumK2 b S k = sm at *
        generalize nextB (bdK b S k) (stpAt S k).1 (stpAt S k).2.1 (stpAt S k).2.2.1 (stpAt S k).2.2.2 = Z at *
        generalize scoreB (stpAt S k).1.toNat (bdK b S k) = sc at *
        generalize ((bdsK b S k).flatten).map iv = ocs at *
        generalize bdK b S k = B at *
        generalize stpAt S k = st at *
        obtain ⟨d, r, c, t⟩ := st
        simp only [stI, nums_map, List.map_cons, List.map_nil] at hD hv
        have HD := Lib.hid hD
        have HX2 := Lib.hid hx
        clear hD
        obtain ⟨hsc0, hsc1⟩ := hsc
        obtain ⟨hbd0, hbd1⟩ := hbd
        repeat' (first | (with_reducible rw [hv]) | (with_reducible rw [hrow]) | ((with_reducible refine gd ?_); refine wp_region_var 14 15 8 31 hm (by kernel_rfl) (by decide +kernel) (by decide +kernel) rfl ?_; refine ⟨Z.map iv, ?_⟩; have hne := MS.any hm; (repeat (first | (refine nAv (by decide) rfl rfl ?_) | (refine nSv (by decide) (by decide) rfl rfl rfl (by intro d h; cases h; decide) (Nat.le_of_ble_eq_true rfl) ?_) | (refine nlate (Nat.ne_of_beq_eq_false rfl) (Nat.ne_of_beq_eq_false rfl) (by rfl) ?_; apply Exists.intro; refine ⟨fun p => ?_, ?_⟩; focus (refine ⟨by rfl, fun w hm => ?_⟩; go_simp; (try refine ⟨rfl, ?_⟩); first | done | exact ⟨rfl, rfl⟩ | rfl)) | (with_reducible rw [hv]) | (with_reducible rw [hrow]) | (go_at_call 57; exact (HD.out _)) | ((with_reducible refine gnl ?_); first | refine nl rfl rfl rfl ?_ | refine nlw rfl rfl rfl ?_ | (refine nlr rfl rfl rfl ?_; try simp only [List.drop_succ_cons, List.drop_zero, List.take_succ_cons, List.take_zero])) | (refine nstep (Nat.ne_of_beq_eq_false rfl) (Nat.ne_of_beq_eq_false rfl) (by rfl) hne ?_; intro hn K hK; go_simp; (try go_ints); (try simp [↓IntWalk.iteOmega, go_sem]); first | (refine hK _ ?_; clear hK K hn) | (apply Exists.intro; refine ⟨fun _ => ?_, hK _ ?_⟩; (first | (refine nAv (by decide) rfl rfl ?_) | (refine nSv (by decide) (by decide) rfl rfl rfl (by intro d h; cases h; decide) (Nat.le_of_ble_eq_true rfl) ?_) | (refine nlate (Nat.ne_of_beq_eq_false rfl) (Nat.ne_of_beq_eq_false rfl) (by rfl) ?_; apply Exists.intro; refine ⟨fun p => ?_, ?_⟩; focus (refine ⟨by rfl, fun w hm => ?_⟩; go_simp; (try refine ⟨rfl, ?_⟩); first | done | exact ⟨rfl, rfl⟩ | rfl)) | (with_reducible rw [hv]) | (with_reducible rw [hrow]) | (go_at_call 57; exact (HD.out _)) | fail); clear hK K hn)))); refine nnil ?_; clear hm hne; intro n w hm; (try simp only [Act.put, List.setIfInBounds_toArray, List.set_cons_zero, List.set_cons_succ])) | ((with_reducible refine gbs ?_); refine mbs hm rfl rfl rfl ?_ rfl (by simp [Value.cells]; assumption); clear hm; intro n w hm; (try simp only [List.flatMap_cons, List.flatMap_nil, Value.cells, List.append_nil, List.cons_append, List.nil_append] at hm)) | ((with_reducible refine gbs ?_); refine mbs hm rfl rfl rfl ?_; clear hm; intro n w hm; (try simp only [List.flatMap_cons, List.flatMap_nil, Value.cells, List.append_nil, List.cons_append, List.nil_append] at hm)) | ((with_reducible refine gap ?_); refine map_ hm rfl rfl rfl rfl hf ?_; clear hm hf; intro g cap more w hm hf; rw [List.take_left' hx] at hm hf; (try simp only [List.eraseIdx_cons_succ, List.eraseIdx_cons_zero, Nat.zero_add, Nat.reduceAdd, Nat.reduceSub, Nat.reduceLT, if_true, if_false] at hm)) | ((with_reducible refine gix ?_); first | refine mix rfl rfl rfl rfl ?_ | refine mixr rfl rfl rfl rfl ?_; (try simp only [Int.toNat_zero, Int.reduceToNat, Nat.reduceMul, Nat.zero_mul, Nat.one_mul, List.drop_succ_cons, List.drop_zero, List.take_succ_cons, List.take_zero])) | ((with_reducible refine gl ?_); first | refine ml hm rfl rfl rfl ?_ | refine mlw hm rfl rfl rfl ?_ | (refine mlr hm rfl rfl rfl ?_; try simp only [List.drop_succ_cons, List.drop_zero, List.take_succ_cons, List.take_zero])) | ((with_reducible refine gs ?_); (first | refine ms hm rfl rfl rfl rfl rfl ?_ | refine msw hm rfl rfl rfl rfl ?_ | refine msr hm rfl rfl rfl rfl ?_); clear hm; intro w hm; (try simp only [splice, List.set_cons_zero, List.set_cons_succ] at hm)) | ((with_reducible refine gb ?_); (first | refine mem_box hm rfl rfl rfl ?_ | refine mem_box1 hm rfl rfl rfl rfl ?_); clear hm; intro n w hm) | ((with_reducible refine ga ?_); refine mem_alloc hm rfl rfl ?_; clear hm; intro n w hm) | go_values | go_skip | go_guarded | go_step | go_upon | ((with_reducible refine bp ?_); go_back) | ((with_reducible refine up ?_); first | (simp only [Int.not_lt, Int.not_le] at *; go_simp) | (go_values <;> (try go_simp)) | (go_ite <;> go_prune <;> (try go_simp)) | (split <;> (first | (rename_i hx; exact (hx _ rfl).elim) | go_prune))))
        go_roundw
        case rel => (try (first | ((repeat apply Exists.intro); refine ⟨?_, rfl⟩) | (repeat refine ex_any ?_))); exact ⟨k + 1, by omega, by go_num, by rw [(HSM ()).out], (HO2 ()).out, by rw [(HN ()).out]; exact (Sl.of hm hf (by rw [List.length_append, HX2.out]; simp; omega)).drop (List.sublist_cons_self _ _)⟩
        case measure => simp [intOf]; omega
    · obtain rfl : k = S.length := by omega
      have hv1 : valR b S = true := by rw [hval]; exact hokk
      have hbr : bdsR b S = bdsK b S S.length := by simp [bdsR, hv1]
      have hsr : sumR b S = sumK2 b S S.length := by simp [sumR, hv1]
      have HF : Unit → Hid _ := fun _ => Lib.hid hv1
      have HR : Unit → Hid _ := fun _ => Lib.hid hbr
      have HSR : Unit → Hid _ := fun _ => Lib.hid hsr
      clear hv1 hbr hsr hokk hval
      generalize sumK2 b S S.length = sm at *
      generalize hoc : ((bdsK b S S.length).flatten).map iv = ocs at *
      have HOC : Unit → Hid _ := fun _ => Lib.hid hoc
      clear hoc
      repeat' (first  | ((with_reducible refine gix ?_); first | refine mix rfl rfl rfl rfl ?_ | refine mixr rfl rfl rfl rfl ?_; (try simp only [Int.toNat_zero, Int.reduceToNat, Nat.reduceMul, Nat.zero_mul, Nat.one_mul, List.drop_succ_cons, List.drop_zero, List.take_succ_cons, List.take_zero])) | ((with_reducible refine gl ?_); first | refine ml hm rfl rfl rfl ?_ | refine mlw hm rfl rfl rfl ?_ | (refine mlr hm rfl rfl rfl ?_; try simp only [List.drop_succ_cons, List.drop_zero, List.take_succ_cons, List.take_zero])) | ((with_reducible refine gs ?_); (first | refine ms hm rfl rfl rfl rfl rfl ?_ | refine msw hm rfl rfl rfl rfl ?_ | refine msr hm rfl rfl rfl rfl ?_); clear hm; intro w hm; (try simp only [splice, List.set_cons_zero, List.set_cons_succ] at hm)) | ((with_reducible refine gb ?_); (first | refine mem_box hm rfl rfl rfl ?_ | refine mem_box1 hm rfl rfl rfl rfl ?_); clear hm; intro n w hm) | ((with_reducible refine ga ?_); refine mem_alloc hm rfl rfl ?_; clear hm; intro n w hm) | go_values | go_skip | go_guarded | go_step | go_upon | ((with_reducible refine bp ?_); go_back) | ((with_reducible refine up ?_); first | (simp only [Int.not_lt, Int.not_le] at *; go_simp) | (go_values <;> (try go_simp)) | (go_ite <;> go_prune <;> (try go_simp)) | (split <;> (first | (rename_i hx; exact (hx _ rfl).elim) | go_prune))))
      (try simp only [Exit.inBlock, Exit.then])
      (first | (refine ret1 rfl rfl (by (first | exact Res.tmp rfl | exact Res.atw hm rfl | exact Res.at hm rfl)) ?_) | (refine ret2 rfl rfl (by (first | exact Res.tmp rfl | exact Res.atw hm rfl | exact Res.at hm rfl)) (by (first | exact Res.tmp rfl | exact Res.atw hm rfl | exact Res.at hm rfl)) ?_) | (refine ret3 rfl rfl (by (first | exact Res.tmp rfl | exact Res.atw hm rfl | exact Res.at hm rfl)) (by (first | exact Res.tmp rfl | exact Res.atw hm rfl | exact Res.at hm rfl)) (by (first | exact Res.tmp rfl | exact Res.atw hm rfl | exact Res.at hm rfl)) ?_) | (refine ret4 rfl rfl (by (first | exact Res.tmp rfl | exact Res.atw hm rfl | exact Res.at hm rfl)) (by (first | exact Res.tmp rfl | exact Res.atw hm rfl | exact Res.at hm rfl)) (by (first | exact Res.tmp rfl | exact Res.atw hm rfl | exact Res.at hm rfl)) (by (first | exact Res.tmp rfl | exact Res.atw hm rfl | exact Res.at hm rfl)) ?_) | fail "ret")
      rw [(HF ()).out, (HSR ()).out, (HR ()).out, (HOC ()).out]
      exact ⟨_, rfl, (Sl.of hm hf hx).drop (List.sublist_cons_self _ _)⟩
set_option maxHeartbeats 1000000 in
theorem impl_boards {w0 w : World} {σ : List Blk} {g i cap : Nat} {more : List Value} (b : List Int) (hl : b.length = 16) (S : List Stp) (hm : Mem w0 w σ) [At σ g ((S.flatMap stI).map iv ++ more) 55 i] (hv : valR b S = true) :
    Calls Try.prog 45 #[.agg (b.map iv ++ [Value.slice (some ⟨g, 0, none⟩) S.length cap]).toArray] w fun e w' => ∃ u, e = .returned (.tuple #[u, .bool true]) ∧ Sl w0 w' u 31 16 (((bdsK b S S.length).flatten).map iv) σ := by
  have hB := impl_IsBoard b hl
  have h16 : ∀ v : Value, ((b.map iv ++ [v]).take 16) = b.map iv := fun v => List.take_left' (by simpa using hl)
  have hv16 : ∀ v : Value, (b.map iv ++ [v])[16]? = some v := fun v => by rw [List.getElem?_append_right (by simp [hl])]; simp [hl]
  have hl17 : ∀ v : Value, (b.map iv ++ [v]).length = 17 := fun v => by simp [hl]
  simp only [nums_map] at hB
  simp only [valR, Bool.and_eq_true, decide_eq_true_eq] at hv
  obtain ⟨hok, hn, hall⟩ := hv
  have hG := fun (k : Nat) (h : k < S.length) => fm_get h (fun a _ => stI_len a) more
  have hnS : ((S.flatMap stI).map iv ++ more).length = S.length * 4 + more.length := by rw [List.length_append, List.length_map, fm_len S (fun a _ => stI_len a)]
  rw [hok] at hB
  generalize hcs : (S.flatMap stI).map iv ++ more = cs at *
  clear hcs
  have HB := Lib.hid hB
  have HG := Lib.hid hG
  have HALL := Lib.hid hall
  have hv16' := hv16 (Value.slice (some ⟨g, 0, none⟩) S.length cap)
  have hl17' := hl17 (Value.slice (some ⟨g, 0, none⟩) S.length cap)
  have h16' := h16 (Value.slice (some ⟨g, 0, none⟩) S.length cap)
  generalize hr : b.map iv ++ [Value.slice (some ⟨g, 0, none⟩) S.length cap] = rc at *
  clear hB hG h16 hv16 hl17 hr hall
  go_enter Try.func45, Try.ntmps45
  have HO := Lib.hid hok
  clear hok
  repeat' (first | (with_reducible rw [h16']) | (go_at_call 71; refine mem_call hm (HB.out _) ?_; clear hm; intro w hm; (try simp only [nums, List.map_cons, List.map_nil])) | ((with_reducible refine gbs ?_); refine mbs hm rfl rfl rfl ?_ rfl (by simp [Value.cells]; assumption); clear hm; intro n w hm; (try simp only [List.flatMap_cons, List.flatMap_nil, Value.cells, List.append_nil, List.cons_append, List.nil_append] at hm)) | ((with_reducible refine gix ?_); first | refine mix rfl rfl rfl rfl ?_ | refine mixr rfl rfl rfl rfl ?_; (try simp only [Int.toNat_zero, Int.reduceToNat, Nat.reduceMul, Nat.zero_mul, Nat.one_mul, List.drop_succ_cons, List.drop_zero, List.take_succ_cons, List.take_zero])) | ((with_reducible refine gl ?_); first | refine ml hm rfl rfl rfl ?_ | refine mlw hm rfl rfl rfl ?_ | (refine mlr hm rfl rfl rfl ?_; try simp only [List.drop_succ_cons, List.drop_zero, List.take_succ_cons, List.take_zero])) | ((with_reducible refine gs ?_); (first | refine ms hm rfl rfl rfl rfl rfl ?_ | refine msw hm rfl rfl rfl rfl ?_ | refine msr hm rfl rfl rfl rfl ?_); clear hm; intro w hm; (try simp only [splice, List.set_cons_zero, List.set_cons_succ] at hm)) | ((with_reducible refine gb ?_); (first | refine mem_box hm rfl rfl rfl ?_ | refine mem_box1 hm rfl rfl rfl rfl ?_); clear hm; intro n w hm) | ((with_reducible refine ga ?_); refine mem_alloc hm rfl rfl ?_; clear hm; intro n w hm) | go_values | go_skip | go_guarded | go_step | go_upon | ((with_reducible refine bp ?_); go_back) | ((with_reducible refine up ?_); first | (simp only [Int.not_lt, Int.not_le] at *; go_simp) | (go_values <;> (try go_simp)) | (go_ite <;> go_prune <;> (try go_simp)) | (split <;> (first | (rename_i hx; exact (hx _ rfl).elim) | go_prune))))
  have hb0 : (bdsK b S 0).flatten = b := by simp [bdsK, bdK]
  have hS1 := Sl.lit (s := 16) (len := 1) hm (by simp [hl]) (by decide)
  rw [← hb0] at hS1
  obtain ⟨τ, hτ, hS1⟩ := Sl.sig2 hS1

  go_loopw [4, 25] (fun u ix wr => ∃ k : Nat, k ≤ S.length ∧ ix = iv k ∧ Sl w0 wr u 31 16 (((bdsK b S k).flatten).map iv) τ) (fun _ ix _ => S.length - (intOf ix).toNat)
  case atStart => exact ⟨0, by omega, rfl, hS1⟩
  case round =>
    clear hm hS1
    obtain ⟨k, hk, rfl, g2, more2, len, cap2, rfl, hm, hf, hx⟩ := hrel
    subst hτ
    have hfl := bdsK_flat hl S k
    have hlen : len = k + 1 := by rw [List.length_map] at hx; omega
    subst hlen
    by_cases hlt : k < S.length
    · have hv := HG.out k hlt
      have hokk := okK_lt HALL.out (show k ≤ S.length by omega)
      have hok1 := okK_lt HALL.out (show k + 1 ≤ S.length by omega)
      rw [show okK b S (k + 1) = (okK b S k && isK b S k) from rfl, hokk, Bool.true_and] at hok1
      have hrow := bdsK_row hl S k k (Nat.le_refl _) more2
      have hbl := bdK_len hl S k
      have hbo := bdK_ok HO.out S k hokk
      have hnl := nextB_len hbl (stpAt S k).1 (stpAt S k).2.1 (stpAt S k).2.2.1 (stpAt S k).2.2.2
      have hD := impl_isStep (bdK b S k) hbl hbo (stpAt S k).1 (stpAt S k).2.1 (stpAt S k).2.2.1 (stpAt S k).2.2.2
      unfold isK at hok1
      rw [hok1] at hD
      have hst : stpOK (stpAt S k).1 (stpAt S k).2.1 (stpAt S k).2.2.1 (stpAt S k).2.2.2 = true := by
        have := hok1
        rw [stpB, Bool.and_eq_true] at this
        exact this.1
      obtain ⟨d', r', c', t', e1, e2, e3, e4, h1, h2, h3, h4⟩ := stp_nat hst
      have hH := impl_behind (bdK b S k) hbl hbo d' r' c' t' h1 h2 h3
      have hZ : (slideB 1 d' (bdK b S k)).set (4 * r' + c') t' = nextB (bdK b S k) (stpAt S k).1 (stpAt S k).2.1 (stpAt S k).2.2.1 (stpAt S k).2.2.2 := by
        rw [nextB, e1, e2, e3, e4]; simp only [Int.toNat_natCast]
      rw [hZ, ← e1, ← e2, ← e3, ← e4] at hH
      have hstp := stpAt_get hlt
      rw [← hstp] at hv
      have hnext : ((bdsK b S (k + 1)).flatten).map iv = ((bdsK b S k).flatten).map iv ++ (nextB (bdK b S k) (stpAt S k).1 (stpAt S k).2.1 (stpAt S k).2.2.1 (stpAt S k).2.2.2).map iv := by rw [bdsK_succ, List.flatten_append, List.map_append]; simp [bdK]
      have hcl : ((((bdsK b S k).flatten).map iv) ++ more2).length = (k + 1) * 16 + more2.length := by rw [List.length_append, List.length_map, hfl]
      have HN : Unit → Hid _ := fun _ => Lib.hid hnext
      clear hokk hok1 hst e1 e2 e3 e4 h1 h2 h3 h4 hZ hstp hnext hbo
      generalize nextB (bdK b S k) (stpAt S k).1 (stpAt S k).2.1 (stpAt S k).2.2.1 (stpAt S k).2.2.2 = Z at *
      generalize scoreB d' (bdK b S k) = sc at *
      generalize ((bdsK b S k).flatten).map iv = ocs at *
      generalize bdK b S k = B at *
      generalize stpAt S k = st at *
      obtain ⟨d, r, c, t⟩ := st
      simp only [stI, nums_map, List.map_cons, List.map_nil] at hD hv hH
      have HD := Lib.hid hD
      have HH := Lib.hid hH
      have HX2 := Lib.hid hx
      clear hD hH
      repeat' (first | (with_reducible rw [hv]) | (with_reducible rw [hrow]) | ((with_reducible refine gd ?_); refine mf_start (st := []) hm (by kernel_rfl) (by kernel_rfl) rfl ?_; intro hne; (repeat (first | ((with_reducible refine gfl ?_); first | refine fl rfl rfl rfl ?_ | refine flw rfl rfl rfl ?_ | (refine flr rfl rfl rfl ?_; try simp only [List.drop_succ_cons, List.drop_zero, List.take_succ_cons, List.take_zero])) | ((with_reducible refine gfs ?_); first | refine fs rfl rfl rfl rfl rfl ?_ | refine fsw rfl rfl rfl rfl ?_ | refine fsr rfl rfl rfl rfl ?_) | (refine wpF_step (by rfl) (hne _ (by decide)) ?_; intro hn K hK; go_simp; (try go_ints); (try simp [↓IntWalk.iteOmega, go_sem]); first | (refine hK _ ?_; clear hK K hn) | (apply Exists.intro; refine ⟨fun _ => ?_, hK _ ?_⟩; (first | (with_reducible rw [hv]) | (with_reducible rw [hrow]) | (go_at_call 80; exact (HD.out _)) | fail); clear hK K hn)))); refine wpF_nil ?_; clear hm hne; intro w hm; (try simp only [famEnd, modB, splice, List.set_cons_zero, List.set_cons_succ, set_iv] at hm)) | ((with_reducible refine gd ?_); refine wp_region_var 9 10 7 31 hm (by kernel_rfl) (by decide +kernel) (by decide +kernel) rfl ?_; refine ⟨Z.map iv, ?_⟩; have hne := MS.any hm; (repeat (first | (refine nAv (by decide) rfl rfl ?_) | (refine nSv (by decide) (by decide) rfl rfl rfl (by intro d h; cases h; decide) (Nat.le_of_ble_eq_true rfl) ?_) | (refine nlate (Nat.ne_of_beq_eq_false rfl) (Nat.ne_of_beq_eq_false rfl) (by rfl) ?_; apply Exists.intro; refine ⟨fun p => ?_, ?_⟩; focus (refine ⟨by rfl, fun w hm => ?_⟩; go_simp; (try refine ⟨rfl, ?_⟩); first | done | exact ⟨rfl, rfl⟩ | rfl)) | (with_reducible rw [hv]) | (with_reducible rw [hrow]) | (go_at_call 78; exact (HH.out _)) | ((with_reducible refine gnl ?_); first | refine nl rfl rfl rfl ?_ | refine nlw rfl rfl rfl ?_ | (refine nlr rfl rfl rfl ?_; try simp only [List.drop_succ_cons, List.drop_zero, List.take_succ_cons, List.take_zero])) | (refine nstep (Nat.ne_of_beq_eq_false rfl) (Nat.ne_of_beq_eq_false rfl) (by rfl) hne ?_; intro hn K hK; go_simp; (try go_ints); (try simp [↓IntWalk.iteOmega, go_sem]); first | (refine hK _ ?_; clear hK K hn) | (apply Exists.intro; refine ⟨fun _ => ?_, hK _ ?_⟩; (first | (refine nAv (by decide) rfl rfl ?_) | (refine nSv (by decide) (by decide) rfl rfl rfl (by intro d h; cases h; decide) (Nat.le_of_ble_eq_true rfl) ?_) | (refine nlate (Nat.ne_of_beq_eq_false rfl) (Nat.ne_of_beq_eq_false rfl) (by rfl) ?_; apply Exists.intro; refine ⟨fun p => ?_, ?_⟩; focus (refine ⟨by rfl, fun w hm => ?_⟩; go_simp; (try refine ⟨rfl, ?_⟩); first | done | exact ⟨rfl, rfl⟩ | rfl)) | (with_reducible rw [hv]) | (with_reducible rw [hrow]) | (go_at_call 78; exact (HH.out _)) | fail); clear hK K hn)))); refine nnil ?_; clear hm hne; intro n w hm; (try simp only [Act.put, List.setIfInBounds_toArray, List.set_cons_zero, List.set_cons_succ])) | ((with_reducible refine gbs ?_); refine mbs hm rfl rfl rfl ?_ rfl (by simp [Value.cells]; assumption); clear hm; intro n w hm; (try simp only [List.flatMap_cons, List.flatMap_nil, Value.cells, List.append_nil, List.cons_append, List.nil_append] at hm)) | ((with_reducible refine gbs ?_); refine mbs hm rfl rfl rfl ?_; clear hm; intro n w hm; (try simp only [List.flatMap_cons, List.flatMap_nil, Value.cells, List.append_nil, List.cons_append, List.nil_append] at hm)) | ((with_reducible refine gap ?_); refine map_ hm rfl rfl rfl rfl hf ?_; clear hm hf; intro g cap more w hm hf; rw [List.take_left' hx] at hm hf; (try simp only [List.eraseIdx_cons_succ, List.eraseIdx_cons_zero, Nat.zero_add, Nat.reduceAdd, Nat.reduceSub, Nat.reduceLT, if_true, if_false] at hm)) | ((with_reducible refine gix ?_); first | refine mix rfl rfl rfl rfl ?_ | refine mixr rfl rfl rfl rfl ?_; (try simp only [Int.toNat_zero, Int.reduceToNat, Nat.reduceMul, Nat.zero_mul, Nat.one_mul, List.drop_succ_cons, List.drop_zero, List.take_succ_cons, List.take_zero])) | ((with_reducible refine gl ?_); first | refine ml hm rfl rfl rfl ?_ | refine mlw hm rfl rfl rfl ?_ | (refine mlr hm rfl rfl rfl ?_; try simp only [List.drop_succ_cons, List.drop_zero, List.take_succ_cons, List.take_zero])) | ((with_reducible refine gs ?_); (first | refine ms hm rfl rfl rfl rfl rfl ?_ | refine msw hm rfl rfl rfl rfl ?_ | refine msr hm rfl rfl rfl rfl ?_); clear hm; intro w hm; (try simp only [splice, List.set_cons_zero, List.set_cons_succ] at hm)) | ((with_reducible refine gb ?_); (first | refine mem_box hm rfl rfl rfl ?_ | refine mem_box1 hm rfl rfl rfl rfl ?_); clear hm; intro n w hm) | ((with_reducible refine ga ?_); refine mem_alloc hm rfl rfl ?_; clear hm; intro n w hm) | go_values | go_skip | go_guarded | go_step | go_upon | ((with_reducible refine bp ?_); go_back) | ((with_reducible refine up ?_); first | (simp only [Int.not_lt, Int.not_le] at *; go_simp) | (go_values <;> (try go_simp)) | (go_ite <;> go_prune <;> (try go_simp)) | (split <;> (first | (rename_i hx; exact (hx _ rfl).elim) | go_prune))))

      go_roundw
      case rel => (try (first | ((repeat apply Exists.intro); refine ⟨?_, rfl⟩) | (repeat refine ex_any ?_))); exact ⟨k + 1, by omega, by go_num, by rw [(HN ()).out]; exact (Sl.of hm hf (by rw [List.length_append, HX2.out]; simp; omega)).drop (.cons _ (List.sublist_cons_self _ _))⟩
      case measure => simp [intOf]; omega
    · obtain rfl : k = S.length := by omega
      generalize hoc : ((bdsK b S S.length).flatten).map iv = ocs at *
      have HOC : Unit → Hid _ := fun _ => Lib.hid hoc
      clear hoc
      repeat' (first  | ((with_reducible refine gix ?_); first | refine mix rfl rfl rfl rfl ?_ | refine mixr rfl rfl rfl rfl ?_; (try simp only [Int.toNat_zero, Int.reduceToNat, Nat.reduceMul, Nat.zero_mul, Nat.one_mul, List.drop_succ_cons, List.drop_zero, List.take_succ_cons, List.take_zero])) | ((with_reducible refine gl ?_); first | refine ml hm rfl rfl rfl ?_ | refine mlw hm rfl rfl rfl ?_ | (refine mlr hm rfl rfl rfl ?_; try simp only [List.drop_succ_cons, List.drop_zero, List.take_succ_cons, List.take_zero])) | ((with_reducible refine gs ?_); (first | refine ms hm rfl rfl rfl rfl rfl ?_ | refine msw hm rfl rfl rfl rfl ?_ | refine msr hm rfl rfl rfl rfl ?_); clear hm; intro w hm; (try simp only [splice, List.set_cons_zero, List.set_cons_succ] at hm)) | ((with_reducible refine gb ?_); (first | refine mem_box hm rfl rfl rfl ?_ | refine mem_box1 hm rfl rfl rfl rfl ?_); clear hm; intro n w hm) | ((with_reducible refine ga ?_); refine mem_alloc hm rfl rfl ?_; clear hm; intro n w hm) | go_values | go_skip | go_guarded | go_step | go_upon | ((with_reducible refine bp ?_); go_back) | ((with_reducible refine up ?_); first | (simp only [Int.not_lt, Int.not_le] at *; go_simp) | (go_values <;> (try go_simp)) | (go_ite <;> go_prune <;> (try go_simp)) | (split <;> (first | (rename_i hx; exact (hx _ rfl).elim) | go_prune))))
      (try simp only [Exit.inBlock, Exit.then])
      (first | (refine ret1 rfl rfl (by (first | exact Res.tmp rfl | exact Res.atw hm rfl | exact Res.at hm rfl)) ?_) | (refine ret2 rfl rfl (by (first | exact Res.tmp rfl | exact Res.atw hm rfl | exact Res.at hm rfl)) (by (first | exact Res.tmp rfl | exact Res.atw hm rfl | exact Res.at hm rfl)) ?_) | (refine ret3 rfl rfl (by (first | exact Res.tmp rfl | exact Res.atw hm rfl | exact Res.at hm rfl)) (by (first | exact Res.tmp rfl | exact Res.atw hm rfl | exact Res.at hm rfl)) (by (first | exact Res.tmp rfl | exact Res.atw hm rfl | exact Res.at hm rfl)) ?_) | (refine ret4 rfl rfl (by (first | exact Res.tmp rfl | exact Res.atw hm rfl | exact Res.at hm rfl)) (by (first | exact Res.tmp rfl | exact Res.atw hm rfl | exact Res.at hm rfl)) (by (first | exact Res.tmp rfl | exact Res.atw hm rfl | exact Res.at hm rfl)) (by (first | exact Res.tmp rfl | exact Res.atw hm rfl | exact Res.at hm rfl)) ?_) | fail "ret")
      rw [(HOC ()).out]
      exact ⟨_, rfl, (Sl.of hm hf hx).drop (List.sublist_cons_self _ _)⟩
set_option maxHeartbeats 1000000 in
theorem impl_boards_bad {w0 w : World} {σ : List Blk} {g i cap : Nat} {more : List Value} (b : List Int) (hl : b.length = 16) (S : List Stp) (hm : Mem w0 w σ) [At σ g ((S.flatMap stI).map iv ++ more) 55 i] (hv : valR b S = false) :
    Calls Try.prog 45 #[.agg (b.map iv ++ [Value.slice (some ⟨g, 0, none⟩) S.length cap]).toArray] w fun e w' => e = .returned (.tuple #[.slice none 0 0, .bool false]) ∧ Mem w0 w' σ := by
  have hB := impl_IsBoard b hl
  have h16 : ∀ v : Value, ((b.map iv ++ [v]).take 16) = b.map iv := fun v => List.take_left' (by simpa using hl)
  have hv16 : ∀ v : Value, (b.map iv ++ [v])[16]? = some v := fun v => by rw [List.getElem?_append_right (by simp [hl])]; simp [hl]
  have hl17 : ∀ v : Value, (b.map iv ++ [v]).length = 17 := fun v => by simp [hl]
  simp only [nums_map] at hB
  cases hok : okL b
  · rw [hok] at hB
    have HB := Lib.hid hB
    have hv16' := hv16 (Value.slice (some ⟨g, 0, none⟩) S.length cap)
    have hl17' := hl17 (Value.slice (some ⟨g, 0, none⟩) S.length cap)
    have h16' := h16 (Value.slice (some ⟨g, 0, none⟩) S.length cap)
    generalize hr : b.map iv ++ [Value.slice (some ⟨g, 0, none⟩) S.length cap] = rc at *
    generalize hcs : (S.flatMap stI).map iv ++ more = cs at *
    clear hB h16 hv16 hl17 hr hcs hv hok
    go_enter Try.func45, Try.ntmps45
    repeat' (first | (with_reducible rw [h16']) | (go_at_call 71; refine mem_call hm (HB.out _) ?_; clear hm; intro w hm; (try simp only [nums, List.map_cons, List.map_nil])) | ((with_reducible refine gbs ?_); refine mbs hm rfl rfl rfl ?_; clear hm; intro n w hm; (try simp only [List.flatMap_cons, List.flatMap_nil, Value.cells, List.append_nil, List.cons_append, List.nil_append] at hm)) | ((with_reducible refine gap ?_); refine map_ hm rfl rfl rfl rfl hf ?_; clear hm hf; intro g cap more w hm hf; rw [List.take_left' hx] at hm hf; (try simp only [List.eraseIdx_cons_succ, List.eraseIdx_cons_zero, Nat.zero_add, Nat.reduceAdd, Nat.reduceSub, Nat.reduceLT, if_true, if_false] at hm)) | ((with_reducible refine gix ?_); first | refine mix rfl rfl rfl rfl ?_ | refine mixr rfl rfl rfl rfl ?_; (try simp only [Int.toNat_zero, Int.reduceToNat, Nat.reduceMul, Nat.zero_mul, Nat.one_mul, List.drop_succ_cons, List.drop_zero, List.take_succ_cons, List.take_zero])) | ((with_reducible refine gl ?_); first | refine ml hm rfl rfl rfl ?_ | refine mlw hm rfl rfl rfl ?_ | (refine mlr hm rfl rfl rfl ?_; try simp only [List.drop_succ_cons, List.drop_zero, List.take_succ_cons, List.take_zero])) | ((with_reducible refine gs ?_); (first | refine ms hm rfl rfl rfl rfl rfl ?_ | refine msw hm rfl rfl rfl rfl ?_ | refine msr hm rfl rfl rfl rfl ?_); clear hm; intro w hm; (try simp only [splice, List.set_cons_zero, List.set_cons_succ] at hm)) | ((with_reducible refine gb ?_); (first | refine mem_box hm rfl rfl rfl ?_ | refine mem_box1 hm rfl rfl rfl rfl ?_); clear hm; intro n w hm) | ((with_reducible refine ga ?_); refine mem_alloc hm rfl rfl ?_; clear hm; intro n w hm) | go_values | go_skip | go_guarded | go_step | go_upon | ((with_reducible refine bp ?_); go_back) | ((with_reducible refine up ?_); first | (simp only [Int.not_lt, Int.not_le] at *; go_simp) | (go_values <;> (try go_simp)) | (go_ite <;> go_prune <;> (try go_simp)) | (split <;> (first | (rename_i hx; exact (hx _ rfl).elim) | go_prune))))
    (try simp only [Exit.inBlock, Exit.then])
    (first | (refine ret1 rfl rfl (by (first | exact Res.tmp rfl | exact Res.atw hm rfl | exact Res.at hm rfl)) ?_) | (refine ret2 rfl rfl (by (first | exact Res.tmp rfl | exact Res.atw hm rfl | exact Res.at hm rfl)) (by (first | exact Res.tmp rfl | exact Res.atw hm rfl | exact Res.at hm rfl)) ?_) | (refine ret3 rfl rfl (by (first | exact Res.tmp rfl | exact Res.atw hm rfl | exact Res.at hm rfl)) (by (first | exact Res.tmp rfl | exact Res.atw hm rfl | exact Res.at hm rfl)) (by (first | exact Res.tmp rfl | exact Res.atw hm rfl | exact Res.at hm rfl)) ?_) | (refine ret4 rfl rfl (by (first | exact Res.tmp rfl | exact Res.atw hm rfl | exact Res.at hm rfl)) (by (first | exact Res.tmp rfl | exact Res.atw hm rfl | exact Res.at hm rfl)) (by (first | exact Res.tmp rfl | exact Res.atw hm rfl | exact Res.at hm rfl)) (by (first | exact Res.tmp rfl | exact Res.atw hm rfl | exact Res.at hm rfl)) ?_) | fail "ret")
    exact ⟨rfl, hm.drop (List.sublist_cons_self _ _)⟩
  by_cases hn : S.length ≤ 40
  case neg =>
    rw [hok] at hB
    have HB := Lib.hid hB
    have hv16' := hv16 (Value.slice (some ⟨g, 0, none⟩) S.length cap)
    have hl17' := hl17 (Value.slice (some ⟨g, 0, none⟩) S.length cap)
    have h16' := h16 (Value.slice (some ⟨g, 0, none⟩) S.length cap)
    generalize hr : b.map iv ++ [Value.slice (some ⟨g, 0, none⟩) S.length cap] = rc at *
    generalize hcs : (S.flatMap stI).map iv ++ more = cs at *
    clear hB h16 hv16 hl17 hr hcs hv hok
    go_enter Try.func45, Try.ntmps45
    repeat' (first | (with_reducible rw [h16']) | (go_at_call 71; refine mem_call hm (HB.out _) ?_; clear hm; intro w hm; (try simp only [nums, List.map_cons, List.map_nil])) | ((with_reducible refine gbs ?_); refine mbs hm rfl rfl rfl ?_; clear hm; intro n w hm; (try simp only [List.flatMap_cons, List.flatMap_nil, Value.cells, List.append_nil, List.cons_append, List.nil_append] at hm)) | ((with_reducible refine gap ?_); refine map_ hm rfl rfl rfl rfl hf ?_; clear hm hf; intro g cap more w hm hf; rw [List.take_left' hx] at hm hf; (try simp only [List.eraseIdx_cons_succ, List.eraseIdx_cons_zero, Nat.zero_add, Nat.reduceAdd, Nat.reduceSub, Nat.reduceLT, if_true, if_false] at hm)) | ((with_reducible refine gix ?_); first | refine mix rfl rfl rfl rfl ?_ | refine mixr rfl rfl rfl rfl ?_; (try simp only [Int.toNat_zero, Int.reduceToNat, Nat.reduceMul, Nat.zero_mul, Nat.one_mul, List.drop_succ_cons, List.drop_zero, List.take_succ_cons, List.take_zero])) | ((with_reducible refine gl ?_); first | refine ml hm rfl rfl rfl ?_ | refine mlw hm rfl rfl rfl ?_ | (refine mlr hm rfl rfl rfl ?_; try simp only [List.drop_succ_cons, List.drop_zero, List.take_succ_cons, List.take_zero])) | ((with_reducible refine gs ?_); (first | refine ms hm rfl rfl rfl rfl rfl ?_ | refine msw hm rfl rfl rfl rfl ?_ | refine msr hm rfl rfl rfl rfl ?_); clear hm; intro w hm; (try simp only [splice, List.set_cons_zero, List.set_cons_succ] at hm)) | ((with_reducible refine gb ?_); (first | refine mem_box hm rfl rfl rfl ?_ | refine mem_box1 hm rfl rfl rfl rfl ?_); clear hm; intro n w hm) | ((with_reducible refine ga ?_); refine mem_alloc hm rfl rfl ?_; clear hm; intro n w hm) | go_values | go_skip | go_guarded | go_step | go_upon | ((with_reducible refine bp ?_); go_back) | ((with_reducible refine up ?_); first | (simp only [Int.not_lt, Int.not_le] at *; go_simp) | (go_values <;> (try go_simp)) | (go_ite <;> go_prune <;> (try go_simp)) | (split <;> (first | (rename_i hx; exact (hx _ rfl).elim) | go_prune))))
    (try simp only [Exit.inBlock, Exit.then])
    (first | (refine ret1 rfl rfl (by (first | exact Res.tmp rfl | exact Res.atw hm rfl | exact Res.at hm rfl)) ?_) | (refine ret2 rfl rfl (by (first | exact Res.tmp rfl | exact Res.atw hm rfl | exact Res.at hm rfl)) (by (first | exact Res.tmp rfl | exact Res.atw hm rfl | exact Res.at hm rfl)) ?_) | (refine ret3 rfl rfl (by (first | exact Res.tmp rfl | exact Res.atw hm rfl | exact Res.at hm rfl)) (by (first | exact Res.tmp rfl | exact Res.atw hm rfl | exact Res.at hm rfl)) (by (first | exact Res.tmp rfl | exact Res.atw hm rfl | exact Res.at hm rfl)) ?_) | (refine ret4 rfl rfl (by (first | exact Res.tmp rfl | exact Res.atw hm rfl | exact Res.at hm rfl)) (by (first | exact Res.tmp rfl | exact Res.atw hm rfl | exact Res.at hm rfl)) (by (first | exact Res.tmp rfl | exact Res.atw hm rfl | exact Res.at hm rfl)) (by (first | exact Res.tmp rfl | exact Res.atw hm rfl | exact Res.at hm rfl)) ?_) | fail "ret")
    exact ⟨rfl, hm.drop (List.sublist_cons_self _ _)⟩
  have hall : okK b S S.length = false := by simpa [valR, hok, hn] using hv
  clear hv
  have hG := fun (k : Nat) (h : k < S.length) => fm_get h (fun a _ => stI_len a) more
  have hnS : ((S.flatMap stI).map iv ++ more).length = S.length * 4 + more.length := by rw [List.length_append, List.length_map, fm_len S (fun a _ => stI_len a)]
  rw [hok] at hB
  generalize hcs : (S.flatMap stI).map iv ++ more = cs at *
  clear hcs
  have HB := Lib.hid hB
  have HG := Lib.hid hG
  have HALL := Lib.hid hall
  have hv16' := hv16 (Value.slice (some ⟨g, 0, none⟩) S.length cap)
  have hl17' := hl17 (Value.slice (some ⟨g, 0, none⟩) S.length cap)
  have h16' := h16 (Value.slice (some ⟨g, 0, none⟩) S.length cap)
  generalize hr : b.map iv ++ [Value.slice (some ⟨g, 0, none⟩) S.length cap] = rc at *
  clear hB hG h16 hv16 hl17 hr hall
  go_enter Try.func45, Try.ntmps45
  have HO := Lib.hid hok
  clear hok
  repeat' (first | (with_reducible rw [h16']) | (go_at_call 71; refine mem_call hm (HB.out _) ?_; clear hm; intro w hm; (try simp only [nums, List.map_cons, List.map_nil])) | ((with_reducible refine gbs ?_); refine mbs hm rfl rfl rfl ?_ rfl (by simp [Value.cells]; assumption); clear hm; intro n w hm; (try simp only [List.flatMap_cons, List.flatMap_nil, Value.cells, List.append_nil, List.cons_append, List.nil_append] at hm)) | ((with_reducible refine gix ?_); first | refine mix rfl rfl rfl rfl ?_ | refine mixr rfl rfl rfl rfl ?_; (try simp only [Int.toNat_zero, Int.reduceToNat, Nat.reduceMul, Nat.zero_mul, Nat.one_mul, List.drop_succ_cons, List.drop_zero, List.take_succ_cons, List.take_zero])) | ((with_reducible refine gl ?_); first | refine ml hm rfl rfl rfl ?_ | refine mlw hm rfl rfl rfl ?_ | (refine mlr hm rfl rfl rfl ?_; try simp only [List.drop_succ_cons, List.drop_zero, List.take_succ_cons, List.take_zero])) | ((with_reducible refine gs ?_); (first | refine ms hm rfl rfl rfl rfl rfl ?_ | refine msw hm rfl rfl rfl rfl ?_ | refine msr hm rfl rfl rfl rfl ?_); clear hm; intro w hm; (try simp only [splice, List.set_cons_zero, List.set_cons_succ] at hm)) | ((with_reducible refine gb ?_); (first | refine mem_box hm rfl rfl rfl ?_ | refine mem_box1 hm rfl rfl rfl rfl ?_); clear hm; intro n w hm) | ((with_reducible refine ga ?_); refine mem_alloc hm rfl rfl ?_; clear hm; intro n w hm) | go_values | go_skip | go_guarded | go_step | go_upon | ((with_reducible refine bp ?_); go_back) | ((with_reducible refine up ?_); first | (simp only [Int.not_lt, Int.not_le] at *; go_simp) | (go_values <;> (try go_simp)) | (go_ite <;> go_prune <;> (try go_simp)) | (split <;> (first | (rename_i hx; exact (hx _ rfl).elim) | go_prune))))
  have hb0 : (bdsK b S 0).flatten = b := by simp [bdsK, bdK]
  have hS1 := Sl.lit (s := 16) (len := 1) hm (by simp [hl]) (by decide)
  rw [← hb0] at hS1
  obtain ⟨τ, hτ, hS1⟩ := Sl.sig2 hS1

  go_loopw [4, 25] (fun u ix wr => ∃ k : Nat, k ≤ S.length ∧ ix = iv k ∧ okK b S k = true ∧ Sl w0 wr u 31 16 (((bdsK b S k).flatten).map iv) τ) (fun _ ix _ => S.length - (intOf ix).toNat)
  case atStart => exact ⟨0, by omega, rfl, rfl, hS1⟩
  case round =>
    clear hm hS1
    obtain ⟨k, hk, rfl, hokk, g2, more2, len, cap2, rfl, hm, hf, hx⟩ := hrel
    subst hτ
    have hfl := bdsK_flat hl S k
    have hlen : len = k + 1 := by rw [List.length_map] at hx; omega
    subst hlen
    by_cases hlt : k < S.length
    · have hv := HG.out k hlt
      have hrow := bdsK_row hl S k k (Nat.le_refl _) more2
      have hbl := bdK_len hl S k
      have hbo := bdK_ok HO.out S k hokk
      have hnl := nextB_len hbl (stpAt S k).1 (stpAt S k).2.1 (stpAt S k).2.2.1 (stpAt S k).2.2.2
      have hD := impl_isStep (bdK b S k) hbl hbo (stpAt S k).1 (stpAt S k).2.1 (stpAt S k).2.2.1 (stpAt S k).2.2.2
      have hstp := stpAt_get hlt
      rw [← hstp] at hv
      have hcl : ((((bdsK b S k).flatten).map iv) ++ more2).length = (k + 1) * 16 + more2.length := by rw [List.length_append, List.length_map, hfl]
      cases hok1 : isK b S k
      · unfold isK at hok1
        rw [hok1] at hD
        clear hokk hok1 hstp hbo hnl
        generalize ((bdsK b S k).flatten).map iv = ocs at *
        generalize bdK b S k = B at *
        generalize stpAt S k = st at *
        obtain ⟨d, r, c, t⟩ := st
        simp only [stI, nums_map, List.map_cons, List.map_nil] at hD hv
        have HD := Lib.hid hD
        clear hD
        repeat' (first | (with_reducible rw [hv]) | (with_reducible rw [hrow]) | ((with_reducible refine gd ?_); refine mf_start (st := []) hm (by kernel_rfl) (by kernel_rfl) rfl ?_; intro hne; (repeat (first | ((with_reducible refine gfl ?_); first | refine fl rfl rfl rfl ?_ | refine flw rfl rfl rfl ?_ | (refine flr rfl rfl rfl ?_; try simp only [List.drop_succ_cons, List.drop_zero, List.take_succ_cons, List.take_zero])) | ((with_reducible refine gfs ?_); first | refine fs rfl rfl rfl rfl rfl ?_ | refine fsw rfl rfl rfl rfl ?_ | refine fsr rfl rfl rfl rfl ?_) | (refine wpF_step (by rfl) (hne _ (by decide)) ?_; intro hn K hK; go_simp; (try go_ints); (try simp [↓IntWalk.iteOmega, go_sem]); first | (refine hK _ ?_; clear hK K hn) | (apply Exists.intro; refine ⟨fun _ => ?_, hK _ ?_⟩; (first | (with_reducible rw [hv]) | (with_reducible rw [hrow]) | (go_at_call 80; exact (HD.out _)) | fail); clear hK K hn)))); refine wpF_nil ?_; clear hm hne; intro w hm; (try simp only [famEnd, modB, splice, List.set_cons_zero, List.set_cons_succ, set_iv] at hm)) | ((with_reducible refine gbs ?_); refine mbs hm rfl rfl rfl ?_ rfl (by simp [Value.cells]; assumption); clear hm; intro n w hm; (try simp only [List.flatMap_cons, List.flatMap_nil, Value.cells, List.append_nil, List.cons_append, List.nil_append] at hm)) | ((with_reducible refine gbs ?_); refine mbs hm rfl rfl rfl ?_; clear hm; intro n w hm; (try simp only [List.flatMap_cons, List.flatMap_nil, Value.cells, List.append_nil, List.cons_append, List.nil_append] at hm)) | ((with_reducible refine gap ?_); refine map_ hm rfl rfl rfl rfl hf ?_; clear hm hf; intro g cap more w hm hf; rw [List.take_left' hx] at hm hf; (try simp only [List.eraseIdx_cons_succ, List.eraseIdx_cons_zero, Nat.zero_add, Nat.reduceAdd, Nat.reduceSub, Nat.reduceLT, if_true, if_false] at hm)) | ((with_reducible refine gix ?_); first | refine mix rfl rfl rfl rfl ?_ | refine mixr rfl rfl rfl rfl ?_; (try simp only [Int.toNat_zero, Int.reduceToNat, Nat.reduceMul, Nat.zero_mul, Nat.one_mul, List.drop_succ_cons, List.drop_zero, List.take_succ_cons, List.take_zero])) | ((with_reducible refine gl ?_); first | refine ml hm rfl rfl rfl ?_ | refine mlw hm rfl rfl rfl ?_ | (refine mlr hm rfl rfl rfl ?_; try simp only [List.drop_succ_cons, List.drop_zero, List.take_succ_cons, List.take_zero])) | ((with_reducible refine gs ?_); (first | refine ms hm rfl rfl rfl rfl rfl ?_ | refine msw hm rfl rfl rfl rfl ?_ | refine msr hm rfl rfl rfl rfl ?_); clear hm; intro w hm; (try simp only [splice, List.set_cons_zero, List.set_cons_succ] at hm)) | ((with_reducible refine gb ?_); (first | refine mem_box hm rfl rfl rfl ?_ | refine mem_box1 hm rfl rfl rfl rfl ?_); clear hm; intro n w hm) | ((with_reducible refine ga ?_); refine mem_alloc hm rfl rfl ?_; clear hm; intro n w hm) | go_values | go_skip | go_guarded | go_step | go_upon | ((with_reducible refine bp ?_); go_back) | ((with_reducible refine up ?_); first | (simp only [Int.not_lt, Int.not_le] at *; go_simp) | (go_values <;> (try go_simp)) | (go_ite <;> go_prune <;> (try go_simp)) | (split <;> (first | (rename_i hx; exact (hx _ rfl).elim) | go_prune))))
        (try simp only [Exit.inBlock, Exit.then])
        (first | (refine ret1 rfl rfl (by (first | exact Res.tmp rfl | exact Res.atw hm rfl | exact Res.at hm rfl)) ?_) | (refine ret2 rfl rfl (by (first | exact Res.tmp rfl | exact Res.atw hm rfl | exact Res.at hm rfl)) (by (first | exact Res.tmp rfl | exact Res.atw hm rfl | exact Res.at hm rfl)) ?_) | (refine ret3 rfl rfl (by (first | exact Res.tmp rfl | exact Res.atw hm rfl | exact Res.at hm rfl)) (by (first | exact Res.tmp rfl | exact Res.atw hm rfl | exact Res.at hm rfl)) (by (first | exact Res.tmp rfl | exact Res.atw hm rfl | exact Res.at hm rfl)) ?_) | (refine ret4 rfl rfl (by (first | exact Res.tmp rfl | exact Res.atw hm rfl | exact Res.at hm rfl)) (by (first | exact Res.tmp rfl | exact Res.atw hm rfl | exact Res.at hm rfl)) (by (first | exact Res.tmp rfl | exact Res.atw hm rfl | exact Res.at hm rfl)) (by (first | exact Res.tmp rfl | exact Res.atw hm rfl | exact Res.at hm rfl)) ?_) | fail "ret")
        exact ⟨rfl, hm.drop (.cons _ (.cons _ (List.sublist_cons_self _ _)))⟩
      have hok2 : okK b S (k + 1) = true := by rw [show okK b S (k + 1) = (okK b S k && isK b S k) from rfl, hokk, hok1]; rfl
      have HK2 : Unit → Hid _ := fun _ => Lib.hid hok2
      unfold isK at hok1
      rw [hok1] at hD
      have hst : stpOK (stpAt S k).1 (stpAt S k).2.1 (stpAt S k).2.2.1 (stpAt S k).2.2.2 = true := by
        have := hok1
        rw [stpB, Bool.and_eq_true] at this
        exact this.1
      obtain ⟨d', r', c', t', e1, e2, e3, e4, h1, h2, h3, h4⟩ := stp_nat hst
      have hH := impl_behind (bdK b S k) hbl hbo d' r' c' t' h1 h2 h3
      have hZ : (slideB 1 d' (bdK b S k)).set (4 * r' + c') t' = nextB (bdK b S k) (stpAt S k).1 (stpAt S k).2.1 (stpAt S k).2.2.1 (stpAt S k).2.2.2 := by
        rw [nextB, e1, e2, e3, e4]; simp only [Int.toNat_natCast]
      rw [hZ, ← e1, ← e2, ← e3, ← e4] at hH
      have hnext : ((bdsK b S (k + 1)).flatten).map iv = ((bdsK b S k).flatten).map iv ++ (nextB (bdK b S k) (stpAt S k).1 (stpAt S k).2.1 (stpAt S k).2.2.1 (stpAt S k).2.2.2).map iv := by rw [bdsK_succ, List.flatten_append, List.map_append]; simp [bdK]
      have HN : Unit → Hid _ := fun _ => Lib.hid hnext
      clear hokk hok1 hok2 hst e1 e2 e3 e4 h1 h2 h3 h4 hZ hstp hnext hbo
      generalize nextB (bdK b S k) (stpAt S k).1 (stpAt S k).2.1 (stpAt S k).2.2.1 (stpAt S k).2.2.2 = Z at *
      generalize scoreB d' (bdK b S k) = sc at *
      generalize ((bdsK b S k).flatten).map iv = ocs at *
      generalize bdK b S k = B at *
      generalize stpAt S k = st at *
      obtain ⟨d, r, c, t⟩ := st
      simp only [stI, nums_map, List.map_cons, List.map_nil] at hD hv hH
      have HD := Lib.hid hD
      have HH := Lib.hid hH
      have HX2 := Lib.hid hx
      clear hD hH
      repeat' (first | (with_reducible rw [hv]) | (with_reducible rw [hrow]) | ((with_reducible refine gd ?_); refine mf_start (st := []) hm (by kernel_rfl) (by kernel_rfl) rfl ?_; intro hne; (repeat (first | ((with_reducible refine gfl ?_); first | refine fl rfl rfl rfl ?_ | refine flw rfl rfl rfl ?_ | (refine flr rfl rfl rfl ?_; try simp only [List.drop_succ_cons, List.drop_zero, List.take_succ_cons, List.take_zero])) | ((with_reducible refine gfs ?_); first | refine fs rfl rfl rfl rfl rfl ?_ | refine fsw rfl rfl rfl rfl ?_ | refine fsr rfl rfl rfl rfl ?_) | (refine wpF_step (by rfl) (hne _ (by decide)) ?_; intro hn K hK; go_simp; (try go_ints); (try simp [↓IntWalk.iteOmega, go_sem]); first | (refine hK _ ?_; clear hK K hn) | (apply Exists.intro; refine ⟨fun _ => ?_, hK _ ?_⟩; (first | (with_reducible rw [hv]) | (with_reducible rw [hrow]) | (go_at_call 80; exact (HD.out _)) | fail); clear hK K hn)))); refine wpF_nil ?_; clear hm hne; intro w hm; (try simp only [famEnd, modB, splice, List.set_cons_zero, List.set_cons_succ, set_iv] at hm)) | ((with_reducible refine gd ?_); refine wp_region_var 9 10 7 31 hm (by kernel_rfl) (by decide +kernel) (by decide +kernel) rfl ?_; refine ⟨Z.map iv, ?_⟩; have hne := MS.any hm; (repeat (first | (refine nAv (by decide) rfl rfl ?_) | (refine nSv (by decide) (by decide) rfl rfl rfl (by intro d h; cases h; decide) (Nat.le_of_ble_eq_true rfl) ?_) | (refine nlate (Nat.ne_of_beq_eq_false rfl) (Nat.ne_of_beq_eq_false rfl) (by rfl) ?_; apply Exists.intro; refine ⟨fun p => ?_, ?_⟩; focus (refine ⟨by rfl, fun w hm => ?_⟩; go_simp; (try refine ⟨rfl, ?_⟩); first | done | exact ⟨rfl, rfl⟩ | rfl)) | (with_reducible rw [hv]) | (with_reducible rw [hrow]) | (go_at_call 78; exact (HH.out _)) | ((with_reducible refine gnl ?_); first | refine nl rfl rfl rfl ?_ | refine nlw rfl rfl rfl ?_ | (refine nlr rfl rfl rfl ?_; try simp only [List.drop_succ_cons, List.drop_zero, List.take_succ_cons, List.take_zero])) | (refine nstep (Nat.ne_of_beq_eq_false rfl) (Nat.ne_of_beq_eq_false rfl) (by rfl) hne ?_; intro hn K hK; go_simp; (try go_ints); (try simp [↓IntWalk.iteOmega, go_sem]); first | (refine hK _ ?_; clear hK K hn) | (apply Exists.intro; refine ⟨fun _ => ?_, hK _ ?_⟩; (first | (refine nAv (by decide) rfl rfl ?_) | (refine nSv (by decide) (by decide) rfl rfl rfl (by intro d h; cases h; decide) (Nat.le_of_ble_eq_true rfl) ?_) | (refine nlate (Nat.ne_of_beq_eq_false rfl) (Nat.ne_of_beq_eq_false rfl) (by rfl) ?_; apply Exists.intro; refine ⟨fun p => ?_, ?_⟩; focus (refine ⟨by rfl, fun w hm => ?_⟩; go_simp; (try refine ⟨rfl, ?_⟩); first | done | exact ⟨rfl, rfl⟩ | rfl)) | (with_reducible rw [hv]) | (with_reducible rw [hrow]) | (go_at_call 78; exact (HH.out _)) | fail); clear hK K hn)))); refine nnil ?_; clear hm hne; intro n w hm; (try simp only [Act.put, List.setIfInBounds_toArray, List.set_cons_zero, List.set_cons_succ])) | ((with_reducible refine gbs ?_); refine mbs hm rfl rfl rfl ?_ rfl (by simp [Value.cells]; assumption); clear hm; intro n w hm; (try simp only [List.flatMap_cons, List.flatMap_nil, Value.cells, List.append_nil, List.cons_append, List.nil_append] at hm)) | ((with_reducible refine gbs ?_); refine mbs hm rfl rfl rfl ?_; clear hm; intro n w hm; (try simp only [List.flatMap_cons, List.flatMap_nil, Value.cells, List.append_nil, List.cons_append, List.nil_append] at hm)) | ((with_reducible refine gap ?_); refine map_ hm rfl rfl rfl rfl hf ?_; clear hm hf; intro g cap more w hm hf; rw [List.take_left' hx] at hm hf; (try simp only [List.eraseIdx_cons_succ, List.eraseIdx_cons_zero, Nat.zero_add, Nat.reduceAdd, Nat.reduceSub, Nat.reduceLT, if_true, if_false] at hm)) | ((with_reducible refine gix ?_); first | refine mix rfl rfl rfl rfl ?_ | refine mixr rfl rfl rfl rfl ?_; (try simp only [Int.toNat_zero, Int.reduceToNat, Nat.reduceMul, Nat.zero_mul, Nat.one_mul, List.drop_succ_cons, List.drop_zero, List.take_succ_cons, List.take_zero])) | ((with_reducible refine gl ?_); first | refine ml hm rfl rfl rfl ?_ | refine mlw hm rfl rfl rfl ?_ | (refine mlr hm rfl rfl rfl ?_; try simp only [List.drop_succ_cons, List.drop_zero, List.take_succ_cons, List.take_zero])) | ((with_reducible refine gs ?_); (first | refine ms hm rfl rfl rfl rfl rfl ?_ | refine msw hm rfl rfl rfl rfl ?_ | refine msr hm rfl rfl rfl rfl ?_); clear hm; intro w hm; (try simp only [splice, List.set_cons_zero, List.set_cons_succ] at hm)) | ((with_reducible refine gb ?_); (first | refine mem_box hm rfl rfl rfl ?_ | refine mem_box1 hm rfl rfl rfl rfl ?_); clear hm; intro n w hm) | ((with_reducible refine ga ?_); refine mem_alloc hm rfl rfl ?_; clear hm; intro n w hm) | go_values | go_skip | go_guarded | go_step | go_upon | ((with_reducible refine bp ?_); go_back) | ((with_reducible refine up ?_); first | (simp only [Int.not_lt, Int.not_le] at *; go_simp) | (go_values <;> (try go_simp)) | (go_ite <;> go_prune <;> (try go_simp)) | (split <;> (first | (rename_i hx; exact (hx _ rfl).elim) | go_prune))))

      go_roundw
      case rel => (try (first | ((repeat apply Exists.intro); refine ⟨?_, rfl⟩) | (repeat refine ex_any ?_))); exact ⟨k + 1, by omega, by go_num, (HK2 ()).out, by rw [(HN ()).out]; exact (Sl.of hm hf (by rw [List.length_append, HX2.out]; simp; omega)).drop (.cons _ (List.sublist_cons_self _ _))⟩
      case measure => simp [intOf]; omega
    · obtain rfl : k = S.length := by omega
      rw [HALL.out] at hokk
      cases hokk
end Go.Proofs.Ythcjokgjiknheaa

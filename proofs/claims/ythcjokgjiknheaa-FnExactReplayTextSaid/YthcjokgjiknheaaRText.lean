/-
  Walks of the texts of replays.
-/
import Derived.Test.YthcjokgjiknheaaText2
import Derived.Test.YthcjokgjiknheaaBText
import Derived.Test.YthcjokgjiknheaaReplay
set_option linter.unusedVariables false
set_option linter.unusedSimpArgs false
namespace Go.Proofs.Ythcjokgjiknheaa
open Go.RowKit Slm
theorem impl_StepText_goodR (d r c t : Nat) (hd : d ≤ 3) (hr : r ≤ 3) (hc : c ≤ 3) (ht : 1 ≤ t ∧ t ≤ 2) (w : World) : Calls Try.prog 61 #[.agg #[iv d, iv r, iv c, iv t]] w fun e w' => e = .returned (.tuple #[.string (stepB d r c t), .bool true]) ∧ Below w.heap.size w w' := by
  obtain rfl | rfl | rfl | rfl : d = 0 ∨ d = 1 ∨ d = 2 ∨ d = 3 := by omega
  all_goals obtain rfl | rfl : t = 1 ∨ t = 2 := by omega
  · exact impl_StepText_01 r c hr hc w
  · exact impl_StepText_02 r c hr hc w
  · exact impl_StepText_11 r c hr hc w
  · exact impl_StepText_12 r c hr hc w
  · exact impl_StepText_21 r c hr hc w
  · exact impl_StepText_22 r c hr hc w
  · exact impl_StepText_31 r c hr hc w
  · exact impl_StepText_32 r c hr hc w
def stpL (s : Stp) : List UInt8 := (stepB s.1.toNat s.2.1.toNat s.2.2.1.toNat s.2.2.2.toNat).data.toList
theorem stpL_len (s : Stp) : (stpL s).length = 4 := rfl
def writeR (b : List Int) (S : List Stp) : Nat → List UInt8
  | 0 => textL b 4
  | k + 1 => writeR b S k ++ 32 :: stpL (stpAt S k)
theorem writeR_len (b : List Int) (S : List Stp) : ∀ k, (writeR b S k).length ≤ 20 + 5 * k
  | 0 => textL_len b 4
  | k + 1 => by
    have := writeR_len b S k
    simp only [writeR, List.length_append, List.length_cons, stpL_len]
    omega
def textR (b : List Int) (S : List Stp) : ByteArray := if valR b S = true then bs (writeR b S S.length) else ⟨#[]⟩
theorem valR_facts {b : List Int} {S : List Stp} (h : valR b S = true) : okL b = true ∧ S.length ≤ 40 ∧ ∀ k, k < S.length → stpOK (stpAt S k).1 (stpAt S k).2.1 (stpAt S k).2.2.1 (stpAt S k).2.2.2 = true := by
  simp only [valR, Bool.and_eq_true, decide_eq_true_eq] at h
  refine ⟨h.1, h.2.1, fun k hk => ?_⟩
  have h2 := okK_lt h.2.2 (show k + 1 ≤ S.length by omega)
  simp only [okK, isK, stpB, Bool.and_eq_true] at h2
  exact h2.2.1
set_option maxHeartbeats 1000000 in
theorem spec_l11Write {w0 w : World} {σ : List Blk} {g i cap : Nat} {more : List Value} (b : List Int) (hl : b.length = 16) (S : List Stp) (hm : Mem w0 w σ) [At σ g ((S.flatMap stI).map iv ++ more) 55 i] (hv : valR b S = true) :
    Calls Try.prog 59 #[.agg (b.map iv ++ [Value.slice (some ⟨g, 0, none⟩) S.length cap]).toArray] w fun e w' => e = .returned (.string (bs (writeR b S S.length))) ∧ Mem w0 w' σ := by
  obtain ⟨hok, hS40, hst⟩ := valR_facts hv
  have hB := spec_l2Text b hl hok
  simp only [nums_map] at hB
  have h16 : ∀ v : Value, ((b.map iv ++ [v]).take 16) = b.map iv := fun v => List.take_left' (by simpa using hl)
  have hv16 : ∀ v : Value, (b.map iv ++ [v])[16]? = some v := fun v => by rw [List.getElem?_append_right (by simp [hl])]; simp [hl]
  have hl17 : ∀ v : Value, (b.map iv ++ [v]).length = 17 := fun v => by simp [hl]
  have hG := fun (k : Nat) (h : k < S.length) => fm_get h (fun a _ => stI_len a) more
  have hnS : ((S.flatMap stI).map iv ++ more).length = S.length * 4 + more.length := by rw [List.length_append, List.length_map, fm_len S (fun a _ => stI_len a)]
  generalize hcs : (S.flatMap stI).map iv ++ more = cs at *
  clear hcs hv hok
  have HB := Lib.hid hB
  have HG := Lib.hid hG
  have hv16' := hv16 (Value.slice (some ⟨g, 0, none⟩) S.length cap)
  have hl17' := hl17 (Value.slice (some ⟨g, 0, none⟩) S.length cap)
  have h16' := h16 (Value.slice (some ⟨g, 0, none⟩) S.length cap)
  generalize hr : b.map iv ++ [Value.slice (some ⟨g, 0, none⟩) S.length cap] = rc at *
  clear hB hG h16 hv16 hl17 hr
  go_enter Try.func59, Try.ntmps59
  repeat' (first | (with_reducible rw [h16']) | (go_at_call 89; refine mem_call hm (HB.out _) ?_; clear hm; intro w hm; (try simp only [nums, List.map_cons, List.map_nil])) | ((with_reducible refine gix ?_); first | refine mix rfl rfl rfl rfl ?_ | refine mixr rfl rfl rfl rfl ?_; (try simp only [Int.toNat_zero, Int.reduceToNat, Nat.reduceMul, Nat.zero_mul, Nat.one_mul, List.drop_succ_cons, List.drop_zero, List.take_succ_cons, List.take_zero])) | ((with_reducible refine gl ?_); first | refine ml hm rfl rfl rfl ?_ | refine mlw hm rfl rfl rfl ?_ | (refine mlr hm rfl rfl rfl ?_; try simp only [List.drop_succ_cons, List.drop_zero, List.take_succ_cons, List.take_zero])) | ((with_reducible refine gs ?_); (first | refine ms hm rfl rfl rfl rfl rfl ?_ | refine msw hm rfl rfl rfl rfl ?_ | refine msr hm rfl rfl rfl rfl ?_); clear hm; intro w hm; (try simp only [splice, List.set_cons_zero, List.set_cons_succ] at hm)) | ((with_reducible refine gb ?_); (first | refine mem_box hm rfl rfl rfl ?_ | refine mem_box1 hm rfl rfl rfl rfl ?_); clear hm; intro n w hm) | ((with_reducible refine ga ?_); refine mem_alloc hm rfl rfl ?_; clear hm; intro n w hm) | go_values | go_skip | go_guarded | go_step | go_upon | ((with_reducible refine bp ?_); go_back) | ((with_reducible refine up ?_); first | (simp only [Int.not_lt, Int.not_le] at *; go_simp) | (go_values <;> (try go_simp)) | (go_ite <;> go_prune <;> (try go_simp)) | (split <;> (first | (rename_i hx; exact (hx _ rfl).elim) | go_prune))))
  go_loopw [3, 4] (fun s ix wr => ∃ k : Nat, k ≤ S.length ∧ ix = iv k ∧ s = .string (bs (writeR b S k)) ∧ Mem w0 wr (⟨n, rc, 34⟩ :: σ)) (fun _ ix _ => S.length - (intOf ix).toNat)
  case atStart => exact ⟨0, by omega, rfl, rfl, hm⟩
  case round =>
    clear hm
    obtain ⟨k, hk, rfl, rfl, hm⟩ := hrel
    by_cases hlt : k < S.length
    · have hv := HG.out k hlt
      have hstp := stpAt_get hlt
      rw [← hstp] at hv
      obtain ⟨d, r, c, t, e1, e2, e3, e4, b1, b2, b3, b4⟩ := stp_nat (hst k hlt)
      have hX := spec_l11Text d r c t b1 b2 b3 b4
      have hw1 : writeR b S (k + 1) = writeR b S k ++ 32 :: stpL (stpAt S k) := rfl
      have hwl := writeR_len b S k
      have hsz := bs_size (writeR b S k)
      have hcat : bs (writeR b S k) ++ (⟨#[32]⟩ : ByteArray) ++ stepB d r c t = bs (writeR b S (k + 1)) := by
        rw [hw1, stpL, e1, e2, e3, e4, show (⟨#[32]⟩ : ByteArray) = bs [32] from rfl, bs_app]
        simp only [Int.toNat_natCast]
        conv => lhs; rw [← bs_data (stepB d r c t)]
        rw [bs_app, List.append_assoc]; rfl
      have hss : (stepB d r c t).size = 4 := rfl
      simp only [stI, e1, e2, e3, e4, List.map_cons, List.map_nil] at hv
      generalize stepB d r c t = B at *
      generalize hR : bs (writeR b S (k + 1)) = R at *
      have HR := Lib.hid hR
      have HX := Lib.hid hX
      clear hR hX hw1 hstp
      generalize bs (writeR b S k) = P at *
      repeat' (first | (with_reducible rw [hv]) | (go_at_call 90; refine mem_call hm (HX.out _) ?_; clear hm; intro w hm; (try simp only [nums, List.map_cons, List.map_nil])) | ((with_reducible refine gix ?_); first | refine mix rfl rfl rfl rfl ?_ | refine mixr rfl rfl rfl rfl ?_; (try simp only [Int.toNat_zero, Int.reduceToNat, Nat.reduceMul, Nat.zero_mul, Nat.one_mul, List.drop_succ_cons, List.drop_zero, List.take_succ_cons, List.take_zero])) | ((with_reducible refine gl ?_); first | refine ml hm rfl rfl rfl ?_ | refine mlw hm rfl rfl rfl ?_ | (refine mlr hm rfl rfl rfl ?_; try simp only [List.drop_succ_cons, List.drop_zero, List.take_succ_cons, List.take_zero])) | ((with_reducible refine gs ?_); (first | refine ms hm rfl rfl rfl rfl rfl ?_ | refine msw hm rfl rfl rfl rfl ?_ | refine msr hm rfl rfl rfl rfl ?_); clear hm; intro w hm; (try simp only [splice, List.set_cons_zero, List.set_cons_succ] at hm)) | ((with_reducible refine gb ?_); (first | refine mem_box hm rfl rfl rfl ?_ | refine mem_box1 hm rfl rfl rfl rfl ?_); clear hm; intro n w hm) | ((with_reducible refine ga ?_); refine mem_alloc hm rfl rfl ?_; clear hm; intro n w hm) | go_values | go_skip | go_guarded | go_step | go_upon | ((with_reducible refine bp ?_); go_back) | ((with_reducible refine up ?_); first | (simp only [Int.not_lt, Int.not_le] at *; go_simp) | (go_values <;> (try go_simp)) | (go_ite <;> go_prune <;> (try go_simp)) | (split <;> (first | (rename_i hx; exact (hx _ rfl).elim) | go_prune))))
      go_roundw
      case rel => (try (first | ((repeat apply Exists.intro); refine ⟨?_, rfl⟩) | (repeat refine ex_any ?_))); exact ⟨k + 1, by omega, by go_num, by rw [HR.out], hm⟩
      case measure => simp [intOf]; omega
    · obtain rfl : k = S.length := by omega
      repeat' (first  | ((with_reducible refine gix ?_); first | refine mix rfl rfl rfl rfl ?_ | refine mixr rfl rfl rfl rfl ?_; (try simp only [Int.toNat_zero, Int.reduceToNat, Nat.reduceMul, Nat.zero_mul, Nat.one_mul, List.drop_succ_cons, List.drop_zero, List.take_succ_cons, List.take_zero])) | ((with_reducible refine gl ?_); first | refine ml hm rfl rfl rfl ?_ | refine mlw hm rfl rfl rfl ?_ | (refine mlr hm rfl rfl rfl ?_; try simp only [List.drop_succ_cons, List.drop_zero, List.take_succ_cons, List.take_zero])) | ((with_reducible refine gs ?_); (first | refine ms hm rfl rfl rfl rfl rfl ?_ | refine msw hm rfl rfl rfl rfl ?_ | refine msr hm rfl rfl rfl rfl ?_); clear hm; intro w hm; (try simp only [splice, List.set_cons_zero, List.set_cons_succ] at hm)) | ((with_reducible refine gb ?_); (first | refine mem_box hm rfl rfl rfl ?_ | refine mem_box1 hm rfl rfl rfl rfl ?_); clear hm; intro n w hm) | ((with_reducible refine ga ?_); refine mem_alloc hm rfl rfl ?_; clear hm; intro n w hm) | go_values | go_skip | go_guarded | go_step | go_upon | ((with_reducible refine bp ?_); go_back) | ((with_reducible refine up ?_); first | (simp only [Int.not_lt, Int.not_le] at *; go_simp) | (go_values <;> (try go_simp)) | (go_ite <;> go_prune <;> (try go_simp)) | (split <;> (first | (rename_i hx; exact (hx _ rfl).elim) | go_prune))))
      (try simp only [Exit.inBlock, Exit.then])
      (first | (refine ret1 rfl rfl (by (first | exact Res.tmp rfl | exact Res.atw hm rfl | exact Res.at hm rfl)) ?_) | (refine ret2 rfl rfl (by (first | exact Res.tmp rfl | exact Res.atw hm rfl | exact Res.at hm rfl)) (by (first | exact Res.tmp rfl | exact Res.atw hm rfl | exact Res.at hm rfl)) ?_) | (refine ret3 rfl rfl (by (first | exact Res.tmp rfl | exact Res.atw hm rfl | exact Res.at hm rfl)) (by (first | exact Res.tmp rfl | exact Res.atw hm rfl | exact Res.at hm rfl)) (by (first | exact Res.tmp rfl | exact Res.atw hm rfl | exact Res.at hm rfl)) ?_) | (refine ret4 rfl rfl (by (first | exact Res.tmp rfl | exact Res.atw hm rfl | exact Res.at hm rfl)) (by (first | exact Res.tmp rfl | exact Res.atw hm rfl | exact Res.at hm rfl)) (by (first | exact Res.tmp rfl | exact Res.atw hm rfl | exact Res.at hm rfl)) (by (first | exact Res.tmp rfl | exact Res.atw hm rfl | exact Res.at hm rfl)) ?_) | fail "ret")
      exact ⟨rfl, hm.drop (List.sublist_cons_self _ _)⟩
theorem spec_ReplayText {w0 w : World} {σ : List Blk} {g i cap : Nat} {more : List Value} (b : List Int) (hl : b.length = 16) (S : List Stp) (hm : Mem w0 w σ) [At σ g ((S.flatMap stI).map iv ++ more) 55 i] :
    Calls Try.prog 36 #[.agg (b.map iv ++ [Value.slice (some ⟨g, 0, none⟩) S.length cap]).toArray] w fun e w' => e = .returned (.tuple #[.string (textR b S), .bool (valR b S)]) ∧ Mem w0 w' σ := by
  have hA := fun (w : World) (τ : List Blk) (j : Nat) (hm : Mem w0 w τ) (h : At τ g ((S.flatMap stI).map iv ++ more) 55 j) => spec_IsReplay (g := g) (more := more) (i := j) (cap := cap) b hl S hm
  cases hq : valR b S
  · rw [show textR b S = ⟨#[]⟩ by simp [textR, hq]]
    rw [hq] at hA
    generalize hcs : (S.flatMap stI).map iv ++ more = cs at *
    have h16 : ((b.map iv ++ [Value.slice (some ⟨g, 0, none⟩) S.length cap]).take 16) = b.map iv := List.take_left' (by simpa using hl)
    have hv16 : (b.map iv ++ [Value.slice (some ⟨g, 0, none⟩) S.length cap])[16]? = some (Value.slice (some ⟨g, 0, none⟩) S.length cap) := by rw [List.getElem?_append_right (by simp [hl])]; simp [hl]
    have hl17 : (b.map iv ++ [Value.slice (some ⟨g, 0, none⟩) S.length cap]).length = 17 := by simp [hl]
    generalize b.map iv ++ [Value.slice (some ⟨g, 0, none⟩) S.length cap] = rc at *
    have HA := Lib.hid hA
    clear hA hcs hq
    go_enter Try.func36, Try.ntmps36
    repeat' (first | (go_at_call 14; refine mem_callM (HA.out _ _ _ hm inferInstance) ?_; clear hm; intro w hm; (try simp only [])) | ((with_reducible refine gix ?_); first | refine mix rfl rfl rfl rfl ?_ | refine mixr rfl rfl rfl rfl ?_; (try simp only [Int.toNat_zero, Int.reduceToNat, Nat.reduceMul, Nat.zero_mul, Nat.one_mul, List.drop_succ_cons, List.drop_zero, List.take_succ_cons, List.take_zero])) | ((with_reducible refine gl ?_); first | refine ml hm rfl rfl rfl ?_ | refine mlw hm rfl rfl rfl ?_ | (refine mlr hm rfl rfl rfl ?_; try simp only [List.drop_succ_cons, List.drop_zero, List.take_succ_cons, List.take_zero])) | ((with_reducible refine gs ?_); (first | refine ms hm rfl rfl rfl rfl rfl ?_ | refine msw hm rfl rfl rfl rfl ?_ | refine msr hm rfl rfl rfl rfl ?_); clear hm; intro w hm; (try simp only [splice, List.set_cons_zero, List.set_cons_succ] at hm)) | ((with_reducible refine gb ?_); (first | refine mem_box hm rfl rfl rfl ?_ | refine mem_box1 hm rfl rfl rfl rfl ?_); clear hm; intro n w hm) | ((with_reducible refine ga ?_); refine mem_alloc hm rfl rfl ?_; clear hm; intro n w hm) | go_values | go_skip | go_guarded | go_step | go_upon | ((with_reducible refine bp ?_); go_back) | ((with_reducible refine up ?_); first | (simp only [Int.not_lt, Int.not_le] at *; go_simp) | (go_values <;> (try go_simp)) | (go_ite <;> go_prune <;> (try go_simp)) | (split <;> (first | (rename_i hx; exact (hx _ rfl).elim) | go_prune))))
    (try simp only [Exit.inBlock, Exit.then])
    (first | (refine ret1 rfl rfl (by (first | exact Res.tmp rfl | exact Res.atw hm rfl | exact Res.at hm rfl)) ?_) | (refine ret2 rfl rfl (by (first | exact Res.tmp rfl | exact Res.atw hm rfl | exact Res.at hm rfl)) (by (first | exact Res.tmp rfl | exact Res.atw hm rfl | exact Res.at hm rfl)) ?_) | (refine ret3 rfl rfl (by (first | exact Res.tmp rfl | exact Res.atw hm rfl | exact Res.at hm rfl)) (by (first | exact Res.tmp rfl | exact Res.atw hm rfl | exact Res.at hm rfl)) (by (first | exact Res.tmp rfl | exact Res.atw hm rfl | exact Res.at hm rfl)) ?_) | (refine ret4 rfl rfl (by (first | exact Res.tmp rfl | exact Res.atw hm rfl | exact Res.at hm rfl)) (by (first | exact Res.tmp rfl | exact Res.atw hm rfl | exact Res.at hm rfl)) (by (first | exact Res.tmp rfl | exact Res.atw hm rfl | exact Res.at hm rfl)) (by (first | exact Res.tmp rfl | exact Res.atw hm rfl | exact Res.at hm rfl)) ?_) | fail "ret")
    exact ⟨rfl, hm.drop (by repeat (first | exact List.Sublist.refl _ | refine List.Sublist.cons _ ?_))⟩
  · have hW := fun (w : World) (τ : List Blk) (j : Nat) (hm : Mem w0 w τ) (h : At τ g ((S.flatMap stI).map iv ++ more) 55 j) => spec_l11Write (g := g) (more := more) (i := j) (cap := cap) b hl S hm hq
    rw [show textR b S = bs (writeR b S S.length) by simp [textR, hq]]
    rw [hq] at hA
    generalize bs (writeR b S S.length) = T at *
    generalize hcs : (S.flatMap stI).map iv ++ more = cs at *
    have h16 : ((b.map iv ++ [Value.slice (some ⟨g, 0, none⟩) S.length cap]).take 16) = b.map iv := List.take_left' (by simpa using hl)
    have hv16 : (b.map iv ++ [Value.slice (some ⟨g, 0, none⟩) S.length cap])[16]? = some (Value.slice (some ⟨g, 0, none⟩) S.length cap) := by rw [List.getElem?_append_right (by simp [hl])]; simp [hl]
    have hl17 : (b.map iv ++ [Value.slice (some ⟨g, 0, none⟩) S.length cap]).length = 17 := by simp [hl]
    generalize b.map iv ++ [Value.slice (some ⟨g, 0, none⟩) S.length cap] = rc at *
    have HA := Lib.hid hA
    have HW := Lib.hid hW
    clear hA hcs hq hW
    go_enter Try.func36, Try.ntmps36
    repeat' (first | (go_at_call 14; refine mem_callM (HA.out _ _ _ hm inferInstance) ?_; clear hm; intro w hm; (try simp only [])) | (go_at_call 59; refine mem_callM (HW.out _ _ _ hm inferInstance) ?_; clear hm; intro w hm; (try simp only [])) | ((with_reducible refine gix ?_); first | refine mix rfl rfl rfl rfl ?_ | refine mixr rfl rfl rfl rfl ?_; (try simp only [Int.toNat_zero, Int.reduceToNat, Nat.reduceMul, Nat.zero_mul, Nat.one_mul, List.drop_succ_cons, List.drop_zero, List.take_succ_cons, List.take_zero])) | ((with_reducible refine gl ?_); first | refine ml hm rfl rfl rfl ?_ | refine mlw hm rfl rfl rfl ?_ | (refine mlr hm rfl rfl rfl ?_; try simp only [List.drop_succ_cons, List.drop_zero, List.take_succ_cons, List.take_zero])) | ((with_reducible refine gs ?_); (first | refine ms hm rfl rfl rfl rfl rfl ?_ | refine msw hm rfl rfl rfl rfl ?_ | refine msr hm rfl rfl rfl rfl ?_); clear hm; intro w hm; (try simp only [splice, List.set_cons_zero, List.set_cons_succ] at hm)) | ((with_reducible refine gb ?_); (first | refine mem_box hm rfl rfl rfl ?_ | refine mem_box1 hm rfl rfl rfl rfl ?_); clear hm; intro n w hm) | ((with_reducible refine ga ?_); refine mem_alloc hm rfl rfl ?_; clear hm; intro n w hm) | go_values | go_skip | go_guarded | go_step | go_upon | ((with_reducible refine bp ?_); go_back) | ((with_reducible refine up ?_); first | (simp only [Int.not_lt, Int.not_le] at *; go_simp) | (go_values <;> (try go_simp)) | (go_ite <;> go_prune <;> (try go_simp)) | (split <;> (first | (rename_i hx; exact (hx _ rfl).elim) | go_prune))))
    (try simp only [Exit.inBlock, Exit.then])
    (first | (refine ret1 rfl rfl (by (first | exact Res.tmp rfl | exact Res.atw hm rfl | exact Res.at hm rfl)) ?_) | (refine ret2 rfl rfl (by (first | exact Res.tmp rfl | exact Res.atw hm rfl | exact Res.at hm rfl)) (by (first | exact Res.tmp rfl | exact Res.atw hm rfl | exact Res.at hm rfl)) ?_) | (refine ret3 rfl rfl (by (first | exact Res.tmp rfl | exact Res.atw hm rfl | exact Res.at hm rfl)) (by (first | exact Res.tmp rfl | exact Res.atw hm rfl | exact Res.at hm rfl)) (by (first | exact Res.tmp rfl | exact Res.atw hm rfl | exact Res.at hm rfl)) ?_) | (refine ret4 rfl rfl (by (first | exact Res.tmp rfl | exact Res.atw hm rfl | exact Res.at hm rfl)) (by (first | exact Res.tmp rfl | exact Res.atw hm rfl | exact Res.at hm rfl)) (by (first | exact Res.tmp rfl | exact Res.atw hm rfl | exact Res.at hm rfl)) (by (first | exact Res.tmp rfl | exact Res.atw hm rfl | exact Res.at hm rfl)) ?_) | fail "ret")
    exact ⟨rfl, hm.drop (by repeat (first | exact List.Sublist.refl _ | refine List.Sublist.cons _ ?_))⟩
set_option maxHeartbeats 1000000 in
theorem impl_ReplayText {w0 w : World} {σ : List Blk} {g i cap : Nat} {more : List Value} (b : List Int) (hl : b.length = 16) (S : List Stp) (hm : Mem w0 w σ) [At σ g ((S.flatMap stI).map iv ++ more) 55 i] :
    Calls Try.prog 37 #[.agg (b.map iv ++ [Value.slice (some ⟨g, 0, none⟩) S.length cap]).toArray] w fun e w' => e = .returned (.tuple #[.string (textR b S), .bool (valR b S)]) ∧ Mem w0 w' σ := by
  have hA := fun (w : World) (τ : List Blk) (j : Nat) (hm : Mem w0 w τ) (h : At τ g ((S.flatMap stI).map iv ++ more) 55 j) => impl_IsReplay (g := g) (more := more) (i := j) (cap := cap) b hl S hm
  cases hq : valR b S
  · rw [show textR b S = ⟨#[]⟩ by simp [textR, hq]]
    rw [hq] at hA
    generalize hcs : (S.flatMap stI).map iv ++ more = cs at *
    have h16 : ((b.map iv ++ [Value.slice (some ⟨g, 0, none⟩) S.length cap]).take 16) = b.map iv := List.take_left' (by simpa using hl)
    have hv16 : (b.map iv ++ [Value.slice (some ⟨g, 0, none⟩) S.length cap])[16]? = some (Value.slice (some ⟨g, 0, none⟩) S.length cap) := by rw [List.getElem?_append_right (by simp [hl])]; simp [hl]
    have hl17 : (b.map iv ++ [Value.slice (some ⟨g, 0, none⟩) S.length cap]).length = 17 := by simp [hl]
    generalize b.map iv ++ [Value.slice (some ⟨g, 0, none⟩) S.length cap] = rc at *
    have HA := Lib.hid hA
    clear hA hcs hq
    go_enter Try.func37, Try.ntmps37
    repeat' (first | (go_at_call 16; refine mem_callM (HA.out _ _ _ hm inferInstance) ?_; clear hm; intro w hm; (try simp only [])) | ((with_reducible refine gix ?_); first | refine mix rfl rfl rfl rfl ?_ | refine mixr rfl rfl rfl rfl ?_; (try simp only [Int.toNat_zero, Int.reduceToNat, Nat.reduceMul, Nat.zero_mul, Nat.one_mul, List.drop_succ_cons, List.drop_zero, List.take_succ_cons, List.take_zero])) | ((with_reducible refine gl ?_); first | refine ml hm rfl rfl rfl ?_ | refine mlw hm rfl rfl rfl ?_ | (refine mlr hm rfl rfl rfl ?_; try simp only [List.drop_succ_cons, List.drop_zero, List.take_succ_cons, List.take_zero])) | ((with_reducible refine gs ?_); (first | refine ms hm rfl rfl rfl rfl rfl ?_ | refine msw hm rfl rfl rfl rfl ?_ | refine msr hm rfl rfl rfl rfl ?_); clear hm; intro w hm; (try simp only [splice, List.set_cons_zero, List.set_cons_succ] at hm)) | ((with_reducible refine gb ?_); (first | refine mem_box hm rfl rfl rfl ?_ | refine mem_box1 hm rfl rfl rfl rfl ?_); clear hm; intro n w hm) | ((with_reducible refine ga ?_); refine mem_alloc hm rfl rfl ?_; clear hm; intro n w hm) | go_values | go_skip | go_guarded | go_step | go_upon | ((with_reducible refine bp ?_); go_back) | ((with_reducible refine up ?_); first | (simp only [Int.not_lt, Int.not_le] at *; go_simp) | (go_values <;> (try go_simp)) | (go_ite <;> go_prune <;> (try go_simp)) | (split <;> (first | (rename_i hx; exact (hx _ rfl).elim) | go_prune))))
    (try simp only [Exit.inBlock, Exit.then])
    (first | (refine ret1 rfl rfl (by (first | exact Res.tmp rfl | exact Res.atw hm rfl | exact Res.at hm rfl)) ?_) | (refine ret2 rfl rfl (by (first | exact Res.tmp rfl | exact Res.atw hm rfl | exact Res.at hm rfl)) (by (first | exact Res.tmp rfl | exact Res.atw hm rfl | exact Res.at hm rfl)) ?_) | (refine ret3 rfl rfl (by (first | exact Res.tmp rfl | exact Res.atw hm rfl | exact Res.at hm rfl)) (by (first | exact Res.tmp rfl | exact Res.atw hm rfl | exact Res.at hm rfl)) (by (first | exact Res.tmp rfl | exact Res.atw hm rfl | exact Res.at hm rfl)) ?_) | (refine ret4 rfl rfl (by (first | exact Res.tmp rfl | exact Res.atw hm rfl | exact Res.at hm rfl)) (by (first | exact Res.tmp rfl | exact Res.atw hm rfl | exact Res.at hm rfl)) (by (first | exact Res.tmp rfl | exact Res.atw hm rfl | exact Res.at hm rfl)) (by (first | exact Res.tmp rfl | exact Res.atw hm rfl | exact Res.at hm rfl)) ?_) | fail "ret")
    exact ⟨rfl, hm.drop (by repeat (first | exact List.Sublist.refl _ | refine List.Sublist.cons _ ?_))⟩
  obtain ⟨hok, hS40, hst⟩ := valR_facts hq
  rw [show textR b S = bs (writeR b S S.length) by simp [textR, hq]]
  rw [hq] at hA
  have hB := impl_Board_text b hl hok
  simp only [nums_map] at hB
  have h16 : ∀ v : Value, ((b.map iv ++ [v]).take 16) = b.map iv := fun v => List.take_left' (by simpa using hl)
  have hv16 : ∀ v : Value, (b.map iv ++ [v])[16]? = some v := fun v => by rw [List.getElem?_append_right (by simp [hl])]; simp [hl]
  have hl17 : ∀ v : Value, (b.map iv ++ [v]).length = 17 := fun v => by simp [hl]
  have hG := fun (k : Nat) (h : k < S.length) => fm_get h (fun a _ => stI_len a) more
  have hnS : ((S.flatMap stI).map iv ++ more).length = S.length * 4 + more.length := by rw [List.length_append, List.length_map, fm_len S (fun a _ => stI_len a)]
  generalize hcs : (S.flatMap stI).map iv ++ more = cs at *
  clear hcs hq hok
  have HB := Lib.hid hB
  have HG := Lib.hid hG
  have HA := Lib.hid hA
  have hv16' := hv16 (Value.slice (some ⟨g, 0, none⟩) S.length cap)
  have hl17' := hl17 (Value.slice (some ⟨g, 0, none⟩) S.length cap)
  have h16' := h16 (Value.slice (some ⟨g, 0, none⟩) S.length cap)
  generalize hr : b.map iv ++ [Value.slice (some ⟨g, 0, none⟩) S.length cap] = rc at *
  clear hB hG hA h16 hv16 hl17 hr
  go_enter Try.func37, Try.ntmps37
  repeat' (first | (with_reducible rw [h16']) | (go_at_call 60; refine mem_call hm (HB.out _) ?_; clear hm; intro w hm; (try simp only [nums, List.map_cons, List.map_nil])) | (go_at_call 16; refine mem_callM (HA.out _ _ _ hm inferInstance) ?_; clear hm; intro w hm; (try simp only [])) | ((with_reducible refine gix ?_); first | refine mix rfl rfl rfl rfl ?_ | refine mixr rfl rfl rfl rfl ?_; (try simp only [Int.toNat_zero, Int.reduceToNat, Nat.reduceMul, Nat.zero_mul, Nat.one_mul, List.drop_succ_cons, List.drop_zero, List.take_succ_cons, List.take_zero])) | ((with_reducible refine gl ?_); first | refine ml hm rfl rfl rfl ?_ | refine mlw hm rfl rfl rfl ?_ | (refine mlr hm rfl rfl rfl ?_; try simp only [List.drop_succ_cons, List.drop_zero, List.take_succ_cons, List.take_zero])) | ((with_reducible refine gs ?_); (first | refine ms hm rfl rfl rfl rfl rfl ?_ | refine msw hm rfl rfl rfl rfl ?_ | refine msr hm rfl rfl rfl rfl ?_); clear hm; intro w hm; (try simp only [splice, List.set_cons_zero, List.set_cons_succ] at hm)) | ((with_reducible refine gb ?_); (first | refine mem_box hm rfl rfl rfl ?_ | refine mem_box1 hm rfl rfl rfl rfl ?_); clear hm; intro n w hm) | ((with_reducible refine ga ?_); refine mem_alloc hm rfl rfl ?_; clear hm; intro n w hm) | go_values | go_skip | go_guarded | go_step | go_upon | ((with_reducible refine bp ?_); go_back) | ((with_reducible refine up ?_); first | (simp only [Int.not_lt, Int.not_le] at *; go_simp) | (go_values <;> (try go_simp)) | (go_ite <;> go_prune <;> (try go_simp)) | (split <;> (first | (rename_i hx; exact (hx _ rfl).elim) | go_prune))))
  go_loopw [4, 18] (fun s ix wr => ∃ k : Nat, k ≤ S.length ∧ ix = iv k ∧ s = .string (bs (writeR b S k)) ∧ Mem w0 wr (⟨n, rc, 34⟩ :: σ)) (fun _ ix _ => S.length - (intOf ix).toNat)
  case atStart => exact ⟨0, by omega, rfl, rfl, hm⟩
  case round =>
    clear hm
    obtain ⟨k, hk, rfl, rfl, hm⟩ := hrel
    by_cases hlt : k < S.length
    · have hv := HG.out k hlt
      have hstp := stpAt_get hlt
      rw [← hstp] at hv
      obtain ⟨d, r, c, t, e1, e2, e3, e4, b1, b2, b3, b4⟩ := stp_nat (hst k hlt)
      have hX := impl_StepText_goodR d r c t b1 b2 b3 b4
      have hw1 : writeR b S (k + 1) = writeR b S k ++ 32 :: stpL (stpAt S k) := rfl
      have hwl := writeR_len b S k
      have hsz := bs_size (writeR b S k)
      have hcat : bs (writeR b S k) ++ ((⟨#[32]⟩ : ByteArray) ++ stepB d r c t) = bs (writeR b S (k + 1)) := by
        rw [hw1, stpL, e1, e2, e3, e4, show (⟨#[32]⟩ : ByteArray) = bs [32] from rfl]
        simp only [Int.toNat_natCast]
        conv => lhs; rw [← bs_data (stepB d r c t)]
        rw [bs_app, bs_app]; rfl
      have hss : (stepB d r c t).size = 4 := rfl
      simp only [stI, e1, e2, e3, e4, List.map_cons, List.map_nil] at hv
      generalize stepB d r c t = B at *
      generalize hR : bs (writeR b S (k + 1)) = R at *
      have HR := Lib.hid hR
      have HX := Lib.hid hX
      clear hR hX hw1 hstp
      generalize bs (writeR b S k) = P at *
      repeat' (first | (with_reducible rw [hv]) | (go_at_call 61; refine mem_call hm (HX.out _) ?_; clear hm; intro w hm; (try simp only [nums, List.map_cons, List.map_nil])) | ((with_reducible refine gix ?_); first | refine mix rfl rfl rfl rfl ?_ | refine mixr rfl rfl rfl rfl ?_; (try simp only [Int.toNat_zero, Int.reduceToNat, Nat.reduceMul, Nat.zero_mul, Nat.one_mul, List.drop_succ_cons, List.drop_zero, List.take_succ_cons, List.take_zero])) | ((with_reducible refine gl ?_); first | refine ml hm rfl rfl rfl ?_ | refine mlw hm rfl rfl rfl ?_ | (refine mlr hm rfl rfl rfl ?_; try simp only [List.drop_succ_cons, List.drop_zero, List.take_succ_cons, List.take_zero])) | ((with_reducible refine gs ?_); (first | refine ms hm rfl rfl rfl rfl rfl ?_ | refine msw hm rfl rfl rfl rfl ?_ | refine msr hm rfl rfl rfl rfl ?_); clear hm; intro w hm; (try simp only [splice, List.set_cons_zero, List.set_cons_succ] at hm)) | ((with_reducible refine gb ?_); (first | refine mem_box hm rfl rfl rfl ?_ | refine mem_box1 hm rfl rfl rfl rfl ?_); clear hm; intro n w hm) | ((with_reducible refine ga ?_); refine mem_alloc hm rfl rfl ?_; clear hm; intro n w hm) | go_values | go_skip | go_guarded | go_step | go_upon | ((with_reducible refine bp ?_); go_back) | ((with_reducible refine up ?_); first | (simp only [Int.not_lt, Int.not_le] at *; go_simp) | (go_values <;> (try go_simp)) | (go_ite <;> go_prune <;> (try go_simp)) | (split <;> (first | (rename_i hx; exact (hx _ rfl).elim) | go_prune))))
      go_roundw
      case rel => (try (first | ((repeat apply Exists.intro); refine ⟨?_, rfl⟩) | (repeat refine ex_any ?_))); exact ⟨k + 1, by omega, by go_num, by rw [HR.out], hm.drop (List.sublist_cons_self _ _)⟩
      case measure => simp [intOf]; omega
    · obtain rfl : k = S.length := by omega
      repeat' (first  | ((with_reducible refine gix ?_); first | refine mix rfl rfl rfl rfl ?_ | refine mixr rfl rfl rfl rfl ?_; (try simp only [Int.toNat_zero, Int.reduceToNat, Nat.reduceMul, Nat.zero_mul, Nat.one_mul, List.drop_succ_cons, List.drop_zero, List.take_succ_cons, List.take_zero])) | ((with_reducible refine gl ?_); first | refine ml hm rfl rfl rfl ?_ | refine mlw hm rfl rfl rfl ?_ | (refine mlr hm rfl rfl rfl ?_; try simp only [List.drop_succ_cons, List.drop_zero, List.take_succ_cons, List.take_zero])) | ((with_reducible refine gs ?_); (first | refine ms hm rfl rfl rfl rfl rfl ?_ | refine msw hm rfl rfl rfl rfl ?_ | refine msr hm rfl rfl rfl rfl ?_); clear hm; intro w hm; (try simp only [splice, List.set_cons_zero, List.set_cons_succ] at hm)) | ((with_reducible refine gb ?_); (first | refine mem_box hm rfl rfl rfl ?_ | refine mem_box1 hm rfl rfl rfl rfl ?_); clear hm; intro n w hm) | ((with_reducible refine ga ?_); refine mem_alloc hm rfl rfl ?_; clear hm; intro n w hm) | go_values | go_skip | go_guarded | go_step | go_upon | ((with_reducible refine bp ?_); go_back) | ((with_reducible refine up ?_); first | (simp only [Int.not_lt, Int.not_le] at *; go_simp) | (go_values <;> (try go_simp)) | (go_ite <;> go_prune <;> (try go_simp)) | (split <;> (first | (rename_i hx; exact (hx _ rfl).elim) | go_prune))))
      (try simp only [Exit.inBlock, Exit.then])
      (first | (refine ret1 rfl rfl (by (first | exact Res.tmp rfl | exact Res.atw hm rfl | exact Res.at hm rfl)) ?_) | (refine ret2 rfl rfl (by (first | exact Res.tmp rfl | exact Res.atw hm rfl | exact Res.at hm rfl)) (by (first | exact Res.tmp rfl | exact Res.atw hm rfl | exact Res.at hm rfl)) ?_) | (refine ret3 rfl rfl (by (first | exact Res.tmp rfl | exact Res.atw hm rfl | exact Res.at hm rfl)) (by (first | exact Res.tmp rfl | exact Res.atw hm rfl | exact Res.at hm rfl)) (by (first | exact Res.tmp rfl | exact Res.atw hm rfl | exact Res.at hm rfl)) ?_) | (refine ret4 rfl rfl (by (first | exact Res.tmp rfl | exact Res.atw hm rfl | exact Res.at hm rfl)) (by (first | exact Res.tmp rfl | exact Res.atw hm rfl | exact Res.at hm rfl)) (by (first | exact Res.tmp rfl | exact Res.atw hm rfl | exact Res.at hm rfl)) (by (first | exact Res.tmp rfl | exact Res.atw hm rfl | exact Res.at hm rfl)) ?_) | fail "ret")
      exact ⟨rfl, hm.drop (List.sublist_cons_self _ _)⟩
end Go.Proofs.Ythcjokgjiknheaa

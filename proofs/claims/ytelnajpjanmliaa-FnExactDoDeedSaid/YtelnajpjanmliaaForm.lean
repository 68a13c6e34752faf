/-
  Forms of a board: walks of the program and of the reference.
-/
import Derived.Test.YtelnajpjanmliaaSeed
import Derived.Test.YtelnajpjanmliaaSmall
import Derived.Test.YtelnajpjanmliaaLine
import Derived.Test.YtelnajpjanmliaaFam
set_option linter.unusedVariables false
set_option linter.unusedSimpArgs false
namespace Go.Proofs.Ytelnajpjanmliaa
open Go.RowKit Slm
/-- One turn of a cell by a quarter, and a mirror. -/
def qz (p : Int × Int) : Int × Int := (p.2, 3 - p.1)
def mz (p : Int × Int) : Int × Int := (p.1, 3 - p.2)
/-- Where a form moves a cell. -/
def mvZ (k : Nat) (p : Int × Int) : Int × Int :=
  match k with
  | 0 => p
  | 1 => qz p
  | 2 => qz (qz p)
  | 3 => qz (qz (qz p))
  | 4 => mz p
  | 5 => mz (qz p)
  | 6 => mz (qz (qz p))
  | _ => mz (qz (qz (qz p)))
theorem k8 {k : Nat} (h : k ≤ 7) : k = 0 ∨ k = 1 ∨ k = 2 ∨ k = 3 ∨ k = 4 ∨ k = 5 ∨ k = 6 ∨ k = 7 := by omega
theorem mvZ_bd {k : Nat} (hk : k ≤ 7) {r c : Int} (hr : 0 ≤ r ∧ r ≤ 3) (hc : 0 ≤ c ∧ c ≤ 3) : (0 ≤ (mvZ k (r, c)).1 ∧ (mvZ k (r, c)).1 ≤ 3) ∧ (0 ≤ (mvZ k (r, c)).2 ∧ (mvZ k (r, c)).2 ≤ 3) := by
  rcases k8 hk with rfl | rfl | rfl | rfl | rfl | rfl | rfl | rfl <;> simp only [mvZ, qz, mz] <;> omega
theorem agg2 {a b c d : Int} (h1 : a = c) (h2 : b = d) : Ending.returned (Value.agg #[iv a, iv b]) = Ending.returned (Value.agg #[iv c, iv d]) := by rw [h1, h2]
set_option maxHeartbeats 2000000 in
theorem impl_moved (k : Nat) (hk : k ≤ 7) (r c : Int) (hr : 0 ≤ r ∧ r ≤ 3) (hc : 0 ≤ c ∧ c ≤ 3) (w : World) : Calls Try.prog 107 #[iv k, .agg #[iv r, iv c]] w fun e w' => e = .returned (.agg #[iv (mvZ k (r, c)).1, iv (mvZ k (r, c)).2]) ∧ Below w.heap.size w w' := by
  obtain ⟨r0, r1⟩ := hr
  obtain ⟨c0, c1⟩ := hc
  rcases k8 hk with rfl | rfl | rfl | rfl | rfl | rfl | rfl | rfl
  all_goals
    clear hk
    simp only [mvZ, qz, mz]
    go_enter Try.func107, Try.ntmps107
    have hm := Mem.start w
    repeat' (first | ((with_reducible refine gd ?_); refine mf_start (st := []) hm (by kernel_rfl) (by kernel_rfl) rfl ?_; intro hne; (repeat (first | ((with_reducible refine gfl ?_); first | refine fl rfl rfl rfl ?_ | refine flw rfl rfl rfl ?_ | (refine flr rfl rfl rfl ?_; try simp only [List.drop_succ_cons, List.drop_zero, List.take_succ_cons, List.take_zero])) | ((with_reducible refine gfs ?_); first | refine fs rfl rfl rfl rfl rfl ?_ | refine fsw rfl rfl rfl rfl ?_ | refine fsr rfl rfl rfl rfl ?_) | (refine wpF_step (by rfl) (hne _ (by decide)) ?_; intro hn K hK; go_simp; (try go_ints); (try simp [↓IntWalk.iteOmega, go_sem]); first | (refine hK _ ?_; clear hK K hn) | (apply Exists.intro; refine ⟨fun _ => ?_, hK _ ?_⟩; (first | fail | fail); clear hK K hn)))); refine wpF_nil ?_; clear hm hne; intro w hm; (try simp only [famEnd, modB, splice, List.set_cons_zero, List.set_cons_succ, set_iv] at hm)) | ((with_reducible refine gix ?_); first | refine mix rfl rfl rfl rfl ?_ | refine mixr rfl rfl rfl rfl ?_; (try simp only [Int.toNat_zero, Int.reduceToNat, Nat.reduceMul, Nat.zero_mul, Nat.one_mul, List.drop_succ_cons, List.drop_zero, List.take_succ_cons, List.take_zero])) | ((with_reducible refine gl ?_); first | refine ml hm rfl rfl rfl ?_ | refine mlw hm rfl rfl rfl ?_ | (refine mlr hm rfl rfl rfl ?_; try simp only [List.drop_succ_cons, List.drop_zero, List.take_succ_cons, List.take_zero])) | ((with_reducible refine gs ?_); (first | refine ms hm rfl rfl rfl rfl rfl ?_ | refine msw hm rfl rfl rfl rfl ?_ | refine msr hm rfl rfl rfl rfl ?_); clear hm; intro w hm; (try simp only [splice, List.set_cons_zero, List.set_cons_succ] at hm)) | ((with_reducible refine gb ?_); (first | refine mem_box hm rfl rfl rfl ?_ | refine mem_box1 hm rfl rfl rfl rfl ?_); clear hm; intro n w hm) | ((with_reducible refine ga ?_); refine mem_alloc hm rfl rfl ?_; clear hm; intro n w hm) | ((with_reducible refine wp_loop_rounds 18 ?_); rw [rounds_succ]) | (with_reducible rw [rounds_succ]) | go_values | go_skip | go_guarded | go_step | go_upon | ((with_reducible refine bp ?_); go_back) | ((with_reducible refine up ?_); first | (simp only [Int.not_lt, Int.not_le] at *; go_simp) | (go_values <;> (try go_simp)) | (go_ite <;> go_prune <;> (try go_simp)) | (split <;> (first | (rename_i hx; exact (hx _ rfl).elim) | go_prune))))
    (try simp only [Exit.inBlock, Exit.then])
    (first | (refine ret1 rfl rfl (by (first | exact Res.tmp rfl | exact Res.atw hm rfl | exact Res.at hm rfl)) ?_) | (refine ret2 rfl rfl (by (first | exact Res.tmp rfl | exact Res.atw hm rfl | exact Res.at hm rfl)) (by (first | exact Res.tmp rfl | exact Res.atw hm rfl | exact Res.at hm rfl)) ?_) | (refine ret3 rfl rfl (by (first | exact Res.tmp rfl | exact Res.atw hm rfl | exact Res.at hm rfl)) (by (first | exact Res.tmp rfl | exact Res.atw hm rfl | exact Res.at hm rfl)) (by (first | exact Res.tmp rfl | exact Res.atw hm rfl | exact Res.at hm rfl)) ?_) | (refine ret4 rfl rfl (by (first | exact Res.tmp rfl | exact Res.atw hm rfl | exact Res.at hm rfl)) (by (first | exact Res.tmp rfl | exact Res.atw hm rfl | exact Res.at hm rfl)) (by (first | exact Res.tmp rfl | exact Res.atw hm rfl | exact Res.at hm rfl)) (by (first | exact Res.tmp rfl | exact Res.atw hm rfl | exact Res.at hm rfl)) ?_) | fail "ret")
    exact ⟨by first | rfl | exact agg2 (by omega) (by omega), hm.below⟩
/-- The cell to which a form moves a cell. -/
def mvP (k p : Nat) : Nat := (4 * (mvZ k (((p / 4 : Nat) : Int), ((p % 4 : Nat) : Int))).1 + (mvZ k (((p / 4 : Nat) : Int), ((p % 4 : Nat) : Int))).2).toNat
/-- What a form of a board is behind some cells. -/
def formK (k : Nat) (b : List Int) : Nat → List Int
  | 0 => [0, 0, 0, 0, 0, 0, 0, 0, 0, 0, 0, 0, 0, 0, 0, 0]
  | i + 1 => (formK k b i).set (mvP k i) (atL b i)
theorem formK_len (k : Nat) (b : List Int) : ∀ i, (formK k b i).length = 16
  | 0 => rfl
  | i + 1 => by rw [formK, List.length_set, formK_len k b i]
def formB (k : Nat) (b : List Int) : List Int := formK k b 16
set_option maxHeartbeats 1000000 in
theorem impl_form (k : Nat) (hk : k ≤ 7) (b : List Int) (hl : b.length = 16) (w0 : World) : Calls Try.prog 69 #[.agg (nums b), iv k] w0 fun e w' => e = .returned (.agg (nums (formB k b))) ∧ Below w0.heap.size w0 w' := by
  have hC := impl_cells
  have hG := fun (j : Nat) (h : j < (List.range 16).length) (more : List Value) => ecells_get h more
  have hxl : (ecells (List.range 16)).length = 32 := by rw [ecells_len]; rfl
  have hMv := fun (i : Nat) (hi : i < 16) => impl_moved k hk ((i / 4 : Nat) : Int) ((i % 4 : Nat) : Int) (by omega) (by omega)
  have hBd := fun (i : Nat) (hi : i < 16) => mvZ_bd hk (r := ((i / 4 : Nat) : Int)) (c := ((i % 4 : Nat) : Int)) (by omega) (by omega)
  have hSt : ∀ i, formK k b (i + 1) = (formK k b i).set (mvP k i) (atL b i) := fun _ => rfl
  have hS0 : formK k b 0 = [0, 0, 0, 0, 0, 0, 0, 0, 0, 0, 0, 0, 0, 0, 0, 0] := rfl
  have hSl := formK_len k b
  have hRg : ∀ j (h : j < (List.range 16).length), (List.range 16)[j] = j := fun j h => by simp
  have h16 : (List.range 16).length = 16 := by simp
  unfold formB
  generalize formK k b = fk at *
  generalize List.range 16 = R at *
  have HC := Lib.hid hC
  have HG := Lib.hid hG
  have HMv := Lib.hid hMv
  have HBd := Lib.hid hBd
  have HSt := Lib.hid hSt
  have HSl := Lib.hid hSl
  have HRg := Lib.hid hRg
  clear hC hG hMv hBd hSt hSl hRg
  go_enter Try.func69, Try.ntmps69
  have hm := Mem.start w0
  simp only [nums_map] at *
  repeat' (first | (go_at_call 106; refine mem_callN hm (HC.out _) ?_; clear hm; intro g more len cap w hm hf hx; (try simp only [])) | ((with_reducible refine gix ?_); first | refine mix rfl rfl rfl rfl ?_ | refine mixr rfl rfl rfl rfl ?_; (try simp only [Int.toNat_zero, Int.reduceToNat, Nat.reduceMul, Nat.zero_mul, Nat.one_mul, List.drop_succ_cons, List.drop_zero, List.take_succ_cons, List.take_zero])) | ((with_reducible refine gl ?_); first | refine ml hm rfl rfl rfl ?_ | refine mlw hm rfl rfl rfl ?_ | (refine mlr hm rfl rfl rfl ?_; try simp only [List.drop_succ_cons, List.drop_zero, List.take_succ_cons, List.take_zero])) | ((with_reducible refine gs ?_); (first | refine ms hm rfl rfl rfl rfl rfl ?_ | refine msw hm rfl rfl rfl rfl ?_ | refine msr hm rfl rfl rfl rfl ?_); clear hm; intro w hm; (try simp only [splice, List.set_cons_zero, List.set_cons_succ] at hm)) | ((with_reducible refine gb ?_); (first | refine mem_box hm rfl rfl rfl ?_ | refine mem_box1 hm rfl rfl rfl rfl ?_); clear hm; intro n w hm) | ((with_reducible refine ga ?_); refine mem_alloc hm rfl rfl ?_; clear hm; intro n w hm) | go_values | go_skip | go_guarded | go_step | go_upon | ((with_reducible refine bp ?_); go_back) | ((with_reducible refine up ?_); first | (simp only [Int.not_lt, Int.not_le] at *; go_simp) | (go_values <;> (try go_simp)) | (go_ite <;> go_prune <;> (try go_simp)) | (split <;> (first | (rename_i hx; exact (hx _ rfl).elim) | go_prune))))
  obtain rfl : len = 16 := by omega
  clear hf hx
  obtain ⟨τ, hτ, hm⟩ := Mem.sig hm
  go_loopw [11] (fun ix wr => ∃ j : Nat, j ≤ 16 ∧ ix = iv j ∧ Mem w0 wr (modB τ 1 ((fk j).map iv))) (fun ix _ => 16 - (intOf ix).toNat)
  case atStart => exact ⟨0, by omega, rfl, by rw [hS0]; subst hτ; exact hm⟩
  case round =>
    clear hm
    obtain ⟨j, hj, rfl, hm⟩ := hrel
    subst hτ
    simp only [modB] at hm
    by_cases hlt : j < 16
    · have hv := HG.out j (by omega) more
      rw [HRg.out j (by omega), ecell] at hv
      have hM := HMv.out j hlt
      obtain ⟨hb1, hb2⟩ := HBd.out j hlt
      have hA1 := fun (n : Nat) => impl_at n ((j / 4 : Nat) : Int) ((j % 4 : Nat) : Int) (by omega) (by omega)
      have hA2 := fun (n : Nat) => impl_at n _ _ hb1 hb2
      have e1 : (4 * ((j / 4 : Nat) : Int) + ((j % 4 : Nat) : Int)).toNat = j := by omega
      have e2 : (4 * (mvZ k (((j / 4 : Nat) : Int), ((j % 4 : Nat) : Int))).1 + (mvZ k (((j / 4 : Nat) : Int), ((j % 4 : Nat) : Int))).2).toNat = mvP k j := rfl
      rw [e2] at hA2
      rw [e1] at hA1
      have hq : mvP k j < 16 := by rw [← e2]; omega
      have hsj := HSt.out j
      have hvb := get_iv (b := b) (p := j) (by omega)
      have hl1 := HSl.out j
      have hl2 : (b.map iv).length = 16 := by simpa using hl
      clear e1 e2 hb1 hb2
      generalize mvP k j = q at *
      generalize (mvZ k (((j / 4 : Nat) : Int), ((j % 4 : Nat) : Int))).1 = r1 at *
      generalize (mvZ k (((j / 4 : Nat) : Int), ((j % 4 : Nat) : Int))).2 = c1 at *
      generalize ((j / 4 : Nat) : Int) = r0 at *
      generalize ((j % 4 : Nat) : Int) = c0 at *
      generalize atL b j = x at *
      have hl3 : ((fk j).map iv).length = 16 := by simpa using hl1
      generalize hF1 : fk (j + 1) = F1 at *
      have HF1 : Unit → Hid _ := fun _ => Lib.hid hF1
      clear hF1
      generalize fk j = F0 at *
      have HSJ : Unit → Hid _ := fun _ => Lib.hid hsj
      clear hsj
      have hxl2 : (ecells R ++ more).length = 32 + more.length := by rw [List.length_append, hxl]
      generalize ecells R ++ more = cs at *
      simp only [nums, List.map_cons, List.map_nil] at hA1 hA2
      have HA1 := Lib.hid hA1
      have HA2 := Lib.hid hA2
      have HM := Lib.hid hM
      clear hA1 hA2 hM
      repeat' (first | (with_reducible rw [hv]) | ((with_reducible refine gd ?_); refine mf_start1 9 2 hm (by kernel_rfl) (by kernel_rfl) rfl ?_; apply Exists.intro; intro hne; (repeat (first | ((with_reducible refine gfl ?_); first | refine fl rfl rfl rfl ?_ | refine flw rfl rfl rfl ?_ | (refine flr rfl rfl rfl ?_; try simp only [List.drop_succ_cons, List.drop_zero, List.take_succ_cons, List.take_zero])) | ((with_reducible refine gfs ?_); first | refine fs rfl rfl rfl rfl rfl ?_ | refine fsw rfl rfl rfl rfl ?_ | refine fsr rfl rfl rfl rfl ?_) | (refine wpF_step (by rfl) (hne _ (by decide)) ?_; intro hn K hK; go_simp; (try go_ints); (try simp [↓IntWalk.iteOmega, go_sem]); first | (refine hK _ ?_; clear hK K hn) | (apply Exists.intro; refine ⟨fun _ => ?_, hK _ ?_⟩; (first | (go_at_call 107; exact (HM.out _)) | (go_at_call 67; first | with_reducible exact HA1.out _ _ | with_reducible exact HA2.out _ _) | fail); clear hK K hn)))); refine wpF_nil ?_; clear hm hne; intro w hm; (try simp only [famEnd, modB, splice, List.set_cons_zero, List.set_cons_succ, set_iv] at hm)) | ((with_reducible refine gix ?_); first | refine mix rfl rfl rfl rfl ?_ | refine mixr rfl rfl rfl rfl ?_; (try simp only [Int.toNat_zero, Int.reduceToNat, Nat.reduceMul, Nat.zero_mul, Nat.one_mul, List.drop_succ_cons, List.drop_zero, List.take_succ_cons, List.take_zero])) | ((with_reducible refine gl ?_); first | refine ml hm rfl rfl rfl ?_ | refine mlw hm rfl rfl rfl ?_ | (refine mlr hm rfl rfl rfl ?_; try simp only [List.drop_succ_cons, List.drop_zero, List.take_succ_cons, List.take_zero])) | ((with_reducible refine gs ?_); (first | refine ms hm rfl rfl rfl rfl rfl ?_ | refine msw hm rfl rfl rfl rfl ?_ | refine msr hm rfl rfl rfl rfl ?_); clear hm; intro w hm; (try simp only [splice, List.set_cons_zero, List.set_cons_succ] at hm)) | ((with_reducible refine gb ?_); (first | refine mem_box hm rfl rfl rfl ?_ | refine mem_box1 hm rfl rfl rfl rfl ?_); clear hm; intro n w hm) | ((with_reducible refine ga ?_); refine mem_alloc hm rfl rfl ?_; clear hm; intro n w hm) | go_values | go_skip | go_guarded | go_step | go_upon | ((with_reducible refine bp ?_); go_back) | ((with_reducible refine up ?_); first | (simp only [Int.not_lt, Int.not_le] at *; go_simp) | (go_values <;> (try go_simp)) | (go_ite <;> go_prune <;> (try go_simp)) | (split <;> (first | (rename_i hx; exact (hx _ rfl).elim) | go_prune))))
      go_roundw
      case rel => (try (first | ((repeat apply Exists.intro); refine ⟨?_, rfl⟩) | (repeat refine ex_any ?_))); exact ⟨j + 1, by omega, by go_num, by simp only [modB]; rw [(HF1 ()).out, (HSJ ()).out]; exact hm.drop (by repeat (first | exact List.Sublist.refl _ | refine List.Sublist.cons _ ?_))⟩
      case measure => simp [intOf]; omega
    · obtain rfl : j = 16 := by omega
      generalize hff : fk 16 = F at *
      have HFF : Unit → Hid _ := fun _ => Lib.hid hff
      clear hff
      have hl1 : F.length = 16 := by rw [← (HFF ()).out]; exact HSl.out 16
      have hl3 : (F.map iv).length = 16 := by simpa using hl1
      repeat' (first  | ((with_reducible refine gix ?_); first | refine mix rfl rfl rfl rfl ?_ | refine mixr rfl rfl rfl rfl ?_; (try simp only [Int.toNat_zero, Int.reduceToNat, Nat.reduceMul, Nat.zero_mul, Nat.one_mul, List.drop_succ_cons, List.drop_zero, List.take_succ_cons, List.take_zero])) | ((with_reducible refine gl ?_); first | refine ml hm rfl rfl rfl ?_ | refine mlw hm rfl rfl rfl ?_ | (refine mlr hm rfl rfl rfl ?_; try simp only [List.drop_succ_cons, List.drop_zero, List.take_succ_cons, List.take_zero])) | ((with_reducible refine gs ?_); (first | refine ms hm rfl rfl rfl rfl rfl ?_ | refine msw hm rfl rfl rfl rfl ?_ | refine msr hm rfl rfl rfl rfl ?_); clear hm; intro w hm; (try simp only [splice, List.set_cons_zero, List.set_cons_succ] at hm)) | ((with_reducible refine gb ?_); (first | refine mem_box hm rfl rfl rfl ?_ | refine mem_box1 hm rfl rfl rfl rfl ?_); clear hm; intro n w hm) | ((with_reducible refine ga ?_); refine mem_alloc hm rfl rfl ?_; clear hm; intro n w hm) | go_values | go_skip | go_guarded | go_step | go_upon | ((with_reducible refine bp ?_); go_back) | ((with_reducible refine up ?_); first | (simp only [Int.not_lt, Int.not_le] at *; go_simp) | (go_values <;> (try go_simp)) | (go_ite <;> go_prune <;> (try go_simp)) | (split <;> (first | (rename_i hx; exact (hx _ rfl).elim) | go_prune))))
      (try simp only [Exit.inBlock, Exit.then])
      (first | (refine ret1 rfl rfl (by (first | exact Res.tmp rfl | exact Res.atw hm rfl | exact Res.at hm rfl)) ?_) | (refine ret2 rfl rfl (by (first | exact Res.tmp rfl | exact Res.atw hm rfl | exact Res.at hm rfl)) (by (first | exact Res.tmp rfl | exact Res.atw hm rfl | exact Res.at hm rfl)) ?_) | (refine ret3 rfl rfl (by (first | exact Res.tmp rfl | exact Res.atw hm rfl | exact Res.at hm rfl)) (by (first | exact Res.tmp rfl | exact Res.atw hm rfl | exact Res.at hm rfl)) (by (first | exact Res.tmp rfl | exact Res.atw hm rfl | exact Res.at hm rfl)) ?_) | (refine ret4 rfl rfl (by (first | exact Res.tmp rfl | exact Res.atw hm rfl | exact Res.at hm rfl)) (by (first | exact Res.tmp rfl | exact Res.atw hm rfl | exact Res.at hm rfl)) (by (first | exact Res.tmp rfl | exact Res.atw hm rfl | exact Res.at hm rfl)) (by (first | exact Res.tmp rfl | exact Res.atw hm rfl | exact Res.at hm rfl)) ?_) | fail "ret")
      rw [(HFF ()).out]
      exact ⟨rfl, hm.below⟩
end Go.Proofs.Ytelnajpjanmliaa

/-
  Walks of HighestIn.
-/
import Derived.Test.YthcjokgjiknheaaHigh
set_option linter.unusedVariables false
set_option linter.unusedSimpArgs false
namespace Go.Proofs.Ythcjokgjiknheaa
open Go.RowKit Slm
/-- The highest tile of the first n boards of a replay, and the first board that has it. -/
def hiR (b : List Int) (S : List Stp) : Nat → Int × Nat
  | 0 => (0, 0)
  | n + 1 => if (hiR b S n).1 < (hiK (bdK b S n) 16).1 then ((hiK (bdK b S n) 16).1, n) else hiR b S n
def highV (b : List Int) (S : List Stp) : Int × Int × Bool := if valR b S = true then ((hiR b S (S.length + 1)).1, ((hiR b S (S.length + 1)).2, decide (0 < (hiR b S (S.length + 1)).1))) else (0, 0, false)
theorem hiR_bd (b : List Int) (S : List Stp) : ∀ n, 0 ≤ (hiR b S n).1
  | 0 => by simp [hiR]
  | n + 1 => by
    have := hiR_bd b S n
    unfold hiR
    split
    · omega
    · exact this
theorem okK_of_val {b : List Int} {S : List Stp} (h : valR b S = true) : okL b = true ∧ okK b S S.length = true := by
  simp only [valR, Bool.and_eq_true, decide_eq_true_eq] at h
  exact ⟨h.1, h.2.2⟩
set_option maxHeartbeats 2000000 in
theorem spec_HighestIn {w0 w : World} {σ : List Blk} {g i cap : Nat} {more : List Value} (b : List Int) (hl : b.length = 16) (S : List Stp) (hm : Mem w0 w σ) [At σ g ((S.flatMap stI).map iv ++ more) 55 i] :
    Calls Try.prog 27 #[.agg (b.map iv ++ [Value.slice (some ⟨g, 0, none⟩) S.length cap]).toArray] w fun e w' => e = .returned (.tuple #[iv (highV b S).1, iv (highV b S).2.1, .bool (highV b S).2.2]) ∧ Mem w0 w' σ := by
  cases hq : valR b S
  · have hA := fun (w : World) (τ : List Blk) (j : Nat) (hm : Mem w0 w τ) (h : At τ g ((S.flatMap stI).map iv ++ more) 55 j) => spec_boards_no (g := g) (more := more) (i := j) (cap := cap) b hl S hm hq
    have e1 : highV b S = (0, 0, false) := by simp [highV, hq]
    rw [e1]
    generalize hcs : (S.flatMap stI).map iv ++ more = cs at *
    have h16 : ((b.map iv ++ [Value.slice (some ⟨g, 0, none⟩) S.length cap]).take 16) = b.map iv := List.take_left' (by simpa using hl)
    have hv16 : (b.map iv ++ [Value.slice (some ⟨g, 0, none⟩) S.length cap])[16]? = some (Value.slice (some ⟨g, 0, none⟩) S.length cap) := by rw [List.getElem?_append_right (by simp [hl])]; simp [hl]
    have hl17 : (b.map iv ++ [Value.slice (some ⟨g, 0, none⟩) S.length cap]).length = 17 := by simp [hl]
    generalize hrc : b.map iv ++ [Value.slice (some ⟨g, 0, none⟩) S.length cap] = rc at *
    have HA := Lib.hid hA
    clear hA hcs hrc e1 hq
    go_enter Try.func27, Try.ntmps27
    repeat' (first | (go_at_call 43; with_reducible refine mem_callF (F := fun u => .tuple #[u, iv 0, .bool false]) (HA.out _ _ _ hm inferInstance) ?_; clear hm; intro g1 m1 l1 k1 w hm hf hx; obtain rfl : l1 = 0 := (by simp at hx; omega); clear hf hx; (try simp only [])) | ((with_reducible refine gix ?_); first | refine mix rfl rfl rfl rfl ?_ | refine mixr rfl rfl rfl rfl ?_; (try simp only [Int.toNat_zero, Int.reduceToNat, Nat.reduceMul, Nat.zero_mul, Nat.one_mul, List.drop_succ_cons, List.drop_zero, List.take_succ_cons, List.take_zero])) | ((with_reducible refine gl ?_); first | refine ml hm rfl rfl rfl ?_ | refine mlw hm rfl rfl rfl ?_ | (refine mlr hm rfl rfl rfl ?_; try simp only [List.drop_succ_cons, List.drop_zero, List.take_succ_cons, List.take_zero])) | ((with_reducible refine gs ?_); (first | refine ms hm rfl rfl rfl rfl rfl ?_ | refine msw hm rfl rfl rfl rfl ?_ | refine msr hm rfl rfl rfl rfl ?_); clear hm; intro w hm; (try simp only [splice, List.set_cons_zero, List.set_cons_succ] at hm)) | ((with_reducible refine gb ?_); (first | refine mem_box hm rfl rfl rfl ?_ | refine mem_box1 hm rfl rfl rfl rfl ?_); clear hm; intro n w hm) | ((with_reducible refine ga ?_); refine mem_alloc hm rfl rfl ?_; clear hm; intro n w hm) | ((with_reducible refine wp_loop_rounds 18 ?_); rw [rounds_succ]) | (with_reducible rw [rounds_succ]) | go_values | go_skip | go_guarded | go_step | go_upon | ((with_reducible refine bp ?_); go_back) | ((with_reducible refine up ?_); first | (simp only [Int.not_lt, Int.not_le] at *; go_simp) | (go_values <;> (try go_simp)) | (go_ite <;> go_prune <;> (try go_simp)) | (split <;> (first | (rename_i hx; exact (hx _ rfl).elim) | go_prune))))
    (try simp only [Exit.inBlock, Exit.then])
    (first | (refine ret1 rfl rfl (by (first | exact Res.tmp rfl | exact Res.atw hm rfl | exact Res.at hm rfl)) ?_) | (refine ret2 rfl rfl (by (first | exact Res.tmp rfl | exact Res.atw hm rfl | exact Res.at hm rfl)) (by (first | exact Res.tmp rfl | exact Res.atw hm rfl | exact Res.at hm rfl)) ?_) | (refine ret3 rfl rfl (by (first | exact Res.tmp rfl | exact Res.atw hm rfl | exact Res.at hm rfl)) (by (first | exact Res.tmp rfl | exact Res.atw hm rfl | exact Res.at hm rfl)) (by (first | exact Res.tmp rfl | exact Res.atw hm rfl | exact Res.at hm rfl)) ?_) | (refine ret4 rfl rfl (by (first | exact Res.tmp rfl | exact Res.atw hm rfl | exact Res.at hm rfl)) (by (first | exact Res.tmp rfl | exact Res.atw hm rfl | exact Res.at hm rfl)) (by (first | exact Res.tmp rfl | exact Res.atw hm rfl | exact Res.at hm rfl)) (by (first | exact Res.tmp rfl | exact Res.atw hm rfl | exact Res.at hm rfl)) ?_) | fail "ret")
    exact ⟨rfl, hm.drop (by repeat (first | exact List.Sublist.refl _ | refine List.Sublist.cons _ ?_))⟩
  · have hA := fun (w : World) (τ : List Blk) (j : Nat) (hm : Mem w0 w τ) (h : At τ g ((S.flatMap stI).map iv ++ more) 55 j) => spec_boards_ok (g := g) (more := more) (i := j) (cap := cap) b hl S hm hq
    have e1 : highV b S = ((hiR b S (S.length + 1)).1, (((hiR b S (S.length + 1)).2 : Nat) : Int), (decide (0 < (hiR b S (S.length + 1)).1))) := by simp [highV, hq]
    rw [e1]
    have hn := valR_le hq
    obtain ⟨hok, hall⟩ := okK_of_val hq
    have hfl := bdsK_flat hl S S.length
    have hrow := fun k hk more => bdsK_row hl S S.length k hk more
    have hbl := fun k => bdK_len hl S k
    have hbo := fun k (hk : k ≤ S.length) => bdK_ok hok S k (okK_lt hall hk)
    have hxl : (((bdsK b S S.length).flatten).map iv).length = (S.length + 1) * 16 := by rw [List.length_map, hfl]
    have hc1 : ∀ more, (((bdsK b S S.length).flatten).map iv ++ more).length = (S.length + 1) * 16 + more.length := fun more => by rw [List.length_append, hxl]
    generalize hH : hiR b S (S.length + 1) = H
    generalize sumK2 b S S.length = sm1 at *
    generalize hX1 : ((bdsK b S S.length).flatten).map iv = X1 at *
    generalize hcs : (S.flatMap stI).map iv ++ more = cs at *
    have h16 : ((b.map iv ++ [Value.slice (some ⟨g, 0, none⟩) S.length cap]).take 16) = b.map iv := List.take_left' (by simpa using hl)
    have hv16 : (b.map iv ++ [Value.slice (some ⟨g, 0, none⟩) S.length cap])[16]? = some (Value.slice (some ⟨g, 0, none⟩) S.length cap) := by rw [List.getElem?_append_right (by simp [hl])]; simp [hl]
    have hl17 : (b.map iv ++ [Value.slice (some ⟨g, 0, none⟩) S.length cap]).length = 17 := by simp [hl]
    generalize hrc : b.map iv ++ [Value.slice (some ⟨g, 0, none⟩) S.length cap] = rc at *
    have HH : Unit → Hid _ := fun _ => Lib.hid hH
    have HA := Lib.hid hA
    have HR := Lib.hid hrow
    have HL := Lib.hid hbl
    have HO := Lib.hid hbo
    have HC := Lib.hid hc1
    clear hA hrow hbl hbo hc1 hcs hrc e1 hq hok hall hfl hX1 hH
    go_enter Try.func27, Try.ntmps27
    repeat' (first | (go_at_call 43; with_reducible refine mem_callF (F := fun u => .tuple #[u, iv sm1, .bool true]) (HA.out _ _ _ hm inferInstance) ?_; clear hm; intro g1 m1 l1 k1 w hm hf hx; obtain rfl : l1 = S.length + 1 := (by omega); clear hf hx; (try simp only [])) | ((with_reducible refine gix ?_); first | refine mix rfl rfl rfl rfl ?_ | refine mixr rfl rfl rfl rfl ?_; (try simp only [Int.toNat_zero, Int.reduceToNat, Nat.reduceMul, Nat.zero_mul, Nat.one_mul, List.drop_succ_cons, List.drop_zero, List.take_succ_cons, List.take_zero])) | ((with_reducible refine gl ?_); first | refine ml hm rfl rfl rfl ?_ | refine mlw hm rfl rfl rfl ?_ | (refine mlr hm rfl rfl rfl ?_; try simp only [List.drop_succ_cons, List.drop_zero, List.take_succ_cons, List.take_zero])) | ((with_reducible refine gs ?_); (first | refine ms hm rfl rfl rfl rfl rfl ?_ | refine msw hm rfl rfl rfl rfl ?_ | refine msr hm rfl rfl rfl rfl ?_); clear hm; intro w hm; (try simp only [splice, List.set_cons_zero, List.set_cons_succ] at hm)) | ((with_reducible refine gb ?_); (first | refine mem_box hm rfl rfl rfl ?_ | refine mem_box1 hm rfl rfl rfl rfl ?_); clear hm; intro n w hm) | ((with_reducible refine ga ?_); refine mem_alloc hm rfl rfl ?_; clear hm; intro n w hm) | go_values | go_skip | go_guarded | go_step | go_upon | ((with_reducible refine bp ?_); go_back) | ((with_reducible refine up ?_); first | (simp only [Int.not_lt, Int.not_le] at *; go_simp) | (go_values <;> (try go_simp)) | (go_ite <;> go_prune <;> (try go_simp)) | (split <;> (first | (rename_i hx; exact (hx _ rfl).elim) | go_prune))))
    have hc1 := HC.out m1
    obtain ⟨τ, hτ, hm⟩ := Mem.sig hm
    go_loopw [8, 9, 10] (fun best first ix wr => ∃ k : Nat, k ≤ S.length + 1 ∧ ix = iv k ∧ best = iv (hiR b S k).1 ∧ first = iv (hiR b S k).2 ∧ Mem w0 wr τ) (fun _ _ ix _ => S.length + 1 - (intOf ix).toNat)
    case atStart => exact ⟨0, by omega, rfl, rfl, rfl, hm⟩
    case round =>
      clear hm
      obtain ⟨k, hk, rfl, rfl, rfl, hm⟩ := hrel
      subst hτ
      have hbd := hiR_bd b S k
      by_cases hlt : k < S.length + 1
      · have hr := HR.out k (by omega) m1
        have hbk := HL.out k
        have hT := spec_HighestTile (bdK b S k) (HL.out k) (HO.out k (by omega))
        have htb := hiK_bd (HO.out k (by omega)) 16
        obtain ⟨x, y, hxy⟩ : ∃ x y : Int, cellI (hiK (bdK b S k) 16).2 = [x, y] := ⟨_, _, rfl⟩
        rw [hxy] at hT
        have hnext : hiR b S (k + 1) = if (hiR b S k).1 < (hiK (bdK b S k) 16).1 then ((hiK (bdK b S k) 16).1, k) else hiR b S k := rfl
        by_cases hgt : (hiR b S k).1 < (hiK (bdK b S k) 16).1
        · rw [if_pos hgt] at hnext
          have hpos : 0 < (hiK (bdK b S k) 16).1 := by omega
          have HN : Unit → Hid _ := fun _ => Lib.hid hnext
          clear hnext hxy
          generalize (hiK (bdK b S k) 16).1 = t at *
          generalize (hiR b S k).1 = best at *
          generalize bdK b S k = B at *
          simp only [nums_map, List.map_cons, List.map_nil] at hT
          have HT := Lib.hid hT
          clear hT
          repeat' (first | (with_reducible rw [hr]) | (go_at_call 51; refine mem_call hm (HT.out _) ?_; clear hm; intro w hm; (try simp only [nums, List.map_cons, List.map_nil])) | ((with_reducible refine gix ?_); first | refine mix rfl rfl rfl rfl ?_ | refine mixr rfl rfl rfl rfl ?_; (try simp only [Int.toNat_zero, Int.reduceToNat, Nat.reduceMul, Nat.zero_mul, Nat.one_mul, List.drop_succ_cons, List.drop_zero, List.take_succ_cons, List.take_zero])) | ((with_reducible refine gl ?_); first | refine ml hm rfl rfl rfl ?_ | refine mlw hm rfl rfl rfl ?_ | (refine mlr hm rfl rfl rfl ?_; try simp only [List.drop_succ_cons, List.drop_zero, List.take_succ_cons, List.take_zero])) | ((with_reducible refine gs ?_); (first | refine ms hm rfl rfl rfl rfl rfl ?_ | refine msw hm rfl rfl rfl rfl ?_ | refine msr hm rfl rfl rfl rfl ?_); clear hm; intro w hm; (try simp only [splice, List.set_cons_zero, List.set_cons_succ] at hm)) | ((with_reducible refine gb ?_); (first | refine mem_box hm rfl rfl rfl ?_ | refine mem_box1 hm rfl rfl rfl rfl ?_); clear hm; intro n w hm) | ((with_reducible refine ga ?_); refine mem_alloc hm rfl rfl ?_; clear hm; intro n w hm) | go_values | go_skip | go_guarded | go_step | go_upon | ((with_reducible refine bp ?_); go_back) | ((with_reducible refine up ?_); first | (simp only [Int.not_lt, Int.not_le] at *; go_simp) | (go_values <;> (try go_simp)) | (go_ite <;> go_prune <;> (try go_simp)) | (split <;> (first | (rename_i hx; exact (hx _ rfl).elim) | go_prune))))
          go_roundw
          case rel => (try (first | ((repeat apply Exists.intro); refine ⟨?_, rfl⟩) | (repeat refine ex_any ?_))); exact ⟨k + 1, by omega, by go_num, by rw [(HN ()).out], by rw [(HN ()).out], hm.drop (by repeat (first | exact List.Sublist.refl _ | refine List.Sublist.cons _ ?_))⟩
          case measure => simp [intOf]; omega
        · rw [if_neg hgt] at hnext
          have HN : Unit → Hid _ := fun _ => Lib.hid hnext
          clear hnext hxy
          generalize hbb : (hiR b S k).1 = best at *
          have HBB : Unit → Hid _ := fun _ => Lib.hid hbb
          clear hbb
          have hp : decide (0 < (hiK (bdK b S k) 16).1) = true ∨ decide (0 < (hiK (bdK b S k) 16).1) = false := by cases decide (0 < (hiK (bdK b S k) 16).1) <;> simp
          generalize decide (0 < (hiK (bdK b S k) 16).1) = p at *
          generalize (hiK (bdK b S k) 16).1 = t at *
          generalize bdK b S k = B at *
          simp only [nums_map, List.map_cons, List.map_nil] at hT
          rcases hp with rfl | rfl
          all_goals
            have HT := Lib.hid hT
            clear hT
            repeat' (first | (with_reducible rw [hr]) | (go_at_call 51; refine mem_call hm (HT.out _) ?_; clear hm; intro w hm; (try simp only [nums, List.map_cons, List.map_nil])) | ((with_reducible refine gix ?_); first | refine mix rfl rfl rfl rfl ?_ | refine mixr rfl rfl rfl rfl ?_; (try simp only [Int.toNat_zero, Int.reduceToNat, Nat.reduceMul, Nat.zero_mul, Nat.one_mul, List.drop_succ_cons, List.drop_zero, List.take_succ_cons, List.take_zero])) | ((with_reducible refine gl ?_); first | refine ml hm rfl rfl rfl ?_ | refine mlw hm rfl rfl rfl ?_ | (refine mlr hm rfl rfl rfl ?_; try simp only [List.drop_succ_cons, List.drop_zero, List.take_succ_cons, List.take_zero])) | ((with_reducible refine gs ?_); (first | refine ms hm rfl rfl rfl rfl rfl ?_ | refine msw hm rfl rfl rfl rfl ?_ | refine msr hm rfl rfl rfl rfl ?_); clear hm; intro w hm; (try simp only [splice, List.set_cons_zero, List.set_cons_succ] at hm)) | ((with_reducible refine gb ?_); (first | refine mem_box hm rfl rfl rfl ?_ | refine mem_box1 hm rfl rfl rfl rfl ?_); clear hm; intro n w hm) | ((with_reducible refine ga ?_); refine mem_alloc hm rfl rfl ?_; clear hm; intro n w hm) | go_values | go_skip | go_guarded | go_step | go_upon | ((with_reducible refine bp ?_); go_back) | ((with_reducible refine up ?_); first | (simp only [Int.not_lt, Int.not_le] at *; go_simp) | (go_values <;> (try go_simp)) | (go_ite <;> go_prune <;> (try go_simp)) | (split <;> (first | (rename_i hx; exact (hx _ rfl).elim) | go_prune))))
            go_roundw
          all_goals first | (simp [intOf]; omega) | ((try (first | ((repeat apply Exists.intro); refine ⟨?_, rfl⟩) | (repeat refine ex_any ?_))); exact ⟨k + 1, by omega, by go_num, by rw [(HN ()).out, (HBB ()).out], by rw [(HN ()).out], hm.drop (by repeat (first | exact List.Sublist.refl _ | refine List.Sublist.cons _ ?_))⟩)
      · obtain rfl : k = S.length + 1 := by omega
        have HH2 := (HH ()).out
        rw [HH2] at hbd ⊢
        have HH3 : Unit → Hid _ := fun _ => Lib.hid HH2
        clear HH2
        repeat' (first  | ((with_reducible refine gix ?_); first | refine mix rfl rfl rfl rfl ?_ | refine mixr rfl rfl rfl rfl ?_; (try simp only [Int.toNat_zero, Int.reduceToNat, Nat.reduceMul, Nat.zero_mul, Nat.one_mul, List.drop_succ_cons, List.drop_zero, List.take_succ_cons, List.take_zero])) | ((with_reducible refine gl ?_); first | refine ml hm rfl rfl rfl ?_ | refine mlw hm rfl rfl rfl ?_ | (refine mlr hm rfl rfl rfl ?_; try simp only [List.drop_succ_cons, List.drop_zero, List.take_succ_cons, List.take_zero])) | ((with_reducible refine gs ?_); (first | refine ms hm rfl rfl rfl rfl rfl ?_ | refine msw hm rfl rfl rfl rfl ?_ | refine msr hm rfl rfl rfl rfl ?_); clear hm; intro w hm; (try simp only [splice, List.set_cons_zero, List.set_cons_succ] at hm)) | ((with_reducible refine gb ?_); (first | refine mem_box hm rfl rfl rfl ?_ | refine mem_box1 hm rfl rfl rfl rfl ?_); clear hm; intro n w hm) | ((with_reducible refine ga ?_); refine mem_alloc hm rfl rfl ?_; clear hm; intro n w hm) | go_values | go_skip | go_guarded | go_step | go_upon | ((with_reducible refine bp ?_); go_back) | ((with_reducible refine up ?_); first | (simp only [Int.not_lt, Int.not_le] at *; go_simp) | (go_values <;> (try go_simp)) | (go_ite <;> go_prune <;> (try go_simp)) | (split <;> (first | (rename_i hx; exact (hx _ rfl).elim) | go_prune))))
        (try simp only [Exit.inBlock, Exit.then])
        (first | (refine ret1 rfl rfl (by (first | exact Res.tmp rfl | exact Res.atw hm rfl | exact Res.at hm rfl)) ?_) | (refine ret2 rfl rfl (by (first | exact Res.tmp rfl | exact Res.atw hm rfl | exact Res.at hm rfl)) (by (first | exact Res.tmp rfl | exact Res.atw hm rfl | exact Res.at hm rfl)) ?_) | (refine ret3 rfl rfl (by (first | exact Res.tmp rfl | exact Res.atw hm rfl | exact Res.at hm rfl)) (by (first | exact Res.tmp rfl | exact Res.atw hm rfl | exact Res.at hm rfl)) (by (first | exact Res.tmp rfl | exact Res.atw hm rfl | exact Res.at hm rfl)) ?_) | (refine ret4 rfl rfl (by (first | exact Res.tmp rfl | exact Res.atw hm rfl | exact Res.at hm rfl)) (by (first | exact Res.tmp rfl | exact Res.atw hm rfl | exact Res.at hm rfl)) (by (first | exact Res.tmp rfl | exact Res.atw hm rfl | exact Res.at hm rfl)) (by (first | exact Res.tmp rfl | exact Res.atw hm rfl | exact Res.at hm rfl)) ?_) | fail "ret")
        exact ⟨rfl, hm.drop (by repeat (first | exact List.Sublist.refl _ | refine List.Sublist.cons _ ?_))⟩
set_option maxHeartbeats 2000000 in
theorem impl_HighestIn {w0 w : World} {σ : List Blk} {g i cap : Nat} {more : List Value} (b : List Int) (hl : b.length = 16) (S : List Stp) (hm : Mem w0 w σ) [At σ g ((S.flatMap stI).map iv ++ more) 55 i] :
    Calls Try.prog 28 #[.agg (b.map iv ++ [Value.slice (some ⟨g, 0, none⟩) S.length cap]).toArray] w fun e w' => e = .returned (.tuple #[iv (highV b S).1, iv (highV b S).2.1, .bool (highV b S).2.2]) ∧ Mem w0 w' σ := by
  cases hq : valR b S
  · have hA := fun (w : World) (τ : List Blk) (j : Nat) (hm : Mem w0 w τ) (h : At τ g ((S.flatMap stI).map iv ++ more) 55 j) => impl_boards_bad (g := g) (more := more) (i := j) (cap := cap) b hl S hm hq
    have e1 : highV b S = (0, 0, false) := by simp [highV, hq]
    rw [e1]
    generalize hcs : (S.flatMap stI).map iv ++ more = cs at *
    have h16 : ((b.map iv ++ [Value.slice (some ⟨g, 0, none⟩) S.length cap]).take 16) = b.map iv := List.take_left' (by simpa using hl)
    have hv16 : (b.map iv ++ [Value.slice (some ⟨g, 0, none⟩) S.length cap])[16]? = some (Value.slice (some ⟨g, 0, none⟩) S.length cap) := by rw [List.getElem?_append_right (by simp [hl])]; simp [hl]
    have hl17 : (b.map iv ++ [Value.slice (some ⟨g, 0, none⟩) S.length cap]).length = 17 := by simp [hl]
    generalize hrc : b.map iv ++ [Value.slice (some ⟨g, 0, none⟩) S.length cap] = rc at *
    have HA := Lib.hid hA
    clear hA hcs hrc e1 hq
    go_enter Try.func28, Try.ntmps28
    repeat' (first | (go_at_call 45; refine mem_callM (HA.out _ _ _ hm inferInstance) ?_; clear hm; intro w hm; (try simp only [])) | ((with_reducible refine gix ?_); first | refine mix rfl rfl rfl rfl ?_ | refine mixr rfl rfl rfl rfl ?_; (try simp only [Int.toNat_zero, Int.reduceToNat, Nat.reduceMul, Nat.zero_mul, Nat.one_mul, List.drop_succ_cons, List.drop_zero, List.take_succ_cons, List.take_zero])) | ((with_reducible refine gl ?_); first | refine ml hm rfl rfl rfl ?_ | refine mlw hm rfl rfl rfl ?_ | (refine mlr hm rfl rfl rfl ?_; try simp only [List.drop_succ_cons, List.drop_zero, List.take_succ_cons, List.take_zero])) | ((with_reducible refine gs ?_); (first | refine ms hm rfl rfl rfl rfl rfl ?_ | refine msw hm rfl rfl rfl rfl ?_ | refine msr hm rfl rfl rfl rfl ?_); clear hm; intro w hm; (try simp only [splice, List.set_cons_zero, List.set_cons_succ] at hm)) | ((with_reducible refine gb ?_); (first | refine mem_box hm rfl rfl rfl ?_ | refine mem_box1 hm rfl rfl rfl rfl ?_); clear hm; intro n w hm) | ((with_reducible refine ga ?_); refine mem_alloc hm rfl rfl ?_; clear hm; intro n w hm) | ((with_reducible refine wp_loop_rounds 18 ?_); rw [rounds_succ]) | (with_reducible rw [rounds_succ]) | go_values | go_skip | go_guarded | go_step | go_upon | ((with_reducible refine bp ?_); go_back) | ((with_reducible refine up ?_); first | (simp only [Int.not_lt, Int.not_le] at *; go_simp) | (go_values <;> (try go_simp)) | (go_ite <;> go_prune <;> (try go_simp)) | (split <;> (first | (rename_i hx; exact (hx _ rfl).elim) | go_prune))))
    (try simp only [Exit.inBlock, Exit.then])
    (first | (refine ret1 rfl rfl (by (first | exact Res.tmp rfl | exact Res.atw hm rfl | exact Res.at hm rfl)) ?_) | (refine ret2 rfl rfl (by (first | exact Res.tmp rfl | exact Res.atw hm rfl | exact Res.at hm rfl)) (by (first | exact Res.tmp rfl | exact Res.atw hm rfl | exact Res.at hm rfl)) ?_) | (refine ret3 rfl rfl (by (first | exact Res.tmp rfl | exact Res.atw hm rfl | exact Res.at hm rfl)) (by (first | exact Res.tmp rfl | exact Res.atw hm rfl | exact Res.at hm rfl)) (by (first | exact Res.tmp rfl | exact Res.atw hm rfl | exact Res.at hm rfl)) ?_) | (refine ret4 rfl rfl (by (first | exact Res.tmp rfl | exact Res.atw hm rfl | exact Res.at hm rfl)) (by (first | exact Res.tmp rfl | exact Res.atw hm rfl | exact Res.at hm rfl)) (by (first | exact Res.tmp rfl | exact Res.atw hm rfl | exact Res.at hm rfl)) (by (first | exact Res.tmp rfl | exact Res.atw hm rfl | exact Res.at hm rfl)) ?_) | fail "ret")
    exact ⟨rfl, hm.drop (by repeat (first | exact List.Sublist.refl _ | refine List.Sublist.cons _ ?_))⟩
  · have hA := fun (w : World) (τ : List Blk) (j : Nat) (hm : Mem w0 w τ) (h : At τ g ((S.flatMap stI).map iv ++ more) 55 j) => impl_boards (g := g) (more := more) (i := j) (cap := cap) b hl S hm hq
    have e1 : highV b S = ((hiR b S (S.length + 1)).1, (((hiR b S (S.length + 1)).2 : Nat) : Int), (decide (0 < (hiR b S (S.length + 1)).1))) := by simp [highV, hq]
    rw [e1]
    have hn := valR_le hq
    obtain ⟨hok, hall⟩ := okK_of_val hq
    have hfl := bdsK_flat hl S S.length
    have hrow := fun k hk more => bdsK_row hl S S.length k hk more
    have hbl := fun k => bdK_len hl S k
    have hbo := fun k (hk : k ≤ S.length) => bdK_ok hok S k (okK_lt hall hk)
    have hxl : (((bdsK b S S.length).flatten).map iv).length = (S.length + 1) * 16 := by rw [List.length_map, hfl]
    have hc1 : ∀ more, (((bdsK b S S.length).flatten).map iv ++ more).length = (S.length + 1) * 16 + more.length := fun more => by rw [List.length_append, hxl]
    generalize hH : hiR b S (S.length + 1) = H
    generalize sumK2 b S S.length = sm1 at *
    generalize hX1 : ((bdsK b S S.length).flatten).map iv = X1 at *
    generalize hcs : (S.flatMap stI).map iv ++ more = cs at *
    have h16 : ((b.map iv ++ [Value.slice (some ⟨g, 0, none⟩) S.length cap]).take 16) = b.map iv := List.take_left' (by simpa using hl)
    have hv16 : (b.map iv ++ [Value.slice (some ⟨g, 0, none⟩) S.length cap])[16]? = some (Value.slice (some ⟨g, 0, none⟩) S.length cap) := by rw [List.getElem?_append_right (by simp [hl])]; simp [hl]
    have hl17 : (b.map iv ++ [Value.slice (some ⟨g, 0, none⟩) S.length cap]).length = 17 := by simp [hl]
    generalize hrc : b.map iv ++ [Value.slice (some ⟨g, 0, none⟩) S.length cap] = rc at *
    have HH : Unit → Hid _ := fun _ => Lib.hid hH
    have HA := Lib.hid hA
    have HR := Lib.hid hrow
    have HL := Lib.hid hbl
    have HO := Lib.hid hbo
    have HC := Lib.hid hc1
    clear hA hrow hbl hbo hc1 hcs hrc e1 hq hok hall hfl hX1 hH
    go_enter Try.func28, Try.ntmps28
    repeat' (first | (go_at_call 45; with_reducible refine mem_callF (F := fun u => .tuple #[u, .bool true]) (HA.out _ _ _ hm inferInstance) ?_; clear hm; intro g1 m1 l1 k1 w hm hf hx; obtain rfl : l1 = S.length + 1 := (by omega); clear hf hx; (try simp only [])) | ((with_reducible refine gix ?_); first | refine mix rfl rfl rfl rfl ?_ | refine mixr rfl rfl rfl rfl ?_; (try simp only [Int.toNat_zero, Int.reduceToNat, Nat.reduceMul, Nat.zero_mul, Nat.one_mul, List.drop_succ_cons, List.drop_zero, List.take_succ_cons, List.take_zero])) | ((with_reducible refine gl ?_); first | refine ml hm rfl rfl rfl ?_ | refine mlw hm rfl rfl rfl ?_ | (refine mlr hm rfl rfl rfl ?_; try simp only [List.drop_succ_cons, List.drop_zero, List.take_succ_cons, List.take_zero])) | ((with_reducible refine gs ?_); (first | refine ms hm rfl rfl rfl rfl rfl ?_ | refine msw hm rfl rfl rfl rfl ?_ | refine msr hm rfl rfl rfl rfl ?_); clear hm; intro w hm; (try simp only [splice, List.set_cons_zero, List.set_cons_succ] at hm)) | ((with_reducible refine gb ?_); (first | refine mem_box hm rfl rfl rfl ?_ | refine mem_box1 hm rfl rfl rfl rfl ?_); clear hm; intro n w hm) | ((with_reducible refine ga ?_); refine mem_alloc hm rfl rfl ?_; clear hm; intro n w hm) | go_values | go_skip | go_guarded | go_step | go_upon | ((with_reducible refine bp ?_); go_back) | ((with_reducible refine up ?_); first | (simp only [Int.not_lt, Int.not_le] at *; go_simp) | (go_values <;> (try go_simp)) | (go_ite <;> go_prune <;> (try go_simp)) | (split <;> (first | (rename_i hx; exact (hx _ rfl).elim) | go_prune))))
    have hc1 := HC.out m1
    obtain ⟨τ, hτ, hm⟩ := Mem.sig hm
    go_loopw [7, 8, 20] (fun best first ix wr => ∃ k : Nat, k ≤ S.length + 1 ∧ ix = iv k ∧ best = iv (hiR b S k).1 ∧ first = iv (hiR b S k).2 ∧ Mem w0 wr τ) (fun _ _ ix _ => S.length + 1 - (intOf ix).toNat)
    case atStart => exact ⟨0, by omega, rfl, rfl, rfl, hm⟩
    case round =>
      clear hm
      obtain ⟨k, hk, rfl, rfl, rfl, hm⟩ := hrel
      subst hτ
      have hbd := hiR_bd b S k
      by_cases hlt : k < S.length + 1
      · have hr := HR.out k (by omega) m1
        have hbk := HL.out k
        have hT := impl_highest (bdK b S k) (HL.out k)
        have htb := hiK_bd (HO.out k (by omega)) 16
        obtain ⟨x, y, hxy⟩ : ∃ x y : Int, cellI (hiK (bdK b S k) 16).2 = [x, y] := ⟨_, _, rfl⟩
        rw [hxy] at hT
        have hnext : hiR b S (k + 1) = if (hiR b S k).1 < (hiK (bdK b S k) 16).1 then ((hiK (bdK b S k) 16).1, k) else hiR b S k := rfl
        by_cases hgt : (hiR b S k).1 < (hiK (bdK b S k) 16).1
        · rw [if_pos hgt] at hnext
          have hpos : 0 < (hiK (bdK b S k) 16).1 := by omega
          have HN : Unit → Hid _ := fun _ => Lib.hid hnext
          clear hnext hxy
          generalize (hiK (bdK b S k) 16).1 = t at *
          generalize (hiR b S k).1 = best at *
          generalize bdK b S k = B at *
          simp only [nums_map, List.map_cons, List.map_nil] at hT
          have HT := Lib.hid hT
          clear hT
          repeat' (first | (with_reducible rw [hr]) | (go_at_call 52; refine mem_call hm (HT.out _) ?_; clear hm; intro w hm; (try simp only [nums, List.map_cons, List.map_nil])) | ((with_reducible refine gix ?_); first | refine mix rfl rfl rfl rfl ?_ | refine mixr rfl rfl rfl rfl ?_; (try simp only [Int.toNat_zero, Int.reduceToNat, Nat.reduceMul, Nat.zero_mul, Nat.one_mul, List.drop_succ_cons, List.drop_zero, List.take_succ_cons, List.take_zero])) | ((with_reducible refine gl ?_); first | refine ml hm rfl rfl rfl ?_ | refine mlw hm rfl rfl rfl ?_ | (refine mlr hm rfl rfl rfl ?_; try simp only [List.drop_succ_cons, List.drop_zero, List.take_succ_cons, List.take_zero])) | ((with_reducible refine gs ?_); (first | refine ms hm rfl rfl rfl rfl rfl ?_ | refine msw hm rfl rfl rfl rfl ?_ | refine msr hm rfl rfl rfl rfl ?_); clear hm; intro w hm; (try simp only [splice, List.set_cons_zero, List.set_cons_succ] at hm)) | ((with_reducible refine gb ?_); (first | refine mem_box hm rfl rfl rfl ?_ | refine mem_box1 hm rfl rfl rfl rfl ?_); clear hm; intro n w hm) | ((with_reducible refine ga ?_); refine mem_alloc hm rfl rfl ?_; clear hm; intro n w hm) | go_values | go_skip | go_guarded | go_step | go_upon | ((with_reducible refine bp ?_); go_back) | ((with_reducible refine up ?_); first | (simp only [Int.not_lt, Int.not_le] at *; go_simp) | (go_values <;> (try go_simp)) | (go_ite <;> go_prune <;> (try go_simp)) | (split <;> (first | (rename_i hx; exact (hx _ rfl).elim) | go_prune))))
          go_roundw
          case rel => (try (first | ((repeat apply Exists.intro); refine ⟨?_, rfl⟩) | (repeat refine ex_any ?_))); exact ⟨k + 1, by omega, by go_num, by rw [(HN ()).out], by rw [(HN ()).out], hm.drop (by repeat (first | exact List.Sublist.refl _ | refine List.Sublist.cons _ ?_))⟩
          case measure => simp [intOf]; omega
        · rw [if_neg hgt] at hnext
          have HN : Unit → Hid _ := fun _ => Lib.hid hnext
          clear hnext hxy
          generalize hbb : (hiR b S k).1 = best at *
          have HBB : Unit → Hid _ := fun _ => Lib.hid hbb
          clear hbb
          have hp : decide (0 < (hiK (bdK b S k) 16).1) = true ∨ decide (0 < (hiK (bdK b S k) 16).1) = false := by cases decide (0 < (hiK (bdK b S k) 16).1) <;> simp
          generalize decide (0 < (hiK (bdK b S k) 16).1) = p at *
          generalize (hiK (bdK b S k) 16).1 = t at *
          generalize bdK b S k = B at *
          simp only [nums_map, List.map_cons, List.map_nil] at hT
          rcases hp with rfl | rfl
          all_goals
            have HT := Lib.hid hT
            clear hT
            repeat' (first | (with_reducible rw [hr]) | (go_at_call 52; refine mem_call hm (HT.out _) ?_; clear hm; intro w hm; (try simp only [nums, List.map_cons, List.map_nil])) | ((with_reducible refine gix ?_); first | refine mix rfl rfl rfl rfl ?_ | refine mixr rfl rfl rfl rfl ?_; (try simp only [Int.toNat_zero, Int.reduceToNat, Nat.reduceMul, Nat.zero_mul, Nat.one_mul, List.drop_succ_cons, List.drop_zero, List.take_succ_cons, List.take_zero])) | ((with_reducible refine gl ?_); first | refine ml hm rfl rfl rfl ?_ | refine mlw hm rfl rfl rfl ?_ | (refine mlr hm rfl rfl rfl ?_; try simp only [List.drop_succ_cons, List.drop_zero, List.take_succ_cons, List.take_zero])) | ((with_reducible refine gs ?_); (first | refine ms hm rfl rfl rfl rfl rfl ?_ | refine msw hm rfl rfl rfl rfl ?_ | refine msr hm rfl rfl rfl rfl ?_); clear hm; intro w hm; (try simp only [splice, List.set_cons_zero, List.set_cons_succ] at hm)) | ((with_reducible refine gb ?_); (first | refine mem_box hm rfl rfl rfl ?_ | refine mem_box1 hm rfl rfl rfl rfl ?_); clear hm; intro n w hm) | ((with_reducible refine ga ?_); refine mem_alloc hm rfl rfl ?_; clear hm; intro n w hm) | go_values | go_skip | go_guarded | go_step | go_upon | ((with_reducible refine bp ?_); go_back) | ((with_reducible refine up ?_); first | (simp only [Int.not_lt, Int.not_le] at *; go_simp) | (go_values <;> (try go_simp)) | (go_ite <;> go_prune <;> (try go_simp)) | (split <;> (first | (rename_i hx; exact (hx _ rfl).elim) | go_prune))))
            go_roundw
          all_goals first | (simp [intOf]; omega) | ((try (first | ((repeat apply Exists.intro); refine ⟨?_, rfl⟩) | (repeat refine ex_any ?_))); exact ⟨k + 1, by omega, by go_num, by rw [(HN ()).out, (HBB ()).out], by rw [(HN ()).out], hm.drop (by repeat (first | exact List.Sublist.refl _ | refine List.Sublist.cons _ ?_))⟩)
      · obtain rfl : k = S.length + 1 := by omega
        have HH2 := (HH ()).out
        rw [HH2] at hbd ⊢
        have HH3 : Unit → Hid _ := fun _ => Lib.hid HH2
        clear HH2
        repeat' (first  | ((with_reducible refine gix ?_); first | refine mix rfl rfl rfl rfl ?_ | refine mixr rfl rfl rfl rfl ?_; (try simp only [Int.toNat_zero, Int.reduceToNat, Nat.reduceMul, Nat.zero_mul, Nat.one_mul, List.drop_succ_cons, List.drop_zero, List.take_succ_cons, List.take_zero])) | ((with_reducible refine gl ?_); first | refine ml hm rfl rfl rfl ?_ | refine mlw hm rfl rfl rfl ?_ | (refine mlr hm rfl rfl rfl ?_; try simp only [List.drop_succ_cons, List.drop_zero, List.take_succ_cons, List.take_zero])) | ((with_reducible refine gs ?_); (first | refine ms hm rfl rfl rfl rfl rfl ?_ | refine msw hm rfl rfl rfl rfl ?_ | refine msr hm rfl rfl rfl rfl ?_); clear hm; intro w hm; (try simp only [splice, List.set_cons_zero, List.set_cons_succ] at hm)) | ((with_reducible refine gb ?_); (first | refine mem_box hm rfl rfl rfl ?_ | refine mem_box1 hm rfl rfl rfl rfl ?_); clear hm; intro n w hm) | ((with_reducible refine ga ?_); refine mem_alloc hm rfl rfl ?_; clear hm; intro n w hm) | go_values | go_skip | go_guarded | go_step | go_upon | ((with_reducible refine bp ?_); go_back) | ((with_reducible refine up ?_); first | (simp only [Int.not_lt, Int.not_le] at *; go_simp) | (go_values <;> (try go_simp)) | (go_ite <;> go_prune <;> (try go_simp)) | (split <;> (first | (rename_i hx; exact (hx _ rfl).elim) | go_prune))))
        (try simp only [Exit.inBlock, Exit.then])
        (first | (refine ret1 rfl rfl (by (first | exact Res.tmp rfl | exact Res.atw hm rfl | exact Res.at hm rfl)) ?_) | (refine ret2 rfl rfl (by (first | exact Res.tmp rfl | exact Res.atw hm rfl | exact Res.at hm rfl)) (by (first | exact Res.tmp rfl | exact Res.atw hm rfl | exact Res.at hm rfl)) ?_) | (refine ret3 rfl rfl (by (first | exact Res.tmp rfl | exact Res.atw hm rfl | exact Res.at hm rfl)) (by (first | exact Res.tmp rfl | exact Res.atw hm rfl | exact Res.at hm rfl)) (by (first | exact Res.tmp rfl | exact Res.atw hm rfl | exact Res.at hm rfl)) ?_) | (refine ret4 rfl rfl (by (first | exact Res.tmp rfl | exact Res.atw hm rfl | exact Res.at hm rfl)) (by (first | exact Res.tmp rfl | exact Res.atw hm rfl | exact Res.at hm rfl)) (by (first | exact Res.tmp rfl | exact Res.atw hm rfl | exact Res.at hm rfl)) (by (first | exact Res.tmp rfl | exact Res.atw hm rfl | exact Res.at hm rfl)) ?_) | fail "ret")
        exact ⟨rfl, hm.drop (by repeat (first | exact List.Sublist.refl _ | refine List.Sublist.cons _ ?_))⟩
end Go.Proofs.Ythcjokgjiknheaa

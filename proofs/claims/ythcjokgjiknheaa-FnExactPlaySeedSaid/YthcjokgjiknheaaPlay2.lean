/-
  The play by a seed, of the reference.
-/
import Derived.Test.YthcjokgjiknheaaPlay1
import Derived.Test.YthcjokgjiknheaaStep
set_option linter.unusedVariables false
set_option linter.unusedSimpArgs false
namespace Go.Proofs.Ythcjokgjiknheaa
open Go.RowKit Slm
def pickB (σ : List Blk) : List Nat → List Blk
  | [] => []
  | i :: r => match σ[i]? with
    | some b => b :: pickB σ r
    | none => pickB σ r
theorem mem_pickB {σ : List Blk} {x : Blk} : ∀ {ix : List Nat}, x ∈ pickB σ ix → ∃ i ∈ ix, σ[i]? = some x
  | [], h => by cases h
  | i :: r, h => by
    unfold pickB at h
    split at h
    · rename_i b hb
      rcases List.mem_cons.1 h with rfl | h
      · exact ⟨i, by simp, hb⟩
      · obtain ⟨j, hj, e⟩ := mem_pickB h
        exact ⟨j, by simp [hj], e⟩
    · obtain ⟨j, hj, e⟩ := mem_pickB h
      exact ⟨j, by simp [hj], e⟩
theorem pickB_apart {σ : List Blk} (h : σ.Pairwise fun a b => a.n ≠ b.n) : ∀ {ix : List Nat}, ix.Nodup → (pickB σ ix).Pairwise fun a b => a.n ≠ b.n
  | [], _ => List.Pairwise.nil
  | i :: r, hn => by
    have hr := pickB_apart h (List.nodup_cons.1 hn).2
    unfold pickB
    split
    · rename_i b hb
      refine List.pairwise_cons.2 ⟨fun x hx => ?_, hr⟩
      obtain ⟨j, hj, e⟩ := mem_pickB hx
      have hij : i ≠ j := fun e => (List.nodup_cons.1 hn).1 (e ▸ hj)
      obtain ⟨hi', hb'⟩ := List.getElem?_eq_some_iff.1 hb
      obtain ⟨hj', hx'⟩ := List.getElem?_eq_some_iff.1 e
      have := List.pairwise_iff_getElem.1 h
      rw [← hb', ← hx']
      rcases Nat.lt_or_gt_of_ne hij with hlt | hlt
      · exact this i j hi' hj' hlt
      · exact fun e => this j i hj' hi' hlt e.symm
    · exact hr
theorem Mem.pick {w0 w : World} {σ : List Blk} (hm : Mem w0 w σ) (ix : List Nat) (hn : ix.Nodup) : Mem w0 w (pickB σ ix) :=
  ⟨hm.below, fun b hb => by obtain ⟨i, -, e⟩ := mem_pickB hb; exact hm.own b (List.mem_of_getElem? e), fun b hb => by obtain ⟨i, -, e⟩ := mem_pickB hb; exact hm.lies b (List.mem_of_getElem? e), pickB_apart hm.apart hn⟩
theorem cell_of (c : Nat) : 4 * ((c / 4 : Nat) : Int).toNat + ((c % 4 : Nat) : Int).toNat = c := by
  rw [Int.toNat_natCast, Int.toNat_natCast]; omega
theorem play_do {b o : List Int} {s i d c : Nat} {S : List Int} (g : Goes b o s i d c S) : doB b d ((c / 4 : Nat) : Int) ((c % 4 : Nat) : Int) (seedT s) = S.set c (seedT s) := by
  have ht := seedT_bd s
  have hc := g.c16
  have h3 := g.d3
  have h : stpB b d ((c / 4 : Nat) : Int) ((c % 4 : Nat) : Int) (seedT s) = true := by
    simp only [stpB, stpOK, Bool.and_eq_true, inB_iff, Int.toNat_natCast, g.eS, Bool.not_eq_true', decide_eq_false_iff_not, decide_eq_true_eq]
    refine ⟨⟨⟨by omega, by omega, by omega⟩, by omega⟩, g.ne, ?_⟩
    rw [show 4 * (c / 4) + c % 4 = c from by omega]
    exact g.zero
  rw [doB, if_pos h, nextB, Int.toNat_natCast, g.eS, cell_of]
theorem play_first {b o : List Int} {s i d c : Nat} {S : List Int} (g : Goes b o s i d c S) (h3 : ∀ x ∈ o, 0 ≤ x ∧ x ≤ 3) : ixZ (fun x => decide (x ∈ movesK 1 b 4)) o = i := by rw [ix_moves h3, g.ix]
/-- The play's arguments are good. -/
def playQ (b o : List Int) (s n : Int) : Bool := okL b && (ordB o && (inB s 0 65535 && inB n 0 40))
theorem ord_dirs {o : List Int} (h : ordB o = true) : ∀ x ∈ o, 0 ≤ x ∧ x ≤ 3 := fun x hx => by
  have hp := List.mergeSort_perm o (fun x y => decide (x ≤ y))
  rw [of_decide_eq_true h] at hp
  have := hp.mem_iff.2 hx
  simp at this
  omega
theorem snocS' (S : List Stp) (d r c t : Int) : ((S ++ [(d, r, c, t)]).flatMap stI).map iv = (S.flatMap stI).map iv ++ [iv d, iv r, iv c, iv t] := by
  rw [List.flatMap_append, List.map_append]; rfl
set_option maxHeartbeats 2000000 in
theorem spec_PlaySeed_no (b o : List Int) (hl : b.length = 16) (ho : o.length = 4) (s n : Int) (hq : playQ b o s n = false) (w : World) : Calls Try.prog 38 #[.agg (nums b), .agg (nums o), iv s, iv n] w fun e w' => e = .returned (.tuple #[.agg (z16.map iv ++ [Value.slice none 0 0]).toArray, iv 0, .bool false]) ∧ Below w.heap.size w w' := by
  have hB := spec_l2Board b hl
  have hO := spec_l11Order o ho
  have hS := spec_l11Seed s
  have hN := spec_l1In n 0 40
  unfold playQ at hq
  generalize okL b = q1 at *
  generalize ordB o = q2 at *
  generalize inB s 0 65535 = q3 at *
  generalize inB n 0 40 = q4 at *
  have HB := Lib.hid hB
  have HO := Lib.hid hO
  have HS := Lib.hid hS
  have HN := Lib.hid hN
  clear hB hO hS hN
  cases q1
  all_goals try cases q2
  all_goals try cases q3
  all_goals try cases q4
  case true.true.true.true => simp at hq
  all_goals
    clear hq
    go_enter Try.func38, Try.ntmps38
    have hm := Mem.start w
    simp only [nums_map] at *
    repeat' (first | (go_at_call 62; refine mem_call hm (HB.out _) ?_; clear hm; intro w hm; (try simp only [nums, List.map_cons, List.map_nil])) | (go_at_call 63; refine mem_call hm (HO.out _) ?_; clear hm; intro w hm; (try simp only [nums, List.map_cons, List.map_nil])) | (go_at_call 64; refine mem_call hm (HS.out _) ?_; clear hm; intro w hm; (try simp only [nums, List.map_cons, List.map_nil])) | (go_at_call 47; refine mem_call hm (HN.out _) ?_; clear hm; intro w hm; (try simp only [nums, List.map_cons, List.map_nil])) | ((with_reducible refine gix ?_); first | refine mix rfl rfl rfl rfl ?_ | refine mixr rfl rfl rfl rfl ?_; (try simp only [Int.toNat_zero, Int.reduceToNat, Nat.reduceMul, Nat.zero_mul, Nat.one_mul, List.drop_succ_cons, List.drop_zero, List.take_succ_cons, List.take_zero])) | ((with_reducible refine gl ?_); first | refine ml hm rfl rfl rfl ?_ | refine mlw hm rfl rfl rfl ?_ | (refine mlr hm rfl rfl rfl ?_; try simp only [List.drop_succ_cons, List.drop_zero, List.take_succ_cons, List.take_zero])) | ((with_reducible refine gs ?_); (first | refine ms hm rfl rfl rfl rfl rfl ?_ | refine msw hm rfl rfl rfl rfl ?_ | refine msr hm rfl rfl rfl rfl ?_); clear hm; intro w hm; (try simp only [splice, List.set_cons_zero, List.set_cons_succ] at hm)) | ((with_reducible refine gb ?_); (first | refine mem_box hm rfl rfl rfl ?_ | refine mem_box1 hm rfl rfl rfl rfl ?_); clear hm; intro n w hm) | ((with_reducible refine ga ?_); refine mem_alloc hm rfl rfl ?_; clear hm; intro n w hm) | go_values | go_skip | go_guarded | go_step | go_upon | ((with_reducible refine bp ?_); go_back) | ((with_reducible refine up ?_); first | (simp only [Int.not_lt, Int.not_le] at *; go_simp) | (go_values <;> (try go_simp)) | (go_ite <;> go_prune <;> (try go_simp)) | (split <;> (first | (rename_i hx; exact (hx _ rfl).elim) | go_prune))))
    (try simp only [Exit.inBlock, Exit.then])
    (first | (refine ret1 rfl rfl (by (first | exact Res.tmp rfl | exact Res.atw hm rfl | exact Res.at hm rfl)) ?_) | (refine ret2 rfl rfl (by (first | exact Res.tmp rfl | exact Res.atw hm rfl | exact Res.at hm rfl)) (by (first | exact Res.tmp rfl | exact Res.atw hm rfl | exact Res.at hm rfl)) ?_) | (refine ret3 rfl rfl (by (first | exact Res.tmp rfl | exact Res.atw hm rfl | exact Res.at hm rfl)) (by (first | exact Res.tmp rfl | exact Res.atw hm rfl | exact Res.at hm rfl)) (by (first | exact Res.tmp rfl | exact Res.atw hm rfl | exact Res.at hm rfl)) ?_) | (refine ret4 rfl rfl (by (first | exact Res.tmp rfl | exact Res.atw hm rfl | exact Res.at hm rfl)) (by (first | exact Res.tmp rfl | exact Res.atw hm rfl | exact Res.at hm rfl)) (by (first | exact Res.tmp rfl | exact Res.atw hm rfl | exact Res.at hm rfl)) (by (first | exact Res.tmp rfl | exact Res.atw hm rfl | exact Res.at hm rfl)) ?_) | fail "ret")
    exact ⟨rfl, hm.below⟩
set_option maxHeartbeats 2000000 in
theorem impl_PlaySeed_no (b o : List Int) (hl : b.length = 16) (ho : o.length = 4) (s n : Int) (hq : playQ b o s n = false) (w : World) : Calls Try.prog 41 #[.agg (nums b), .agg (nums o), iv s, iv n] w fun e w' => e = .returned (.tuple #[.agg (z16.map iv ++ [Value.slice none 0 0]).toArray, iv 0, .bool false]) ∧ Below w.heap.size w w' := by
  have hB := impl_IsBoard b hl
  have hO := impl_isOrder o ho
  have hS := impl_isSeed s
  have hN := impl_in n 0 40
  unfold playQ at hq
  generalize okL b = q1 at *
  generalize ordB o = q2 at *
  generalize inB s 0 65535 = q3 at *
  generalize inB n 0 40 = q4 at *
  have HB := Lib.hid hB
  have HO := Lib.hid hO
  have HS := Lib.hid hS
  have HN := Lib.hid hN
  clear hB hO hS hN
  cases q1
  all_goals try cases q2
  all_goals try cases q3
  all_goals try cases q4
  case true.true.true.true => simp at hq
  all_goals
    clear hq
    go_enter Try.func41, Try.ntmps41
    have hm := Mem.start w
    simp only [nums_map] at *
    repeat' (first | (go_at_call 71; refine mem_call hm (HB.out _) ?_; clear hm; intro w hm; (try simp only [nums, List.map_cons, List.map_nil])) | (go_at_call 72; refine mem_call hm (HO.out _) ?_; clear hm; intro w hm; (try simp only [nums, List.map_cons, List.map_nil])) | (go_at_call 73; refine mem_call hm (HS.out _) ?_; clear hm; intro w hm; (try simp only [nums, List.map_cons, List.map_nil])) | (go_at_call 48; refine mem_call hm (HN.out _) ?_; clear hm; intro w hm; (try simp only [nums, List.map_cons, List.map_nil])) | ((with_reducible refine gix ?_); first | refine mix rfl rfl rfl rfl ?_ | refine mixr rfl rfl rfl rfl ?_; (try simp only [Int.toNat_zero, Int.reduceToNat, Nat.reduceMul, Nat.zero_mul, Nat.one_mul, List.drop_succ_cons, List.drop_zero, List.take_succ_cons, List.take_zero])) | ((with_reducible refine gl ?_); first | refine ml hm rfl rfl rfl ?_ | refine mlw hm rfl rfl rfl ?_ | (refine mlr hm rfl rfl rfl ?_; try simp only [List.drop_succ_cons, List.drop_zero, List.take_succ_cons, List.take_zero])) | ((with_reducible refine gs ?_); (first | refine ms hm rfl rfl rfl rfl rfl ?_ | refine msw hm rfl rfl rfl rfl ?_ | refine msr hm rfl rfl rfl rfl ?_); clear hm; intro w hm; (try simp only [splice, List.set_cons_zero, List.set_cons_succ] at hm)) | ((with_reducible refine gb ?_); (first | refine mem_box hm rfl rfl rfl ?_ | refine mem_box1 hm rfl rfl rfl rfl ?_); clear hm; intro n w hm) | ((with_reducible refine ga ?_); refine mem_alloc hm rfl rfl ?_; clear hm; intro n w hm) | go_values | go_skip | go_guarded | go_step | go_upon | ((with_reducible refine bp ?_); go_back) | ((with_reducible refine up ?_); first | (simp only [Int.not_lt, Int.not_le] at *; go_simp) | (go_values <;> (try go_simp)) | (go_ite <;> go_prune <;> (try go_simp)) | (split <;> (first | (rename_i hx; exact (hx _ rfl).elim) | go_prune))))
    (try simp only [Exit.inBlock, Exit.then])
    (first | (refine ret1 rfl rfl (by (first | exact Res.tmp rfl | exact Res.atw hm rfl | exact Res.at hm rfl)) ?_) | (refine ret2 rfl rfl (by (first | exact Res.tmp rfl | exact Res.atw hm rfl | exact Res.at hm rfl)) (by (first | exact Res.tmp rfl | exact Res.atw hm rfl | exact Res.at hm rfl)) ?_) | (refine ret3 rfl rfl (by (first | exact Res.tmp rfl | exact Res.atw hm rfl | exact Res.at hm rfl)) (by (first | exact Res.tmp rfl | exact Res.atw hm rfl | exact Res.at hm rfl)) (by (first | exact Res.tmp rfl | exact Res.atw hm rfl | exact Res.at hm rfl)) ?_) | (refine ret4 rfl rfl (by (first | exact Res.tmp rfl | exact Res.atw hm rfl | exact Res.at hm rfl)) (by (first | exact Res.tmp rfl | exact Res.atw hm rfl | exact Res.at hm rfl)) (by (first | exact Res.tmp rfl | exact Res.atw hm rfl | exact Res.at hm rfl)) (by (first | exact Res.tmp rfl | exact Res.atw hm rfl | exact Res.at hm rfl)) ?_) | fail "ret")
    exact ⟨rfl, hm.below⟩
end Go.Proofs.Ythcjokgjiknheaa

/-
  The play by a seed, of the reference: good arguments.
-/
import Derived.Test.YthcjokgjiknheaaPlay2
import Derived.Test.YthcjokgjiknheaaJoin
set_option linter.unusedVariables false
set_option linter.unusedSimpArgs false
namespace Go.Proofs.Ythcjokgjiknheaa
open Go.RowKit Slm
def lenOf (w : World) (n : Nat) : Nat := match w.heap[n]? with
  | some (.cells c _ _) => (match (c[16]? : Option Value) with
    | some (Value.slice _ l _) => l
    | _ => 0)
  | _ => 0
theorem lenOf_eq {w0 w : World} {σ : List Blk} {n k cap : Nat} {A : Option Addr} {cs : List Value} {t : TypeId} (hm : Mem w0 w σ) (i : Nat) (h : σ[i]? = some ⟨n, cs, t⟩) (hc : cs[16]? = some (.slice A k cap)) : lenOf w n = k := by
  have h1 := hm.lies _ (List.mem_of_getElem? h)
  simp only [lenOf, h1, List.getElem?_toArray, hc]
theorem jend213 {w0 w : World} {a : Act} {F : Nat → Nat → Nat → Nat → Nat → Act} {C : Nat → Nat → Nat → Nat → Nat → List Value → List Blk} {n1 n2 n3 : Nat} {c1 c2 c3 : List Value} {t1 t2 t3 : TypeId} {σ : List Blk} (hm : Mem w0 w (⟨n1, c1, t1⟩ :: ⟨n2, c2, t2⟩ :: ⟨n3, c3, t3⟩ :: σ)) (x y : Nat) (m : List Value) (he : a = F n2 n1 n3 x y) (h : Mem w0 w (C n2 n1 n3 x y m)) : JoinR w0 F C .normal a w := jend n2 n1 n3 x y m he h
set_option maxHeartbeats 4000000 in
theorem spec_PlaySeed_ok (b o : List Int) (hl : b.length = 16) (ho : o.length = 4) (s nk : Nat) (hq : playQ b o s nk = true) (w0 : World) : Calls Try.prog 38 #[.agg (nums b), .agg (nums o), iv s, iv nk] w0 fun e w' => ∃ u, e = .returned (.tuple #[.agg (b.map iv ++ [u]).toArray, iv ((playK b o s nk).2.2 : Nat), .bool true]) ∧ Sl w0 w' u 55 4 (((playK b o s nk).1.flatMap stI).map iv) [] := by
  have hB := spec_l2Board b hl
  have hO := spec_l11Order o ho
  have hS := spec_l11Seed s
  have hN := spec_l1In nk 0 40
  simp only [playQ, Bool.and_eq_true] at hq
  obtain ⟨q1, q2, q3, q4⟩ := hq
  rw [q1] at hB
  rw [q2] at hO
  rw [q3] at hS
  rw [q4] at hN
  have hd3 := ord_dirs q2
  have hs : s ≤ 65535 := by have := inB_iff.1 q3; omega
  have hn : nk ≤ 40 := by have := inB_iff.1 q4; omega
  have hF := play_facts (b := b) (o := o) (s := s) hl q1 hs hd3
  have hM0 := spec_l2Moves b hl q1
  have hP0 : playK b o s 0 = ([], b, s) := rfl
  have hPS := playK_succ b o s
  have hPL := play_len (b := b) (o := o) (s := s)
  have hPT := fun k => play_stuck (b := b) (o := o) (s := s) (k := k)
  generalize playK b o s = P at *
  have HB := Lib.hid hB
  have HO := Lib.hid hO
  have HS := Lib.hid hS
  have HN := Lib.hid hN
  have HM0 := Lib.hid hM0
  have HF := Lib.hid hF
  have HPS := Lib.hid hPS
  have HPL := Lib.hid hPL
  have HPT := Lib.hid hPT
  have Q2 := Lib.hid q2
  have H3 := Lib.hid hd3
  clear hB hO hS hN hM0 hF hPS hPL hPT q1 q2 q3 q4 hd3
  have HP0 : Unit → Hid _ := fun _ => Lib.hid hP0
  clear hP0
  generalize hPn : P nk = Pn
  have HPN : Unit → Hid _ := fun _ => Lib.hid hPn
  clear hPn
  generalize hX0 : movesK 1 b 4 = X0 at *
  have HX0 : Unit → Hid _ := fun _ => Lib.hid hX0
  clear hX0
  obtain ⟨a0, a1, a2, a3, b0, b1, b2, b3, c0, c1, c2, c3, d0, d1, d2, d3, hbe⟩ := list16 hl
  simp only [nums_map] at *
  rw [hbe] at HB HM0 ⊢
  have HBE : Unit → Hid _ := fun _ => Lib.hid hbe
  clear hbe
  simp only [List.map_cons, List.map_nil, List.cons_append, List.nil_append] at *
  go_enter Try.func38, Try.ntmps38
  have hm := Mem.start w0
  repeat' (first | (go_at_call 62; refine mem_call hm (HB.out _) ?_; clear hm; intro w hm; (try simp only [nums, List.map_cons, List.map_nil])) | (go_at_call 63; refine mem_call hm (HO.out _) ?_; clear hm; intro w hm; (try simp only [nums, List.map_cons, List.map_nil])) | (go_at_call 64; refine mem_call hm (HS.out _) ?_; clear hm; intro w hm; (try simp only [nums, List.map_cons, List.map_nil])) | (go_at_call 47; refine mem_call hm (HN.out _) ?_; clear hm; intro w hm; (try simp only [nums, List.map_cons, List.map_nil])) | ((with_reducible refine gix ?_); first | refine mix rfl rfl rfl rfl ?_ | refine mixr rfl rfl rfl rfl ?_; (try simp only [Int.toNat_zero, Int.reduceToNat, Nat.reduceMul, Nat.zero_mul, Nat.one_mul, List.drop_succ_cons, List.drop_zero, List.take_succ_cons, List.take_zero])) | ((with_reducible refine gl ?_); first | refine ml hm rfl rfl rfl ?_ | refine mlw hm rfl rfl rfl ?_ | (refine mlr hm rfl rfl rfl ?_; try simp only [List.drop_succ_cons, List.drop_zero, List.take_succ_cons, List.take_zero])) | ((with_reducible refine gs ?_); (first | refine ms hm rfl rfl rfl rfl rfl ?_ | refine msw hm rfl rfl rfl rfl ?_ | refine msr hm rfl rfl rfl rfl ?_); clear hm; intro w hm; (try simp only [splice, List.set_cons_zero, List.set_cons_succ] at hm)) | ((with_reducible refine gb ?_); (first | refine mem_box hm rfl rfl rfl ?_ | refine mem_box1 hm rfl rfl rfl rfl ?_); clear hm; intro n w hm) | ((with_reducible refine ga ?_); refine mem_alloc hm rfl rfl ?_; clear hm; intro n w hm) | go_values | go_skip | go_guarded | go_step | go_upon | ((with_reducible refine bp ?_); go_back) | ((with_reducible refine up ?_); first | (simp only [Int.not_lt, Int.not_le] at *; go_simp) | (go_values <;> (try go_simp)) | (go_ite <;> go_prune <;> (try go_simp)) | (split <;> (first | (rename_i hx; exact (hx _ rfl).elim) | go_prune))))
  rename_i nb wb nq wq w1 w2 w3 w4 w5 w6
  have hzl : ([Value.int IntKind.i64 0, Value.int IntKind.i64 0, Value.int IntKind.i64 0, Value.int IntKind.i64 0, Value.int IntKind.i64 0, Value.int IntKind.i64 0, Value.int IntKind.i64 0, Value.int IntKind.i64 0, Value.int IntKind.i64 0, Value.int IntKind.i64 0, Value.int IntKind.i64 0, Value.int IntKind.i64 0, Value.int IntKind.i64 0, Value.int IntKind.i64 0, Value.int IntKind.i64 0, Value.int IntKind.i64 0, Value.slice none 0 0] : List Value).length = 17 := rfl
  generalize [Value.int IntKind.i64 0, Value.int IntKind.i64 0, Value.int IntKind.i64 0, Value.int IntKind.i64 0, Value.int IntKind.i64 0, Value.int IntKind.i64 0, Value.int IntKind.i64 0, Value.int IntKind.i64 0, Value.int IntKind.i64 0, Value.int IntKind.i64 0, Value.int IntKind.i64 0, Value.int IntKind.i64 0, Value.int IntKind.i64 0, Value.int IntKind.i64 0, Value.int IntKind.i64 0, Value.int IntKind.i64 0, Value.slice none 0 0] = zc at hm hzl
  (with_reducible refine gd ?_)
  revert hm
  apply wp_join (fun no nn nl _ _ _ => [⟨no, [iv a0, iv a1, iv a2, iv a3, iv b0, iv b1, iv b2, iv b3, iv c0, iv c1, iv c2, iv c3, iv d0, iv d1, iv d2, iv d3, .slice (some ⟨nl, 0, none⟩) 0 0], 34⟩, ⟨nn, [iv a0, iv a1, iv a2, iv a3, iv b0, iv b1, iv b2, iv b3, iv c0, iv c1, iv c2, iv c3, iv d0, iv d1, iv d2, iv d3], 31⟩, ⟨nl, [], 55⟩])
  focus
    intro hm
    refine any_start hm (by kernel_rfl) ?_
    clear hm
    intro w hm
    obtain ⟨xA, xB, xM, -⟩ : ∃ (x y : Nat) (m : List Value), True := ⟨0, 0, [], trivial⟩
    repeat' (first | ((with_reducible refine gqw ?_); first | (refine qw_skipR (by decide +kernel) ?_) | fail | ((with_reducible refine gqwl ?_); first | refine qw_load hm rfl (by decide +kernel) rfl rfl rfl (by decide +kernel) (by decide +kernel) (fun _ _ _ _ h => h) ?_ | refine qw_loadW hm rfl (by decide +kernel) rfl rfl rfl (by decide +kernel) (by decide +kernel) (fun _ _ _ _ h => h) ?_ | (refine qw_loadR hm rfl (by decide +kernel) rfl rfl rfl (by decide +kernel) (by decide +kernel) (fun _ _ _ _ h => h) ?_; (try simp only [List.drop_succ_cons, List.drop_zero, List.take_succ_cons, List.take_zero]))) | (refine qw_pure hm (by decide +kernel) (by decide +kernel) rfl (by decide +kernel) (by decide +kernel) (fun _ _ _ _ h => h) (MS.any2 hm) ?_; intro hn K hK; go_simp; (try go_ints); (try simp [↓IntWalk.iteOmega, go_sem]); first | (refine hK _ ?_; clear hK K hn) | (apply Exists.intro; refine ⟨fun _ => ?_, hK _ ?_⟩; (first | rfl | done); clear hK K hn)) | (refine qw_not hm rfl (by decide +kernel) rfl (by decide +kernel) (by decide +kernel) (fun _ _ _ h => h) ?_) | refine qw_skip ?_) | ((with_reducible refine gqwn ?_); first | (refine qw_done (by decide +kernel) ?_; (try simp only [Act.put, List.setIfInBounds_toArray, List.set_cons_zero, List.set_cons_succ])) | refine qw_all (by decide +kernel) ?_) | ((with_reducible refine gaf ?_); first | exact af_end | refine af_skip (by decide +kernel) ?_ | refine af_go ?_ ?_) | ((with_reducible refine exit_go ?_); refine ⟨hm.drop (by first | exact List.Sublist.refl _ | exact List.sublist_cons_self _ _ | (repeat (first | exact List.Sublist.refl _ | (with_reducible refine List.Sublist.cons_cons _ ?_) | refine List.Sublist.cons _ ?_))), ?_⟩) | (refine jend213 hm xA xB xM rfl ?_; simp only [List.cons_append, List.nil_append]; (first | (have h := hm.pick [0, 1, 2, 3, 4, 5] (by decide); simp only [pickB, List.getElem?_cons_succ, List.getElem?_cons_zero] at h; with_reducible exact h) | (have h := hm.pick [0, 2, 1, 3, 4, 5] (by decide); simp only [pickB, List.getElem?_cons_succ, List.getElem?_cons_zero] at h; with_reducible exact h) | (have h := hm.pick [1, 0, 2, 3, 4, 5] (by decide); simp only [pickB, List.getElem?_cons_succ, List.getElem?_cons_zero] at h; with_reducible exact h) | (have h := hm.pick [1, 2, 0, 3, 4, 5] (by decide); simp only [pickB, List.getElem?_cons_succ, List.getElem?_cons_zero] at h; with_reducible exact h) | (have h := hm.pick [2, 0, 1, 3, 4, 5] (by decide); simp only [pickB, List.getElem?_cons_succ, List.getElem?_cons_zero] at h; with_reducible exact h) | (have h := hm.pick [2, 1, 0, 3, 4, 5] (by decide); simp only [pickB, List.getElem?_cons_succ, List.getElem?_cons_zero] at h; with_reducible exact h))) | (refine jend _ _ _ xA xB xM rfl ?_; simp only [List.cons_append, List.nil_append]; (first | (have h := hm.pick [0, 1, 2, 3, 4, 5] (by decide); simp only [pickB, List.getElem?_cons_succ, List.getElem?_cons_zero] at h; with_reducible exact h) | (have h := hm.pick [0, 2, 1, 3, 4, 5] (by decide); simp only [pickB, List.getElem?_cons_succ, List.getElem?_cons_zero] at h; with_reducible exact h) | (have h := hm.pick [1, 0, 2, 3, 4, 5] (by decide); simp only [pickB, List.getElem?_cons_succ, List.getElem?_cons_zero] at h; with_reducible exact h) | (have h := hm.pick [1, 2, 0, 3, 4, 5] (by decide); simp only [pickB, List.getElem?_cons_succ, List.getElem?_cons_zero] at h; with_reducible exact h) | (have h := hm.pick [2, 0, 1, 3, 4, 5] (by decide); simp only [pickB, List.getElem?_cons_succ, List.getElem?_cons_zero] at h; with_reducible exact h) | (have h := hm.pick [2, 1, 0, 3, 4, 5] (by decide); simp only [pickB, List.getElem?_cons_succ, List.getElem?_cons_zero] at h; with_reducible exact h))) | ((with_reducible refine gbs ?_); refine mbs hm rfl rfl rfl ?_; clear hm; intro n w hm; (try simp only [List.flatMap_cons, List.flatMap_nil, Value.cells, List.append_nil, List.cons_append, List.nil_append] at hm)) | ((with_reducible refine gap ?_); refine map_ hm rfl rfl rfl rfl hf ?_; clear hm hf; intro g cap more w hm hf; rw [List.take_left' hx] at hm hf; (try simp only [List.eraseIdx_cons_succ, List.eraseIdx_cons_zero, Nat.zero_add, Nat.reduceAdd, Nat.reduceSub, Nat.reduceLT, if_true, if_false] at hm)) | ((with_reducible refine gix ?_); first | refine mix rfl rfl rfl rfl ?_ | refine mixr rfl rfl rfl rfl ?_; (try simp only [Int.toNat_zero, Int.reduceToNat, Nat.reduceMul, Nat.zero_mul, Nat.one_mul, List.drop_succ_cons, List.drop_zero, List.take_succ_cons, List.take_zero])) | ((with_reducible refine gl ?_); first | refine ml hm rfl rfl rfl ?_ | refine mlw hm rfl rfl rfl ?_ | (refine mlr hm rfl rfl rfl ?_; try simp only [List.drop_succ_cons, List.drop_zero, List.take_succ_cons, List.take_zero])) | ((with_reducible refine gs ?_); (first | refine ms hm rfl rfl rfl rfl rfl ?_ | refine msw hm rfl rfl rfl rfl ?_ | refine msr hm rfl rfl rfl rfl ?_); clear hm; intro w hm; (try simp only [splice, List.set_cons_zero, List.set_cons_succ] at hm)) | ((with_reducible refine gb ?_); (first | refine mem_box hm rfl rfl rfl ?_ | refine mem_box1 hm rfl rfl rfl rfl ?_); clear hm; intro n w hm) | ((with_reducible refine ga ?_); refine mem_alloc hm rfl rfl ?_; clear hm; intro n w hm) | go_values | go_skip | go_guarded | go_step | go_upon | ((with_reducible refine bp ?_); go_back) | ((with_reducible refine up ?_); first | (simp only [Int.not_lt, Int.not_le] at *; go_simp) | (go_values <;> (try go_simp)) | (go_ite <;> go_prune <;> (try go_simp)) | (split <;> (first | (rename_i hx; exact (hx _ rfl).elim) | go_prune))))
  intro no nn nl xA xB xM w hm
  simp only [List.cons_append, List.nil_append] at hm
  repeat' (first | (go_at_call 65; refine mem_callN hm (HM0.out _) ?_; clear hm; intro g more len cap w hm hf hx; (try simp only [])) | ((with_reducible refine gix ?_); first | refine mix rfl rfl rfl rfl ?_ | refine mixr rfl rfl rfl rfl ?_; (try simp only [Int.toNat_zero, Int.reduceToNat, Nat.reduceMul, Nat.zero_mul, Nat.one_mul, List.drop_succ_cons, List.drop_zero, List.take_succ_cons, List.take_zero])) | ((with_reducible refine gl ?_); first | refine ml hm rfl rfl rfl ?_ | refine mlw hm rfl rfl rfl ?_ | (refine mlr hm rfl rfl rfl ?_; try simp only [List.drop_succ_cons, List.drop_zero, List.take_succ_cons, List.take_zero])) | ((with_reducible refine gs ?_); (first | refine ms hm rfl rfl rfl rfl rfl ?_ | refine msw hm rfl rfl rfl rfl ?_ | refine msr hm rfl rfl rfl rfl ?_); clear hm; intro w hm; (try simp only [splice, List.set_cons_zero, List.set_cons_succ] at hm)) | ((with_reducible refine gb ?_); (first | refine mem_box hm rfl rfl rfl ?_ | refine mem_box1 hm rfl rfl rfl rfl ?_); clear hm; intro n w hm) | ((with_reducible refine ga ?_); refine mem_alloc hm rfl rfl ?_; clear hm; intro n w hm) | go_values | go_skip | go_guarded | go_step | go_upon | ((with_reducible refine bp ?_); go_back) | ((with_reducible refine up ?_); first | (simp only [Int.not_lt, Int.not_le] at *; go_simp) | (go_values <;> (try go_simp)) | (go_ite <;> go_prune <;> (try go_simp)) | (split <;> (first | (rename_i hx; exact (hx _ rfl).elim) | go_prune))))
  go_loopw [2, 13] (fun sd mv wr => ∃ (k g2 cap2 gm capm : Nat) (more2 morem : List Value), k ≤ nk ∧ sd = iv ((P k).2.2 : Nat) ∧ mv = .slice (some ⟨gm, 0, none⟩) (movesK 1 (P k).2.1 4).length capm ∧ (Unit → Hid (∀ j, j < k → ¬ ixZ (mvB (P j).2.1) o < 0)) ∧ Fit (((P k).1.flatMap stI).map iv ++ more2) 4 k cap2 ∧ Mem w0 wr [⟨g2, ((P k).1.flatMap stI).map iv ++ more2, 55⟩, ⟨gm, (movesK 1 (P k).2.1 4).map iv ++ morem, 3⟩, ⟨no, [iv a0, iv a1, iv a2, iv a3, iv b0, iv b1, iv b2, iv b3, iv c0, iv c1, iv c2, iv c3, iv d0, iv d1, iv d2, iv d3, .slice (some ⟨g2, 0, none⟩) k cap2], 34⟩, ⟨nn, (P k).2.1.map iv, 31⟩, ⟨n, zc, 34⟩, ⟨nq, o.map iv, 22⟩, ⟨nb, [iv a0, iv a1, iv a2, iv a3, iv b0, iv b1, iv b2, iv b3, iv c0, iv c1, iv c2, iv c3, iv d0, iv d1, iv d2, iv d3], 31⟩]) (fun _ _ wr => nk - lenOf wr no)
  case atStart =>
    refine ⟨0, nl, 0, g, cap, [], more, by omega, by rw [(HP0 ()).out], ?_, fun _ => Lib.hid (by intro j h; omega), ?_, ?_⟩
    · rw [(HP0 ()).out]; simp only [(HX0 ()).out]; simp at hx; rw [hx]
    · rw [(HP0 ()).out]; exact Fit.none
    · rw [(HP0 ()).out]; simp only []; rw [(HX0 ()).out]; simp only [(HBE ()).out, List.flatMap_nil, List.map_nil, List.map_cons, List.nil_append]; (have h := hm.pick [3, 0, 1, 2, 4, 5, 6] (by decide)); simp only [pickB, List.getElem?_cons_succ, List.getElem?_cons_zero] at h; with_reducible exact h
  case round =>
    clear hm hf hx
    obtain ⟨k, g2, cap2, gm, capm, more2, morem, hk, rfl, rfl, hall, hf, hm⟩ := hrel
    have hFk := HF.out k
    have hPk := HPL.out k (hall ()).out
    have hx : (((P k).1.flatMap stI).map iv).length = k * 4 := by rw [List.length_map, fm_len (s := 4) _ (fun a _ => stI_len a), hPk]
    have hold := lenOf_eq (n := no) hm 2 rfl rfl
    have hXl := movesK_len 1 (P k).2.1 4
    by_cases hlt : k < nk
    · by_cases hst : ixZ (mvB (P k).2.1) o < 0
      · have hx0 : movesK 1 (P k).2.1 4 = [] := (moves_none Q2.out).2 hst
        have hfin : P nk = P k := by have := HPT.out k hst (nk - k); rwa [Nat.add_sub_cancel' hk] at this
        have hPk2 : P k = Pn := by rw [← hfin]; exact (HPN ()).out
        rw [hx0] at hm
        rw [hx0]
        rw [hPk2] at hm hf hx ⊢
        clear hFk hPk hPk2 hfin hst hx0 hall hold hXl
        simp only [List.length_nil, List.map_nil, List.nil_append] at hm
        simp only [List.length_nil]
        generalize hxs : (Pn.1.flatMap stI).map iv = xs at hm hf hx
        have HXP : Unit → Hid _ := fun _ => Lib.hid hxs
        clear hxs
        generalize Pn.2.1 = B at hm
        have HX := Lib.hid hx
        have HFi := Lib.hid hf
        clear hx hf
        repeat' (first  | ((with_reducible refine gix ?_); first | refine mix rfl rfl rfl rfl ?_ | refine mixr rfl rfl rfl rfl ?_; (try simp only [Int.toNat_zero, Int.reduceToNat, Nat.reduceMul, Nat.zero_mul, Nat.one_mul, List.drop_succ_cons, List.drop_zero, List.take_succ_cons, List.take_zero])) | ((with_reducible refine gl ?_); first | refine ml hm rfl rfl rfl ?_ | refine mlw hm rfl rfl rfl ?_ | (refine mlr hm rfl rfl rfl ?_; try simp only [List.drop_succ_cons, List.drop_zero, List.take_succ_cons, List.take_zero])) | ((with_reducible refine gs ?_); (first | refine ms hm rfl rfl rfl rfl rfl ?_ | refine msw hm rfl rfl rfl rfl ?_ | refine msr hm rfl rfl rfl rfl ?_); clear hm; intro w hm; (try simp only [splice, List.set_cons_zero, List.set_cons_succ] at hm)) | ((with_reducible refine gb ?_); (first | refine mem_box hm rfl rfl rfl ?_ | refine mem_box1 hm rfl rfl rfl rfl ?_); clear hm; intro n w hm) | ((with_reducible refine ga ?_); refine mem_alloc hm rfl rfl ?_; clear hm; intro n w hm) | go_values | go_skip | go_guarded | go_step | go_upon | ((with_reducible refine bp ?_); go_back) | ((with_reducible refine up ?_); first | (simp only [Int.not_lt, Int.not_le] at *; go_simp) | (go_values <;> (try go_simp)) | (go_ite <;> go_prune <;> (try go_simp)) | (split <;> (first | (rename_i hx; exact (hx _ rfl).elim) | go_prune))))
        (try simp only [Exit.inBlock, Exit.then])
        (first | (refine ret1 rfl rfl (by (first | exact Res.tmp rfl | exact Res.atw hm rfl | exact Res.at hm rfl)) ?_) | (refine ret2 rfl rfl (by (first | exact Res.tmp rfl | exact Res.atw hm rfl | exact Res.at hm rfl)) (by (first | exact Res.tmp rfl | exact Res.atw hm rfl | exact Res.at hm rfl)) ?_) | (refine ret3 rfl rfl (by (first | exact Res.tmp rfl | exact Res.atw hm rfl | exact Res.at hm rfl)) (by (first | exact Res.tmp rfl | exact Res.atw hm rfl | exact Res.at hm rfl)) (by (first | exact Res.tmp rfl | exact Res.atw hm rfl | exact Res.at hm rfl)) ?_) | (refine ret4 rfl rfl (by (first | exact Res.tmp rfl | exact Res.atw hm rfl | exact Res.at hm rfl)) (by (first | exact Res.tmp rfl | exact Res.atw hm rfl | exact Res.at hm rfl)) (by (first | exact Res.tmp rfl | exact Res.atw hm rfl | exact Res.at hm rfl)) (by (first | exact Res.tmp rfl | exact Res.atw hm rfl | exact Res.at hm rfl)) ?_) | fail "ret")
        exact ⟨_, rfl, by rw [(HXP ()).out]; exact Sl.of (by have h := hm.pick [0] (by decide); simp only [pickB, List.getElem?_cons_zero] at h; exact h) HFi.out HX.out⟩
      · obtain ⟨i, d, c, S, g0⟩ := goes (s := (P k).2.2) hFk.1 hFk.2.1 H3.out hst
        have hround := HPS.out k
        rw [round_goes g0] at hround
        have hF1 := HF.out (k + 1)
        rw [hround] at hF1
        have hall' : Unit → Hid (∀ j, j < k + 1 → ¬ ixZ (mvB (P j).2.1) o < 0) := fun _ => Lib.hid fun j hj => by
          by_cases hjk : j = k
          · subst hjk; exact hst
          · exact (hall ()).out j (by omega)
        have hXne : (movesK 1 (P k).2.1 4).length ≠ 0 := fun h0 => hst ((moves_none Q2.out).1 (List.length_eq_zero_iff.1 h0))
        have hDo := spec_l5Do (P k).2.1 hFk.1 hFk.2.1 d ((c / 4 : Nat) : Int) ((c % 4 : Nat) : Int) (seedT (P k).2.2)
        rw [play_do g0] at hDo
        have hFi := fun (w : World) (τ : List Blk) (j : Nat) (hm : Mem w0 w τ) (hA : At τ gm ((movesK 1 (P k).2.1 4).map iv ++ morem) 3 j) => spec_l11First (g := gm) (more := morem) (cap := capm) o ho hXl i (play_first g0 H3.out) hm
        rw [g0.dir] at hFi
        have hL := spec_l2Slide d g0.d3 (P k).2.1 hFk.1 hFk.2.1
        rw [g0.eS] at hL
        have hSl : S.length = 16 := by rw [← g0.eS, slideB_len, hFk.1]
        have hNw := spec_l11New S hSl (P k).2.2 hFk.2.2.1 g0.room
        rw [g0.eC] at hNw
        simp only [ecell] at hNw
        have hSd := spec_l11Behind ((P k).2.2 : Nat) (by omega)
        rw [show (25173 * (((P k).2.2 : Nat) : Int) + 13849) % 65536 = (((25173 * (P k).2.2 + 13849) % 65536 : Nat) : Int) from by omega] at hSd
        have hMv := spec_l2Moves _ hF1.1 hF1.2.1
        have hnext : ((P (k + 1)).1.flatMap stI).map iv = ((P k).1.flatMap stI).map iv ++ [iv d, iv ((c / 4 : Nat) : Int), iv ((c % 4 : Nat) : Int), iv (seedT (P k).2.2)] := by rw [hround, snocS']
        have e1 : (P (k + 1)).2.1 = S.set c (seedT (P k).2.2) := by rw [hround]
        have e2 : (P (k + 1)).2.2 = (25173 * (P k).2.2 + 13849) % 65536 := by rw [hround]
        rw [← e1] at hDo hMv
        rw [← e2] at hSd
        have hl1 := hF1.1
        have hl0 := hFk.1
        rw [show S.set c (seedT (P k).2.2) = (P (k + 1)).2.1 from e1.symm] at hl1
        simp only [nums_map] at *
        clear hround hF1 e1 e2 g0 hst hall hFk hPk
        generalize ((c / 4 : Nat) : Int) = ca at *
        generalize ((c % 4 : Nat) : Int) = cb at *
        generalize seedT (P k).2.2 = tl at *
        generalize hG1 : ((P (k + 1)).1.flatMap stI).map iv = xs1 at *
        generalize hG2 : (P (k + 1)).2.1 = B1 at *
        generalize hG3 : ((P (k + 1)).2.2 : Nat) = s1 at *
        generalize ((P k).1.flatMap stI).map iv = xs at *
        generalize hX1 : movesK 1 (P k).2.1 4 = X at *
        generalize hX2 : movesK 1 B1 4 = X2 at *
        generalize (P k).2.1 = B at *
        generalize ((P k).2.2 : Nat) = s0 at *
        generalize doS B (↑d) ca cb tl = ds at *
        generalize scoreB d B = sc at *
        generalize stpB B (↑d) ca cb tl = sq at *
        have HDo := Lib.hid hDo
        have HFi := Lib.hid hFi
        have HL := Lib.hid hL
        have HNw := Lib.hid hNw
        have HSd := Lib.hid hSd
        have HMv := Lib.hid hMv
        have HNx : Unit → Hid _ := fun _ => Lib.hid hnext
        have HOld : Unit → Hid _ := fun _ => Lib.hid hold
        have G1 : Unit → Hid _ := fun _ => Lib.hid hG1
        have G2 : Unit → Hid _ := fun _ => Lib.hid hG2
        have G3 : Unit → Hid _ := fun _ => Lib.hid hG3
        have G4 : Unit → Hid _ := fun _ => Lib.hid hX2
        clear hDo hFi hL hNw hSd hMv hnext hold hX1 hX2 hG1 hG2 hG3
        repeat' (first | ((with_reducible refine gbs ?_); refine mbs hm rfl rfl rfl ?_; clear hm; intro n w hm; (try simp only [List.flatMap_cons, List.flatMap_nil, Value.cells, List.append_nil, List.cons_append, List.nil_append] at hm)) | ((with_reducible refine gap ?_); refine map_ hm rfl rfl rfl rfl hf ?_; clear hm hf; intro g cap more w hm hf; rw [List.take_left' hx] at hm hf; (try simp only [List.eraseIdx_cons_succ, List.eraseIdx_cons_zero, Nat.zero_add, Nat.reduceAdd, Nat.reduceSub, Nat.reduceLT, if_true, if_false] at hm)) | (go_at_call 66; refine mem_callM (HFi.out _ _ _ hm inferInstance) ?_; clear hm; intro w hm; (try simp only [])) | (go_at_call 67; refine mem_call hm (HL.out _) ?_; clear hm; intro w hm; (try simp only [nums, List.map_cons, List.map_nil])) | (go_at_call 68; refine mem_call hm (HNw.out _) ?_; clear hm; intro w hm; (try simp only [nums, List.map_cons, List.map_nil])) | (go_at_call 69; refine mem_call hm (HSd.out _) ?_; clear hm; intro w hm; (try simp only [nums, List.map_cons, List.map_nil])) | (go_at_call 57; refine mem_call hm (HDo.out _) ?_; clear hm; intro w hm; (try simp only [nums, List.map_cons, List.map_nil])) | (go_at_call 65; refine mem_callN hm (HMv.out _) ?_; clear hm; intro g9 more9 len9 cap9 w hm hf9 hx9; (try simp only [])) | ((with_reducible refine gix ?_); first | refine mix rfl rfl rfl rfl ?_ | refine mixr rfl rfl rfl rfl ?_; (try simp only [Int.toNat_zero, Int.reduceToNat, Nat.reduceMul, Nat.zero_mul, Nat.one_mul, List.drop_succ_cons, List.drop_zero, List.take_succ_cons, List.take_zero])) | ((with_reducible refine gl ?_); first | refine ml hm rfl rfl rfl ?_ | refine mlw hm rfl rfl rfl ?_ | (refine mlr hm rfl rfl rfl ?_; try simp only [List.drop_succ_cons, List.drop_zero, List.take_succ_cons, List.take_zero])) | ((with_reducible refine gs ?_); (first | refine ms hm rfl rfl rfl rfl rfl ?_ | refine msw hm rfl rfl rfl rfl ?_ | refine msr hm rfl rfl rfl rfl ?_); clear hm; intro w hm; (try simp only [splice, List.set_cons_zero, List.set_cons_succ] at hm)) | ((with_reducible refine gb ?_); (first | refine mem_box hm rfl rfl rfl ?_ | refine mem_box1 hm rfl rfl rfl rfl ?_); clear hm; intro n w hm) | ((with_reducible refine ga ?_); refine mem_alloc hm rfl rfl ?_; clear hm; intro n w hm) | go_values | go_skip | go_guarded | go_step | go_upon | ((with_reducible refine bp ?_); go_back) | ((with_reducible refine up ?_); first | (simp only [Int.not_lt, Int.not_le] at *; go_simp) | (go_values <;> (try go_simp)) | (go_ite <;> go_prune <;> (try go_simp)) | (split <;> (first | (rename_i hx; exact (hx _ rfl).elim) | go_prune))))
        go_roundw
        case rel =>
          refine ⟨k + 1, g, cap, g9, cap9, more, more9, by omega, by rw [(G3 ()).out], ?_, hall', ?_, ?_⟩
          · rw [(G2 ()).out, (G4 ()).out]; simp only [List.length_map, Nat.mul_one] at hx9; rw [hx9]
          · rw [(G1 ()).out, (HNx ()).out]; exact hf
          · rw [(G1 ()).out, (G2 ()).out, (G4 ()).out, (HNx ()).out]
            have h := hm.pick [1, 0, 5, 6, 7, 8, 9] (by decide)
            simp only [pickB, List.getElem?_cons_succ, List.getElem?_cons_zero] at h
            exact h
        case measure => rw [lenOf_eq hm 5 rfl rfl, (HOld ()).out]; omega
    · obtain rfl : k = nk := by omega
      have hPk2 : P k = Pn := (HPN ()).out
      rw [hPk2] at hm hf hx ⊢
      clear hFk hPk hPk2 hall hold hXl
      generalize hxs : (Pn.1.flatMap stI).map iv = xs at hm hf hx
      have HXP : Unit → Hid _ := fun _ => Lib.hid hxs
      clear hxs
      generalize Pn.2.1 = B at hm ⊢
      generalize movesK 1 B 4 = X at *
      have HX := Lib.hid hx
      have HFi := Lib.hid hf
      clear hx hf
      repeat' (first  | ((with_reducible refine gix ?_); first | refine mix rfl rfl rfl rfl ?_ | refine mixr rfl rfl rfl rfl ?_; (try simp only [Int.toNat_zero, Int.reduceToNat, Nat.reduceMul, Nat.zero_mul, Nat.one_mul, List.drop_succ_cons, List.drop_zero, List.take_succ_cons, List.take_zero])) | ((with_reducible refine gl ?_); first | refine ml hm rfl rfl rfl ?_ | refine mlw hm rfl rfl rfl ?_ | (refine mlr hm rfl rfl rfl ?_; try simp only [List.drop_succ_cons, List.drop_zero, List.take_succ_cons, List.take_zero])) | ((with_reducible refine gs ?_); (first | refine ms hm rfl rfl rfl rfl rfl ?_ | refine msw hm rfl rfl rfl rfl ?_ | refine msr hm rfl rfl rfl rfl ?_); clear hm; intro w hm; (try simp only [splice, List.set_cons_zero, List.set_cons_succ] at hm)) | ((with_reducible refine gb ?_); (first | refine mem_box hm rfl rfl rfl ?_ | refine mem_box1 hm rfl rfl rfl rfl ?_); clear hm; intro n w hm) | ((with_reducible refine ga ?_); refine mem_alloc hm rfl rfl ?_; clear hm; intro n w hm) | go_values | go_skip | go_guarded | go_step | go_upon | ((with_reducible refine bp ?_); go_back) | ((with_reducible refine up ?_); first | (simp only [Int.not_lt, Int.not_le] at *; go_simp) | (go_values <;> (try go_simp)) | (go_ite <;> go_prune <;> (try go_simp)) | (split <;> (first | (rename_i hx; exact (hx _ rfl).elim) | go_prune))))
      (try simp only [Exit.inBlock, Exit.then])
      (first | (refine ret1 rfl rfl (by (first | exact Res.tmp rfl | exact Res.atw hm rfl | exact Res.at hm rfl)) ?_) | (refine ret2 rfl rfl (by (first | exact Res.tmp rfl | exact Res.atw hm rfl | exact Res.at hm rfl)) (by (first | exact Res.tmp rfl | exact Res.atw hm rfl | exact Res.at hm rfl)) ?_) | (refine ret3 rfl rfl (by (first | exact Res.tmp rfl | exact Res.atw hm rfl | exact Res.at hm rfl)) (by (first | exact Res.tmp rfl | exact Res.atw hm rfl | exact Res.at hm rfl)) (by (first | exact Res.tmp rfl | exact Res.atw hm rfl | exact Res.at hm rfl)) ?_) | (refine ret4 rfl rfl (by (first | exact Res.tmp rfl | exact Res.atw hm rfl | exact Res.at hm rfl)) (by (first | exact Res.tmp rfl | exact Res.atw hm rfl | exact Res.at hm rfl)) (by (first | exact Res.tmp rfl | exact Res.atw hm rfl | exact Res.at hm rfl)) (by (first | exact Res.tmp rfl | exact Res.atw hm rfl | exact Res.at hm rfl)) ?_) | fail "ret")
      exact ⟨_, rfl, by rw [(HXP ()).out]; exact Sl.of (by have h := hm.pick [0] (by decide); simp only [pickB, List.getElem?_cons_zero] at h; exact h) HFi.out HX.out⟩
end Go.Proofs.Ythcjokgjiknheaa

/-
  The law on UndoSteps: for every input it returns true, and each argument reads as it read before. No condition.
-/
import Derived.Test.YthcjokgjiknheaaUndo
import Derived.Test.YthcjokgjiknheaaMark
set_option linter.unusedVariables false
set_option linter.unusedSimpArgs false
namespace Go.Proofs.Ythcjokgjiknheaa
open Go.ChangeShapes Go.WideShapes Go.ChangeAt Go.RowKit Slm
open Go.ChangeMaps (open_string shut_string)
set_option maxHeartbeats 2000000 in
theorem walk_FnExactUndoSteps {H : Type} {enc : TypeId × Value → H} {spare : Nat → Bool} {held : Bool} (w0 : World) (a0 : List Value) (g0 : LeafAt enc Try.prog w0 0 spare held (leafs Try.prog 6 28) a0) (a1 : Int) (w1 : I64 a1) :
    Calls Try.prog 9 #[.agg a0.toArray, iv a1] w0 fun e w' => e = .returned (.bool true) ∧ Below w0.heap.size w0 w' := by
  obtain ⟨b, v, S, rfl, hb, hO⟩ := open_replay (t := 28) (te := 53) (ti := 3) (tl := 26) (by kernel_rfl) Try.underlying26 (by kernel_rfl) (by kernel_rfl) (by kernel_rfl) Try.underlying3 g0
  obtain ⟨A, vc, rfl, hlen⟩ := hO.slice
  have hZ := laws_szReplay b hb A S.length vc 1048576 (by omega) hlen
  have hrl : (b.map iv ++ [Value.slice A S.length vc]).length = 17 := by simp [hb]
  by_cases hbig : (1048576 : Int) < S.length
  · rw [if_pos hbig] at hZ
    have HZ := Lib.hid hZ
    clear hZ hO
    generalize b.map iv ++ [Value.slice A S.length vc] = rc at *
    go_enter Try.func9, Try.ntmps9
    have hm := Mem.start w0
    repeat' (first | (go_at_call 13; refine mem_call hm (HZ.out _) ?_; clear hm; intro w hm; (try simp only [nums, List.map_cons, List.map_nil])) | ((with_reducible refine gix ?_); first | refine mix rfl rfl rfl rfl ?_ | refine mixr rfl rfl rfl rfl ?_; (try simp only [Int.toNat_zero, Int.reduceToNat, Nat.reduceMul, Nat.zero_mul, Nat.one_mul, List.drop_succ_cons, List.drop_zero, List.take_succ_cons, List.take_zero])) | ((with_reducible refine gl ?_); first | refine ml hm rfl rfl rfl ?_ | refine mlw hm rfl rfl rfl ?_ | (refine mlr hm rfl rfl rfl ?_; try simp only [List.drop_succ_cons, List.drop_zero, List.take_succ_cons, List.take_zero])) | ((with_reducible refine gs ?_); (first | refine ms hm rfl rfl rfl rfl rfl ?_ | refine msw hm rfl rfl rfl rfl ?_ | refine msr hm rfl rfl rfl rfl ?_); clear hm; intro w hm; (try simp only [splice, List.set_cons_zero, List.set_cons_succ] at hm)) | ((with_reducible refine gb ?_); (first | refine mem_box hm rfl rfl rfl ?_ | refine mem_box1 hm rfl rfl rfl rfl ?_); clear hm; intro n w hm) | ((with_reducible refine ga ?_); refine mem_alloc hm rfl rfl ?_; clear hm; intro n w hm) | go_values | go_skip | go_guarded | go_step | go_upon | ((with_reducible refine bp ?_); go_back) | ((with_reducible refine up ?_); first | (simp only [Int.not_lt, Int.not_le] at *; go_simp) | (go_values <;> (try go_simp)) | (go_ite <;> go_prune <;> (try go_simp)) | (split <;> (first | (rename_i hx; exact (hx _ rfl).elim) | go_prune))))
    (try simp only [Exit.inBlock, Exit.then])
    (first | (refine ret1 rfl rfl (by (first | exact Res.tmp rfl | exact Res.atw hm rfl | exact Res.at hm rfl)) ?_) | (refine ret2 rfl rfl (by (first | exact Res.tmp rfl | exact Res.atw hm rfl | exact Res.at hm rfl)) (by (first | exact Res.tmp rfl | exact Res.atw hm rfl | exact Res.at hm rfl)) ?_) | (refine ret3 rfl rfl (by (first | exact Res.tmp rfl | exact Res.atw hm rfl | exact Res.at hm rfl)) (by (first | exact Res.tmp rfl | exact Res.atw hm rfl | exact Res.at hm rfl)) (by (first | exact Res.tmp rfl | exact Res.atw hm rfl | exact Res.at hm rfl)) ?_) | (refine ret4 rfl rfl (by (first | exact Res.tmp rfl | exact Res.atw hm rfl | exact Res.at hm rfl)) (by (first | exact Res.tmp rfl | exact Res.atw hm rfl | exact Res.at hm rfl)) (by (first | exact Res.tmp rfl | exact Res.atw hm rfl | exact Res.at hm rfl)) (by (first | exact Res.tmp rfl | exact Res.atw hm rfl | exact Res.at hm rfl)) ?_) | fail "ret")
    exact ⟨rfl, hm.below⟩
  rw [if_neg hbig] at hZ
  have hT := fun (w : World) (σ : List Blk) (hm : Mem w0 w σ) => laws_toReplay b hb (OldSteps.next hm hO) (by omega)
  have hE := fun (w : World) (σ : List Blk) (g1 g2 i1 i2 k1 k2 : Nat) (m1 m2 : List Value) (hm : Mem w0 w σ) (h1 : At σ g1 ((S.flatMap stI).map iv ++ m1) 55 i1) (h2 : At σ g2 ((S.flatMap stI).map iv ++ m2) 55 i2) => laws_eqReplay_own (g1 := g1) (g2 := g2) (i1 := i1) (i2 := i2) (k1 := k1) (k2 := k2) (m1 := m1) (m2 := m2) b hb hm (by omega)
  have hxS := fm_len (s := 4) S (fun a _ => stI_len a)
  have hM := fun (w : World) (σ : List Blk) (g i cap : Nat) (more : List Value) (hm : Mem w0 w σ) (h : At σ g ((S.flatMap stI).map iv ++ more) 55 i) => laws_markReplay_at (g := g) (i := i) (cap := cap) (more := more) b hb hm hxS (by omega)
  have hxl : ((S.flatMap stI).map iv).length = S.length * 4 := by rw [List.length_map, hxS]
  cases hq : undoQ b S a1
  · have hs := fun (w : World) (σ : List Blk) (g i cap : Nat) (more : List Value) (hm : Mem w0 w σ) (h : At σ g ((S.flatMap stI).map iv ++ more) 55 i) => spec_UndoSteps_no (g := g) (i := i) (more := more) (cap := cap) b hb S hm a1 hq
    have hi := fun (w : World) (σ : List Blk) (g i cap : Nat) (more : List Value) (hm : Mem w0 w σ) (h : At σ g ((S.flatMap stI).map iv ++ more) 55 i) => impl_UndoSteps_no (g := g) (i := i) (more := more) (cap := cap) b hb S hm a1 hq
    have hN := fun (w : World) => laws_eqReplay_nil z16 rfl w (v := .slice none 0 0) (.inl rfl)
    have hMN := laws_markReplay_nil z16 rfl
    have hHN := laws_heldReplay_nil z16 rfl
    have HZ := Lib.hid hZ
    have HT := Lib.hid hT
    have HS := Lib.hid hs
    have HI := Lib.hid hi
    have HE := Lib.hid hE
    have HM := Lib.hid hM
    have HN := Lib.hid hN
    have HMN := Lib.hid hMN
    have HHN := Lib.hid hHN
    clear hZ hO hT hs hi hE hM hN hMN hHN hq
    generalize b.map iv ++ [Value.slice A S.length vc] = rc at *
    simp only [z16, List.map_cons, List.map_nil, List.cons_append, List.nil_append] at HS HI HN HMN HHN
    go_enter Try.func9, Try.ntmps9
    have hm := Mem.start w0
    repeat' (first | (go_at_call 13; refine mem_call hm (HZ.out _) ?_; clear hm; intro w hm; (try simp only [nums, List.map_cons, List.map_nil])) | ((with_reducible refine gd ?_); refine wp_region_callF 2 47 55 ((S.flatMap stI).map iv) (S.length) (fun u => .agg (b.map iv ++ [u]).toArray) hm (by kernel_rfl) (by decide +kernel) (by decide +kernel) ?_; have hne := MS.any hm; (repeat (first | (refine nA rfl (by rfl) (fun w hm => ?_) ?_; focus (dsimp only at hm; show makeUpon Try.prog _ _ _ _ _; go_simp; exact make_slF (by decide) (by first | assumption | omega) hm (HT.out _ _ hm))) | (refine nlate (Nat.ne_of_beq_eq_false rfl) (Nat.ne_of_beq_eq_false rfl) (by rfl) ?_; apply Exists.intro; refine ⟨fun p => ?_, ?_⟩; focus (obtain ⟨g, more, cap⟩ := p; refine ⟨by rfl, fun w hm => ?_⟩; dsimp only at hm; go_simp; (try refine ⟨rfl, ?_⟩); first | done | exact ⟨rfl, rfl⟩ | rfl | exact HE.out _ _ _ _ _ _ _ _ _ _ hm inferInstance inferInstance)) | fail | ((with_reducible refine gnl ?_); first | refine nl rfl rfl rfl ?_ | refine nlw rfl rfl rfl ?_ | (refine nlr rfl rfl rfl ?_; try simp only [List.drop_succ_cons, List.drop_zero, List.take_succ_cons, List.take_zero])) | (refine nstep (Nat.ne_of_beq_eq_false rfl) (Nat.ne_of_beq_eq_false rfl) (by rfl) hne ?_; intro hn K hK; go_simp; (try go_ints); (try simp [↓IntWalk.iteOmega, go_sem]); first | (refine hK _ ?_; clear hK K hn) | (apply Exists.intro; refine ⟨fun _ => ?_, hK _ ?_⟩; (first | (refine nA rfl (by rfl) (fun w hm => ?_) ?_; focus (dsimp only at hm; show makeUpon Try.prog _ _ _ _ _; go_simp; exact make_slF (by decide) (by first | assumption | omega) hm (HT.out _ _ hm))) | (refine nlate (Nat.ne_of_beq_eq_false rfl) (Nat.ne_of_beq_eq_false rfl) (by rfl) ?_; apply Exists.intro; refine ⟨fun p => ?_, ?_⟩; focus (obtain ⟨g, more, cap⟩ := p; refine ⟨by rfl, fun w hm => ?_⟩; dsimp only at hm; go_simp; (try refine ⟨rfl, ?_⟩); first | done | exact ⟨rfl, rfl⟩ | rfl | exact HE.out _ _ _ _ _ _ _ _ _ _ hm inferInstance inferInstance)) | fail | fail); clear hK K hn)))); refine nnil ?_; clear hm hne; intro g more cap w hm; (try simp only [Act.put, List.setIfInBounds_toArray, List.set_cons_zero, List.set_cons_succ])) | (go_at_call 15; refine mem_callNF hm (HT.out _ _ hm) ?_; clear hm; intro g more len cap w hm hf hx; obtain rfl : len = S.length := (by rw [List.length_map, fm_len S (fun a _ => stI_len a)] at hx; omega); have hcap := hf.le; clear hf hx; (try simp only [])) | (go_at_call 29; refine mem_callM (HS.out _ _ _ _ _ _ hm inferInstance) ?_; clear hm; intro w hm; (try simp only [])) | (go_at_call 30; refine mem_callM (HI.out _ _ _ _ _ _ hm inferInstance) ?_; clear hm; intro w hm; (try simp only [])) | (go_at_call 17; refine mem_call hm (HN.out _) ?_; clear hm; intro w hm; (try simp only [nums, List.map_cons, List.map_nil])) | (go_at_call 31; with_reducible refine mem_callM (HM.out _ _ _ _ _ _ hm inferInstance) ?_; clear hm; intro w hm; (try simp only [List.set_cons_zero, List.set_cons_succ] at hm); (try simp only [])) | (go_at_call 31; refine mem_call hm (HMN.out _) ?_; clear hm; intro w hm; (try simp only [nums, List.map_cons, List.map_nil])) | (go_at_call 32; refine mem_call hm (HHN.out _) ?_; clear hm; intro w hm; (try simp only [nums, List.map_cons, List.map_nil])) | ((with_reducible refine gix ?_); first | refine mix rfl rfl rfl rfl ?_ | refine mixr rfl rfl rfl rfl ?_; (try simp only [Int.toNat_zero, Int.reduceToNat, Nat.reduceMul, Nat.zero_mul, Nat.one_mul, List.drop_succ_cons, List.drop_zero, List.take_succ_cons, List.take_zero])) | ((with_reducible refine gl ?_); first | refine ml hm rfl rfl rfl ?_ | refine mlw hm rfl rfl rfl ?_ | (refine mlr hm rfl rfl rfl ?_; try simp only [List.drop_succ_cons, List.drop_zero, List.take_succ_cons, List.take_zero])) | ((with_reducible refine gs ?_); (first | refine ms hm rfl rfl rfl rfl rfl ?_ | refine msw hm rfl rfl rfl rfl ?_ | refine msr hm rfl rfl rfl rfl ?_); clear hm; intro w hm; (try simp only [splice, List.set_cons_zero, List.set_cons_succ] at hm)) | ((with_reducible refine gb ?_); (first | refine mem_box hm rfl rfl rfl ?_ | refine mem_box1 hm rfl rfl rfl rfl ?_); clear hm; intro n w hm) | ((with_reducible refine ga ?_); refine mem_alloc hm rfl rfl ?_; clear hm; intro n w hm) | go_values | go_skip | go_guarded | go_step | go_upon | ((with_reducible refine bp ?_); go_back) | ((with_reducible refine up ?_); first | (simp only [Int.not_lt, Int.not_le] at *; go_simp) | (go_values <;> (try go_simp)) | (go_ite <;> go_prune <;> (try go_simp)) | (split <;> (first | (rename_i hx; exact (hx _ rfl).elim) | go_prune))))
    all_goals
      (try simp only [Exit.inBlock, Exit.then])
      (first | (refine ret1 rfl rfl (by (first | exact Res.tmp rfl | exact Res.atw hm rfl | exact Res.at hm rfl)) ?_) | (refine ret2 rfl rfl (by (first | exact Res.tmp rfl | exact Res.atw hm rfl | exact Res.at hm rfl)) (by (first | exact Res.tmp rfl | exact Res.atw hm rfl | exact Res.at hm rfl)) ?_) | (refine ret3 rfl rfl (by (first | exact Res.tmp rfl | exact Res.atw hm rfl | exact Res.at hm rfl)) (by (first | exact Res.tmp rfl | exact Res.atw hm rfl | exact Res.at hm rfl)) (by (first | exact Res.tmp rfl | exact Res.atw hm rfl | exact Res.at hm rfl)) ?_) | (refine ret4 rfl rfl (by (first | exact Res.tmp rfl | exact Res.atw hm rfl | exact Res.at hm rfl)) (by (first | exact Res.tmp rfl | exact Res.atw hm rfl | exact Res.at hm rfl)) (by (first | exact Res.tmp rfl | exact Res.atw hm rfl | exact Res.at hm rfl)) (by (first | exact Res.tmp rfl | exact Res.atw hm rfl | exact Res.at hm rfl)) ?_) | fail "ret")
      exact ⟨rfl, hm.below⟩
  · simp only [undoQ, Bool.and_eq_true] at hq
    obtain ⟨hqv, hqk⟩ := hq
    obtain ⟨k, rfl⟩ := Int.eq_ofNat_of_zero_le (inB_iff.1 hqk).1
    have hkn := (inB_iff.1 hqk).2
    obtain ⟨nk, hn⟩ : ∃ n, k + n = S.length := ⟨S.length - k, by omega⟩
    have hn40 := valR_len hqv
    have hs := fun (w : World) (σ : List Blk) (g i cap : Nat) (more : List Value) (hm : Mem w0 w σ) (h : At σ g ((S.flatMap stI).map iv ++ more) 55 i) (hc : S.length ≤ cap) => spec_UndoSteps_ok (g := g) (i := i) (more := more) (cap := cap) b hb S hm hc k nk hn hqv
    have hi := fun (w : World) (σ : List Blk) (g i cap : Nat) (more : List Value) (hm : Mem w0 w σ) (h : At σ g ((S.flatMap stI).map iv ++ more) 55 i) (hc : S.length ≤ cap) => impl_UndoSteps_ok (g := g) (i := i) (more := more) (cap := cap) b hb S hm hc k nk hn hqv
    have hYl : (S.take nk).length = nk := by rw [List.length_take]; omega
    generalize S.take nk = Y at *
    have hE2 := fun (w : World) (σ : List Blk) (g1 g2 i1 i2 k1 k2 : Nat) (m1 m2 : List Value) (hm : Mem w0 w σ) (h1 : At σ g1 ((Y.flatMap stI).map iv ++ m1) 55 i1) (h2 : At σ g2 ((Y.flatMap stI).map iv ++ m2) 55 i2) => laws_eqReplay_own (g1 := g1) (g2 := g2) (i1 := i1) (i2 := i2) (k1 := k1) (k2 := k2) (m1 := m1) (m2 := m2) b hb hm (by omega)
    have hxY := fm_len (s := 4) Y (fun a _ => stI_len a)
    rw [hYl] at hE2 hxY
    have hM2 := fun (w : World) (σ : List Blk) (g i cap : Nat) (more : List Value) (hm : Mem w0 w σ) (h : At σ g ((Y.flatMap stI).map iv ++ more) 55 i) => laws_markReplay_at (g := g) (i := i) (cap := cap) (more := more) b hb hm hxY (by omega)
    have hH2 := fun (w : World) (σ : List Blk) (g i cap : Nat) (more : List Value) (hm : Mem w0 w σ) (h : At σ g ((marksL 1 (nk * 4)).map iv ++ more) 55 i) => laws_heldReplay (g := g) (i := i) (len := nk) (cap := cap) (more := more) b hb hm (by omega)
    have hxl2 : ((Y.flatMap stI).map iv).length = nk * 4 := by rw [List.length_map, hxY]
    have HZ := Lib.hid hZ
    have HT := Lib.hid hT
    have HS := Lib.hid hs
    have HI := Lib.hid hi
    have HE := Lib.hid hE
    have HM := Lib.hid hM
    have hEE : ∀ (w : World) (σ : List Blk) (g1 g2 i1 i2 k1 k2 : Nat) (m1 m2 : List Value) (X : List Stp) (len : Nat), (X = S ∧ len = S.length) ∨ (X = Y ∧ len = nk) → Mem w0 w σ → At σ g1 ((X.flatMap stI).map iv ++ m1) 55 i1 → At σ g2 ((X.flatMap stI).map iv ++ m2) 55 i2 → Calls Try.prog 17 #[.agg (b.map iv ++ [Value.slice (some ⟨g1, 0, none⟩) len k1]).toArray, .agg (b.map iv ++ [Value.slice (some ⟨g2, 0, none⟩) len k2]).toArray] w fun e w' => e = .returned (.bool true) ∧ Mem w0 w' σ := by
      intro w σ g1 g2 i1 i2 k1 k2 m1 m2 X len hX hm h1 h2
      rcases hX with ⟨rfl, rfl⟩ | ⟨rfl, rfl⟩
      · exact hE _ _ _ _ _ _ _ _ _ _ hm h1 h2
      · exact hE2 _ _ _ _ _ _ _ _ _ _ hm h1 h2
    have HEE := Lib.hid hEE
    have hMM : ∀ (w : World) (σ : List Blk) (g i cap : Nat) (more : List Value) (X : List Stp) (len : Nat), (X = S ∧ len = S.length) ∨ (X = Y ∧ len = nk) → Mem w0 w σ → At σ g ((X.flatMap stI).map iv ++ more) 55 i → Calls Try.prog 31 #[.agg (b.map iv ++ [Value.slice (some ⟨g, 0, none⟩) len cap]).toArray, iv 1] w fun e w' => e = .returned (iv (1 + len * 4)) ∧ Mem w0 w' (σ.set i ⟨g, (marksL 1 (len * 4)).map iv ++ more, 55⟩) := by
      intro w σ g i cap more X len hX hm h1
      rcases hX with ⟨rfl, rfl⟩ | ⟨rfl, rfl⟩
      · exact hM _ _ _ _ _ _ hm h1
      · exact hM2 _ _ _ _ _ _ hm h1
    have HMM := Lib.hid hMM
    have HH2 := Lib.hid hH2
    clear hZ hO hT hs hi hE hM hE2 hEE hMM hM2 hH2 hqv hqk
    generalize b.map iv ++ [Value.slice A S.length vc] = rc at *
    go_enter Try.func9, Try.ntmps9
    have hm := Mem.start w0
    repeat' (first | (go_at_call 13; refine mem_call hm (HZ.out _) ?_; clear hm; intro w hm; (try simp only [nums, List.map_cons, List.map_nil])) | ((with_reducible refine gd ?_); refine wp_region_callF 2 47 55 ((S.flatMap stI).map iv) (S.length) (fun u => .agg (b.map iv ++ [u]).toArray) hm (by kernel_rfl) (by decide +kernel) (by decide +kernel) ?_; have hne := MS.any hm; (repeat (first | (refine nA rfl (by rfl) (fun w hm => ?_) ?_; focus (dsimp only at hm; show makeUpon Try.prog _ _ _ _ _; go_simp; exact make_slF (by decide) (by first | assumption | omega) hm (HT.out _ _ hm))) | (refine nlate (Nat.ne_of_beq_eq_false rfl) (Nat.ne_of_beq_eq_false rfl) (by rfl) ?_; apply Exists.intro; refine ⟨fun p => ?_, ?_⟩; focus (obtain ⟨g, more, cap⟩ := p; refine ⟨by rfl, fun w hm => ?_⟩; dsimp only at hm; go_simp; (try refine ⟨rfl, ?_⟩); first | done | exact ⟨rfl, rfl⟩ | rfl | exact HE.out _ _ _ _ _ _ _ _ _ _ hm inferInstance inferInstance)) | fail | ((with_reducible refine gnl ?_); first | refine nl rfl rfl rfl ?_ | refine nlw rfl rfl rfl ?_ | (refine nlr rfl rfl rfl ?_; try simp only [List.drop_succ_cons, List.drop_zero, List.take_succ_cons, List.take_zero])) | (refine nstep (Nat.ne_of_beq_eq_false rfl) (Nat.ne_of_beq_eq_false rfl) (by rfl) hne ?_; intro hn K hK; go_simp; (try go_ints); (try simp [↓IntWalk.iteOmega, go_sem]); first | (refine hK _ ?_; clear hK K hn) | (apply Exists.intro; refine ⟨fun _ => ?_, hK _ ?_⟩; (first | (refine nA rfl (by rfl) (fun w hm => ?_) ?_; focus (dsimp only at hm; show makeUpon Try.prog _ _ _ _ _; go_simp; exact make_slF (by decide) (by first | assumption | omega) hm (HT.out _ _ hm))) | (refine nlate (Nat.ne_of_beq_eq_false rfl) (Nat.ne_of_beq_eq_false rfl) (by rfl) ?_; apply Exists.intro; refine ⟨fun p => ?_, ?_⟩; focus (obtain ⟨g, more, cap⟩ := p; refine ⟨by rfl, fun w hm => ?_⟩; dsimp only at hm; go_simp; (try refine ⟨rfl, ?_⟩); first | done | exact ⟨rfl, rfl⟩ | rfl | exact HE.out _ _ _ _ _ _ _ _ _ _ hm inferInstance inferInstance)) | fail | fail); clear hK K hn)))); refine nnil ?_; clear hm hne; intro g more cap w hm; (try simp only [Act.put, List.setIfInBounds_toArray, List.set_cons_zero, List.set_cons_succ])) | (go_at_call 15; refine mem_callNF hm (HT.out _ _ hm) ?_; clear hm; intro g more len cap w hm hf hx; obtain rfl : len = S.length := (by rw [List.length_map, fm_len S (fun a _ => stI_len a)] at hx; omega); have hcap := hf.le; clear hf hx; (try simp only [])) | (go_at_call 29; refine mem_callF (F := fun u => .tuple #[.agg (b.map iv ++ [u]).toArray, .bool true]) (HS.out _ _ _ _ _ _ hm inferInstance hcap) ?_; clear hm; intro g more len cap w hm hf hx; (have e : len = nk := (by rw [hxl2] at hx; omega)); subst len; clear hf hx; (try simp only [])) | (go_at_call 30; refine mem_callF (F := fun u => .tuple #[.agg (b.map iv ++ [u]).toArray, .bool true]) (HI.out _ _ _ _ _ _ hm inferInstance hcap) ?_; clear hm; intro g more len cap w hm hf hx; (have e : len = nk := (by rw [hxl2] at hx; omega)); subst len; clear hf hx; (try simp only [])) | (go_at_call 17; refine mem_callM (HEE.out _ _ _ _ _ _ _ _ _ _ _ _ (by first | exact .inl ⟨rfl, rfl⟩ | exact .inr ⟨rfl, rfl⟩) hm inferInstance inferInstance) ?_; clear hm; intro w hm; (try simp only [])) | (go_at_call 31; refine mem_callM (HMM.out _ _ _ _ _ _ _ _ (by first | exact .inl ⟨rfl, rfl⟩ | exact .inr ⟨rfl, rfl⟩) hm inferInstance) ?_; clear hm; intro w hm; (try simp only [List.set_cons_zero, List.set_cons_succ] at hm); (try simp only [])) | (go_at_call 32; with_reducible refine mem_callM (HH2.out _ _ _ _ _ _ hm inferInstance) ?_; clear hm; intro w hm; (try simp only [])) | ((with_reducible refine gix ?_); first | refine mix rfl rfl rfl rfl ?_ | refine mixr rfl rfl rfl rfl ?_; (try simp only [Int.toNat_zero, Int.reduceToNat, Nat.reduceMul, Nat.zero_mul, Nat.one_mul, List.drop_succ_cons, List.drop_zero, List.take_succ_cons, List.take_zero])) | ((with_reducible refine gl ?_); first | refine ml hm rfl rfl rfl ?_ | refine mlw hm rfl rfl rfl ?_ | (refine mlr hm rfl rfl rfl ?_; try simp only [List.drop_succ_cons, List.drop_zero, List.take_succ_cons, List.take_zero])) | ((with_reducible refine gs ?_); (first | refine ms hm rfl rfl rfl rfl rfl ?_ | refine msw hm rfl rfl rfl rfl ?_ | refine msr hm rfl rfl rfl rfl ?_); clear hm; intro w hm; (try simp only [splice, List.set_cons_zero, List.set_cons_succ] at hm)) | ((with_reducible refine gb ?_); (first | refine mem_box hm rfl rfl rfl ?_ | refine mem_box1 hm rfl rfl rfl rfl ?_); clear hm; intro n w hm) | ((with_reducible refine ga ?_); refine mem_alloc hm rfl rfl ?_; clear hm; intro n w hm) | go_values | go_skip | go_guarded | go_step | go_upon | ((with_reducible refine bp ?_); go_back) | ((with_reducible refine up ?_); first | (simp only [Int.not_lt, Int.not_le] at *; go_simp) | (go_values <;> (try go_simp)) | (go_ite <;> go_prune <;> (try go_simp)) | (split <;> (first | (rename_i hx; exact (hx _ rfl).elim) | go_prune))))
    all_goals
      (try simp only [Exit.inBlock, Exit.then])
      (first | (refine ret1 rfl rfl (by (first | exact Res.tmp rfl | exact Res.atw hm rfl | exact Res.at hm rfl)) ?_) | (refine ret2 rfl rfl (by (first | exact Res.tmp rfl | exact Res.atw hm rfl | exact Res.at hm rfl)) (by (first | exact Res.tmp rfl | exact Res.atw hm rfl | exact Res.at hm rfl)) ?_) | (refine ret3 rfl rfl (by (first | exact Res.tmp rfl | exact Res.atw hm rfl | exact Res.at hm rfl)) (by (first | exact Res.tmp rfl | exact Res.atw hm rfl | exact Res.at hm rfl)) (by (first | exact Res.tmp rfl | exact Res.atw hm rfl | exact Res.at hm rfl)) ?_) | (refine ret4 rfl rfl (by (first | exact Res.tmp rfl | exact Res.atw hm rfl | exact Res.at hm rfl)) (by (first | exact Res.tmp rfl | exact Res.atw hm rfl | exact Res.at hm rfl)) (by (first | exact Res.tmp rfl | exact Res.atw hm rfl | exact Res.at hm rfl)) (by (first | exact Res.tmp rfl | exact Res.atw hm rfl | exact Res.at hm rfl)) ?_) | fail "ret")
      exact ⟨rfl, hm.below⟩
set_option maxRecDepth 100000 in
theorem lifted_FnExactUndoSteps (os : Os) (started : os.Started) (H : Type) (enc : TypeId × Value → H) :
    ReturnsInHanded {} Try.checked os 9 .any (Rows.fnExactUndoStepsSpec.pre6 enc Try.prog Try.f9 Rows.fnExactUndoStepsRow.domain false) (Rows.fnExactUndoStepsSpec.post enc Try.prog Try.f9 false true false false) := by
  refine returnsInHanded_of_change (C := Try.checked) own started (by kernel_rfl) Try.func9
    (ChangeSpec.witness6 (enc := enc) (C := Try.checked) false ⟨#[], #[.agg #[.int .i64 0, .int .i64 0, .int .i64 0, .int .i64 0, .int .i64 0, .int .i64 0, .int .i64 0, .int .i64 0, .int .i64 0, .int .i64 0, .int .i64 0, .int .i64 0, .int .i64 0, .int .i64 0, .int .i64 0, .int .i64 0, .slice none 0 0], .int .i64 0], []⟩ 8 (by kernel_rfl) (by kernel_rfl) (by kernel_rfl) (by kernel_rfl)) ?_
  intro W base args ds gs before hval0 hW hcnd _
  have hval : ∀ (j : Nat) t v, Try.f9.params[j]? = some t → args[j]? = some v → Value.okWide Try.prog W .any base t v := hval0
  have hW' := hW
  obtain ⟨p, q, hA0, hV, rfl, hfz, hnd⟩ := hW
  have hA : DataW.TrodAll enc Try.prog W 0 (fun _ => true) true Try.f9.params.toList args.toList ds p := hA0
  rw [Try.params9] at hA hval
  obtain ⟨v0, vs0, d0, ds0, p0, q0, hargs, rfl, rfl, h0, r0⟩ := trodAll_cons hA
  obtain ⟨v1, vs1, d1, ds1, p1, q1, rfl, rfl, rfl, h1, r1⟩ := trodAll_cons r0
  obtain ⟨rfl, rfl, rfl⟩ := trodAll_nil r1
  obtain rfl : args = #[v0, v1] := by cases args; simp_all
  obtain ⟨rfl, rfl⟩ := trodVars_none hV
  obtain ⟨a0, rfl, g0⟩ := open_leafs (by kernel_rfl) (by kernel_rfl) (hval 0 28 v0 rfl rfl) h0
  obtain ⟨a1, rfl, rfl, rfl, w1⟩ := open_int Try.underlying3 (hval 1 3 v1 rfl rfl) h1
  clear hA0 hval0
  refine (walk_FnExactUndoSteps W a0 g0 a1 w1).mono fun e W' ⟨he, hb⟩ => ?_
  subst he
  exact ⟨_, rfl, post_law hW' rfl rfl rfl (by kernel_rfl) hb⟩
/-- FnExactUndoSteps: for every input the law returns true, and each argument reads as it read before. No condition. -/
theorem FnExactUndoSteps_holds : Rows.FnExactUndoStepsSaid :=
  OpenClaim.holds_of_wide 9 Try.f9 rfl rfl rfl rfl rfl rfl rfl ⟨rfl, rfl, rfl, rfl, rfl⟩ rfl rfl rfl rfl rfl (by kernel_rfl) Try.func9 (by kernel_rfl)
    (of_decide_eq_true (by kernel_rfl)) (by unfold Func.isWrapper; first | (rw [if_pos (by decide +kernel)]; kernel_rfl) | (rw [if_neg (by decide +kernel)]; exact ⟨rfl, rfl⟩))
    (fun os started H enc _ => lifted_FnExactUndoSteps os started H enc)
end Go.Proofs.Ythcjokgjiknheaa

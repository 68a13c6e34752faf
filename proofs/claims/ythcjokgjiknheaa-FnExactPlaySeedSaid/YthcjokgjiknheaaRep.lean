/-
  Walks of replays as the laws hand them over: copied, compared, marked.
-/
import Derived.Test.YthcjokgjiknheaaFm
import Derived.Test.YthcjokgjiknheaaLists
import Derived.Test.YthcjokgjiknheaaBase
import Derived.Laws.MakeOwn
set_option linter.unusedVariables false
set_option linter.unusedSimpArgs false
namespace Go.Proofs.Ythcjokgjiknheaa
open Go.RowKit Slm Go.ChangeShapes Go.WideShapes Go.ChangeAt Go.Deep
/-! make -/
section
variable {P : Program} {ops : Array Oper} {rest : List Oper} {o : Oper} {a : Act} {w0 w : World} {σ : List Blk} {Q : Exit → Act → World → Prop} {n i : Nat} {c : List Value} {t : TypeId}
theorem gmk {d : Option Tmp} {T ty : TypeId} {x y : Operand} {po : String} {af : Array Edge} {gd : Option (Nat × Bool)} (k : wpList P ops Q (⟨d, .makeSlice T x y, ty, po, af, gd⟩ :: rest) a w) : wpList P ops Q (⟨d, .makeSlice T x y, ty, po, af, gd⟩ :: rest) a w := k
theorem mmk {T e : TypeId} {s b len : Nat} {x y : Operand} {zs : List Value} [hT : IsSlice P T e s b] [hz : Zero P e zs] (hm : Mem w0 w σ) (ho : o.op = .makeSlice T x y) (hw : Region.wanted o (yielded ops a.tmps) = true) (hx : ev a x = some (iv len)) (hy : ev a y = some (iv len))
    (k : ∀ n w', Mem w0 w' (⟨n, (List.replicate (len * s) 0).map iv, e⟩ :: σ) → wpList P ops Q rest (a.put o.dst (.slice (some ⟨n, 0, none⟩) len len)) w')
    (hzs : zs = List.replicate s (iv 0) := by rfl) (hb : b * len ≤ 281474976710656 := by omega) (hl : len ≤ 9223372036854775807 := by omega) : wpList P ops Q (o :: rest) a w := by
  refine wpList_step fun K hK => ?_
  rw [if_pos hw]
  obtain ⟨ti, z, hi, hzz, hsz, hby, hzsz⟩ := hT.elem
  obtain ⟨v, hv, hvc⟩ := hz.out
  have hvz : v = z := by simpa [hi, hzz] using hv.symm
  subst hvz
  have hbz : ((ti.bytes : Nat) : Int) * (len : Int) ≤ 281474976710656 := by rw [hby]; have h := Int.ofNat_le.2 hb; rwa [Int.natCast_mul] at h
  have hr := run_make (P := P) w T e ti v hT.out hi hzz .i64 .i64 len len (by omega) (Int.le_refl _) hbz (by omega)
  unfold Oper.wp execOp
  simp only [ho, ev_eval hx, ev_eval hy, Sem.run_bind, hr, Result.andThen_ok, Sem.run_pure]
  have hc : (madeCells v.cells ((len : Int).toNat * ti.size)).toList = (List.replicate (len * s) 0).map iv := by
    rw [List.map_replicate, hsz, Int.toNat_natCast]
    have hvs : v.cells.toList = List.replicate s (iv 0) := by rw [hvc, hzs]
    have hp := hT.pos
    apply List.ext_getElem
    · simp [madeCells]
    · intro i h1 h2
      simp only [madeCells, Array.toList_map, List.getElem_map, Array.getElem_toList, Array.getElem_range, List.getElem_replicate]
      have hlt : i % v.cells.size < v.cells.size := Nat.mod_lt _ (by rw [hzsz]; exact hp)
      rw [getElem!_pos v.cells _ hlt, ← Array.getElem_toList]
      simp only [hvs, List.getElem_replicate]
  have this := hm.alloc (madeCells v.cells ((len : Int).toNat * ti.size)).toList e
  rw [Array.toArray_toList] at this
  rw [hc] at this
  refine hK _ _ ?_
  have h2 := k w.heap.size (w.alloc (.cells (madeCells v.cells ((len : Int).toNat * ti.size)) e)) this
  simpa only [Int.toNat_natCast] using h2
theorem mmk0 {T e : TypeId} {s b : Nat} {x y : Operand} {zs : List Value} [hT : IsSlice P T e s b] [hz : Zero P e zs] (hm : Mem w0 w σ) (ho : o.op = .makeSlice T x y) (hw : Region.wanted o (yielded ops a.tmps) = true) (hx : ev a x = some (iv 0)) (hy : ev a y = some (iv 0))
    (k : ∀ n w', Mem w0 w' (⟨n, [], e⟩ :: σ) → wpList P ops Q rest (a.put o.dst (.slice (some ⟨n, 0, none⟩) 0 0)) w')
    (hzs : zs = List.replicate s (iv 0) := by rfl) : wpList P ops Q (o :: rest) a w :=
  mmk (len := 0) hm ho hw hx hy (fun n w' h => k n w' (by simpa using h)) hzs (by omega) (by omega)
end
/-! steps that lay in memory before the call -/
def OldSteps (w : World) (v : Value) (S : List Stp) : Prop :=
  (v = .slice none 0 0 ∧ S = []) ∨ ∃ a cap, v = .slice (some a) S.length cap ∧ S.length ≤ maxLen ∧ (S ≠ [] → ∃ n off, a = ⟨n, off, none⟩ ∧ ∀ k (h : k < S.length), w.rangeAt n (off + k * 4) ((stI S[k]).map iv))
theorem OldSteps.next {w0 w : World} {σ : List Blk} {v : Value} {S : List Stp} (hm : Mem w0 w σ) (h : OldSteps w0 v S) : OldSteps w v S := by
  rcases h with h | ⟨a, cap, rfl, hml, h⟩
  · exact .inl h
  · refine .inr ⟨a, cap, rfl, hml, fun hS => ?_⟩
    obtain ⟨n, off, rfl, h2⟩ := h hS
    refine ⟨n, off, rfl, fun k hk j u hu => ?_⟩
    have := h2 k hk j u hu
    exact (hm.old (World.block_lt_of_cell? w0 _ this)).trans this
theorem OldSteps.slice {w : World} {v : Value} {S : List Stp} (h : OldSteps w v S) : ∃ A cap, v = .slice A S.length cap ∧ S.length ≤ 9223372036854775807 := by
  rcases h with ⟨rfl, rfl⟩ | ⟨a, cap, rfl, hml, _⟩
  · exact ⟨none, 0, rfl, by simp⟩
  · exact ⟨some a, cap, rfl, by unfold maxLen at hml; omega⟩
theorem list_of {α : Type} {p : Nat → α → Prop} : ∀ (n : Nat), (∀ i, i < n → ∃ x, p i x) → ∃ l : List α, l.length = n ∧ ∀ i (h : i < l.length), p i l[i]
  | 0, _ => ⟨[], rfl, fun i h => by simp at h⟩
  | n + 1, h => by
    obtain ⟨l, hl, hp⟩ := list_of n (fun i hi => h i (by omega))
    obtain ⟨x, hx⟩ := h n (by omega)
    refine ⟨l ++ [x], by simp [hl], fun i hi => ?_⟩
    by_cases hi' : i < l.length
    · rw [List.getElem_append_left hi']; exact hp i hi'
    · obtain rfl : i = l.length := by simp at hi; omega
      rw [List.getElem_append_right (by omega)]
      simp only [Nat.sub_self, List.getElem_cons_zero]
      rw [hl]; exact hx
section
variable {H : Type} {enc : TypeId × Value → H} {P : Program} {w : World} {base : Nat} {spare : Nat → Bool} {held : Bool}
theorem old_steps {tl te ti : TypeId} {fuel : Nat} {v : Value} {y : DataW H × List MemPlace} (ht : P.underlying tl = some (.slice te)) (hc : P.cellsOf te = 4) (hok : leafsOk P 6 te = true) (hl : leafs P 6 te = List.replicate 4 ti) (hi : P.underlying ti = some (.int .i64))
    (h : DataW.trod enc P w base spare held fuel tl [v] = some y) : ∃ S : List Stp, OldSteps w v S ∧ ∀ s ∈ S, ∀ x ∈ stI s, I64 x := by
  rcases open_slice ht h with ⟨h0, _⟩ | ⟨a, len, cap, m, n, D, Pl, hv, hb, hle, hm, hmm, _, hx⟩
  · simp only [List.cons.injEq, and_true] at h0
    exact ⟨[], .inl ⟨h0, rfl⟩, by simp⟩
  simp only [List.cons.injEq, and_true] at hv
  subst hv
  have hml : len ≤ m := by rw [hmm]; split <;> omega
  have h1 : ∀ i, i < len → ∃ s : Stp, w.cells? base (a.add (i * 4)) 4 = some ((stI s).map iv) ∧ ∀ x ∈ stI s, I64 x := fun i hi' => by
    obtain ⟨cs', e1, e2⟩ := hx i (by omega)
    rw [hc] at e1
    have hlf := trod_leafs 6 te n cs' _ hok e2 (by rw [hc]; exact (World.cells?_some e1).2.1)
    rw [hl] at hlf
    obtain ⟨l, rfl, hl4, hw⟩ := leaf_int hi 4 cs' hlf
    obtain ⟨p, q, r, s, rfl⟩ := list4 hl4
    exact ⟨(p, q, r, s), e1, hw⟩
  obtain ⟨S, hSl, hS⟩ := list_of len h1
  subst hSl
  refine ⟨S, .inr ⟨a, cap, rfl, Nat.le_trans hle hm, fun hne => ?_⟩, fun s hs => ?_⟩
  · have hpos : 0 < S.length := List.length_pos_iff.2 hne
    obtain ⟨_, _, h3⟩ := World.cells?_some (hS 0 hpos).1
    have h4 := h3 0 (by omega)
    simp only [Nat.zero_mul, Addr.add, if_true] at h4
    have hsp : a.spot = none := World.cell?_spot (v := iv S[0].1) (by rw [h4]; rfl)
    obtain ⟨blk, off, sp⟩ := a
    simp only at hsp
    subst hsp
    refine ⟨blk, off, rfl, fun k hk j u hu => ?_⟩
    obtain ⟨_, h6, h7⟩ := World.cells?_some (hS k hk).1
    have hj : j < 4 := by
      have := (List.getElem?_eq_some_iff.1 hu).1
      simpa [stI] using this
    have h8 := h7 j hj
    rw [hu] at h8
    rw [← h8]
    congr 1
    unfold Addr.add
    by_cases hk0 : k * 4 = 0 <;> by_cases hj0 : j = 0 <;> simp [hk0, hj0]
  · obtain ⟨i, hi', rfl⟩ := List.getElem_of_mem hs
    exact (hS i hi').2
theorem leaf_append {t1 t2 : List TypeId} {cs : List Value} (h : LeafAt enc P w base spare held (t1 ++ t2) cs) : ∃ c1 c2, cs = c1 ++ c2 ∧ LeafAt enc P w base spare held t1 c1 ∧ LeafAt enc P w base spare held t2 c2 := by
  obtain ⟨hl, h⟩ := h
  rw [List.length_append] at hl
  refine ⟨cs.take t1.length, cs.drop t1.length, (List.take_append_drop _ _).symm, ⟨by simp; omega, fun j t hj => ?_⟩, ⟨by simp; omega, fun j t hj => ?_⟩⟩
  · have hlt := (List.getElem?_eq_some_iff.1 hj).1
    obtain ⟨v, f, y, h1, h2⟩ := h j t (by rw [List.getElem?_append_left hlt]; exact hj)
    exact ⟨v, f, y, by rw [List.getElem?_take, if_pos hlt]; exact h1, h2⟩
  · obtain ⟨v, f, y, h1, h2⟩ := h (t1.length + j) t (by rw [List.getElem?_append_right (by omega)]; simpa using hj)
    exact ⟨v, f, y, by rw [List.getElem?_drop]; exact h1, h2⟩
/-- A replay as it is handed over. -/
theorem open_replay {t tl te ti : TypeId} {cs : List Value} (hr : leafs P 6 t = List.replicate 16 ti ++ [tl]) (ht : P.underlying tl = some (.slice te)) (hc : P.cellsOf te = 4) (hok : leafsOk P 6 te = true) (hl : leafs P 6 te = List.replicate 4 ti) (hi : P.underlying ti = some (.int .i64))
    (h : LeafAt enc P w base spare held (leafs P 6 t) cs) : ∃ (b : List Int) (v : Value) (S : List Stp), cs = b.map iv ++ [v] ∧ b.length = 16 ∧ OldSteps w v S := by
  rw [hr] at h
  obtain ⟨c1, c2, rfl, h1, h2⟩ := leaf_append h
  obtain ⟨b, rfl, hb, _⟩ := leaf_int hi 16 c1 h1
  obtain ⟨hl2, h2⟩ := h2
  obtain ⟨v, f, y, h3, h4⟩ := h2 0 tl rfl
  match c2, hl2, h3 with
  | [u], _, h3 =>
    simp only [List.getElem?_cons_zero, Option.some.injEq] at h3
    subst h3
    obtain ⟨S, hS, _⟩ := old_steps ht hc hok hl hi h4
    exact ⟨b, u, S, rfl, hb, hS⟩
end
theorem laws_toIntA2 (r c : Int) (w : World) : Calls Try.prog 58 #[.agg #[iv r, iv c]] w fun e w' => e = .returned (.agg #[iv r, iv c]) ∧ Below w.heap.size w w' := by
  go_enter Try.func58, Try.ntmps58
  have hm := Mem.start w
  repeat' (first  | ((with_reducible refine gix ?_); first | refine mix rfl rfl rfl rfl ?_ | refine mixr rfl rfl rfl rfl ?_; (try simp only [Int.toNat_zero, Int.reduceToNat, Nat.reduceMul, Nat.zero_mul, Nat.one_mul, List.drop_succ_cons, List.drop_zero, List.take_succ_cons, List.take_zero])) | ((with_reducible refine gl ?_); first | refine ml hm rfl rfl rfl ?_ | refine mlw hm rfl rfl rfl ?_ | (refine mlr hm rfl rfl rfl ?_; try simp only [List.drop_succ_cons, List.drop_zero, List.take_succ_cons, List.take_zero])) | ((with_reducible refine gs ?_); (first | refine ms hm rfl rfl rfl rfl rfl ?_ | refine msw hm rfl rfl rfl rfl ?_ | refine msr hm rfl rfl rfl rfl ?_); clear hm; intro w hm; (try simp only [splice, List.set_cons_zero, List.set_cons_succ] at hm)) | ((with_reducible refine gb ?_); (first | refine mem_box hm rfl rfl rfl ?_ | refine mem_box1 hm rfl rfl rfl rfl ?_); clear hm; intro n w hm) | ((with_reducible refine ga ?_); refine mem_alloc hm rfl rfl ?_; clear hm; intro n w hm) | ((with_reducible refine wp_loop_rounds 18 ?_); rw [rounds_succ]) | (with_reducible rw [rounds_succ]) | go_values | go_skip | go_guarded | go_step | go_upon | ((with_reducible refine bp ?_); go_back) | ((with_reducible refine up ?_); first | (simp only [Int.not_lt, Int.not_le] at *; go_simp) | (go_values <;> (try go_simp)) | (go_ite <;> go_prune <;> (try go_simp)) | (split <;> (first | (rename_i hx; exact (hx _ rfl).elim) | go_prune))))
  (try simp only [Exit.inBlock, Exit.then])
  (first | (refine ret1 rfl rfl (by (first | exact Res.tmp rfl | exact Res.atw hm rfl | exact Res.at hm rfl)) ?_) | (refine ret2 rfl rfl (by (first | exact Res.tmp rfl | exact Res.atw hm rfl | exact Res.at hm rfl)) (by (first | exact Res.tmp rfl | exact Res.atw hm rfl | exact Res.at hm rfl)) ?_) | (refine ret3 rfl rfl (by (first | exact Res.tmp rfl | exact Res.atw hm rfl | exact Res.at hm rfl)) (by (first | exact Res.tmp rfl | exact Res.atw hm rfl | exact Res.at hm rfl)) (by (first | exact Res.tmp rfl | exact Res.atw hm rfl | exact Res.at hm rfl)) ?_) | (refine ret4 rfl rfl (by (first | exact Res.tmp rfl | exact Res.atw hm rfl | exact Res.at hm rfl)) (by (first | exact Res.tmp rfl | exact Res.atw hm rfl | exact Res.at hm rfl)) (by (first | exact Res.tmp rfl | exact Res.atw hm rfl | exact Res.at hm rfl)) (by (first | exact Res.tmp rfl | exact Res.atw hm rfl | exact Res.at hm rfl)) ?_) | fail "ret")
  exact ⟨rfl, hm.below⟩
theorem laws_toStep (d r c t : Int) (w : World) : Calls Try.prog 34 #[.agg #[iv d, iv r, iv c, iv t]] w fun e w' => e = .returned (.agg #[iv d, iv r, iv c, iv t]) ∧ Below w.heap.size w w' := by
  go_enter Try.func34, Try.ntmps34
  have hm := Mem.start w
  repeat' (first | (go_at_call 58; refine mem_call hm (laws_toIntA2 _ _ _) ?_; clear hm; intro w hm; (try simp only [nums, List.map_cons, List.map_nil])) | ((with_reducible refine gix ?_); first | refine mix rfl rfl rfl rfl ?_ | refine mixr rfl rfl rfl rfl ?_; (try simp only [Int.toNat_zero, Int.reduceToNat, Nat.reduceMul, Nat.zero_mul, Nat.one_mul, List.drop_succ_cons, List.drop_zero, List.take_succ_cons, List.take_zero])) | ((with_reducible refine gl ?_); first | refine ml hm rfl rfl rfl ?_ | refine mlw hm rfl rfl rfl ?_ | (refine mlr hm rfl rfl rfl ?_; try simp only [List.drop_succ_cons, List.drop_zero, List.take_succ_cons, List.take_zero])) | ((with_reducible refine gs ?_); (first | refine ms hm rfl rfl rfl rfl rfl ?_ | refine msw hm rfl rfl rfl rfl ?_ | refine msr hm rfl rfl rfl rfl ?_); clear hm; intro w hm; (try simp only [splice, List.set_cons_zero, List.set_cons_succ] at hm)) | ((with_reducible refine gb ?_); (first | refine mem_box hm rfl rfl rfl ?_ | refine mem_box1 hm rfl rfl rfl rfl ?_); clear hm; intro n w hm) | ((with_reducible refine ga ?_); refine mem_alloc hm rfl rfl ?_; clear hm; intro n w hm) | ((with_reducible refine wp_loop_rounds 18 ?_); rw [rounds_succ]) | (with_reducible rw [rounds_succ]) | go_values | go_skip | go_guarded | go_step | go_upon | ((with_reducible refine bp ?_); go_back) | ((with_reducible refine up ?_); first | (simp only [Int.not_lt, Int.not_le] at *; go_simp) | (go_values <;> (try go_simp)) | (go_ite <;> go_prune <;> (try go_simp)) | (split <;> (first | (rename_i hx; exact (hx _ rfl).elim) | go_prune))))
  (try simp only [Exit.inBlock, Exit.then])
  (first | (refine ret1 rfl rfl (by (first | exact Res.tmp rfl | exact Res.atw hm rfl | exact Res.at hm rfl)) ?_) | (refine ret2 rfl rfl (by (first | exact Res.tmp rfl | exact Res.atw hm rfl | exact Res.at hm rfl)) (by (first | exact Res.tmp rfl | exact Res.atw hm rfl | exact Res.at hm rfl)) ?_) | (refine ret3 rfl rfl (by (first | exact Res.tmp rfl | exact Res.atw hm rfl | exact Res.at hm rfl)) (by (first | exact Res.tmp rfl | exact Res.atw hm rfl | exact Res.at hm rfl)) (by (first | exact Res.tmp rfl | exact Res.atw hm rfl | exact Res.at hm rfl)) ?_) | (refine ret4 rfl rfl (by (first | exact Res.tmp rfl | exact Res.atw hm rfl | exact Res.at hm rfl)) (by (first | exact Res.tmp rfl | exact Res.atw hm rfl | exact Res.at hm rfl)) (by (first | exact Res.tmp rfl | exact Res.atw hm rfl | exact Res.at hm rfl)) (by (first | exact Res.tmp rfl | exact Res.atw hm rfl | exact Res.at hm rfl)) ?_) | fail "ret")
  exact ⟨rfl, hm.below⟩
section
variable {P : Program} {ops : Array Oper} {rest : List Oper} {o : Oper} {a : Act} {w0 w : World} {σ : List Blk} {Q : Exit → Act → World → Prop}
/-- A row that lay in memory before the call. -/
theorem mlo {T : TypeId} {x : Operand} {n off s : Nat} {cs : List Value} [hT : IsRow P T s] (hm : Mem w0 w σ) (hr : w0.rangeAt n off cs) (hl : cs.length = s) (ho : o.op = .load T x) (hw : Region.wanted o (yielded ops a.tmps) = true) (hx : ev a x = some (.pointer (some ⟨n, off, none⟩)))
    (k : wpList P ops Q rest (a.put o.dst (.agg cs.toArray)) w) : wpList P ops Q (o :: rest) a w := by
  obtain ⟨d, hu, hd⟩ := hT.out
  refine wpList_step fun K hK => ?_
  rw [if_pos hw]
  exact wp_load_mid T x ho n off (ev_eval hx) _ d (fun j u hu => (hm.old (World.block_lt_of_cell? w0 _ (hr j u hu))).trans (hr j u hu)) hu hd (by rw [hl]; exact hT.size) (hK _ _ k)
end
def fillS (S : List Stp) (k : Nat) : List Int := (S.take k).flatMap stI ++ List.replicate ((S.length - k) * 4) 0
theorem fillS_len (S : List Stp) (k : Nat) (h : k ≤ S.length) : (fillS S k).length = S.length * 4 := by
  rw [fillS, List.length_append, fm_len (s := 4) _ (fun a _ => stI_len a), List.length_take, List.length_replicate, Nat.min_eq_left h]
  omega
theorem fillS_set (S : List Stp) (k : Nat) (h : k < S.length) : splice ((fillS S k).map iv) (k * 4) ((stI S[k]).map iv) = (fillS S (k + 1)).map iv := by
  have e : List.replicate ((S.length - k) * 4) (0 : Int) = [0, 0, 0, 0] ++ List.replicate ((S.length - (k + 1)) * 4) 0 := by
    rw [show (S.length - k) * 4 = 4 + (S.length - (k + 1)) * 4 from by omega, ← List.replicate_append_replicate]; rfl
  have hl : ((S.take k).flatMap stI).length = k * 4 := by rw [fm_len (s := 4) _ (fun a _ => stI_len a), List.length_take, Nat.min_eq_left (by omega)]
  have hs := splice_at ((stI S[k]).map iv) (((S.take k).flatMap stI).map iv) ((List.replicate ((S.length - k) * 4) (0 : Int)).map iv) (by simp [stI_len]; omega)
  rw [List.length_map, hl] at hs
  unfold fillS
  rw [List.map_append, hs, e, List.take_succ_eq_append_getElem h, List.flatMap_append, List.map_append, List.map_append, List.map_append, List.append_assoc, List.append_assoc]
  simp [stI]
set_option maxHeartbeats 1000000 in
theorem laws_toStepS {v : Value} {S : List Stp} {w0 : World} (hO : OldSteps w0 v S) (hl : S.length ≤ 2000000) : Calls Try.prog 44 #[v] w0 fun e w' => ∃ u, e = .returned u ∧ Sl w0 w' u 55 4 ((S.flatMap stI).map iv) [] := by
  have h0 : ∀ (A : Option Addr) (cap : Nat), Calls Try.prog 44 #[.slice A 0 cap] w0 fun e w' => ∃ u, e = .returned u ∧ Sl w0 w' u 55 4 ((([] : List Stp).flatMap stI).map iv) [] := by
    intro A cap
    go_enter Try.func44, Try.ntmps44
    have hm := Mem.start w0
    repeat' (first | ((with_reducible refine gmk ?_); refine mmk0 hm rfl rfl rfl rfl ?_; clear hm; intro n w hm) | ((with_reducible refine gmk ?_); refine mmk hm rfl rfl rfl rfl ?_; clear hm; intro n w hm) | ((with_reducible refine gix ?_); first | refine mix rfl rfl rfl rfl ?_ | refine mixr rfl rfl rfl rfl ?_; (try simp only [Int.toNat_zero, Int.reduceToNat, Nat.reduceMul, Nat.zero_mul, Nat.one_mul, List.drop_succ_cons, List.drop_zero, List.take_succ_cons, List.take_zero])) | ((with_reducible refine gl ?_); first | refine ml hm rfl rfl rfl ?_ | refine mlw hm rfl rfl rfl ?_ | (refine mlr hm rfl rfl rfl ?_; try simp only [List.drop_succ_cons, List.drop_zero, List.take_succ_cons, List.take_zero])) | ((with_reducible refine gs ?_); (first | refine ms hm rfl rfl rfl rfl rfl ?_ | refine msw hm rfl rfl rfl rfl ?_ | refine msr hm rfl rfl rfl rfl ?_); clear hm; intro w hm; (try simp only [splice, List.set_cons_zero, List.set_cons_succ] at hm)) | ((with_reducible refine gb ?_); (first | refine mem_box hm rfl rfl rfl ?_ | refine mem_box1 hm rfl rfl rfl rfl ?_); clear hm; intro n w hm) | ((with_reducible refine ga ?_); refine mem_alloc hm rfl rfl ?_; clear hm; intro n w hm) | ((with_reducible refine wp_loop_rounds 18 ?_); rw [rounds_succ]) | (with_reducible rw [rounds_succ]) | go_values | go_skip | go_guarded | go_step | go_upon | ((with_reducible refine bp ?_); go_back) | ((with_reducible refine up ?_); first | (simp only [Int.not_lt, Int.not_le] at *; go_simp) | (go_values <;> (try go_simp)) | (go_ite <;> go_prune <;> (try go_simp)) | (split <;> (first | (rename_i hx; exact (hx _ rfl).elim) | go_prune))))
    (try simp only [Exit.inBlock, Exit.then])
    (first | (refine ret1 rfl rfl (by (first | exact Res.tmp rfl | exact Res.atw hm rfl | exact Res.at hm rfl)) ?_) | (refine ret2 rfl rfl (by (first | exact Res.tmp rfl | exact Res.atw hm rfl | exact Res.at hm rfl)) (by (first | exact Res.tmp rfl | exact Res.atw hm rfl | exact Res.at hm rfl)) ?_) | (refine ret3 rfl rfl (by (first | exact Res.tmp rfl | exact Res.atw hm rfl | exact Res.at hm rfl)) (by (first | exact Res.tmp rfl | exact Res.atw hm rfl | exact Res.at hm rfl)) (by (first | exact Res.tmp rfl | exact Res.atw hm rfl | exact Res.at hm rfl)) ?_) | (refine ret4 rfl rfl (by (first | exact Res.tmp rfl | exact Res.atw hm rfl | exact Res.at hm rfl)) (by (first | exact Res.tmp rfl | exact Res.atw hm rfl | exact Res.at hm rfl)) (by (first | exact Res.tmp rfl | exact Res.atw hm rfl | exact Res.at hm rfl)) (by (first | exact Res.tmp rfl | exact Res.atw hm rfl | exact Res.at hm rfl)) ?_) | fail "ret")
    exact ⟨_, rfl, Sl.new hm⟩
  rcases hO with ⟨rfl, rfl⟩ | ⟨a, cap, rfl, _, hO⟩
  · exact h0 _ _
  by_cases hS : S = []
  · subst hS; exact h0 _ _
  obtain ⟨n, off, rfl, hr⟩ := hO hS
  have HR := Lib.hid hr
  have hset := fillS_set S
  have hlen := fillS_len S
  have hst4 : ∀ k (h : k < S.length), ((stI S[k]).map iv).length = 4 := fun k h => rfl
  have HSet := Lib.hid hset
  have hz : fillS S 0 = List.replicate (S.length * 4) 0 := by simp [fillS]
  have HZ := Lib.hid hz
  have hend : fillS S S.length = S.flatMap stI := by simp [fillS]
  have hfl := fm_len S (fun a _ => stI_len a)
  clear hr hO h0 hS hset hz
  go_enter Try.func44, Try.ntmps44
  have hm := Mem.start w0
  repeat' (first | ((with_reducible refine gmk ?_); refine mmk0 hm rfl rfl rfl rfl ?_; clear hm; intro n w hm) | ((with_reducible refine gmk ?_); refine mmk hm rfl rfl rfl rfl ?_; clear hm; intro n w hm) | ((with_reducible refine gix ?_); first | refine mix rfl rfl rfl rfl ?_ | refine mixr rfl rfl rfl rfl ?_; (try simp only [Int.toNat_zero, Int.reduceToNat, Nat.reduceMul, Nat.zero_mul, Nat.one_mul, List.drop_succ_cons, List.drop_zero, List.take_succ_cons, List.take_zero])) | ((with_reducible refine gl ?_); first | refine ml hm rfl rfl rfl ?_ | refine mlw hm rfl rfl rfl ?_ | (refine mlr hm rfl rfl rfl ?_; try simp only [List.drop_succ_cons, List.drop_zero, List.take_succ_cons, List.take_zero])) | ((with_reducible refine gs ?_); (first | refine ms hm rfl rfl rfl rfl rfl ?_ | refine msw hm rfl rfl rfl rfl ?_ | refine msr hm rfl rfl rfl rfl ?_); clear hm; intro w hm; (try simp only [splice, List.set_cons_zero, List.set_cons_succ] at hm)) | ((with_reducible refine gb ?_); (first | refine mem_box hm rfl rfl rfl ?_ | refine mem_box1 hm rfl rfl rfl rfl ?_); clear hm; intro n w hm) | ((with_reducible refine ga ?_); refine mem_alloc hm rfl rfl ?_; clear hm; intro n w hm) | go_values | go_skip | go_guarded | go_step | go_upon | ((with_reducible refine bp ?_); go_back) | ((with_reducible refine up ?_); first | (simp only [Int.not_lt, Int.not_le] at *; go_simp) | (go_values <;> (try go_simp)) | (go_ite <;> go_prune <;> (try go_simp)) | (split <;> (first | (rename_i hx; exact (hx _ rfl).elim) | go_prune))))
  rw [← HZ.out] at hm
  obtain ⟨σ, hσ, hm⟩ := Mem.sig hm
  go_loopw [4] (fun i wr => ∃ k : Nat, k ≤ S.length ∧ i = iv k ∧ Mem w0 wr (modB σ 0 ((fillS S k).map iv))) (fun i _ => S.length - (intOf i).toNat)
  case atStart => subst hσ; exact ⟨0, by omega, rfl, hm⟩
  case round =>
    clear hm
    obtain ⟨k, hk, rfl, hm⟩ := hrel
    subst hσ
    simp only [modB] at hm
    have hn := hlen k hk
    by_cases hlt : k < S.length
    · have hr := HR.out k (by omega)
      have hs := HSet.out k (by omega)
      have h4 := hst4 k (by omega)
      have hT := laws_toStep S[k].1 S[k].2.1 S[k].2.2.1 S[k].2.2.2
      have hsI : (stI S[k]).map iv = [iv S[k].1, iv S[k].2.1, iv S[k].2.2.1, iv S[k].2.2.2] := rfl
      rw [hsI] at hr hs
      generalize S[k] = st at *
      obtain ⟨d, r, c, t⟩ := st
      simp only at *
      generalize fillS S k = F0 at *
      have HS := Lib.hid hs
      have HT := Lib.hid hT
      clear hs hT
      repeat' (first | ((with_reducible refine gl ?_); refine mlo hm hr rfl rfl rfl rfl ?_) | (go_at_call 34; refine mem_call hm (HT.out _) ?_; clear hm; intro w hm; (try simp only [nums, List.map_cons, List.map_nil])) | ((with_reducible refine gix ?_); first | refine mix rfl rfl rfl rfl ?_ | refine mixr rfl rfl rfl rfl ?_; (try simp only [Int.toNat_zero, Int.reduceToNat, Nat.reduceMul, Nat.zero_mul, Nat.one_mul, List.drop_succ_cons, List.drop_zero, List.take_succ_cons, List.take_zero])) | ((with_reducible refine gl ?_); first | refine ml hm rfl rfl rfl ?_ | refine mlw hm rfl rfl rfl ?_ | (refine mlr hm rfl rfl rfl ?_; try simp only [List.drop_succ_cons, List.drop_zero, List.take_succ_cons, List.take_zero])) | ((with_reducible refine gs ?_); (first | refine ms hm rfl rfl rfl rfl rfl ?_ | refine msw hm rfl rfl rfl rfl ?_ | refine msr hm rfl rfl rfl rfl ?_); clear hm; intro w hm; (try simp only [splice, List.set_cons_zero, List.set_cons_succ] at hm)) | ((with_reducible refine gb ?_); (first | refine mem_box hm rfl rfl rfl ?_ | refine mem_box1 hm rfl rfl rfl rfl ?_); clear hm; intro n w hm) | ((with_reducible refine ga ?_); refine mem_alloc hm rfl rfl ?_; clear hm; intro n w hm) | go_values | go_skip | go_guarded | go_step | go_upon | ((with_reducible refine bp ?_); go_back) | ((with_reducible refine up ?_); first | (simp only [Int.not_lt, Int.not_le] at *; go_simp) | (go_values <;> (try go_simp)) | (go_ite <;> go_prune <;> (try go_simp)) | (split <;> (first | (rename_i hx; exact (hx _ rfl).elim) | go_prune))))
      go_roundw
      case rel => (try (first | ((repeat apply Exists.intro); refine ⟨?_, rfl⟩) | (repeat refine ex_any ?_))); exact ⟨k + 1, by omega, by go_num, by simp only [modB]; rw [← HS.out]; exact hm⟩
      case measure => simp [intOf]; omega
    · obtain rfl : k = S.length := by omega
      rw [hend] at hm
      repeat' (first  | ((with_reducible refine gix ?_); first | refine mix rfl rfl rfl rfl ?_ | refine mixr rfl rfl rfl rfl ?_; (try simp only [Int.toNat_zero, Int.reduceToNat, Nat.reduceMul, Nat.zero_mul, Nat.one_mul, List.drop_succ_cons, List.drop_zero, List.take_succ_cons, List.take_zero])) | ((with_reducible refine gl ?_); first | refine ml hm rfl rfl rfl ?_ | refine mlw hm rfl rfl rfl ?_ | (refine mlr hm rfl rfl rfl ?_; try simp only [List.drop_succ_cons, List.drop_zero, List.take_succ_cons, List.take_zero])) | ((with_reducible refine gs ?_); (first | refine ms hm rfl rfl rfl rfl rfl ?_ | refine msw hm rfl rfl rfl rfl ?_ | refine msr hm rfl rfl rfl rfl ?_); clear hm; intro w hm; (try simp only [splice, List.set_cons_zero, List.set_cons_succ] at hm)) | ((with_reducible refine gb ?_); (first | refine mem_box hm rfl rfl rfl ?_ | refine mem_box1 hm rfl rfl rfl rfl ?_); clear hm; intro n w hm) | ((with_reducible refine ga ?_); refine mem_alloc hm rfl rfl ?_; clear hm; intro n w hm) | go_values | go_skip | go_guarded | go_step | go_upon | ((with_reducible refine bp ?_); go_back) | ((with_reducible refine up ?_); first | (simp only [Int.not_lt, Int.not_le] at *; go_simp) | (go_values <;> (try go_simp)) | (go_ite <;> go_prune <;> (try go_simp)) | (split <;> (first | (rename_i hx; exact (hx _ rfl).elim) | go_prune))))
      (try simp only [Exit.inBlock, Exit.then])
      (first | (refine ret1 rfl rfl (by (first | exact Res.tmp rfl | exact Res.atw hm rfl | exact Res.at hm rfl)) ?_) | (refine ret2 rfl rfl (by (first | exact Res.tmp rfl | exact Res.atw hm rfl | exact Res.at hm rfl)) (by (first | exact Res.tmp rfl | exact Res.atw hm rfl | exact Res.at hm rfl)) ?_) | (refine ret3 rfl rfl (by (first | exact Res.tmp rfl | exact Res.atw hm rfl | exact Res.at hm rfl)) (by (first | exact Res.tmp rfl | exact Res.atw hm rfl | exact Res.at hm rfl)) (by (first | exact Res.tmp rfl | exact Res.atw hm rfl | exact Res.at hm rfl)) ?_) | (refine ret4 rfl rfl (by (first | exact Res.tmp rfl | exact Res.atw hm rfl | exact Res.at hm rfl)) (by (first | exact Res.tmp rfl | exact Res.atw hm rfl | exact Res.at hm rfl)) (by (first | exact Res.tmp rfl | exact Res.atw hm rfl | exact Res.at hm rfl)) (by (first | exact Res.tmp rfl | exact Res.atw hm rfl | exact Res.at hm rfl)) ?_) | fail "ret")
      exact ⟨_, rfl, n, [], S.length, S.length, rfl, by simpa using hm, ⟨Nat.le_refl _, by unfold maxLen; omega, by simp [hfl]⟩, by simp [hfl]⟩
theorem laws_toReplay {v : Value} {S : List Stp} (b : List Int) (hb : b.length = 16) {w0 : World} (hO : OldSteps w0 v S) (hl : S.length ≤ 2000000) :
    Calls Try.prog 15 #[.agg (b.map iv ++ [v]).toArray] w0 fun e w' => ∃ u, e = .returned (.agg (b.map iv ++ [u]).toArray) ∧ Sl w0 w' u 55 4 ((S.flatMap stI).map iv) [] := by
  have hB := laws_toBoard b hb
  have hS := fun (w : World) (σ : List Blk) (hm : Mem w0 w σ) => laws_toStepS (OldSteps.next hm hO) hl
  obtain ⟨a0, a1, a2, a3, b0, b1, b2, b3, c0, c1, c2, c3, d0, d1, d2, d3, rfl⟩ := list16 hb
  clear hb
  have HS := Lib.hid hS
  clear hS hO
  simp only [List.map_cons, List.map_nil, List.cons_append, List.nil_append]
  simp only [nums_map, List.map_cons, List.map_nil] at hB
  have HB := Lib.hid hB
  clear hB
  go_enter Try.func15, Try.ntmps15
  have hm := Mem.start w0
  repeat' (first | (go_at_call 39; refine mem_call hm (HB.out _) ?_; clear hm; intro w hm; (try simp only [nums, List.map_cons, List.map_nil])) | (go_at_call 44; refine mem_callN hm (HS.out _ _ hm) ?_; clear hm; intro g more len cap w hm hf hx; (try simp only [])) | ((with_reducible refine gix ?_); first | refine mix rfl rfl rfl rfl ?_ | refine mixr rfl rfl rfl rfl ?_; (try simp only [Int.toNat_zero, Int.reduceToNat, Nat.reduceMul, Nat.zero_mul, Nat.one_mul, List.drop_succ_cons, List.drop_zero, List.take_succ_cons, List.take_zero])) | ((with_reducible refine gl ?_); first | refine ml hm rfl rfl rfl ?_ | refine mlw hm rfl rfl rfl ?_ | (refine mlr hm rfl rfl rfl ?_; try simp only [List.drop_succ_cons, List.drop_zero, List.take_succ_cons, List.take_zero])) | ((with_reducible refine gs ?_); (first | refine ms hm rfl rfl rfl rfl rfl ?_ | refine msw hm rfl rfl rfl rfl ?_ | refine msr hm rfl rfl rfl rfl ?_); clear hm; intro w hm; (try simp only [splice, List.set_cons_zero, List.set_cons_succ] at hm)) | ((with_reducible refine gb ?_); (first | refine mem_box hm rfl rfl rfl ?_ | refine mem_box1 hm rfl rfl rfl rfl ?_); clear hm; intro n w hm) | ((with_reducible refine ga ?_); refine mem_alloc hm rfl rfl ?_; clear hm; intro n w hm) | go_values | go_skip | go_guarded | go_step | go_upon | ((with_reducible refine bp ?_); go_back) | ((with_reducible refine up ?_); first | (simp only [Int.not_lt, Int.not_le] at *; go_simp) | (go_values <;> (try go_simp)) | (go_ite <;> go_prune <;> (try go_simp)) | (split <;> (first | (rename_i hx; exact (hx _ rfl).elim) | go_prune))))
  (try simp only [Exit.inBlock, Exit.then])
  (first | (refine ret1 rfl rfl (by (first | exact Res.tmp rfl | exact Res.atw hm rfl | exact Res.at hm rfl)) ?_) | (refine ret2 rfl rfl (by (first | exact Res.tmp rfl | exact Res.atw hm rfl | exact Res.at hm rfl)) (by (first | exact Res.tmp rfl | exact Res.atw hm rfl | exact Res.at hm rfl)) ?_) | (refine ret3 rfl rfl (by (first | exact Res.tmp rfl | exact Res.atw hm rfl | exact Res.at hm rfl)) (by (first | exact Res.tmp rfl | exact Res.atw hm rfl | exact Res.at hm rfl)) (by (first | exact Res.tmp rfl | exact Res.atw hm rfl | exact Res.at hm rfl)) ?_) | (refine ret4 rfl rfl (by (first | exact Res.tmp rfl | exact Res.atw hm rfl | exact Res.at hm rfl)) (by (first | exact Res.tmp rfl | exact Res.atw hm rfl | exact Res.at hm rfl)) (by (first | exact Res.tmp rfl | exact Res.atw hm rfl | exact Res.at hm rfl)) (by (first | exact Res.tmp rfl | exact Res.atw hm rfl | exact Res.at hm rfl)) ?_) | fail "ret")
  exact ⟨_, rfl, (Sl.of hm hf hx).drop (List.nil_sublist _)⟩
set_option maxHeartbeats 400000 in
theorem laws_szStepS (A : Option Addr) (n cap : Nat) (left : Int) (hl : 0 ≤ left ∧ left ≤ 2000000) (hn : n ≤ 9223372036854775807) (w : World) : Calls Try.prog 42 #[.slice A n cap, iv left] w fun e w' => e = .returned (iv (if left < n then -1 else left - n)) ∧ Below w.heap.size w w' := by
  obtain ⟨h0, h1⟩ := hl
  by_cases h : left < n
  · rw [if_pos h]
    go_enter Try.func42, Try.ntmps42
    have hm := Mem.start w
    repeat' (first  | ((with_reducible refine gix ?_); first | refine mix rfl rfl rfl rfl ?_ | refine mixr rfl rfl rfl rfl ?_; (try simp only [Int.toNat_zero, Int.reduceToNat, Nat.reduceMul, Nat.zero_mul, Nat.one_mul, List.drop_succ_cons, List.drop_zero, List.take_succ_cons, List.take_zero])) | ((with_reducible refine gl ?_); first | refine ml hm rfl rfl rfl ?_ | refine mlw hm rfl rfl rfl ?_ | (refine mlr hm rfl rfl rfl ?_; try simp only [List.drop_succ_cons, List.drop_zero, List.take_succ_cons, List.take_zero])) | ((with_reducible refine gs ?_); (first | refine ms hm rfl rfl rfl rfl rfl ?_ | refine msw hm rfl rfl rfl rfl ?_ | refine msr hm rfl rfl rfl rfl ?_); clear hm; intro w hm; (try simp only [splice, List.set_cons_zero, List.set_cons_succ] at hm)) | ((with_reducible refine gb ?_); (first | refine mem_box hm rfl rfl rfl ?_ | refine mem_box1 hm rfl rfl rfl rfl ?_); clear hm; intro n w hm) | ((with_reducible refine ga ?_); refine mem_alloc hm rfl rfl ?_; clear hm; intro n w hm) | go_values | go_skip | go_guarded | go_step | go_upon | ((with_reducible refine bp ?_); go_back) | ((with_reducible refine up ?_); first | (simp only [Int.not_lt, Int.not_le] at *; go_simp) | (go_values <;> (try go_simp)) | (go_ite <;> go_prune <;> (try go_simp)) | (split <;> (first | (rename_i hx; exact (hx _ rfl).elim) | go_prune))))
    (try simp only [Exit.inBlock, Exit.then])
    (first | (refine ret1 rfl rfl (by (first | exact Res.tmp rfl | exact Res.atw hm rfl | exact Res.at hm rfl)) ?_) | (refine ret2 rfl rfl (by (first | exact Res.tmp rfl | exact Res.atw hm rfl | exact Res.at hm rfl)) (by (first | exact Res.tmp rfl | exact Res.atw hm rfl | exact Res.at hm rfl)) ?_) | (refine ret3 rfl rfl (by (first | exact Res.tmp rfl | exact Res.atw hm rfl | exact Res.at hm rfl)) (by (first | exact Res.tmp rfl | exact Res.atw hm rfl | exact Res.at hm rfl)) (by (first | exact Res.tmp rfl | exact Res.atw hm rfl | exact Res.at hm rfl)) ?_) | (refine ret4 rfl rfl (by (first | exact Res.tmp rfl | exact Res.atw hm rfl | exact Res.at hm rfl)) (by (first | exact Res.tmp rfl | exact Res.atw hm rfl | exact Res.at hm rfl)) (by (first | exact Res.tmp rfl | exact Res.atw hm rfl | exact Res.at hm rfl)) (by (first | exact Res.tmp rfl | exact Res.atw hm rfl | exact Res.at hm rfl)) ?_) | fail "ret")
    exact ⟨rfl, hm.below⟩
  · rw [if_neg h]
    go_enter Try.func42, Try.ntmps42
    have hm := Mem.start w
    repeat' (first  | ((with_reducible refine gix ?_); first | refine mix rfl rfl rfl rfl ?_ | refine mixr rfl rfl rfl rfl ?_; (try simp only [Int.toNat_zero, Int.reduceToNat, Nat.reduceMul, Nat.zero_mul, Nat.one_mul, List.drop_succ_cons, List.drop_zero, List.take_succ_cons, List.take_zero])) | ((with_reducible refine gl ?_); first | refine ml hm rfl rfl rfl ?_ | refine mlw hm rfl rfl rfl ?_ | (refine mlr hm rfl rfl rfl ?_; try simp only [List.drop_succ_cons, List.drop_zero, List.take_succ_cons, List.take_zero])) | ((with_reducible refine gs ?_); (first | refine ms hm rfl rfl rfl rfl rfl ?_ | refine msw hm rfl rfl rfl rfl ?_ | refine msr hm rfl rfl rfl rfl ?_); clear hm; intro w hm; (try simp only [splice, List.set_cons_zero, List.set_cons_succ] at hm)) | ((with_reducible refine gb ?_); (first | refine mem_box hm rfl rfl rfl ?_ | refine mem_box1 hm rfl rfl rfl rfl ?_); clear hm; intro n w hm) | ((with_reducible refine ga ?_); refine mem_alloc hm rfl rfl ?_; clear hm; intro n w hm) | go_values | go_skip | go_guarded | go_step | go_upon | ((with_reducible refine bp ?_); go_back) | ((with_reducible refine up ?_); first | (simp only [Int.not_lt, Int.not_le] at *; go_simp) | (go_values <;> (try go_simp)) | (go_ite <;> go_prune <;> (try go_simp)) | (split <;> (first | (rename_i hx; exact (hx _ rfl).elim) | go_prune))))
    (try simp only [Exit.inBlock, Exit.then])
    (first | (refine ret1 rfl rfl (by (first | exact Res.tmp rfl | exact Res.atw hm rfl | exact Res.at hm rfl)) ?_) | (refine ret2 rfl rfl (by (first | exact Res.tmp rfl | exact Res.atw hm rfl | exact Res.at hm rfl)) (by (first | exact Res.tmp rfl | exact Res.atw hm rfl | exact Res.at hm rfl)) ?_) | (refine ret3 rfl rfl (by (first | exact Res.tmp rfl | exact Res.atw hm rfl | exact Res.at hm rfl)) (by (first | exact Res.tmp rfl | exact Res.atw hm rfl | exact Res.at hm rfl)) (by (first | exact Res.tmp rfl | exact Res.atw hm rfl | exact Res.at hm rfl)) ?_) | (refine ret4 rfl rfl (by (first | exact Res.tmp rfl | exact Res.atw hm rfl | exact Res.at hm rfl)) (by (first | exact Res.tmp rfl | exact Res.atw hm rfl | exact Res.at hm rfl)) (by (first | exact Res.tmp rfl | exact Res.atw hm rfl | exact Res.at hm rfl)) (by (first | exact Res.tmp rfl | exact Res.atw hm rfl | exact Res.at hm rfl)) ?_) | fail "ret")
    exact ⟨rfl, hm.below⟩
theorem laws_szReplay (b : List Int) (hb : b.length = 16) (A : Option Addr) (n cap : Nat) (left : Int) (hl : 0 ≤ left ∧ left ≤ 2000000) (hn : n ≤ 9223372036854775807) (w : World) : Calls Try.prog 13 #[.agg (b.map iv ++ [Value.slice A n cap]).toArray, iv left] w fun e w' => e = .returned (iv (if left < n then -1 else left - n)) ∧ Below w.heap.size w w' := by
  have hS := laws_szStepS A n cap left hl hn
  obtain ⟨h0, h1⟩ := hl
  obtain ⟨a0, a1, a2, a3, b0, b1, b2, b3, c0, c1, c2, c3, d0, d1, d2, d3, rfl⟩ := list16 hb
  clear hb
  simp only [List.map_cons, List.map_nil, List.cons_append, List.nil_append]
  by_cases h : left < n
  · rw [if_pos h] at hS ⊢
    have HS := Lib.hid hS
    clear hS
    go_enter Try.func13, Try.ntmps13
    have hm := Mem.start w
    repeat' (first | (go_at_call 42; refine mem_call hm (HS.out _) ?_; clear hm; intro w hm; (try simp only [nums, List.map_cons, List.map_nil])) | ((with_reducible refine gix ?_); first | refine mix rfl rfl rfl rfl ?_ | refine mixr rfl rfl rfl rfl ?_; (try simp only [Int.toNat_zero, Int.reduceToNat, Nat.reduceMul, Nat.zero_mul, Nat.one_mul, List.drop_succ_cons, List.drop_zero, List.take_succ_cons, List.take_zero])) | ((with_reducible refine gl ?_); first | refine ml hm rfl rfl rfl ?_ | refine mlw hm rfl rfl rfl ?_ | (refine mlr hm rfl rfl rfl ?_; try simp only [List.drop_succ_cons, List.drop_zero, List.take_succ_cons, List.take_zero])) | ((with_reducible refine gs ?_); (first | refine ms hm rfl rfl rfl rfl rfl ?_ | refine msw hm rfl rfl rfl rfl ?_ | refine msr hm rfl rfl rfl rfl ?_); clear hm; intro w hm; (try simp only [splice, List.set_cons_zero, List.set_cons_succ] at hm)) | ((with_reducible refine gb ?_); (first | refine mem_box hm rfl rfl rfl ?_ | refine mem_box1 hm rfl rfl rfl rfl ?_); clear hm; intro n w hm) | ((with_reducible refine ga ?_); refine mem_alloc hm rfl rfl ?_; clear hm; intro n w hm) | go_values | go_skip | go_guarded | go_step | go_upon | ((with_reducible refine bp ?_); go_back) | ((with_reducible refine up ?_); first | (simp only [Int.not_lt, Int.not_le] at *; go_simp) | (go_values <;> (try go_simp)) | (go_ite <;> go_prune <;> (try go_simp)) | (split <;> (first | (rename_i hx; exact (hx _ rfl).elim) | go_prune))))
    (try simp only [Exit.inBlock, Exit.then])
    (first | (refine ret1 rfl rfl (by (first | exact Res.tmp rfl | exact Res.atw hm rfl | exact Res.at hm rfl)) ?_) | (refine ret2 rfl rfl (by (first | exact Res.tmp rfl | exact Res.atw hm rfl | exact Res.at hm rfl)) (by (first | exact Res.tmp rfl | exact Res.atw hm rfl | exact Res.at hm rfl)) ?_) | (refine ret3 rfl rfl (by (first | exact Res.tmp rfl | exact Res.atw hm rfl | exact Res.at hm rfl)) (by (first | exact Res.tmp rfl | exact Res.atw hm rfl | exact Res.at hm rfl)) (by (first | exact Res.tmp rfl | exact Res.atw hm rfl | exact Res.at hm rfl)) ?_) | (refine ret4 rfl rfl (by (first | exact Res.tmp rfl | exact Res.atw hm rfl | exact Res.at hm rfl)) (by (first | exact Res.tmp rfl | exact Res.atw hm rfl | exact Res.at hm rfl)) (by (first | exact Res.tmp rfl | exact Res.atw hm rfl | exact Res.at hm rfl)) (by (first | exact Res.tmp rfl | exact Res.atw hm rfl | exact Res.at hm rfl)) ?_) | fail "ret")
    exact ⟨rfl, hm.below⟩
  · rw [if_neg h] at hS ⊢
    have HS := Lib.hid hS
    clear hS
    go_enter Try.func13, Try.ntmps13
    have hm := Mem.start w
    repeat' (first | (go_at_call 42; refine mem_call hm (HS.out _) ?_; clear hm; intro w hm; (try simp only [nums, List.map_cons, List.map_nil])) | ((with_reducible refine gix ?_); first | refine mix rfl rfl rfl rfl ?_ | refine mixr rfl rfl rfl rfl ?_; (try simp only [Int.toNat_zero, Int.reduceToNat, Nat.reduceMul, Nat.zero_mul, Nat.one_mul, List.drop_succ_cons, List.drop_zero, List.take_succ_cons, List.take_zero])) | ((with_reducible refine gl ?_); first | refine ml hm rfl rfl rfl ?_ | refine mlw hm rfl rfl rfl ?_ | (refine mlr hm rfl rfl rfl ?_; try simp only [List.drop_succ_cons, List.drop_zero, List.take_succ_cons, List.take_zero])) | ((with_reducible refine gs ?_); (first | refine ms hm rfl rfl rfl rfl rfl ?_ | refine msw hm rfl rfl rfl rfl ?_ | refine msr hm rfl rfl rfl rfl ?_); clear hm; intro w hm; (try simp only [splice, List.set_cons_zero, List.set_cons_succ] at hm)) | ((with_reducible refine gb ?_); (first | refine mem_box hm rfl rfl rfl ?_ | refine mem_box1 hm rfl rfl rfl rfl ?_); clear hm; intro n w hm) | ((with_reducible refine ga ?_); refine mem_alloc hm rfl rfl ?_; clear hm; intro n w hm) | go_values | go_skip | go_guarded | go_step | go_upon | ((with_reducible refine bp ?_); go_back) | ((with_reducible refine up ?_); first | (simp only [Int.not_lt, Int.not_le] at *; go_simp) | (go_values <;> (try go_simp)) | (go_ite <;> go_prune <;> (try go_simp)) | (split <;> (first | (rename_i hx; exact (hx _ rfl).elim) | go_prune))))
    (try simp only [Exit.inBlock, Exit.then])
    (first | (refine ret1 rfl rfl (by (first | exact Res.tmp rfl | exact Res.atw hm rfl | exact Res.at hm rfl)) ?_) | (refine ret2 rfl rfl (by (first | exact Res.tmp rfl | exact Res.atw hm rfl | exact Res.at hm rfl)) (by (first | exact Res.tmp rfl | exact Res.atw hm rfl | exact Res.at hm rfl)) ?_) | (refine ret3 rfl rfl (by (first | exact Res.tmp rfl | exact Res.atw hm rfl | exact Res.at hm rfl)) (by (first | exact Res.tmp rfl | exact Res.atw hm rfl | exact Res.at hm rfl)) (by (first | exact Res.tmp rfl | exact Res.atw hm rfl | exact Res.at hm rfl)) ?_) | (refine ret4 rfl rfl (by (first | exact Res.tmp rfl | exact Res.atw hm rfl | exact Res.at hm rfl)) (by (first | exact Res.tmp rfl | exact Res.atw hm rfl | exact Res.at hm rfl)) (by (first | exact Res.tmp rfl | exact Res.atw hm rfl | exact Res.at hm rfl)) (by (first | exact Res.tmp rfl | exact Res.atw hm rfl | exact Res.at hm rfl)) ?_) | fail "ret")
    exact ⟨rfl, hm.below⟩
theorem laws_eqStep (s : List Int) (hs : s.length = 4) (w : World) : Calls Try.prog 81 #[.agg (s.map iv).toArray, .agg (s.map iv).toArray] w fun e w' => e = .returned (.bool true) ∧ Below w.heap.size w w' := by
  obtain ⟨d, r, c, t, rfl⟩ := list4 hs
  clear hs
  have hE := laws_eqIntA2 [r, c] [r, c] rfl rfl
  simp only [nums_map, List.map_cons, List.map_nil, decide_true] at hE ⊢
  have HE := Lib.hid hE
  clear hE
  go_enter Try.func81, Try.ntmps81
  have hm := Mem.start w
  repeat' (first | (go_at_call 107; refine mem_call hm (HE.out _) ?_; clear hm; intro w hm; (try simp only [nums, List.map_cons, List.map_nil])) | ((with_reducible refine gd ?_); refine mq_start hm (by kernel_rfl) (by kernel_rfl) ?_; intro hne; (repeat (first | ((with_reducible refine gq ?_); first | refine ql rfl rfl rfl ?_ | (refine qlr rfl rfl rfl ?_; try simp only [List.drop_succ_cons, List.drop_zero, List.take_succ_cons, List.take_zero])) | (refine wpQuiet_step (fun K hK => ?_); go_simp; first | (refine hK _ ?_; clear hK K) | (apply Exists.intro; refine ⟨fun _ => ?_, hK _ ?_⟩; (first | (go_at_call 107; exact qcall (HE.out _)) | fail); clear hK K)))); refine wpQuiet_nil ?_; clear hm hne; intro w hm) | ((with_reducible refine gix ?_); first | refine mix rfl rfl rfl rfl ?_ | refine mixr rfl rfl rfl rfl ?_; (try simp only [Int.toNat_zero, Int.reduceToNat, Nat.reduceMul, Nat.zero_mul, Nat.one_mul, List.drop_succ_cons, List.drop_zero, List.take_succ_cons, List.take_zero])) | ((with_reducible refine gl ?_); first | refine ml hm rfl rfl rfl ?_ | refine mlw hm rfl rfl rfl ?_ | (refine mlr hm rfl rfl rfl ?_; try simp only [List.drop_succ_cons, List.drop_zero, List.take_succ_cons, List.take_zero])) | ((with_reducible refine gs ?_); (first | refine ms hm rfl rfl rfl rfl rfl ?_ | refine msw hm rfl rfl rfl rfl ?_ | refine msr hm rfl rfl rfl rfl ?_); clear hm; intro w hm; (try simp only [splice, List.set_cons_zero, List.set_cons_succ] at hm)) | ((with_reducible refine gb ?_); (first | refine mem_box hm rfl rfl rfl ?_ | refine mem_box1 hm rfl rfl rfl rfl ?_); clear hm; intro n w hm) | ((with_reducible refine ga ?_); refine mem_alloc hm rfl rfl ?_; clear hm; intro n w hm) | go_values | go_skip | go_guarded | go_step | go_upon | ((with_reducible refine bp ?_); go_back) | ((with_reducible refine up ?_); first | (simp only [Int.not_lt, Int.not_le] at *; go_simp) | (go_values <;> (try go_simp)) | (go_ite <;> go_prune <;> (try go_simp)) | (split <;> (first | (rename_i hx; exact (hx _ rfl).elim) | go_prune))))
  (try simp only [Exit.inBlock, Exit.then])
  (first | (refine ret1 rfl rfl (by (first | exact Res.tmp rfl | exact Res.atw hm rfl | exact Res.at hm rfl)) ?_) | (refine ret2 rfl rfl (by (first | exact Res.tmp rfl | exact Res.atw hm rfl | exact Res.at hm rfl)) (by (first | exact Res.tmp rfl | exact Res.atw hm rfl | exact Res.at hm rfl)) ?_) | (refine ret3 rfl rfl (by (first | exact Res.tmp rfl | exact Res.atw hm rfl | exact Res.at hm rfl)) (by (first | exact Res.tmp rfl | exact Res.atw hm rfl | exact Res.at hm rfl)) (by (first | exact Res.tmp rfl | exact Res.atw hm rfl | exact Res.at hm rfl)) ?_) | (refine ret4 rfl rfl (by (first | exact Res.tmp rfl | exact Res.atw hm rfl | exact Res.at hm rfl)) (by (first | exact Res.tmp rfl | exact Res.atw hm rfl | exact Res.at hm rfl)) (by (first | exact Res.tmp rfl | exact Res.atw hm rfl | exact Res.at hm rfl)) (by (first | exact Res.tmp rfl | exact Res.atw hm rfl | exact Res.at hm rfl)) ?_) | fail "ret")
  exact ⟨rfl, hm.below⟩
theorem laws_eqStepS {w0 w : World} {σ : List Blk} {S : List Stp} {g1 g2 i1 i2 c1 c2 : Nat} {m1 m2 : List Value} (hm : Mem w0 w σ) [At σ g1 ((S.flatMap stI).map iv ++ m1) 55 i1] [At σ g2 ((S.flatMap stI).map iv ++ m2) 55 i2] (hl : S.length ≤ 2000000) :
    Calls Try.prog 46 #[.slice (some ⟨g1, 0, none⟩) S.length c1, .slice (some ⟨g2, 0, none⟩) S.length c2] w fun e w' => e = .returned (.bool true) ∧ Mem w0 w' σ := by
  have HG1 := Lib.hid (fun (k : Nat) (h : k < S.length) => fm_get h (fun a _ => stI_len a) m1)
  have HG2 := Lib.hid (fun (k : Nat) (h : k < S.length) => fm_get h (fun a _ => stI_len a) m2)
  have hn1 : ((S.flatMap stI).map iv ++ m1).length = S.length * 4 + m1.length := by rw [List.length_append, List.length_map, fm_len S (fun a _ => stI_len a)]
  have hn2 : ((S.flatMap stI).map iv ++ m2).length = S.length * 4 + m2.length := by rw [List.length_append, List.length_map, fm_len S (fun a _ => stI_len a)]
  generalize (S.flatMap stI).map iv ++ m1 = cs1 at *
  generalize (S.flatMap stI).map iv ++ m2 = cs2 at *
  go_enter Try.func46, Try.ntmps46
  repeat' (first  | ((with_reducible refine gix ?_); first | refine mix rfl rfl rfl rfl ?_ | refine mixr rfl rfl rfl rfl ?_; (try simp only [Int.toNat_zero, Int.reduceToNat, Nat.reduceMul, Nat.zero_mul, Nat.one_mul, List.drop_succ_cons, List.drop_zero, List.take_succ_cons, List.take_zero])) | ((with_reducible refine gl ?_); first | refine ml hm rfl rfl rfl ?_ | refine mlw hm rfl rfl rfl ?_ | (refine mlr hm rfl rfl rfl ?_; try simp only [List.drop_succ_cons, List.drop_zero, List.take_succ_cons, List.take_zero])) | ((with_reducible refine gs ?_); (first | refine ms hm rfl rfl rfl rfl rfl ?_ | refine msw hm rfl rfl rfl rfl ?_ | refine msr hm rfl rfl rfl rfl ?_); clear hm; intro w hm; (try simp only [splice, List.set_cons_zero, List.set_cons_succ] at hm)) | ((with_reducible refine gb ?_); (first | refine mem_box hm rfl rfl rfl ?_ | refine mem_box1 hm rfl rfl rfl rfl ?_); clear hm; intro n w hm) | ((with_reducible refine ga ?_); refine mem_alloc hm rfl rfl ?_; clear hm; intro n w hm) | go_values | go_skip | go_guarded | go_step | go_upon | ((with_reducible refine bp ?_); go_back) | ((with_reducible refine up ?_); first | (simp only [Int.not_lt, Int.not_le] at *; go_simp) | (go_values <;> (try go_simp)) | (go_ite <;> go_prune <;> (try go_simp)) | (split <;> (first | (rename_i hx; exact (hx _ rfl).elim) | go_prune))))
  go_loopw [5] (fun i wr => ∃ k : Nat, k ≤ S.length ∧ i = iv k ∧ Mem w0 wr σ) (fun i _ => S.length - (intOf i).toNat)
  case atStart => exact ⟨0, by omega, rfl, hm⟩
  case round =>
    clear hm
    obtain ⟨k, hk, rfl, hm⟩ := hrel
    by_cases hlt : k < S.length
    · have e1 := HG1.out k hlt
      have e2 := HG2.out k hlt
      have hE := laws_eqStep (stI S[k]) rfl
      have hs4 := stI_len S[k]
      generalize stI S[k] = x at *
      have HE := Lib.hid hE
      clear hE
      repeat' (first | (with_reducible rw [e1]) | (with_reducible rw [e2]) | ((with_reducible refine gd ?_); refine mq_start hm (by kernel_rfl) (by kernel_rfl) ?_; intro hne; (repeat (first | ((with_reducible refine gq ?_); first | refine ql rfl rfl rfl ?_ | (refine qlr rfl rfl rfl ?_; try simp only [List.drop_succ_cons, List.drop_zero, List.take_succ_cons, List.take_zero])) | (refine wpQuiet_step (fun K hK => ?_); go_simp; first | (refine hK _ ?_; clear hK K) | (apply Exists.intro; refine ⟨fun _ => ?_, hK _ ?_⟩; (first | (with_reducible rw [e1]) | (with_reducible rw [e2]) | (go_at_call 81; exact qcall (HE.out _)) | fail); clear hK K)))); refine wpQuiet_nil ?_; clear hm hne; intro w hm) | (go_at_call 81; refine mem_call hm (HE.out _) ?_; clear hm; intro w hm; (try simp only [nums, List.map_cons, List.map_nil])) | ((with_reducible refine gix ?_); first | refine mix rfl rfl rfl rfl ?_ | refine mixr rfl rfl rfl rfl ?_; (try simp only [Int.toNat_zero, Int.reduceToNat, Nat.reduceMul, Nat.zero_mul, Nat.one_mul, List.drop_succ_cons, List.drop_zero, List.take_succ_cons, List.take_zero])) | ((with_reducible refine gl ?_); first | refine ml hm rfl rfl rfl ?_ | refine mlw hm rfl rfl rfl ?_ | (refine mlr hm rfl rfl rfl ?_; try simp only [List.drop_succ_cons, List.drop_zero, List.take_succ_cons, List.take_zero])) | ((with_reducible refine gs ?_); (first | refine ms hm rfl rfl rfl rfl rfl ?_ | refine msw hm rfl rfl rfl rfl ?_ | refine msr hm rfl rfl rfl rfl ?_); clear hm; intro w hm; (try simp only [splice, List.set_cons_zero, List.set_cons_succ] at hm)) | ((with_reducible refine gb ?_); (first | refine mem_box hm rfl rfl rfl ?_ | refine mem_box1 hm rfl rfl rfl rfl ?_); clear hm; intro n w hm) | ((with_reducible refine ga ?_); refine mem_alloc hm rfl rfl ?_; clear hm; intro n w hm) | go_values | go_skip | go_guarded | go_step | go_upon | ((with_reducible refine bp ?_); go_back) | ((with_reducible refine up ?_); first | (simp only [Int.not_lt, Int.not_le] at *; go_simp) | (go_values <;> (try go_simp)) | (go_ite <;> go_prune <;> (try go_simp)) | (split <;> (first | (rename_i hx; exact (hx _ rfl).elim) | go_prune))))
      go_roundw
      case rel => exact ⟨k + 1, by omega, by go_num, hm⟩
      case measure => simp [intOf]; omega
    · obtain rfl : k = S.length := by omega
      repeat' (first  | ((with_reducible refine gix ?_); first | refine mix rfl rfl rfl rfl ?_ | refine mixr rfl rfl rfl rfl ?_; (try simp only [Int.toNat_zero, Int.reduceToNat, Nat.reduceMul, Nat.zero_mul, Nat.one_mul, List.drop_succ_cons, List.drop_zero, List.take_succ_cons, List.take_zero])) | ((with_reducible refine gl ?_); first | refine ml hm rfl rfl rfl ?_ | refine mlw hm rfl rfl rfl ?_ | (refine mlr hm rfl rfl rfl ?_; try simp only [List.drop_succ_cons, List.drop_zero, List.take_succ_cons, List.take_zero])) | ((with_reducible refine gs ?_); (first | refine ms hm rfl rfl rfl rfl rfl ?_ | refine msw hm rfl rfl rfl rfl ?_ | refine msr hm rfl rfl rfl rfl ?_); clear hm; intro w hm; (try simp only [splice, List.set_cons_zero, List.set_cons_succ] at hm)) | ((with_reducible refine gb ?_); (first | refine mem_box hm rfl rfl rfl ?_ | refine mem_box1 hm rfl rfl rfl rfl ?_); clear hm; intro n w hm) | ((with_reducible refine ga ?_); refine mem_alloc hm rfl rfl ?_; clear hm; intro n w hm) | go_values | go_skip | go_guarded | go_step | go_upon | ((with_reducible refine bp ?_); go_back) | ((with_reducible refine up ?_); first | (simp only [Int.not_lt, Int.not_le] at *; go_simp) | (go_values <;> (try go_simp)) | (go_ite <;> go_prune <;> (try go_simp)) | (split <;> (first | (rename_i hx; exact (hx _ rfl).elim) | go_prune))))
      (try simp only [Exit.inBlock, Exit.then])
      (first | (refine ret1 rfl rfl (by (first | exact Res.tmp rfl | exact Res.atw hm rfl | exact Res.at hm rfl)) ?_) | (refine ret2 rfl rfl (by (first | exact Res.tmp rfl | exact Res.atw hm rfl | exact Res.at hm rfl)) (by (first | exact Res.tmp rfl | exact Res.atw hm rfl | exact Res.at hm rfl)) ?_) | (refine ret3 rfl rfl (by (first | exact Res.tmp rfl | exact Res.atw hm rfl | exact Res.at hm rfl)) (by (first | exact Res.tmp rfl | exact Res.atw hm rfl | exact Res.at hm rfl)) (by (first | exact Res.tmp rfl | exact Res.atw hm rfl | exact Res.at hm rfl)) ?_) | (refine ret4 rfl rfl (by (first | exact Res.tmp rfl | exact Res.atw hm rfl | exact Res.at hm rfl)) (by (first | exact Res.tmp rfl | exact Res.atw hm rfl | exact Res.at hm rfl)) (by (first | exact Res.tmp rfl | exact Res.atw hm rfl | exact Res.at hm rfl)) (by (first | exact Res.tmp rfl | exact Res.atw hm rfl | exact Res.at hm rfl)) ?_) | fail "ret")
      exact ⟨rfl, hm⟩
end Go.Proofs.Ythcjokgjiknheaa

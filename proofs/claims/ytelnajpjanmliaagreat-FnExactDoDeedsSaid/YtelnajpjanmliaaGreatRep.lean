/-
  Walks of replays as the laws hand them over: copied, compared, marked.
-/
import Derived.Test.YtelnajpjanmliaaGreatFm
import Derived.Test.YtelnajpjanmliaaGreatBase
import Derived.Laws.MakeOwn
set_option linter.unusedVariables false
set_option linter.unusedSimpArgs false
namespace Go.Proofs.YtelnajpjanmliaaGreat
open Go.RowKit Slm Go.ChangeShapes Go.WideShapes Go.ChangeAt Go.Deep
/-! make -/
section
variable {P : Program} {ops : Array Oper} {rest : List Oper} {o : Oper} {a : Act} {w0 w : World} {σ : List Blk} {Q : Exit → Act → World → Prop} {n i : Nat} {c : List Value} {t : TypeId}
theorem gmk {d : Option Tmp} {T ty : TypeId} {x y : Operand} {po : String} {af : Array Edge} {gd : Option (Nat × Bool)} (k : wpList P ops Q (⟨d, .makeSlice T x y, ty, po, af, gd⟩ :: rest) a w) : wpList P ops Q (⟨d, .makeSlice T x y, ty, po, af, gd⟩ :: rest) a w := k
theorem mmk {T e : TypeId} {s b len : Nat} {x y : Operand} {zs : List Value} [hT : IsSlice P T e s b] [hz : Zero P e zs] (hm : Mem w0 w σ) (ho : o.op = .makeSlice T x y) (hw : Region.wanted o (yielded ops a.tmps) = true) (hx : ev a x = some (iv len)) (hy : ev a y = some (iv len))
    (k : ∀ n w', Mem w0 w' (⟨n, (List.replicate (len * s) 0).map iv, e⟩ :: σ) → wpList P ops Q rest (a.put o.dst (.slice (some ⟨n, 0, none⟩) len len)) w')
    (hzs : zs = List.replicate s (iv 0) := by rfl) (hb : b * len ≤ 281474976710656 := by omega) (hl : len ≤ 9223372036854775807 := by omega) : wpList P ops Q (o :: rest) a w := by
  refine wpList_step fun K hK => ?_
  rw [if_pos hw]
  obtain ⟨ti, z, hi, hzz, hsz, hby, hzsz⟩ := hT.elem
  obtain ⟨v, hv, hvc⟩ := hz.out
  have hvz : v = z := by simpa [hi, hzz] using hv.symm
  subst hvz
  have hbz : ((ti.bytes : Nat) : Int) * (len : Int) ≤ 281474976710656 := by rw [hby]; have h := Int.ofNat_le.2 hb; rwa [Int.natCast_mul] at h
  have hr := run_make (P := P) w T e ti v hT.out hi hzz .i64 .i64 len len (by omega) (Int.le_refl _) hbz (by omega)
  unfold Oper.wp execOp
  simp only [ho, ev_eval hx, ev_eval hy, Sem.run_bind, hr, Result.andThen_ok, Sem.run_pure]
  have hc : (madeCells v.cells ((len : Int).toNat * ti.size)).toList = (List.replicate (len * s) 0).map iv := by
    rw [List.map_replicate, hsz, Int.toNat_natCast]
    have hvs : v.cells.toList = List.replicate s (iv 0) := by rw [hvc, hzs]
    have hp := hT.pos
    apply List.ext_getElem
    · simp [madeCells]
    · intro i h1 h2
      simp only [madeCells, Array.toList_map, List.getElem_map, Array.getElem_toList, Array.getElem_range, List.getElem_replicate]
      have hlt : i % v.cells.size < v.cells.size := Nat.mod_lt _ (by rw [hzsz]; exact hp)
      rw [getElem!_pos v.cells _ hlt, ← Array.getElem_toList]
      simp only [hvs, List.getElem_replicate]
  have this := hm.alloc (madeCells v.cells ((len : Int).toNat * ti.size)).toList e
  rw [Array.toArray_toList] at this
  rw [hc] at this
  refine hK _ _ ?_
  have h2 := k w.heap.size (w.alloc (.cells (madeCells v.cells ((len : Int).toNat * ti.size)) e)) this
  simpa only [Int.toNat_natCast] using h2
theorem mmk0 {T e : TypeId} {s b : Nat} {x y : Operand} {zs : List Value} [hT : IsSlice P T e s b] [hz : Zero P e zs] (hm : Mem w0 w σ) (ho : o.op = .makeSlice T x y) (hw : Region.wanted o (yielded ops a.tmps) = true) (hx : ev a x = some (iv 0)) (hy : ev a y = some (iv 0))
    (k : ∀ n w', Mem w0 w' (⟨n, [], e⟩ :: σ) → wpList P ops Q rest (a.put o.dst (.slice (some ⟨n, 0, none⟩) 0 0)) w')
    (hzs : zs = List.replicate s (iv 0) := by rfl) : wpList P ops Q (o :: rest) a w :=
  mmk (len := 0) hm ho hw hx hy (fun n w' h => k n w' (by simpa using h)) hzs (by omega) (by omega)
end
/-! steps that lay in memory before the call -/
def OldSteps (w : World) (v : Value) (S : List Stp) : Prop :=
  (v = .slice none 0 0 ∧ S = []) ∨ ∃ a cap, v = .slice (some a) S.length cap ∧ S.length ≤ maxLen ∧ (S ≠ [] → ∃ n off, a = ⟨n, off, none⟩ ∧ ∀ k (h : k < S.length), w.rangeAt n (off + k * 4) ((stI S[k]).map iv))
theorem OldSteps.next {w0 w : World} {σ : List Blk} {v : Value} {S : List Stp} (hm : Mem w0 w σ) (h : OldSteps w0 v S) : OldSteps w v S := by
  rcases h with h | ⟨a, cap, rfl, hml, h⟩
  · exact .inl h
  · refine .inr ⟨a, cap, rfl, hml, fun hS => ?_⟩
    obtain ⟨n, off, rfl, h2⟩ := h hS
    refine ⟨n, off, rfl, fun k hk j u hu => ?_⟩
    have := h2 k hk j u hu
    exact (hm.old (World.block_lt_of_cell? w0 _ this)).trans this
theorem OldSteps.slice {w : World} {v : Value} {S : List Stp} (h : OldSteps w v S) : ∃ A cap, v = .slice A S.length cap ∧ S.length ≤ 9223372036854775807 := by
  rcases h with ⟨rfl, rfl⟩ | ⟨a, cap, rfl, hml, _⟩
  · exact ⟨none, 0, rfl, by simp⟩
  · exact ⟨some a, cap, rfl, by unfold maxLen at hml; omega⟩
theorem list_of {α : Type} {p : Nat → α → Prop} : ∀ (n : Nat), (∀ i, i < n → ∃ x, p i x) → ∃ l : List α, l.length = n ∧ ∀ i (h : i < l.length), p i l[i]
  | 0, _ => ⟨[], rfl, fun i h => by simp at h⟩
  | n + 1, h => by
    obtain ⟨l, hl, hp⟩ := list_of n (fun i hi => h i (by omega))
    obtain ⟨x, hx⟩ := h n (by omega)
    refine ⟨l ++ [x], by simp [hl], fun i hi => ?_⟩
    by_cases hi' : i < l.length
    · rw [List.getElem_append_left hi']; exact hp i hi'
    · obtain rfl : i = l.length := by simp at hi; omega
      rw [List.getElem_append_right (by omega)]
      simp only [Nat.sub_self, List.getElem_cons_zero]
      rw [hl]; exact hx
section
variable {H : Type} {enc : TypeId × Value → H} {P : Program} {w : World} {base : Nat} {spare : Nat → Bool} {held : Bool}
theorem old_steps {tl te ti : TypeId} {fuel : Nat} {v : Value} {y : DataW H × List MemPlace} (ht : P.underlying tl = some (.slice te)) (hc : P.cellsOf te = 4) (hok : leafsOk P 6 te = true) (hl : leafs P 6 te = List.replicate 4 ti) (hi : P.underlying ti = some (.int .i64))
    (h : DataW.trod enc P w base spare held fuel tl [v] = some y) : ∃ S : List Stp, OldSteps w v S ∧ ∀ s ∈ S, ∀ x ∈ stI s, I64 x := by
  rcases open_slice ht h with ⟨h0, _⟩ | ⟨a, len, cap, m, n, D, Pl, hv, hb, hle, hm, hmm, _, hx⟩
  · simp only [List.cons.injEq, and_true] at h0
    exact ⟨[], .inl ⟨h0, rfl⟩, by simp⟩
  simp only [List.cons.injEq, and_true] at hv
  subst hv
  have hml : len ≤ m := by rw [hmm]; split <;> omega
  have h1 : ∀ i, i < len → ∃ s : Stp, w.cells? base (a.add (i * 4)) 4 = some ((stI s).map iv) ∧ ∀ x ∈ stI s, I64 x := fun i hi' => by
    obtain ⟨cs', e1, e2⟩ := hx i (by omega)
    rw [hc] at e1
    have hlf := trod_leafs 6 te n cs' _ hok e2 (by rw [hc]; exact (World.cells?_some e1).2.1)
    rw [hl] at hlf
    obtain ⟨l, rfl, hl4, hw⟩ := leaf_int hi 4 cs' hlf
    obtain ⟨p, q, r, s, rfl⟩ := list4 hl4
    exact ⟨(p, q, r, s), e1, hw⟩
  obtain ⟨S, hSl, hS⟩ := list_of len h1
  subst hSl
  refine ⟨S, .inr ⟨a, cap, rfl, Nat.le_trans hle hm, fun hne => ?_⟩, fun s hs => ?_⟩
  · have hpos : 0 < S.length := List.length_pos_iff.2 hne
    obtain ⟨_, _, h3⟩ := World.cells?_some (hS 0 hpos).1
    have h4 := h3 0 (by omega)
    simp only [Nat.zero_mul, Addr.add, if_true] at h4
    have hsp : a.spot = none := World.cell?_spot (v := iv S[0].1) (by rw [h4]; rfl)
    obtain ⟨blk, off, sp⟩ := a
    simp only at hsp
    subst hsp
    refine ⟨blk, off, rfl, fun k hk j u hu => ?_⟩
    obtain ⟨_, h6, h7⟩ := World.cells?_some (hS k hk).1
    have hj : j < 4 := by
      have := (List.getElem?_eq_some_iff.1 hu).1
      simpa [stI] using this
    have h8 := h7 j hj
    rw [hu] at h8
    rw [← h8]
    congr 1
    unfold Addr.add
    by_cases hk0 : k * 4 = 0 <;> by_cases hj0 : j = 0 <;> simp [hk0, hj0]
  · obtain ⟨i, hi', rfl⟩ := List.getElem_of_mem hs
    exact (hS i hi').2
theorem leaf_append {t1 t2 : List TypeId} {cs : List Value} (h : LeafAt enc P w base spare held (t1 ++ t2) cs) : ∃ c1 c2, cs = c1 ++ c2 ∧ LeafAt enc P w base spare held t1 c1 ∧ LeafAt enc P w base spare held t2 c2 := by
  obtain ⟨hl, h⟩ := h
  rw [List.length_append] at hl
  refine ⟨cs.take t1.length, cs.drop t1.length, (List.take_append_drop _ _).symm, ⟨by simp; omega, fun j t hj => ?_⟩, ⟨by simp; omega, fun j t hj => ?_⟩⟩
  · have hlt := (List.getElem?_eq_some_iff.1 hj).1
    obtain ⟨v, f, y, h1, h2⟩ := h j t (by rw [List.getElem?_append_left hlt]; exact hj)
    exact ⟨v, f, y, by rw [List.getElem?_take, if_pos hlt]; exact h1, h2⟩
  · obtain ⟨v, f, y, h1, h2⟩ := h (t1.length + j) t (by rw [List.getElem?_append_right (by omega)]; simpa using hj)
    exact ⟨v, f, y, by rw [List.getElem?_drop]; exact h1, h2⟩
/-- A replay as it is handed over. -/
theorem open_replay {t tl te ti : TypeId} {cs : List Value} (hr : leafs P 6 t = List.replicate 16 ti ++ [tl]) (ht : P.underlying tl = some (.slice te)) (hc : P.cellsOf te = 4) (hok : leafsOk P 6 te = true) (hl : leafs P 6 te = List.replicate 4 ti) (hi : P.underlying ti = some (.int .i64))
    (h : LeafAt enc P w base spare held (leafs P 6 t) cs) : ∃ (b : List Int) (v : Value) (S : List Stp), cs = b.map iv ++ [v] ∧ b.length = 16 ∧ OldSteps w v S := by
  rw [hr] at h
  obtain ⟨c1, c2, rfl, h1, h2⟩ := leaf_append h
  obtain ⟨b, rfl, hb, _⟩ := leaf_int hi 16 c1 h1
  obtain ⟨hl2, h2⟩ := h2
  obtain ⟨v, f, y, h3, h4⟩ := h2 0 tl rfl
  match c2, hl2, h3 with
  | [u], _, h3 =>
    simp only [List.getElem?_cons_zero, Option.some.injEq] at h3
    subst h3
    obtain ⟨S, hS, _⟩ := old_steps ht hc hok hl hi h4
    exact ⟨b, u, S, rfl, hb, hS⟩
end
section
variable {P : Program} {ops : Array Oper} {rest : List Oper} {o : Oper} {a : Act} {w0 w : World} {σ : List Blk} {Q : Exit → Act → World → Prop}
/-- A row that lay in memory before the call. -/
theorem mlo {T : TypeId} {x : Operand} {n off s : Nat} {cs : List Value} [hT : IsRow P T s] (hm : Mem w0 w σ) (hr : w0.rangeAt n off cs) (hl : cs.length = s) (ho : o.op = .load T x) (hw : Region.wanted o (yielded ops a.tmps) = true) (hx : ev a x = some (.pointer (some ⟨n, off, none⟩)))
    (k : wpList P ops Q rest (a.put o.dst (.agg cs.toArray)) w) : wpList P ops Q (o :: rest) a w := by
  obtain ⟨d, hu, hd⟩ := hT.out
  refine wpList_step fun K hK => ?_
  rw [if_pos hw]
  exact wp_load_mid T x ho n off (ev_eval hx) _ d (fun j u hu => (hm.old (World.block_lt_of_cell? w0 _ (hr j u hu))).trans (hr j u hu)) hu hd (by rw [hl]; exact hT.size) (hK _ _ k)
end
def fillS (S : List Stp) (k : Nat) : List Int := (S.take k).flatMap stI ++ List.replicate ((S.length - k) * 4) 0
theorem fillS_len (S : List Stp) (k : Nat) (h : k ≤ S.length) : (fillS S k).length = S.length * 4 := by
  rw [fillS, List.length_append, fm_len (s := 4) _ (fun a _ => stI_len a), List.length_take, List.length_replicate, Nat.min_eq_left h]
  omega
theorem fillS_set (S : List Stp) (k : Nat) (h : k < S.length) : splice ((fillS S k).map iv) (k * 4) ((stI S[k]).map iv) = (fillS S (k + 1)).map iv := by
  have e : List.replicate ((S.length - k) * 4) (0 : Int) = [0, 0, 0, 0] ++ List.replicate ((S.length - (k + 1)) * 4) 0 := by
    rw [show (S.length - k) * 4 = 4 + (S.length - (k + 1)) * 4 from by omega, ← List.replicate_append_replicate]; rfl
  have hl : ((S.take k).flatMap stI).length = k * 4 := by rw [fm_len (s := 4) _ (fun a _ => stI_len a), List.length_take, Nat.min_eq_left (by omega)]
  have hs := splice_at ((stI S[k]).map iv) (((S.take k).flatMap stI).map iv) ((List.replicate ((S.length - k) * 4) (0 : Int)).map iv) (by simp [stI_len]; omega)
  rw [List.length_map, hl] at hs
  unfold fillS
  rw [List.map_append, hs, e, List.take_succ_eq_append_getElem h, List.flatMap_append, List.map_append, List.map_append, List.map_append, List.append_assoc, List.append_assoc]
  simp [stI]
end Go.Proofs.YtelnajpjanmliaaGreat

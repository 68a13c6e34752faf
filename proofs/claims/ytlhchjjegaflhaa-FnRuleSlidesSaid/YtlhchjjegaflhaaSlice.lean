/-
  Rules for slices that the call itself makes: literals, append. No condition of their own.
-/
import Derived.Test.YtlhchjjegaflhaaMem
import Derived.Deep.AppendLies
set_option linter.unusedVariables false
set_option linter.unusedSimpArgs false
namespace Go.Proofs.Ytlhchjjegaflhaa
open Go.RowKit

/-- A slice type: its elements' type, their cells, their bytes. -/
class IsSlice (P : Program) (t : TypeId) (e : outParam TypeId) (s : outParam Nat) (b : outParam Nat) : Prop where
  out : P.underlying t = some (.slice e)
  chk : ((P.info? e).map fun i => i.size == s && i.bytes == b && (match i.zero with | some z => z.cells.size == s | none => false)) = some true
  pos : 0 < s
theorem IsSlice.elem {P : Program} {t e : TypeId} {s b : Nat} (h : IsSlice P t e s b) : ∃ (i : TypeInfo) (z : Value), P.info? e = some i ∧ i.zero = some z ∧ i.size = s ∧ i.bytes = b ∧ z.cells.size = s := by
  have hc := h.chk
  cases hi : P.info? e with
  | none => simp [hi] at hc
  | some i =>
    simp only [hi, Option.map_some, Option.some.injEq, Bool.and_eq_true, beq_iff_eq] at hc
    cases hz : i.zero with
    | none => simp [hz] at hc
    | some z => exact ⟨i, z, rfl, hz, hc.1.1, hc.1.2, by simpa [hz] using hc.2⟩
def evP (a : Act) : Nat → List (Nat × Operand) → Option (List Value)
  | _, [] => some []
  | k, (i, x) :: r => if i = k then (match ev a x, evP a (k + 1) r with
    | some v, some vs => some (v :: vs)
    | _, _ => none) else none

theorem foldl_set (off : Nat) : ∀ (vs : List Value) (j : Nat) (c : Array Value), ((vs.zipIdx j).foldl (fun cs x => cs.setIfInBounds (off + x.2) x.1) c) = (splice c.toList (off + j) vs).toArray
  | [], j, c => by simp [splice]
  | v :: vs, j, c => by
    rw [List.zipIdx_cons, List.foldl_cons, foldl_set off vs (j + 1)]
    simp [splice, Nat.add_assoc]

theorem splice_at : ∀ (vs pre post : List Value), vs.length ≤ post.length → splice (pre ++ post) pre.length vs = pre ++ vs ++ post.drop vs.length
  | [], pre, post, _ => by simp [splice]
  | v :: vs, pre, [], h => by simp at h
  | v :: vs, pre, p :: post, h => by
    have h1 : (pre ++ p :: post).set pre.length v = (pre ++ [v]) ++ post := by simp
    rw [splice, h1]
    have := splice_at vs (pre ++ [v]) post (by simpa using h)
    simp only [List.length_append, List.length_cons, List.length_nil] at this
    rw [this]
    simp

theorem fill_all (s : Nat) (a : Act) : ∀ (parts : List (Nat × Operand)) (vals : List Value) (k : Nat) (pre post : List Value), evP a k parts = some vals → (∀ v ∈ vals, v.cells.size = s) → pre.length = k * s → post.length = vals.length * s →
    Instr.fill (fun i => some (i * s, s)) (pre ++ post).toArray (parts.map fun x => (x.1, a.eval x.2)) = some (pre ++ vals.flatMap fun v => v.cells.toList).toArray
  | [], vals, k, pre, post, h, _, _, hl => by
    simp only [evP, Option.some.injEq] at h
    subst h
    have : post = [] := by simpa using hl
    subst this
    simp [Instr.fill]
  | (i, x) :: r, vals, k, pre, post, h, hs, hp, hl => by
    unfold evP at h
    split at h
    case isFalse => cases h
    case isTrue hk =>
    subst hk
    split at h
    case h_2 => cases h
    case h_1 v vs hv hvs =>
    simp only [Option.some.injEq] at h
    subst h
    have hsz := hs v (by simp)
    simp only [List.map_cons, Instr.fill, ev_eval hv]
    have hl' : post.length = s + vs.length * s := by rw [hl, List.length_cons, Nat.succ_mul]; omega
    rw [if_neg (by simp [hsz]; omega)]
    have e1 : (v.cells.zipIdx.foldl (fun cs x => cs.setIfInBounds (i * s + x.2) x.1) (pre ++ post).toArray) = (splice (pre ++ post) (i * s) v.cells.toList).toArray := by
      have := foldl_set (i * s) v.cells.toList 0 (pre ++ post).toArray
      rw [← Array.foldl_toList]
      simpa using this
    have e2 : splice (pre ++ post) (i * s) v.cells.toList = (pre ++ v.cells.toList) ++ post.drop s := by
      rw [← hp, splice_at _ _ _ (by simp [hsz]; omega)]
      simp [hsz]
    have e3 := fill_all s a r vs (i + 1) (pre ++ v.cells.toList) (post.drop s) hvs (fun u hu => hs u (by simp [hu])) (by simp [hsz, hp, Nat.succ_mul]) (by simp [hl'])
    rw [show (fun (cs : Array Value) (x : Value × Nat) => match x with | (c, j) => cs.setIfInBounds (i * s + j) c) = fun cs x => cs.setIfInBounds (i * s + x.2) x.1 from rfl, e1, e2]
    rw [e3]
    simp

section
variable {P : Program} {ops : Array Oper} {rest : List Oper} {o : Oper} {a : Act} {w0 w : World} {σ : List Blk} {Q : Exit → Act → World → Prop} {n i : Nat} {c : List Value} {t : TypeId}
theorem gbs {d : Option Tmp} {T ty : TypeId} {m : Nat} {ps : Array (Nat × Operand)} {po : String} {af : Array Edge} {gd : Option (Nat × Bool)} (k : wpList P ops Q (⟨d, .buildSlice T m ps, ty, po, af, gd⟩ :: rest) a w) : wpList P ops Q (⟨d, .buildSlice T m ps, ty, po, af, gd⟩ :: rest) a w := k
/-- '[]T{v0, v1, ..}'. -/
theorem mbs {T e : TypeId} {len s b : Nat} {parts : Array (Nat × Operand)} {vals : List Value} [hT : IsSlice P T e s b] (hm : Mem w0 w σ) (ho : o.op = .buildSlice T len parts) (hw : Region.wanted o (yielded ops a.tmps) = true) (hx : evP a 0 parts.toList = some vals)
    (k : ∀ n w', Mem w0 w' (⟨n, vals.flatMap (fun v => v.cells.toList), e⟩ :: σ) → wpList P ops Q rest (a.put o.dst (.slice (some ⟨n, 0, none⟩) len len)) w')
    (hl : vals.length = len := by first | rfl | (simp; done)) (hs : ∀ v ∈ vals, v.cells.size = s := by first | (intro v hv; simp at hv; done) | (simp [Value.cells]; done)) (hb : ¬ (len * s > 2 ^ 24) := by first | decide | omega) : wpList P ops Q (o :: rest) a w := by
  refine wpList_step fun K hK => ?_
  rw [if_pos hw]
  obtain ⟨i, z, hi, hz, hsz, hby, hzs⟩ := hT.elem
  have hf := fill_all s a parts.toList vals 0 [] ((Array.range (len * s)).map (z.cells[· % z.cells.size]!)).toList hx hs (by simp) (by simp [hl])
  have hz' : (zeroValue e).run P w = .ok z w := by simp [zeroValue, typeInfo, hi, hz, go_sem]
  have hr : (Instr.buildSlice T len (parts.map fun (i, x) => (i, a.eval x))).run P w = .ok (.slice (some ⟨w.heap.size, 0, none⟩) len len) (w.alloc (.cells (vals.flatMap fun v => v.cells.toList).toArray e)) := by
    unfold Instr.buildSlice
    simp only [Sem.run_bind, run_underlying hT.out, Result.andThen_ok, sizeOf, typeInfo]
    simp only [Sem.run_bind, Sem.run_pure, run_program, Result.andThen_ok, hi, hsz]
    rw [if_neg hb]
    have hf1 : ∀ (Z : Array Value), (len * s = 0 ∨ Z = z.cells) → Instr.fill (fun i => some (i * s, s)) ((Array.range (len * s)).map fun x => Z[x % Z.size]!) (parts.map fun x => (x.1, a.eval x.2)).toList = some (vals.flatMap fun v => v.cells.toList).toArray := by
      intro Z hZ
      have e1 : (parts.map fun x => (x.1, a.eval x.2)).toList = parts.toList.map fun x => (x.1, a.eval x.2) := by simp
      rw [e1]
      rw [List.nil_append, List.nil_append, Array.toArray_toList] at hf
      rcases hZ with hZ | rfl
      · have e2 : ((Array.range (len * s)).map fun x => Z[x % Z.size]!) = ((Array.range (len * s)).map fun x => z.cells[x % z.cells.size]!) := Array.ext (by simp) fun i h1 h2 => by simp [hZ] at h1
        rw [e2]
        exact hf
      · exact hf
    split
    · rename_i h0
      have := hf1 #[] (.inl h0)
      simp only [Sem.run_bind, Sem.run_pure, Result.andThen_ok, this, newRow, run_newObj_alloc]
    · have := hf1 z.cells (.inr rfl)
      simp only [Sem.run_bind, Sem.run_pure, Result.andThen_ok, hz', this, newRow, run_newObj_alloc]
  unfold Oper.wp execOp
  simp only [ho, Sem.run_bind, hr, Result.andThen_ok, Sem.run_pure]
  exact hK _ _ (k _ _ (hm.alloc _ e))
/-! append -/
theorem erase_ne {n : Nat} {c : List Value} {t : TypeId} : ∀ {σ : List Blk} {i : Nat}, σ[i]? = some ⟨n, c, t⟩ → (σ.Pairwise fun a b => a.n ≠ b.n) → ∀ b ∈ σ.eraseIdx i, b.n ≠ n
  | [], i, h, _ => by simp at h
  | x :: σ, 0, h, hp => fun b hb => by
    simp at h
    subst h
    simp only [List.eraseIdx_cons_zero] at hb
    exact fun e => (List.pairwise_cons.1 hp).1 b hb e.symm
  | x :: σ, i + 1, h, hp => fun b hb => by
    simp only [List.eraseIdx_cons_succ, List.mem_cons] at hb
    have h' : σ[i]? = some ⟨n, c, t⟩ := by simpa using h
    rcases hb with rfl | hb
    · have := (List.pairwise_cons.1 hp).1 ⟨n, c, t⟩ (List.mem_of_getElem? h')
      exact this
    · exact erase_ne h' (List.pairwise_cons.1 hp).2 b hb

theorem mem_grown {w' : World} {g : Nat} {c' : List Value} {row : Option Nat} {τ : List Blk} (hm : Mem w0 w σ) (hτ : τ.Sublist σ) (hne : ∀ b ∈ τ, some b.n ≠ row) (hrow : ∀ k, row = some k → w0.heap.size ≤ k) (hg : w.grownBy w' row) (hgr : row = some g ∨ g = w.heap.size)
    (hl : w'.heap[g]? = some (.cells c'.toArray t (0, 0))) : Mem w0 w' (⟨g, c', t⟩ :: τ) := by
  have hs := hm.below.size
  have hlt : ∀ b ∈ τ, b.n < w.heap.size := fun b hb => (Array.getElem?_eq_some_iff.1 (hm.lies b (hτ.subset hb))).1
  refine ⟨hm.below.grown hg hs hrow, fun b hb => ?_, fun b hb => ?_, List.pairwise_cons.2 ⟨fun b hb e => ?_, hm.apart.sublist hτ⟩⟩
  · rcases List.mem_cons.1 hb with rfl | hb
    · rcases hgr with h | h
      · exact hrow g h
      · show w0.heap.size ≤ g; omega
    · exact hm.own b (hτ.subset hb)
  · rcases List.mem_cons.1 hb with rfl | hb
    · exact hl
    · rw [hg.block b.n (hlt b hb) (hne b hb)]
      exact hm.lies b (hτ.subset hb)
  · have e' : g = b.n := e
    rcases hgr with h | h
    · exact hne b hb (by rw [h, e'])
    · have := hlt b hb
      omega

/-- The capacity and the length of a slice that stands at the head of a block. -/
structure Fit (c : List Value) (s len cap : Nat) : Prop where
  le : len ≤ cap
  most : cap ≤ maxLen
  size : c.length = cap * s

theorem gap {d : Option Tmp} {ty : TypeId} {xs : Array Operand} {ts : Array TypeId} {po : String} {af : Array Edge} {gd : Option (Nat × Bool)} (k : wpList P ops Q (⟨d, .call ⟨.builtin .append, xs, ts⟩, ty, po, af, gd⟩ :: rest) a w) : wpList P ops Q (⟨d, .call ⟨.builtin .append, xs, ts⟩, ty, po, af, gd⟩ :: rest) a w := k

/-- 'append(xs, v0, ..)': what is appended lies in a block of its own, which is given up. -/
theorem map_ {T e t2 : TypeId} {s b len cap m cc n2 j : Nat} {sx x : Operand} {news : List Value} [hT : IsSlice P T e s b] [hA : At σ n c e i] [hB : At σ n2 news t2 j] (hm : Mem w0 w σ)
    (ho : o.op = .call { callee := .builtin .append, args := #[sx, x], argTypes := #[T, T] }) (hw : Region.wanted o (yielded ops a.tmps) = true)
    (hs : ev a sx = some (.slice (some ⟨n, 0, none⟩) len cap)) (hx : ev a x = some (.slice (some ⟨n2, 0, none⟩) m cc)) (hf : Fit c s len cap)
    (k : ∀ g cap' more w', Mem w0 w' (⟨g, c.take (len * s) ++ news ++ more, e⟩ :: (σ.eraseIdx i).eraseIdx (if j < i then j else j - 1)) → Fit (c.take (len * s) ++ news ++ more) s (len + m) cap' → wpList P ops Q rest (a.put o.dst (.slice (some ⟨g, 0, none⟩) (len + m) cap')) w')
    (hn : news.length = m * s := by first | rfl | (simp; done) | (simp; omega)) (h1 : ∀ u ∈ news, u.oneCell' = true := by first | (simp [Value.oneCell']; done) | assumption) (h0 : 0 < m := by first | decide | omega) (h63 : len + m ≤ maxLen := by first | (unfold maxLen; omega) | omega) (hb : (len + m) * b ≤ 140737488355328 := by omega) : wpList P ops Q (o :: rest) a w := by
  refine wpList_step fun K hK => ?_
  rw [if_pos hw]
  obtain ⟨ti, z, hi, hz, hsz, hby, hzs⟩ := hT.elem
  have hown : w.ownsRow w0.heap.size e s (.slice (some ⟨n, 0, none⟩) len cap) len (c.take (len * s)) := by
    have hle : len * s ≤ cap * s := Nat.mul_le_mul_right _ hf.le
    refine ⟨by rw [List.length_take, hf.size]; omega, .inr ⟨n, cap, c.toArray, rfl, hm.ge (.of hA.out), hm.get (.of hA.out), hf.le, hf.most, by simpa using hf.size, by simp⟩⟩
  obtain ⟨g, cap', w', hr, hown', hg, hgr, _⟩ := run_append_lies (P := P) (w := w) T o.type w0.heap.size e ti z s b hT.out hi hz hsz hby hzs hT.pos _ len _ hown ⟨n2, 0, none⟩ m cc news hn
    (fun jj u hu => by rw [Addr.add_mid, Nat.zero_add]; exact (hm.cell (.of hB.out) jj).trans hu) h1 h0 h63 hb hm.below.size w.heap.size rfl
  unfold Oper.wp execOp
  simp only [ho, resolve, invoke, builtin, Sem.run_bind, Sem.run_pure, Result.andThen_ok, List.map_toArray, List.map_cons, List.map_nil, ev_eval hs, ev_eval hx, hr]
  obtain ⟨hlen, hn' | ⟨g', cap2, cur, e1, _, hh, h4, h5, h6, h7⟩⟩ := hown'
  · exact absurd hn'.1 (by simp)
  simp only [Value.slice.injEq, Option.some.injEq, Addr.mk.injEq, and_true, true_and] at e1
  obtain ⟨rfl, rfl⟩ := e1
  have hcur : cur.toList = c.take (len * s) ++ news ++ cur.toList.drop ((len + m) * s) := by rw [← h7, List.take_append_drop]
  refine hK _ _ (k g cap' (cur.toList.drop ((len + m) * s)) w' ?_ ⟨h4, h5, by rw [← hcur]; simpa using h6⟩)
  have hsub : ((σ.eraseIdx i).eraseIdx (if j < i then j else j - 1)).Sublist σ := (List.eraseIdx_sublist _ _).trans (List.eraseIdx_sublist _ _)
  refine mem_grown hm hsub (row := some n) (fun b hb e => ?_) (fun k hk => by cases hk; exact hm.ge (.of hA.out)) hg hgr (by rw [← hcur]; simpa using hh)
  have := erase_ne hA.out hm.apart b ((List.eraseIdx_sublist _ _).subset hb)
  exact this (by simpa using e)
/-- A slice that the call itself has made: its elements' cells, at the head of the list of blocks. -/
def Sl (w0 w : World) (v : Value) (e : TypeId) (s : Nat) (xs : List Value) (σ : List Blk) : Prop :=
  ∃ g more len cap, v = .slice (some ⟨g, 0, none⟩) len cap ∧ Mem w0 w (⟨g, xs ++ more, e⟩ :: σ) ∧ Fit (xs ++ more) s len cap ∧ xs.length = len * s
theorem Sl.new {g : Nat} {e : TypeId} {s : Nat} (hm : Mem w0 w (⟨g, [], e⟩ :: σ)) : Sl w0 w (.slice (some ⟨g, 0, none⟩) 0 0) e s [] σ :=
  ⟨g, [], 0, 0, rfl, hm, ⟨Nat.le_refl _, by unfold maxLen; omega, by simp⟩, by simp⟩
theorem Sl.of {g : Nat} {e : TypeId} {s len cap : Nat} {xs more : List Value} (hm : Mem w0 w (⟨g, xs ++ more, e⟩ :: σ)) (hf : Fit (xs ++ more) s len cap) (hx : xs.length = len * s) : Sl w0 w (.slice (some ⟨g, 0, none⟩) len cap) e s xs σ :=
  ⟨g, more, len, cap, rfl, hm, hf, hx⟩
end
/-! an array's elements -/
/-- An array type: its length, its elements' type; the elements are one cell, or rows of s cells. -/
class IsArr (P : Program) (T : TypeId) (n : outParam Nat) (e : outParam TypeId) : Prop where out : P.underlying T = some (.array n e)
theorem run_index_cell {P : Program} {T e : TypeId} {n : Nat} [hT : IsArr P T n e] [hc : IsCell P e] [hs : CellSize P e] {cs : List Value} {k : IntKind} {i : Int} {v : Value} (h0 : 0 ≤ i) (h1 : i < n) (hv : cs[i.toNat]? = some v) (w : World) :
    (Instr.index T (.agg cs.toArray) (.int k i)).run P w = .ok v w := by
  obtain ⟨d, hu, hd⟩ := hc.out
  have hz := hs.size
  cases hq : P.info? e with
  | none => simp [hq] at hz
  | some ti =>
    have hz' : ti.size = 1 := by simpa [hq] using hz
    unfold Instr.index
    simp only [asIntOf, Sem.run_bind, Sem.run_pure, Result.andThen_ok, run_underlying hT.out, h0, h1, and_self, if_true, sizeOf, typeInfo, run_program, hq, hz', part, isAgg, run_underlying hu]
    cases d <;> simp_all [TypeDesc.isRow, go_sem]
theorem run_index_row {P : Program} {T e : TypeId} {n s : Nat} [hT : IsArr P T n e] [hc : IsRow P e s] {cs : List Value} {k : IntKind} {i : Int} (h0 : 0 ≤ i) (h1 : i < n) (w : World) :
    (Instr.index T (.agg cs.toArray) (.int k i)).run P w = .ok (.agg ((cs.drop (i.toNat * s)).take s).toArray) w := by
  obtain ⟨d, hu, hd⟩ := hc.out
  have hz := hc.size
  cases hq : P.info? e with
  | none => simp [hq] at hz
  | some ti =>
    have hz' : ti.size = s := by simpa [hq] using hz
    unfold Instr.index
    simp only [asIntOf, Sem.run_bind, Sem.run_pure, Result.andThen_ok, run_underlying hT.out, h0, h1, and_self, if_true, sizeOf, typeInfo, run_program, hq, hz', part, isAgg, run_underlying hu]
    have e1 : ((cs.toArray.extract (i.toNat * s) (i.toNat * s + s)) : Array Value) = ((cs.drop (i.toNat * s)).take s).toArray := by
      simp [List.extract_toArray, List.extract_eq_take_drop]
    cases d <;> simp_all [TypeDesc.isRow, go_sem]
section
variable {P : Program} {ops : Array Oper} {rest : List Oper} {o : Oper} {a : Act} {w : World} {Q : Exit → Act → World → Prop}
theorem gix {d : Option Tmp} {T ty : TypeId} {x y : Operand} {ps : String} {af : Array Edge} {gd : Option (Nat × Bool)} (k : wpList P ops Q (⟨d, .index T x y, ty, ps, af, gd⟩ :: rest) a w) : wpList P ops Q (⟨d, .index T x y, ty, ps, af, gd⟩ :: rest) a w := k
theorem mix {T e : TypeId} {n : Nat} {x y : Operand} {cs : List Value} {kk : IntKind} {i : Int} {v : Value} [IsArr P T n e] [IsCell P e] [CellSize P e] (ho : o.op = .index T x y) (hw : Region.wanted o (yielded ops a.tmps) = true) (hx : ev a x = some (.agg cs.toArray)) (hy : ev a y = some (.int kk i))
    (k : wpList P ops Q rest (a.put o.dst v) w) (h0 : 0 ≤ i := by omega) (h1 : i < n := by omega) (hv : cs[i.toNat]? = some v := by first | rfl | assumption | (simp; done)) : wpList P ops Q (o :: rest) a w := by
  refine wpList_step fun K hK => ?_
  rw [if_pos hw]
  unfold Oper.wp execOp
  simp only [ho, ev_eval hx, ev_eval hy, Sem.run_bind, run_index_cell h0 h1 hv w, Result.andThen_ok, Sem.run_pure]
  exact hK _ _ k
theorem mixr {T e : TypeId} {n s : Nat} {x y : Operand} {cs : List Value} {kk : IntKind} {i : Int} [IsArr P T n e] [IsRow P e s] (ho : o.op = .index T x y) (hw : Region.wanted o (yielded ops a.tmps) = true) (hx : ev a x = some (.agg cs.toArray)) (hy : ev a y = some (.int kk i))
    (k : wpList P ops Q rest (a.put o.dst (.agg ((cs.drop (i.toNat * s)).take s).toArray)) w) (h0 : 0 ≤ i := by omega) (h1 : i < n := by omega) : wpList P ops Q (o :: rest) a w := by
  refine wpList_step fun K hK => ?_
  rw [if_pos hw]
  unfold Oper.wp execOp
  simp only [ho, ev_eval hx, ev_eval hy, Sem.run_bind, run_index_row h0 h1 w, Result.andThen_ok, Sem.run_pure]
  exact hK _ _ k
end
end Go.Proofs.Ytlhchjjegaflhaa

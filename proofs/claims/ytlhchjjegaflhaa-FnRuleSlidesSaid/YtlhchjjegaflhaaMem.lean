/-
  What a walk knows of the memory that its own call has made: a list of blocks, named by variables. Rules for the operations that touch memory. No condition of their own.
-/
import Derived.Test.YtlhchjjegaflhaaLift
import Derived.WalkLawsBesides
import Derived.Handy
import Derived.Deep.MidRow
import Derived.Laws.ResultCell
import Derived.Deep.QuietTactic
import Derived.BigQuiet
set_option linter.unusedVariables false
set_option linter.unusedSimpArgs false
namespace Go.Proofs.Ytlhchjjegaflhaa
open Go.RowKit

structure Blk where
  n : Nat
  c : List Value
  t : TypeId

structure Mem (w0 w : World) (σ : List Blk) : Prop where
  below : Below w0.heap.size w0 w
  own : ∀ b ∈ σ, w0.heap.size ≤ b.n
  lies : ∀ b ∈ σ, w.heap[b.n]? = some (.cells b.c.toArray b.t (0, 0))
  apart : σ.Pairwise fun a b => a.n ≠ b.n

inductive Has : List Blk → Nat → List Value → TypeId → Prop
  | here {n c t σ} : Has (⟨n, c, t⟩ :: σ) n c t
  | there {n c t b σ} (h : Has σ n c t) : Has (b :: σ) n c t
inductive Upd : List Blk → Nat → List Value → List Blk → Prop
  | here {n c c' t σ} : Upd (⟨n, c, t⟩ :: σ) n c' (⟨n, c', t⟩ :: σ)
  | there {n c' b σ σ'} (h : Upd σ n c' σ') : Upd (b :: σ) n c' (b :: σ')

theorem Has.mem {σ : List Blk} {n : Nat} {c : List Value} {t : TypeId} (h : Has σ n c t) : ⟨n, c, t⟩ ∈ σ := by
  induction h with
  | here => exact List.mem_cons_self
  | there _ ih => exact List.mem_cons_of_mem _ ih

theorem Mem.start (w : World) : Mem w w [] := ⟨Below.refl _ _, by simp, by simp, List.Pairwise.nil⟩

section
variable {w0 w : World} {σ : List Blk} {n : Nat} {c : List Value} {t : TypeId}
theorem Mem.get (hm : Mem w0 w σ) (h : Has σ n c t) : w.heap[n]? = some (.cells c.toArray t (0, 0)) := hm.lies _ h.mem
theorem Mem.ge (hm : Mem w0 w σ) (h : Has σ n c t) : w0.heap.size ≤ n := hm.own _ h.mem
theorem Mem.lt (hm : Mem w0 w σ) (h : Has σ n c t) : n < w.heap.size := (Array.getElem?_eq_some_iff.1 (hm.get h)).1
theorem Mem.cell (hm : Mem w0 w σ) (h : Has σ n c t) (o : Nat) : w.cell? ⟨n, o, none⟩ = c[o]? := by
  rw [cell_of_row w n o _ t (0, 0) (hm.get h)]; simp
theorem Mem.frozen (hm : Mem w0 w σ) (h : Has σ n c t) (o : Nat) : w.frozen? ⟨n, o, none⟩ = false := frozen_of_row w n o _ t (hm.get h)
theorem Mem.old (hm : Mem w0 w σ) {a : Addr} (h : a.block < w0.heap.size) : w.cell? a = w0.cell? a := hm.below.cell h

theorem Upd.own {σ' : List Blk} {c' : List Value} (h : Upd σ n c' σ') : σ'.map Blk.n = σ.map Blk.n := by
  induction h with
  | here => rfl
  | there _ ih => simp [ih]
theorem Upd.of {σ' : List Blk} {c' : List Value} (h : Upd σ n c' σ') (hp : σ.Pairwise fun a b => a.n ≠ b.n) : ∀ b ∈ σ', (∃ t, b = ⟨n, c', t⟩ ∧ ∃ c, ⟨n, c, t⟩ ∈ σ) ∨ (b ∈ σ ∧ b.n ≠ n) := by
  induction h with
  | @here n c c' t σ =>
    intro b hb
    rcases List.mem_cons.1 hb with rfl | hb
    · exact .inl ⟨t, rfl, c, by simp⟩
    · exact .inr ⟨by simp [hb], fun e => (List.pairwise_cons.1 hp).1 b hb e.symm⟩
  | @there n c' b0 σ σ' h ih =>
    intro b hb
    have hp' := (List.pairwise_cons.1 hp)
    rcases List.mem_cons.1 hb with rfl | hb
    · refine .inr ⟨by simp, fun e => ?_⟩
      have : n ∈ σ.map Blk.n := by
        clear ih hb hp hp' e
        induction h with
        | here => simp
        | there _ ih => simp only [List.map_cons, List.mem_cons]; exact .inr ih
      obtain ⟨x, hx, hxn⟩ := List.mem_map.1 this
      exact hp'.1 x hx (by rw [e, hxn])
    · rcases ih hp'.2 b hb with ⟨t, e, c, hc⟩ | ⟨h1, h2⟩
      · exact .inl ⟨t, e, c, by simp [hc]⟩
      · exact .inr ⟨by simp [h1], h2⟩
theorem pairwise_of_map {σ σ' : List Blk} (h : σ'.map Blk.n = σ.map Blk.n) (hp : σ.Pairwise fun a b => a.n ≠ b.n) : σ'.Pairwise fun a b => a.n ≠ b.n := by
  have h1 : (σ.map Blk.n).Pairwise (· ≠ ·) := List.pairwise_map.2 hp
  rw [← h] at h1
  exact List.pairwise_map.1 h1

/-- One block of the call's own is written, nothing else turns. -/
theorem Mem.upd {w' : World} {σ' : List Blk} {c' : List Value} (hm : Mem w0 w σ) (hh : Has σ n c t) (hu : Upd σ n c' σ') (hos : w'.os = w.os) (htape : w'.tape = w.tape) (hout : w'.output = w.output) (hsz : w.heap.size ≤ w'.heap.size)
    (hoth : ∀ k, k < w.heap.size → k ≠ n → w'.heap[k]? = w.heap[k]?) (hn : w'.heap[n]? = some (.cells c'.toArray t (0, 0))) : Mem w0 w' σ' := by
  refine ⟨hm.below.trans ⟨hos, htape, hout, hsz, fun k hk => ?_⟩, fun b hb => ?_, fun b hb => ?_, pairwise_of_map hu.own hm.apart⟩
  · have := hm.ge hh
    have := hm.below.size
    exact hoth k (by omega) (by omega)
  · have : b.n ∈ σ'.map Blk.n := List.mem_map.2 ⟨b, hb, rfl⟩
    rw [hu.own] at this
    obtain ⟨x, hx, e⟩ := List.mem_map.1 this
    rw [← e]
    exact hm.own x hx
  · rcases hu.of hm.apart b hb with ⟨t', rfl, c1, hc1⟩ | ⟨h1, h2⟩
    · have e1 := hm.lies _ hc1
      have e2 := hm.get hh
      rw [e2] at e1
      simp only [Option.some.injEq, Obj.cells.injEq] at e1
      rw [← e1.2.1]
      exact hn
    · have e1 := hm.lies _ h1
      rw [hoth b.n ((Array.getElem?_eq_some_iff.1 e1).1) h2]
      exact e1

theorem Mem.set (hm : Mem w0 w σ) (hh : Has σ n c t) {i : Nat} {v : Value} {σ' : List Blk} (hu : Upd σ n (c.set i v) σ') : Mem w0 (w.setCell ⟨n, i, none⟩ v) σ' :=
  hm.upd hh hu rfl rfl rfl (by simp) (fun k _ hk => heap_setCell_other _ _ _ _ hk) (by rw [heap_setCell_same w n i _ t v (hm.get hh)]; simp)

def splice : List Value → Nat → List Value → List Value
  | c, _, [] => c
  | c, o, v :: vs => splice (c.set o v) (o + 1) vs
@[simp] theorem splice_length : ∀ (vs c : List Value) (o : Nat), (splice c o vs).length = c.length
  | [], _, _ => rfl
  | v :: vs, c, o => by rw [splice, splice_length]; simp
theorem splice_get : ∀ (vs c : List Value) (o i : Nat), o + vs.length ≤ c.length → (splice c o vs)[i]? = if o ≤ i ∧ i < o + vs.length then vs[i - o]? else c[i]?
  | [], c, o, i, _ => by rw [splice, if_neg (by simp)]
  | v :: vs, c, o, i, h => by
    simp only [List.length_cons] at h
    rw [splice, splice_get vs _ _ i (by simp; omega)]
    simp only [List.length_cons]
    by_cases h1 : o + 1 ≤ i ∧ i < o + 1 + vs.length
    · rw [if_pos h1, if_pos (by omega), show i - o = (i - (o + 1)) + 1 from by omega, List.getElem?_cons_succ]
    · rw [if_neg h1]
      by_cases h2 : i = o
      · subst h2
        rw [if_pos (by omega), List.getElem?_set_self (by omega)]; simp
      · rw [if_neg (by omega), List.getElem?_set_ne (by omega)]
theorem splice_all {c vs : List Value} (h : vs.length = c.length) : splice c 0 vs = vs := by
  apply List.ext_getElem?
  intro i
  rw [splice_get _ _ _ _ (by omega)]
  by_cases hi : i < vs.length
  · rw [if_pos (by omega)]; simp
  · rw [if_neg (by omega), List.getElem?_eq_none (by omega), List.getElem?_eq_none (by omega)]

theorem setCells_block (n : Nat) (t : TypeId) : ∀ (vs c : List Value) (o : Nat) (w : World), w.heap[n]? = some (.cells c.toArray t (0, 0)) →
    (w.setCells n o vs).heap[n]? = some (.cells (splice c o vs).toArray t (0, 0)) ∧ (∀ k, k ≠ n → (w.setCells n o vs).heap[k]? = w.heap[k]?) ∧ (w.setCells n o vs).heap.size = w.heap.size ∧ (w.setCells n o vs).os = w.os ∧ (w.setCells n o vs).tape = w.tape ∧ (w.setCells n o vs).output = w.output
  | [], c, o, w, h => ⟨h, fun _ _ => rfl, rfl, rfl, rfl, rfl⟩
  | v :: vs, c, o, w, h => by
    have h1 : (w.setCell ⟨n, o, none⟩ v).heap[n]? = some (.cells (c.set o v).toArray t (0, 0)) := by rw [heap_setCell_same w n o _ t v h]; simp
    obtain ⟨a1, a2, a3, a4, a5, a6⟩ := setCells_block n t vs (c.set o v) (o + 1) _ h1
    refine ⟨a1, fun k hk => (a2 k hk).trans (heap_setCell_other _ _ _ _ hk), a3.trans (by simp), a4.trans rfl, a5.trans rfl, a6.trans rfl⟩

theorem Mem.sets (hm : Mem w0 w σ) (hh : Has σ n c t) {o : Nat} {vs : List Value} {σ' : List Blk} (hu : Upd σ n (splice c o vs) σ') : Mem w0 (w.setCells n o vs) σ' := by
  obtain ⟨a1, a2, a3, a4, a5, a6⟩ := setCells_block n t vs c o w (hm.get hh)
  exact hm.upd hh hu a4 a5 a6 (by omega) (fun k _ hk => a2 k hk) a1

theorem Mem.alloc (hm : Mem w0 w σ) (c : List Value) (t : TypeId) : Mem w0 (w.alloc (.cells c.toArray t)) (⟨w.heap.size, c, t⟩ :: σ) := by
  have hs := hm.below.size
  refine ⟨hm.below.alloc hs _, fun b hb => ?_, fun b hb => ?_, List.pairwise_cons.2 ⟨fun b hb e => ?_, hm.apart⟩⟩
  · rcases List.mem_cons.1 hb with rfl | hb
    · exact hs
    · exact hm.own b hb
  · rcases List.mem_cons.1 hb with rfl | hb
    · exact heap_alloc_new w _
    · have := hm.lies b hb
      rw [Below.heap_alloc _ _ _ ((Array.getElem?_eq_some_iff.1 this).1)]
      exact this
  · have := (Array.getElem?_eq_some_iff.1 (hm.lies b hb)).1
    simp only at e
    omega

theorem Mem.next (hm : Mem w0 w σ) {w' : World} (hb : Below w.heap.size w w') : Mem w0 w' σ :=
  ⟨hm.below.trans (hb.mono hm.below.size), hm.own, fun b h => by have := hm.lies b h; rw [hb.block _ ((Array.getElem?_eq_some_iff.1 this).1)]; exact this, hm.apart⟩
theorem Mem.drew (hm : Mem w0 w σ) : Mem w0 w.drew σ := hm.next (Below.refl _ _).drew
/-- Blocks that are not wanted any more. -/
theorem Mem.drop (hm : Mem w0 w σ) {σ' : List Blk} (h : σ'.Sublist σ) : Mem w0 w σ' :=
  ⟨hm.below, fun b hb => hm.own b (h.subset hb), fun b hb => hm.lies b (h.subset hb), hm.apart.sublist h⟩
end

theorem Has.of {n : Nat} {c : List Value} {t : TypeId} : ∀ {σ : List Blk} {i : Nat}, σ[i]? = some ⟨n, c, t⟩ → Has σ n c t
  | [], i, h => by simp at h
  | b :: σ, 0, h => by simp at h; subst h; exact .here
  | b :: σ, i + 1, h => .there (Has.of (i := i) (by simpa using h))
theorem Upd.of_set {n : Nat} {c c' : List Value} {t : TypeId} : ∀ {σ : List Blk} {i : Nat}, σ[i]? = some ⟨n, c, t⟩ → Upd σ n c' (σ.set i ⟨n, c', t⟩)
  | [], i, h => by simp at h
  | b :: σ, 0, h => by simp at h; subst h; exact .here
  | b :: σ, i + 1, h => .there (Upd.of_set (i := i) (by simpa using h))

/-- Where a block stands in the list. -/
class At (σ : List Blk) (n : Nat) (c : outParam (List Value)) (t : outParam TypeId) (i : outParam Nat) : Prop where out : σ[i]? = some ⟨n, c, t⟩
instance At.here {n : Nat} {c : List Value} {t : TypeId} {σ : List Blk} : At (⟨n, c, t⟩ :: σ) n c t 0 := ⟨rfl⟩
instance (priority := low) At.there {n i : Nat} {c : List Value} {t : TypeId} {b : Blk} {σ : List Blk} [h : At σ n c t i] : At (b :: σ) n c t (i + 1) := ⟨by simpa using h.out⟩

/-! ### types -/
class IsCell (P : Program) (t : TypeId) : Prop where out : ∃ d, P.underlying t = some d ∧ d.isRow = false
class IsRow (P : Program) (t : TypeId) (s : outParam Nat) : Prop where
  out : ∃ d, P.underlying t = some d ∧ d.isRow = true
  size : (P.info? t).map (·.size) = some s
class CellSize (P : Program) (t : TypeId) : Prop where size : (P.info? t).map (·.size) = some 1

/-! ### rules -/
section
variable {P : Program} {ops : Array Oper} {rest : List Oper} {o : Oper} {a : Act} {w0 w : World} {σ σ' : List Blk} {Q : Exit → Act → World → Prop} {n i : Nat} {c : List Value} {t : TypeId}

section
variable {d : Option Tmp} {T ty : TypeId} {x y : Operand} {ps : String} {af : Array Edge} {gd : Option (Nat × Bool)}
theorem gl (k : wpList P ops Q (⟨d, .load T x, ty, ps, af, gd⟩ :: rest) a w) : wpList P ops Q (⟨d, .load T x, ty, ps, af, gd⟩ :: rest) a w := k
theorem gs (k : wpList P ops Q (⟨d, .store T x y, ty, ps, af, gd⟩ :: rest) a w) : wpList P ops Q (⟨d, .store T x y, ty, ps, af, gd⟩ :: rest) a w := k
theorem gb (k : wpList P ops Q (⟨d, .box T x, ty, ps, af, gd⟩ :: rest) a w) : wpList P ops Q (⟨d, .box T x, ty, ps, af, gd⟩ :: rest) a w := k
theorem ga (k : wpList P ops Q (⟨d, .alloc T, ty, ps, af, gd⟩ :: rest) a w) : wpList P ops Q (⟨d, .alloc T, ty, ps, af, gd⟩ :: rest) a w := k
end
theorem up {K : Act → World → Prop} {r : Result Next} (k : Oper.upon P o a K Q r) : Oper.upon P o a K Q r := k
theorem bp {fn : Func} {R : Ending → World → Prop} {e : Exit} (k : bodyPost P fn R e a w) : bodyPost P fn R e a w := k
/-- What an operand holds. -/
def ev (a : Act) : Operand → Option Value
  | .tmp t => a.tmps.toList[t]?
  | .const v => some v
  | .global g => some (.pointer (some ⟨g, 0, none⟩))
  | .func f => some (.func (.func f) #[] #[])
theorem ev_eval {a : Act} {x : Operand} {v : Value} (h : ev a x = some v) : a.eval x = v := by
  cases x <;> simp_all [ev, Act.eval, Array.getD_eq_getD_getElem?]

theorem run_loadAt_cell {T : TypeId} {ad : Addr} {v : Value} [h : IsCell P T] (hc : w.cell? ad = some v) : (Instr.loadAt T (.pointer (some ad))).run P w = .ok v w := by
  obtain ⟨d, hu, hd⟩ := h.out
  simp only [Instr.loadAt, Instr.sureAddr, Sem.run_bind, Sem.run_pure, Result.andThen_ok, loadVar, isAgg, run_underlying hu]
  cases d <;> simp_all [TypeDesc.isRow, load, Sem.run]

theorem mem_load {T : TypeId} {x : Operand} {off : Nat} {v : Value} [IsCell P T] (hm : Mem w0 w σ) (ho : o.op = .load T x ) (hw : Region.wanted o (yielded ops a.tmps) = true ) (hx : ev a x = some (.pointer (some ⟨n, off, none⟩))) (hh : σ[i]? = some ⟨n, c, t⟩) (hv : c[off]? = some v)
    (k : wpList P ops Q rest (a.put o.dst v) w) : wpList P ops Q (o :: rest) a w := by
  refine wpList_step fun K hK => ?_
  rw [if_pos hw]
  replace hx := ev_eval hx
  have hr := run_loadAt_cell (P := P) (T := T) (w := w) (ad := ⟨n, off, none⟩) (v := v) ((hm.cell (.of hh) off).trans hv)
  unfold Oper.wp execOp
  simp only [ho, hx, Sem.run_bind, hr, Result.andThen_ok, Sem.run_pure]
  exact hK _ _ k

/-- A cell that was there before the call. -/
theorem mem_loadOld {T : TypeId} {x : Operand} {ad : Addr} {v : Value} [IsCell P T] (hm : Mem w0 w σ) (ho : o.op = .load T x ) (hw : Region.wanted o (yielded ops a.tmps) = true ) (hx : ev a x = some (.pointer (some ad))) (hv : w0.cell? ad = some v)
    (k : wpList P ops Q rest (a.put o.dst v) w) : wpList P ops Q (o :: rest) a w := by
  refine wpList_step fun K hK => ?_
  rw [if_pos hw]
  replace hx := ev_eval hx
  have hr := run_loadAt_cell (P := P) (T := T) (w := w) (ad := ad) (v := v) ((hm.old (World.block_lt_of_cell? w0 ad hv)).trans hv)
  unfold Oper.wp execOp
  simp only [ho, hx, Sem.run_bind, hr, Result.andThen_ok, Sem.run_pure]
  exact hK _ _ k

theorem Mem.range (hm : Mem w0 w σ) (hh : σ[i]? = some ⟨n, c, t⟩) (off s : Nat) : w.rangeAt n off ((c.drop off).take s) := fun j v hv => by
  rw [hm.cell (.of hh)]
  rw [List.getElem?_take] at hv
  split at hv
  · rw [List.getElem?_drop] at hv; exact hv
  · cases hv

theorem mem_loadR {T : TypeId} {x : Operand} {off s : Nat} [hT : IsRow P T s] (hm : Mem w0 w σ) (ho : o.op = .load T x ) (hw : Region.wanted o (yielded ops a.tmps) = true ) (hx : ev a x = some (.pointer (some ⟨n, off, none⟩))) (hh : σ[i]? = some ⟨n, c, t⟩)
    (hl : off + s ≤ c.length) (k : wpList P ops Q rest (a.put o.dst (.agg ((c.drop off).take s).toArray)) w) : wpList P ops Q (o :: rest) a w := by
  obtain ⟨d, hu, hd⟩ := hT.out
  have hlen : ((c.drop off).take s).length = s := by simp; omega
  refine wpList_step fun K hK => ?_
  rw [if_pos hw]
  exact wp_load_mid T x ho n off (ev_eval hx) _ d (hm.range hh off s) hu hd (by rw [hlen]; exact hT.size) (hK _ _ k)

theorem mem_store {T : TypeId} {x y : Operand} {off : Nat} {v : Value} [hT : CellSize P T] (hm : Mem w0 w σ) (ho : o.op = .store T x y) (hw : Region.wanted o (yielded ops a.tmps) = true) (hx : ev a x = some (.pointer (some ⟨n, off, none⟩))) (hy : ev a y = some v) (h1 : v.oneCell' = true)
    (hh : σ[i]? = some ⟨n, c, t⟩) (hl : off < c.length) (k : ∀ w', Mem w0 w' (σ.set i ⟨n, c.set off v, t⟩) → wpList P ops Q rest (a.put o.dst undef) w') : wpList P ops Q (o :: rest) a w := by
  refine wpList_step fun K hK => ?_
  rw [if_pos hw]
  replace hx := ev_eval hx
  have hcell : ∃ u, w.cell? ⟨n, off, none⟩ = some u := ⟨_, (hm.cell (.of hh) off).trans (List.getElem?_eq_getElem hl)⟩
  obtain ⟨u, hcu⟩ := hcell
  have hfz := hm.frozen (.of hh) off
  have hr : (Instr.storeAt T (.pointer (some ⟨n, off, none⟩)) v).run P w = .ok () (w.setCell ⟨n, off, none⟩ v) := by
    have hsz : v.cells = #[v] := by cases v <;> simp_all [Value.cells, Value.oneCell']
    have hi := hT.size
    cases hq : P.info? T with
    | none => simp [hq] at hi
    | some i =>
      have hi' : i.size = 1 := by simpa [hq] using hi
      simp only [Instr.storeAt, Instr.sureAddr, Sem.run_bind, Sem.run_pure, Result.andThen_ok, storeVar, sizeOf, typeInfo, hsz]
      simp [hq, hi', storeCells, run_store, h1, Addr.add, hcu, hfz, go_sem]
  unfold Oper.wp execOp
  replace hy := ev_eval hy
  simp only [ho, hx, hy, Sem.run_bind, hr, Result.andThen_ok, Sem.run_pure]
  exact hK _ _ (k _ (hm.set (.of hh) (.of_set hh)))

theorem mem_storeR {T : TypeId} {x y : Operand} {off s : Nat} {D : List Value} [hT : IsRow P T s] (hm : Mem w0 w σ) (ho : o.op = .store T x y) (hw : Region.wanted o (yielded ops a.tmps) = true) (hx : ev a x = some (.pointer (some ⟨n, off, none⟩))) (hy : ev a y = some (.agg D.toArray))
    (hh : σ[i]? = some ⟨n, c, t⟩) (hD : D.length = s) (h1 : D.all (·.oneCell') = true) (hl : off + s ≤ c.length) (k : ∀ w', Mem w0 w' (σ.set i ⟨n, splice c off D, t⟩) → wpList P ops Q rest (a.put o.dst undef) w') : wpList P ops Q (o :: rest) a w := by
  refine wpList_step fun K hK => ?_
  rw [if_pos hw]
  refine wp_store_mid T x y ho n off D.toArray (ev_eval hx) (ev_eval hy) (fun j hj => ?_) (by simpa [hD] using hT.size) (by simpa using h1) ?_
  · have hj' : j < D.length := by simpa using hj
    rw [hm.cell (.of hh), List.getElem?_eq_getElem (by omega)]
    exact ⟨rfl, hm.frozen (.of hh) _⟩
  · exact hK _ _ (k _ (hm.sets (.of hh) (.of_set hh)))

/-- A whole block. -/
theorem mem_loadW {T : TypeId} {x : Operand} {s : Nat} [hT : IsRow P T s] (hm : Mem w0 w σ) (ho : o.op = .load T x ) (hw : Region.wanted o (yielded ops a.tmps) = true ) (hx : ev a x = some (.pointer (some ⟨n, 0, none⟩))) (hh : σ[i]? = some ⟨n, c, t⟩)
    (hl : c.length = s) (k : wpList P ops Q rest (a.put o.dst (.agg c.toArray)) w) : wpList P ops Q (o :: rest) a w :=
  mem_loadR hm ho hw hx hh (by omega) (by rw [List.drop_zero, List.take_of_length_le (by omega)]; exact k)
theorem mem_storeW {T : TypeId} {x y : Operand} {s : Nat} {D : List Value} [hT : IsRow P T s] (hm : Mem w0 w σ) (ho : o.op = .store T x y) (hw : Region.wanted o (yielded ops a.tmps) = true) (hx : ev a x = some (.pointer (some ⟨n, 0, none⟩))) (hy : ev a y = some (.agg D.toArray))
    (hh : σ[i]? = some ⟨n, c, t⟩) (hD : D.length = s) (h1 : D.all (·.oneCell') = true) (hl : c.length = s) (k : ∀ w', Mem w0 w' (σ.set i ⟨n, D, t⟩) → wpList P ops Q rest (a.put o.dst undef) w') : wpList P ops Q (o :: rest) a w :=
  mem_storeR hm ho hw hx hy hh hD h1 (by omega) (by rw [splice_all (by omega)]; exact k)

/-- The zero value of a type. -/
class Zero (P : Program) (t : TypeId) (c : outParam (List Value)) : Prop where out : ∃ v : Value, (P.info? t).bind (·.zero) = some v ∧ v.cells.toList = c
theorem mem_alloc {T : TypeId} [hz : Zero P T c] (hm : Mem w0 w σ) (ho : o.op = .alloc T) (hw : Region.wanted o (yielded ops a.tmps) = true)
    (k : ∀ n w', Mem w0 w' (⟨n, c, T⟩ :: σ) → wpList P ops Q rest (a.put o.dst (.pointer (some ⟨n, 0, none⟩))) w') : wpList P ops Q (o :: rest) a w := by
  refine wpList_step fun K hK => ?_
  rw [if_pos hw]
  obtain ⟨v, hv, hc⟩ := hz.out
  have hr : (zeroValue T).run P w = .ok v w := by
    cases hq : P.info? T with
    | none => simp [hq] at hv
    | some i =>
      have : i.zero = some v := by simpa [hq] using hv
      simp [zeroValue, typeInfo, hq, this, go_sem]
  unfold Oper.wp execOp
  simp only [ho, Instr.alloc, newVar, newRow, Sem.run_bind, hr, run_newObj_alloc, Result.andThen_ok, Sem.run_pure]
  have := hm.alloc c T
  rw [← hc] at this
  exact hK _ _ (k _ _ (by rw [← hc]; simpa using this))

theorem mem_box0 {T : TypeId} {x : Operand} {v : Value} (hm : Mem w0 w σ) (ho : o.op = .box T x) (hw : Region.wanted o (yielded ops a.tmps) = true) (hx : ev a x = some v) (hc : v.cells.toList = c)
    (k : ∀ n w', Mem w0 w' (⟨n, c, T⟩ :: σ) → wpList P ops Q rest (a.put o.dst (.pointer (some ⟨n, 0, none⟩))) w') : wpList P ops Q (o :: rest) a w := by
  refine wpList_step fun K hK => ?_
  rw [if_pos hw]
  replace hx := ev_eval hx
  unfold Oper.wp execOp
  simp only [ho, hx, Instr.box, newVar, newRow, Sem.run_bind, run_newObj_alloc, Result.andThen_ok, Sem.run_pure]
  have := hm.alloc c T
  rw [← hc] at this
  exact hK _ _ (k _ _ (by rw [← hc]; simpa using this))
theorem mem_box {T : TypeId} {x : Operand} (hm : Mem w0 w σ) (ho : o.op = .box T x) (hw : Region.wanted o (yielded ops a.tmps) = true) (hx : ev a x = some (.agg c.toArray))
    (k : ∀ n w', Mem w0 w' (⟨n, c, T⟩ :: σ) → wpList P ops Q rest (a.put o.dst (.pointer (some ⟨n, 0, none⟩))) w') : wpList P ops Q (o :: rest) a w := mem_box0 hm ho hw hx rfl k
theorem mem_box1 {T : TypeId} {x : Operand} {v : Value} (hm : Mem w0 w σ) (ho : o.op = .box T x) (hw : Region.wanted o (yielded ops a.tmps) = true) (hx : ev a x = some v) (h1 : v.oneCell' = true)
    (k : ∀ n w', Mem w0 w' (⟨n, [v], T⟩ :: σ) → wpList P ops Q rest (a.put o.dst (.pointer (some ⟨n, 0, none⟩))) w') : wpList P ops Q (o :: rest) a w :=
  mem_box0 hm ho hw hx (by cases v <;> simp_all [Value.cells, Value.oneCell']) k

theorem mem_call {f : FuncId} {args : Array Value} {v : Value} {R : Ending → World → Prop} (hm : Mem w0 w σ) (h : Calls P f args w fun e w' => e = .returned v ∧ Below w.heap.size w w')
    (k : ∀ w', Mem w0 w' σ → R (.returned v) w') : Calls P f args w R :=
  h.mono fun e w' ⟨he, hb⟩ => by subst he; exact k w' (hm.next hb)
/-! the same, short, for the walks: where a block stands is found by instances -/
theorem ml {T : TypeId} {x : Operand} {off : Nat} {v : Value} [IsCell P T] [hA : At σ n c t i] (hm : Mem w0 w σ) (ho : o.op = .load T x) (hw : Region.wanted o (yielded ops a.tmps) = true) (hx : ev a x = some (.pointer (some ⟨n, off, none⟩)))
    (k : wpList P ops Q rest (a.put o.dst v) w) (hv : c[off]? = some v := by first | rfl | assumption | (simp; done)) : wpList P ops Q (o :: rest) a w := mem_load hm ho hw hx hA.out hv k
theorem mlr {T : TypeId} {x : Operand} {off s : Nat} [hT : IsRow P T s] [hA : At σ n c t i] (hm : Mem w0 w σ) (ho : o.op = .load T x) (hw : Region.wanted o (yielded ops a.tmps) = true) (hx : ev a x = some (.pointer (some ⟨n, off, none⟩)))
    (k : wpList P ops Q rest (a.put o.dst (.agg ((c.drop off).take s).toArray)) w) (hl : off + s ≤ c.length := by first | decide | (simp; done) | (simp; omega) | omega) : wpList P ops Q (o :: rest) a w := mem_loadR hm ho hw hx hA.out hl k
theorem ms {T : TypeId} {x y : Operand} {off : Nat} {v : Value} [hT : CellSize P T] [hA : At σ n c t i] (hm : Mem w0 w σ) (ho : o.op = .store T x y) (hw : Region.wanted o (yielded ops a.tmps) = true) (hx : ev a x = some (.pointer (some ⟨n, off, none⟩))) (hy : ev a y = some v) (h1 : v.oneCell' = true)
    (k : ∀ w', Mem w0 w' (σ.set i ⟨n, c.set off v, t⟩) → wpList P ops Q rest (a.put o.dst undef) w') (hl : off < c.length := by first | decide | (simp; done) | (simp; omega) | omega) : wpList P ops Q (o :: rest) a w := mem_store hm ho hw hx hy h1 hA.out hl k
theorem oneCell_map (l : List Int) : (l.map iv).all (·.oneCell') = true := by simp [Value.oneCell']
/-- A whole block, loaded and stored. -/
theorem mlw {T : TypeId} {x : Operand} {s : Nat} [hT : IsRow P T s] [hA : At σ n c t i] (hm : Mem w0 w σ) (ho : o.op = .load T x) (hw : Region.wanted o (yielded ops a.tmps) = true) (hx : ev a x = some (.pointer (some ⟨n, 0, none⟩)))
    (k : wpList P ops Q rest (a.put o.dst (.agg c.toArray)) w) (hl : c.length = s := by first | rfl | assumption | (simp; done) | (simp; omega)) : wpList P ops Q (o :: rest) a w := mem_loadW hm ho hw hx hA.out hl k
theorem msw {T : TypeId} {x y : Operand} {s : Nat} {D : List Value} [hT : IsRow P T s] [hA : At σ n c t i] (hm : Mem w0 w σ) (ho : o.op = .store T x y) (hw : Region.wanted o (yielded ops a.tmps) = true) (hx : ev a x = some (.pointer (some ⟨n, 0, none⟩))) (hy : ev a y = some (.agg D.toArray))
    (k : ∀ w', Mem w0 w' (σ.set i ⟨n, D, t⟩) → wpList P ops Q rest (a.put o.dst undef) w') (hD : D.length = s := by first | rfl | assumption | (simp; done) | (simp; omega)) (h1 : D.all (·.oneCell') = true := by first | rfl | exact oneCell_map _ | (simp [Value.oneCell']; done)) (hl : c.length = s := by first | rfl | assumption | (simp; done) | (simp; omega)) :
    wpList P ops Q (o :: rest) a w := mem_storeW hm ho hw hx hy hA.out hD h1 hl k
theorem msr {T : TypeId} {x y : Operand} {off s : Nat} {D : List Value} [hT : IsRow P T s] [hA : At σ n c t i] (hm : Mem w0 w σ) (ho : o.op = .store T x y) (hw : Region.wanted o (yielded ops a.tmps) = true) (hx : ev a x = some (.pointer (some ⟨n, off, none⟩))) (hy : ev a y = some (.agg D.toArray))
    (k : ∀ w', Mem w0 w' (σ.set i ⟨n, splice c off D, t⟩) → wpList P ops Q rest (a.put o.dst undef) w') (hD : D.length = s := by first | rfl | (simp; done) | (simp; omega)) (h1 : D.all (·.oneCell') = true := by first | rfl | exact oneCell_map _ | (simp [Value.oneCell']; done)) (hl : off + s ≤ c.length := by first | decide | (simp; done) | (simp; omega) | omega) :
    wpList P ops Q (o :: rest) a w := mem_storeR hm ho hw hx hy hA.out hD h1 hl k
end

/-! ### a region that draws its order and only reads -/
structure MS (w0 : World) (σ : List Blk) where
  w : World
  h : Mem w0 w σ
abbrev CM (w0 : World) (σ : List Blk) : World → Prop := fun w' => ∃ p : MS w0 σ, w' = p.w
section
variable {P : Program} {ops : Array Oper} {rest : List Oper} {o : Oper} {a : Act} {w0 w : World} {σ : List Blk} {Q : Act → Prop} {n i : Nat} {c : List Value} {t : TypeId}
theorem gd {id : Nat} {Q : Exit → Act → World → Prop} (k : (Code.region id ops true).wp P Q a w) : (Code.region id ops true).wp P Q a w := k
theorem mq_start {id : Nat} {Q : Exit → Act → World → Prop} {l : List Oper} (hm : Mem w0 w σ) (hx : P.follows .mixedOrders = true) (hB : Region.lexB .any l.toArray = true)
    (h : Nonempty (MS w0 σ) → wpQuiet P l.toArray (CM w0 σ) (fun a' => ∀ w', Mem w0 w' σ → Q .normal a' w') l a) : (Code.region id l.toArray true).wp P Q a w :=
  wp_region_quiet (C := CM w0 σ) hx hB ⟨⟨_, hm.drew⟩, rfl⟩ (by
    have h' := h ⟨⟨w, hm⟩⟩
    have e : (fun a' => ∀ w', CM w0 σ w' → Q .normal a' w') = fun a' => ∀ w', Mem w0 w' σ → Q .normal a' w' := by
      funext a'
      exact propext ⟨fun h w' hw' => h w' ⟨⟨w', hw'⟩, rfl⟩, fun h w' ⟨p, e⟩ => by subst e; exact h _ p.h⟩
    rw [e]
    simpa using h')
theorem ql {T : TypeId} {x : Operand} {off : Nat} {v : Value} [IsCell P T] [hA : At σ n c t i] (ho : o.op = .load T x) (hw : Region.wanted o (yielded ops a.tmps) = true) (hx : ev a x = some (.pointer (some ⟨n, off, none⟩)))
    (k : wpQuiet P ops (CM w0 σ) Q rest (a.put o.dst v)) (hv : c[off]? = some v := by first | rfl | assumption | (simp; done)) : wpQuiet P ops (CM w0 σ) Q (o :: rest) a := by
  refine wpQuiet_step fun K hK => ?_
  rw [if_pos hw]
  refine ⟨v, fun w' ⟨p, e⟩ => ?_, hK _ k⟩
  subst e
  have hr := run_loadAt_cell (P := P) (T := T) (w := p.w) (ad := ⟨n, off, none⟩) (v := v) ((p.h.cell (.of hA.out) off).trans hv)
  unfold Oper.quietAt execOp
  simp only [ho, ev_eval hx, Sem.run_bind, hr, Result.andThen_ok, Sem.run_pure]
  exact ⟨rfl, rfl⟩
theorem qlo {T : TypeId} {x : Operand} {ad : Addr} {v : Value} [IsCell P T] (ho : o.op = .load T x) (hw : Region.wanted o (yielded ops a.tmps) = true) (hx : ev a x = some (.pointer (some ad)))
    (k : wpQuiet P ops (CM w0 σ) Q rest (a.put o.dst v)) (hv : w0.cell? ad = some v := by assumption) : wpQuiet P ops (CM w0 σ) Q (o :: rest) a := by
  refine wpQuiet_step fun K hK => ?_
  rw [if_pos hw]
  refine ⟨v, fun w' ⟨p, e⟩ => ?_, hK _ k⟩
  subst e
  have hr := run_loadAt_cell (P := P) (T := T) (w := p.w) (ad := ad) (v := v) ((p.h.old (World.block_lt_of_cell? w0 ad hv)).trans hv)
  unfold Oper.quietAt execOp
  simp only [ho, ev_eval hx, Sem.run_bind, hr, Result.andThen_ok, Sem.run_pure]
  exact ⟨rfl, rfl⟩
theorem qlr {T : TypeId} {x : Operand} {off s : Nat} [hT : IsRow P T s] [hA : At σ n c t i] (ho : o.op = .load T x) (hw : Region.wanted o (yielded ops a.tmps) = true) (hx : ev a x = some (.pointer (some ⟨n, off, none⟩)))
    (k : wpQuiet P ops (CM w0 σ) Q rest (a.put o.dst (.agg ((c.drop off).take s).toArray))) (hl : off + s ≤ c.length := by first | decide | (simp; done) | (simp; omega) | omega) : wpQuiet P ops (CM w0 σ) Q (o :: rest) a := by
  obtain ⟨d, hu, hd⟩ := hT.out
  have hlen : ((c.drop off).take s).length = s := by simp; omega
  refine wpQuiet_step fun K hK => ?_
  rw [if_pos hw]
  refine ⟨.agg ((c.drop off).take s).toArray, fun w' ⟨p, e⟩ => ?_, hK _ k⟩
  subst e
  have hr := run_loadAt_mid p.w n off T ((c.drop off).take s) d (p.h.range hA.out off s) hu hd (by rw [hlen]; exact hT.size)
  unfold Oper.quietAt execOp
  simp only [ho, ev_eval hx, Sem.run_bind, hr, Result.andThen_ok, Sem.run_pure]
  exact ⟨rfl, rfl⟩
/-- A callee in such a region. -/
theorem qcall {f : FuncId} {args : Array Value} {v : Value} {p : MS w0 σ} (h : Calls P f args p.w fun e w' => e = .returned v ∧ Below p.w.heap.size p.w w') : Calls P f args p.w fun e w'' => e = .returned v ∧ ∃ q : MS w0 σ, w'' = q.w :=
  h.mono fun _ w' ⟨he, hb⟩ => ⟨he, ⟨w', p.h.next hb⟩, rfl⟩
section
variable {d : Option Tmp} {T ty : TypeId} {x : Operand} {ps : String} {af : Array Edge} {gd : Option (Nat × Bool)} {C : World → Prop}
theorem gq (k : wpQuiet P ops C Q (⟨d, .load T x, ty, ps, af, gd⟩ :: rest) a) : wpQuiet P ops C Q (⟨d, .load T x, ty, ps, af, gd⟩ :: rest) a := k
end
end

/-! ### results -/
section
variable {P : Program} {fn : Func} {a : Act} {w0 w : World} {σ : List Blk} {R : Ending → World → Prop}
/-- One result as it is read at the return. -/
inductive Res (P : Program) (a : Act) (w : World) : ResultVar → Value → Prop
  | tmp {t : Tmp} {v : Value} (h : a.tmps.toList[t]? = some v) : Res P a w (.tmp t) v
  | cell {p : Tmp} {T : TypeId} {v : Value} {ad : Addr} (h : a.tmps.toList[p]? = some (.pointer (some ad))) (hl : (loadVar T ad).run P w = .ok v w) : Res P a w (.cell p T) v
theorem Res.row {n i off s : Nat} {c : List Value} {t T : TypeId} {p : Tmp} [hT : IsRow P T s] (hm : Mem w0 w σ) (h : a.tmps.toList[p]? = some (.pointer (some ⟨n, off, none⟩))) (hh : σ[i]? = some ⟨n, c, t⟩) (hl : off + s ≤ c.length) :
    Res P a w (.cell p T) (.agg ((c.drop off).take s).toArray) := by
  obtain ⟨d, hu, hd⟩ := hT.out
  have hlen : ((c.drop off).take s).length = s := by simp; omega
  exact .cell h (run_loadVar_mid w n off T _ d (hm.range hh off s) hu hd (by rw [hlen]; exact hT.size))
theorem Res.rowW {n i s : Nat} {c : List Value} {t T : TypeId} {p : Tmp} [hT : IsRow P T s] (hm : Mem w0 w σ) (h : a.tmps.toList[p]? = some (.pointer (some ⟨n, 0, none⟩))) (hh : σ[i]? = some ⟨n, c, t⟩) (hl : c.length = s) :
    Res P a w (.cell p T) (.agg c.toArray) := by
  have := Res.row (P := P) (a := a) (T := T) hm h hh (by omega)
  rwa [List.drop_zero, List.take_of_length_le (by omega)] at this
def getR (tmps : Array Value) : ResultVar → Sem Value
  | .tmp t => pure (tmps.getD t undef)
  | .cell p T => do loadVar T (← asAddr (tmps.getD p undef))
theorem results_getR (fn : Func) (tmps : Array Value) : results fn tmps = (do
    let vs ← fn.results.mapM (getR tmps)
    pure (if h : vs.size = 1 then vs[0] else .tuple vs)) := by
  unfold results
  congr 1
theorem Res.run {r : ResultVar} {v : Value} (h : Res P a w r v) : (getR a.tmps r).run P w = .ok v w := by
  cases h with
  | tmp h => simp_all [getR]
  | @cell p T v ad h hl =>
    have h2 : a.tmps.getD p undef = .pointer (some ad) := by simp_all
    simp only [getR, h2, asAddr, Sem.run_bind, Sem.run_pure, Result.andThen_ok]
    exact hl
theorem ret1 {r1 : ResultVar} {v1 : Value} (hf : fn.results = #[r1]) (hd : a.defers = []) (h1 : Res P a w r1 v1) (k : R (.returned v1) w) : bodyPost P fn R .ret a w := by
  refine bodyPost_ret ?_ hd k
  have e1 := h1.run
  simp [results_getR, hf, e1]
theorem ret2 {r1 r2 : ResultVar} {v1 v2 : Value} (hf : fn.results = #[r1, r2]) (hd : a.defers = []) (h1 : Res P a w r1 v1) (h2 : Res P a w r2 v2) (k : R (.returned (.tuple #[v1, v2])) w) : bodyPost P fn R .ret a w := by
  refine bodyPost_ret ?_ hd k
  have e1 := h1.run
  have e2 := h2.run
  simp [results_getR, hf, e1, e2]
theorem ret3 {r1 r2 r3 : ResultVar} {v1 v2 v3 : Value} (hf : fn.results = #[r1, r2, r3]) (hd : a.defers = []) (h1 : Res P a w r1 v1) (h2 : Res P a w r2 v2) (h3 : Res P a w r3 v3) (k : R (.returned (.tuple #[v1, v2, v3])) w) : bodyPost P fn R .ret a w := by
  refine bodyPost_ret ?_ hd k
  have e1 := h1.run
  have e2 := h2.run
  have e3 := h3.run
  simp [results_getR, hf, e1, e2, e3]
theorem ret4 {r1 r2 r3 r4 : ResultVar} {v1 v2 v3 v4 : Value} (hf : fn.results = #[r1, r2, r3, r4]) (hd : a.defers = []) (h1 : Res P a w r1 v1) (h2 : Res P a w r2 v2) (h3 : Res P a w r3 v3) (h4 : Res P a w r4 v4) (k : R (.returned (.tuple #[v1, v2, v3, v4])) w) : bodyPost P fn R .ret a w := by
  refine bodyPost_ret ?_ hd k
  have e1 := h1.run
  have e2 := h2.run
  have e3 := h3.run
  have e4 := h4.run
  simp [results_getR, hf, e1, e2, e3, e4]
theorem Res.atw {n i s : Nat} {c : List Value} {t T : TypeId} {p : Tmp} [hT : IsRow P T s] [hA : At σ n c t i] (hm : Mem w0 w σ) (h : a.tmps.toList[p]? = some (.pointer (some ⟨n, 0, none⟩)))
    (hl : c.length = s := by first | rfl | assumption | (simp; done) | (simp; omega)) : Res P a w (.cell p T) (.agg c.toArray) := Res.rowW hm h hA.out hl
/-- A row as a result, found by instances. -/
theorem Res.at {n i off s : Nat} {c : List Value} {t T : TypeId} {p : Tmp} [hT : IsRow P T s] [hA : At σ n c t i] (hm : Mem w0 w σ) (h : a.tmps.toList[p]? = some (.pointer (some ⟨n, off, none⟩)))
    (hl : off + s ≤ c.length := by first | decide | (simp; done) | (simp; omega) | omega) : Res P a w (.cell p T) (.agg ((c.drop off).take s).toArray) := Res.row hm h hA.out hl
end
end Go.Proofs.Ytlhchjjegaflhaa

/-
  A region that draws its order and makes, calls and stores as it likes: what only reads is taken first, in the text's order; what is left comes up in whatever order its edges allow, each step by the rules of an ordinary walk. No condition of its own.
-/
import Derived.Test.YtlhchjjegaflhaaCmp
import Derived.Test.YtlhchjjegaflhaaDel
import Derived.OrdersHeld
set_option linter.unusedVariables false
set_option linter.unusedSimpArgs false
namespace Go.Proofs.Ytlhchjjegaflhaa
open Go.RowKit
/-- Behind one operation: on with K; any other exit is the region's. -/
def exitOr (K : Act → World → Prop) (Q : Exit → Act → World → Prop) : Exit → Act → World → Prop
  | .normal, a, w => K a w
  | e, a, w => Q e a w
section
variable {P : Program} {ops : Array Oper} {Q : Exit → Act → World → Prop} {w0 w : World} {σ τ : List Blk} {a : Act} {L : Array Bool} {k n fuel : Nat} {o : Oper} {rest : List Oper}
theorem upon_exitOr {K : Act → World → Prop} {r : Result Next} (h : Oper.upon P o a K (exitOr K Q) r) : Oper.upon P o a K Q r := by
  cases r with
  | ok q w' =>
    cases q <;> simp only [Oper.upon] at h ⊢
    case value u => exact h
    case skip => exact h
    case defer d => exact h
    case enter f args =>
      exact h.mono fun e w'' he => by
        cases e with
        | returned v => exact he
        | panicked c => exact he
        | outgrown => exact he
    case row r args => exact h
  | halt x w' => cases x <;> simp only [Oper.upon] at h ⊢; exact h
theorem wpOp_of_list {K : Act → World → Prop} (ho : ops[k]? = some o) (h : wpList P ops (exitOr K Q) [o] a w) : wpOp P ops Q k K a w := by
  unfold wpOp
  simp only [ho]
  unfold wpList at h
  split at h
  · rename_i hw
    rw [if_pos hw]
    rcases h with h | ⟨h1, h2⟩
    · exact .inl (upon_exitOr h)
    · exact .inr ⟨h1, h2⟩
  · rename_i hw
    rw [if_neg hw]
    exact h
/-- The walk of what is left, with the number and the list of the operations that are looked at next. -/
def QW (P : Program) (l0 : List Oper) (Q : Exit → Act → World → Prop) (w0 : World) (σ : List Blk) (k : Nat) (l : List Oper) (fuel : Nat) (L : Array Bool) (a : Act) (w : World) : Prop :=
  wpAnyH P .any l0.toArray Q (fun w' => Mem w0 w' σ) fuel L a w
/-- Each that may come up, from number k on. -/
def AllFrom (P : Program) (l0 : List Oper) (Q : Exit → Act → World → Prop) (w0 : World) (σ : List Blk) (fuel : Nat) (L : Array Bool) (a : Act) (w : World) : List Oper → Nat → Prop
  | [], _ => True
  | o :: l, k => (k ∈ Region.ready .any l0.toArray L → wpList P l0.toArray (exitOr (fun a' w' => Mem w0 w' σ ∧ QW P l0 Q w0 σ 0 l0 fuel (L.setIfInBounds k true) a' w') Q) [o] a w) ∧ AllFrom P l0 Q w0 σ fuel L a w l (k + 1)
theorem AllFrom.get {l0 : List Oper} : ∀ (l : List Oper) (k : Nat), (∀ j, l[j]? = l0[k + j]?) → AllFrom P l0 Q w0 σ fuel L a w l k → ∀ i, k ≤ i → i < k + l.length → i ∈ Region.ready .any l0.toArray L → wpOp P l0.toArray Q i (fun a' w' => Mem w0 w' σ ∧ wpAnyH P .any l0.toArray Q (fun w' => Mem w0 w' σ) fuel (L.setIfInBounds i true) a' w') a w
  | [], k, _, h, i, h1, h2, _ => by simp at h2; omega
  | o :: l, k, hl, h, i, h1, h2, hi => by
    by_cases hik : i = k
    · subst hik
      have ho : l0.toArray[i]? = some o := by have := hl 0; simpa using this.symm
      exact wpOp_of_list ho (h.1 hi)
    · refine AllFrom.get l (k + 1) (fun j => ?_) h.2 i (by omega) (by simp at h2; omega) hi
      have := hl (j + 1)
      simpa [Nat.add_assoc, Nat.add_comm 1 j] using this
theorem any_start {id : Nat} {l : List Oper} (hm : Mem w0 w σ) (hx : P.follows .mixedOrders = true) (h : ∀ w, Mem w0 w σ → QW P l Q w0 σ 0 l l.length (Array.replicate l.length false) a w) : (Code.region id l.toArray true).wp P Q a w :=
  wp_region_held hx (by simpa [QW] using h _ hm.drew)
theorem any_startE {id : Nat} {l : List Oper} (i : Nat) (hm : Mem w0 w σ) (hx : P.follows .mixedOrders = true) (h : ∀ w, Mem w0 w σ → QW P l Q w0 (σ.eraseIdx i) 0 l l.length (Array.replicate l.length false) a w) : (Code.region id l.toArray true).wp P Q a w :=
  wp_region_held hx (by simpa [QW] using h _ hm.drew)
variable {l0 : List Oper}
theorem qw_skip (h : QW P l0 Q w0 σ (k + 1) rest fuel L a w) : QW P l0 Q w0 σ k (o :: rest) fuel L a w := h
theorem qw_done (hr : (Region.ready .any l0.toArray L).isEmpty = true) (h : Q .normal a w) : QW P l0 Q w0 σ k [] fuel L a w := wpAnyH_done (by simpa using hr) h fuel
theorem qw_all (hr : (Region.ready .any l0.toArray L).isEmpty = false) (h : AllFrom P l0 Q w0 σ fuel L a w l0 0) : QW P l0 Q w0 σ k [] (fuel + 1) L a w := by
  refine wpAnyH_all rfl (by intro e; rw [e] at hr; cases hr) (fun i hi => AllFrom.get l0 0 (fun j => by simp) h i (by omega) ?_ hi)
  obtain ⟨_, o, ho, _⟩ := mem_ready.1 hi
  have := (Array.getElem?_eq_some_iff.1 ho).1
  simpa using this
theorem af_end : AllFrom P l0 Q w0 σ fuel L a w [] k := trivial
theorem af_skip (hr : (Region.ready .any l0.toArray L).contains k = false) (h : AllFrom P l0 Q w0 σ fuel L a w rest (k + 1)) : AllFrom P l0 Q w0 σ fuel L a w (o :: rest) k :=
  ⟨fun hi => by simp only [List.contains_eq_mem, decide_eq_false_iff_not] at hr; exact absurd hi hr, h⟩
theorem af_go (h1 : wpList P l0.toArray (exitOr (fun a' w' => Mem w0 w' σ ∧ QW P l0 Q w0 σ 0 l0 fuel (L.setIfInBounds k true) a' w') Q) [o] a w) (h : AllFrom P l0 Q w0 σ fuel L a w rest (k + 1)) : AllFrom P l0 Q w0 σ fuel L a w (o :: rest) k :=
  ⟨fun _ => h1, h⟩
theorem exit_go {K : Act → World → Prop} (h : K a w) : exitOr K Q .normal a w := h
/-- It only reads, and yields v in every world that has the blocks. -/
theorem qw_take {v : Value} (hm : Mem w0 w τ) (ho : l0.toArray[k]? = some o) (hs : Region.noSelect l0.toArray = true) (hf : Region.free .any l0.toArray L k = true) (hr : (Region.ready .any l0.toArray L).contains k = true) (hQ : ∀ c a w, Q (.panic c) (a.put o.dst v) w → Q (.panic c) a w)
    (hy : YieldsIf P l0.toArray (fun w' => Mem w0 w' σ) o v a) (h : QW P l0 Q w0 σ (k + 1) rest fuel (L.setIfInBounds k true) (a.put o.dst v) w) (hsub : σ.Sublist τ := by first | exact List.Sublist.refl _ | exact List.sublist_cons_self _ _ | (repeat (first | exact List.Sublist.refl _ | (with_reducible refine List.Sublist.cons_cons _ ?_) | refine List.Sublist.cons _ ?_))) : QW P l0 Q w0 σ k (o :: rest) (fuel + 1) L a w :=
  wpAnyH_take ho hs hf hr hQ hy (hm.drop hsub) h
/-- What needs no world. -/
def pureOp : Op → Bool
  | .move _ | .assign _ | .fieldAddr .. | .field .. | .indexAddr .. | .index .. | .extract .. | .unOp .. | .binOp .. | .pick .. | .build .. | .nilCheck .. | .slice .. | .convert .. => true
  | .call c => match c.callee with
    | .builtin .len => true
    | _ => false
  | _ => false
theorem qw_pure (hm : Mem w0 w τ) (hp : pureOp o.op = true) (hr : (Region.ready .any l0.toArray L).contains k = true) (ho : l0.toArray[k]? = some o) (hs : Region.noSelect l0.toArray = true) (hf : Region.free .any l0.toArray L k = true) (hQ : ∀ v c a w, Q (.panic c) (a.put o.dst v) w → Q (.panic c) a w)
    (hn : Nonempty (MS w0 σ)) (h : Nonempty (MS w0 σ) → ∀ K : Act → Prop, (∀ a, QW P l0 Q w0 σ (k + 1) rest fuel (L.setIfInBounds k true) a w → K a) →
      if Region.wanted o (yielded l0.toArray a.tmps) = true then (∃ v, (∀ p : MS w0 σ, (execOp a.eval o).run P p.w = .ok (.value v) p.w) ∧ K (a.put o.dst v)) else K (a.put o.dst undef))
    (hsub : σ.Sublist τ := by first | exact List.Sublist.refl _ | exact List.sublist_cons_self _ _ | (repeat (first | exact List.Sublist.refl _ | (with_reducible refine List.Sublist.cons_cons _ ?_) | refine List.Sublist.cons _ ?_))) : QW P l0 Q w0 σ k (o :: rest) (fuel + 1) L a w := by
  have h1 := h hn (fun a => QW P l0 Q w0 σ (k + 1) rest fuel (L.setIfInBounds k true) a w) (fun _ h => h)
  by_cases hw : Region.wanted o (yielded l0.toArray a.tmps) = true
  · rw [if_pos hw] at h1
    obtain ⟨v, hv, hK⟩ := h1
    exact qw_take hm ho hs hf hr (hQ v) (.inl ⟨hw, fun w' hm' => hv ⟨w', hm'⟩⟩) hK hsub
  · rw [if_neg hw] at h1
    exact qw_take hm ho hs hf hr (hQ undef) (.inr ⟨by simpa using hw, rfl⟩) h1 hsub
theorem qw_not (hm : Mem w0 w τ) (hw : Region.wanted o (yielded l0.toArray a.tmps) = false) (hr : (Region.ready .any l0.toArray L).contains k = true) (ho : l0.toArray[k]? = some o) (hs : Region.noSelect l0.toArray = true) (hf : Region.free .any l0.toArray L k = true) (hQ : ∀ c a w, Q (.panic c) (a.put o.dst undef) w → Q (.panic c) a w)
    (h : QW P l0 Q w0 σ (k + 1) rest fuel (L.setIfInBounds k true) (a.put o.dst undef) w)
    (hsub : σ.Sublist τ := by first | exact List.Sublist.refl _ | exact List.sublist_cons_self _ _ | (repeat (first | exact List.Sublist.refl _ | (with_reducible refine List.Sublist.cons_cons _ ?_) | refine List.Sublist.cons _ ?_))) : QW P l0 Q w0 σ k (o :: rest) (fuel + 1) L a w :=
  qw_take hm ho hs hf hr hQ (.inr ⟨hw, rfl⟩) h hsub
section
variable {i m : Nat} {c : List Value} {t : TypeId}
theorem qw_load {T : TypeId} {x : Operand} {off : Nat} {v : Value} [IsCell P T] [hA : At σ m c t i] (hm : Mem w0 w τ) (hop : o.op = .load T x) (hr : (Region.ready .any l0.toArray L).contains k = true) (hw : Region.wanted o (yielded l0.toArray a.tmps) = true) (hx : ev a x = some (.pointer (some ⟨m, off, none⟩)))
    (ho : l0.toArray[k]? = some o) (hs : Region.noSelect l0.toArray = true) (hf : Region.free .any l0.toArray L k = true) (hQ : ∀ v c a w, Q (.panic c) (a.put o.dst v) w → Q (.panic c) a w) (h : QW P l0 Q w0 σ (k + 1) rest fuel (L.setIfInBounds k true) (a.put o.dst v) w)
    (hv : c[off]? = some v := by first | rfl | assumption | (simp; done)) (hsub : σ.Sublist τ := by first | exact List.Sublist.refl _ | exact List.sublist_cons_self _ _ | (repeat (first | exact List.Sublist.refl _ | (with_reducible refine List.Sublist.cons_cons _ ?_) | refine List.Sublist.cons _ ?_))) : QW P l0 Q w0 σ k (o :: rest) (fuel + 1) L a w :=
  qw_take hm ho hs hf hr (hQ v) (.inl ⟨hw, fun w' hm' => by
    have hr := run_loadAt_cell (P := P) (T := T) (w := w') (ad := ⟨m, off, none⟩) (v := v) ((hm'.cell (.of hA.out) off).trans hv)
    unfold execOp
    simp only [hop, ev_eval hx, Sem.run_bind, hr, Result.andThen_ok, Sem.run_pure]⟩) h hsub
theorem qw_loadR {T : TypeId} {x : Operand} {off s : Nat} [hT : IsRow P T s] [hA : At σ m c t i] (hm : Mem w0 w τ) (hop : o.op = .load T x) (hr : (Region.ready .any l0.toArray L).contains k = true) (hw : Region.wanted o (yielded l0.toArray a.tmps) = true) (hx : ev a x = some (.pointer (some ⟨m, off, none⟩)))
    (ho : l0.toArray[k]? = some o) (hs : Region.noSelect l0.toArray = true) (hf : Region.free .any l0.toArray L k = true) (hQ : ∀ v c a w, Q (.panic c) (a.put o.dst v) w → Q (.panic c) a w) (h : QW P l0 Q w0 σ (k + 1) rest fuel (L.setIfInBounds k true) (a.put o.dst (.agg ((c.drop off).take s).toArray)) w)
    (hlen : off + s ≤ c.length := by first | decide | (simp; done) | (simp; omega) | omega) (hsub : σ.Sublist τ := by first | exact List.Sublist.refl _ | exact List.sublist_cons_self _ _ | (repeat (first | exact List.Sublist.refl _ | (with_reducible refine List.Sublist.cons_cons _ ?_) | refine List.Sublist.cons _ ?_))) : QW P l0 Q w0 σ k (o :: rest) (fuel + 1) L a w := by
  obtain ⟨d, hu, hd⟩ := hT.out
  have hlen : ((c.drop off).take s).length = s := by simp; omega
  exact qw_take hm ho hs hf hr (hQ _) (.inl ⟨hw, fun w' hm' => by
    have hr := run_loadAt_mid w' m off T ((c.drop off).take s) d (hm'.range hA.out off s) hu hd (by rw [hlen]; exact hT.size)
    unfold execOp
    simp only [hop, ev_eval hx, Sem.run_bind, hr, Result.andThen_ok, Sem.run_pure]⟩) h hsub
theorem qw_loadW {T : TypeId} {x : Operand} {s : Nat} [hT : IsRow P T s] [hA : At σ m c t i] (hm : Mem w0 w τ) (hop : o.op = .load T x) (hr : (Region.ready .any l0.toArray L).contains k = true) (hw : Region.wanted o (yielded l0.toArray a.tmps) = true) (hx : ev a x = some (.pointer (some ⟨m, 0, none⟩)))
    (ho : l0.toArray[k]? = some o) (hs : Region.noSelect l0.toArray = true) (hf : Region.free .any l0.toArray L k = true) (hQ : ∀ v c a w, Q (.panic c) (a.put o.dst v) w → Q (.panic c) a w) (h : QW P l0 Q w0 σ (k + 1) rest fuel (L.setIfInBounds k true) (a.put o.dst (.agg c.toArray)) w)
    (hlen : c.length = s := by first | rfl | assumption | (simp; done) | (simp; omega)) (hsub : σ.Sublist τ := by first | exact List.Sublist.refl _ | exact List.sublist_cons_self _ _ | (repeat (first | exact List.Sublist.refl _ | (with_reducible refine List.Sublist.cons_cons _ ?_) | refine List.Sublist.cons _ ?_))) : QW P l0 Q w0 σ k (o :: rest) (fuel + 1) L a w :=
  qw_loadR hm hop hr hw hx ho hs hf hQ (by rw [List.drop_zero, List.take_of_length_le (by omega)]; exact h) (by omega) hsub
theorem qw_cmp {T T' : TypeId} {s kk : Nat} [he : EqInts P T s kk] {op : BinOp} {x z : Operand} {xs ys : List Int} {p : Bool} (hp : decide (xs = ys) = p) (hop : op = .eql ∨ op = .neq) (hm : Mem w0 w τ) (hopr : o.op = .binOp op T x z T') (hr : (Region.ready .any l0.toArray L).contains k = true) (hw : Region.wanted o (yielded l0.toArray a.tmps) = true) (hx : ev a x = some (.agg (xs.map iv).toArray)) (hy : ev a z = some (.agg (ys.map iv).toArray))
    (ho : l0.toArray[k]? = some o) (hs : Region.noSelect l0.toArray = true) (hf : Region.free .any l0.toArray L k = true) (hQ : ∀ v c a w, Q (.panic c) (a.put o.dst v) w → Q (.panic c) a w) (h : QW P l0 Q w0 σ (k + 1) rest fuel (L.setIfInBounds k true) (a.put o.dst (.bool (cmpV op p))) w)
    (hg : P.eqGuardType P.depth T = false := by kernel_rfl) (hk : kk ≤ 10000 := by decide) (hxl : xs.length = s := by first | assumption | (simp; done) | (simp; omega)) (hyl : ys.length = s := by first | assumption | (simp; done) | (simp; omega)) (hsub : σ.Sublist τ := by first | exact List.Sublist.refl _ | exact List.sublist_cons_self _ _ | (repeat (first | exact List.Sublist.refl _ | (with_reducible refine List.Sublist.cons_cons _ ?_) | refine List.Sublist.cons _ ?_))) : QW P l0 Q w0 σ k (o :: rest) (fuel + 1) L a w :=
  qw_take hm ho hs hf hr (hQ _) (.inl ⟨hw, fun w' hm' => run_cmp hop hopr hx hy hk hg hxl hyl hp w'⟩) h hsub
section
variable {d : Option Tmp} {T ty : TypeId} {x z : Operand} {ps : String} {af : Array Edge} {gd : Option (Nat × Bool)} {l : List Oper}
theorem gqw (h : QW P l0 Q w0 σ k (o :: rest) fuel L a w) : QW P l0 Q w0 σ k (o :: rest) fuel L a w := h
theorem gqwl (h : QW P l0 Q w0 σ k (⟨d, .load T x, ty, ps, af, gd⟩ :: rest) fuel L a w) : QW P l0 Q w0 σ k (⟨d, .load T x, ty, ps, af, gd⟩ :: rest) fuel L a w := h
theorem gqwc {op : BinOp} {T' : TypeId} (h : QW P l0 Q w0 σ k (⟨d, .binOp op T x z T', ty, ps, af, gd⟩ :: rest) fuel L a w) : QW P l0 Q w0 σ k (⟨d, .binOp op T x z T', ty, ps, af, gd⟩ :: rest) fuel L a w := h
theorem gqwn (h : QW P l0 Q w0 σ k [] fuel L a w) : QW P l0 Q w0 σ k [] fuel L a w := h
theorem gaf (h : AllFrom P l0 Q w0 σ fuel L a w rest k) : AllFrom P l0 Q w0 σ fuel L a w rest k := h
end
end
theorem MS.any2 {w0 w : World} {σ τ : List Blk} (hm : Mem w0 w τ) (hsub : σ.Sublist τ := by first | exact List.Sublist.refl _ | exact List.sublist_cons_self _ _ | (repeat (first | exact List.Sublist.refl _ | (with_reducible refine List.Sublist.cons_cons _ ?_) | refine List.Sublist.cons _ ?_))) : Nonempty (MS w0 σ) := ⟨⟨w, hm.drop hsub⟩⟩
end
end Go.Proofs.Ytlhchjjegaflhaa

/-
  '==' and '!=' of a struct with itself, as steps of a walk.
-/
import Derived.Test.YtlhchjjegaflhaaAny
set_option linter.unusedVariables false
set_option linter.unusedSimpArgs false
namespace Go.Proofs.Ytlhchjjegaflhaa
open Go.RowKit
/-- Compared with itself a value is the same. -/
def SameEq (P : Program) (T : TypeId) (cs : List Value) (kk : Nat) : Prop := ∀ (d : Nat) (w : World), (Op.equalIn (d + kk) T (.agg cs.toArray) (.agg cs.toArray)).run P w = .ok true w
section
variable {P : Program} {ops : Array Oper} {rest : List Oper} {o : Oper} {a : Act} {w0 w : World} {σ τ : List Blk} {Q : Exit → Act → World → Prop} {QF : Act → Prop} {k : Nat} {T T' : TypeId} {kk : Nat} {op : BinOp} {x y : Operand} {cs : List Value}
theorem run_same (hS : SameEq P T cs kk) (hop : op = .eql ∨ op = .neq) (ho : o.op = .binOp op T x y T') (hx : ev a x = some (.agg cs.toArray)) (hy : ev a y = some (.agg cs.toArray))
    (hk : kk ≤ 10000) (hg : P.eqGuardType P.depth T = false) (w : World) : (execOp a.eval o).run P w = .ok (.value (.bool (cmpV op true))) w := by
  unfold execOp
  simp only [ho, ev_eval hx, ev_eval hy, Sem.run_bind, run_eqGuard_agg w op T x y _ _ hg, Result.andThen_ok]
  have h := hS (10000 - kk) w
  rw [show 10000 - kk + kk = 10000 from by omega] at h
  rcases hop with rfl | rfl
  · rw [run_eql_struct, h]; simp [cmpV]
  · rw [run_neq_struct, h]; simp [cmpV]
theorem mcmpS (hS : SameEq P T cs kk) (hop : op = .eql ∨ op = .neq) (ho : o.op = .binOp op T x y T') (hw : Region.wanted o (yielded ops a.tmps) = true) (hx : ev a x = some (.agg cs.toArray)) (hy : ev a y = some (.agg cs.toArray))
    (h : wpList P ops Q rest (a.put o.dst (.bool (cmpV op true))) w) (hg : P.eqGuardType P.depth T = false := by kernel_rfl) (hk : kk ≤ 10000 := by decide) : wpList P ops Q (o :: rest) a w := by
  refine wpList_step fun K hK => ?_
  rw [if_pos hw]
  unfold Oper.wp
  rw [run_same hS hop ho hx hy hk hg w]
  exact hK _ _ h
theorem qcmpS (hS : SameEq P T cs kk) (hop : op = .eql ∨ op = .neq) (ho : o.op = .binOp op T x y T') (hw : Region.wanted o (yielded ops a.tmps) = true) (hx : ev a x = some (.agg cs.toArray)) (hy : ev a y = some (.agg cs.toArray))
    (h : wpQuiet P ops (CM w0 σ) QF rest (a.put o.dst (.bool (cmpV op true)))) (hg : P.eqGuardType P.depth T = false := by kernel_rfl) (hk : kk ≤ 10000 := by decide) : wpQuiet P ops (CM w0 σ) QF (o :: rest) a := by
  refine wpQuiet_step fun K hK => ?_
  rw [if_pos hw]
  refine ⟨_, fun w' _ => ?_, hK _ h⟩
  unfold Oper.quietAt
  rw [run_same hS hop ho hx hy hk hg w']
  exact ⟨rfl, rfl⟩
/-- The same for numbers that may differ. -/
theorem qcmpI {s : Nat} {xs ys : List Int} {p : Bool} [he : EqInts P T s kk] (hp : decide (xs = ys) = p) (hop : op = .eql ∨ op = .neq) (ho : o.op = .binOp op T x y T') (hw : Region.wanted o (yielded ops a.tmps) = true) (hx : ev a x = some (.agg (xs.map iv).toArray)) (hy : ev a y = some (.agg (ys.map iv).toArray))
    (h : wpQuiet P ops (CM w0 σ) QF rest (a.put o.dst (.bool (cmpV op p)))) (hg : P.eqGuardType P.depth T = false := by kernel_rfl) (hk : kk ≤ 10000 := by decide) (hxl : xs.length = s := by first | assumption | (simp; done) | (simp; omega)) (hyl : ys.length = s := by first | assumption | (simp; done) | (simp; omega)) : wpQuiet P ops (CM w0 σ) QF (o :: rest) a := by
  refine wpQuiet_step fun K hK => ?_
  rw [if_pos hw]
  refine ⟨_, fun w' _ => ?_, hK _ h⟩
  unfold Oper.quietAt
  rw [run_cmp hop ho hx hy hk hg hxl hyl hp w']
  exact ⟨rfl, rfl⟩
section
variable {d : Option Tmp} {ty : TypeId} {ps : String} {af : Array Edge} {gd : Option (Nat × Bool)} {C : World → Prop}
theorem gcmpQ (h : wpQuiet P ops C QF (⟨d, .binOp op T x y T', ty, ps, af, gd⟩ :: rest) a) : wpQuiet P ops C QF (⟨d, .binOp op T x y T', ty, ps, af, gd⟩ :: rest) a := h
end
theorem qcallM {f : FuncId} {args : Array Value} {v : Value} {p : MS w0 σ} (h : Calls P f args p.w fun e w' => e = .returned v ∧ Mem w0 w' σ) : Calls P f args p.w fun e w'' => e = .returned v ∧ ∃ q : MS w0 σ, w'' = q.w :=
  h.mono fun _ w' ⟨he, hm⟩ => ⟨he, ⟨w', hm⟩, rfl⟩
end
section
variable {P : Program} {ops : Array Oper} {rest : List Oper} {o : Oper} {a : Act} {w0 w : World} {σ : List Blk} {Q : Act → Prop} {n i : Nat} {c : List Value} {t : TypeId}
theorem qlw {T : TypeId} {x : Operand} {s : Nat} [hT : IsRow P T s] [hA : At σ n c t i] (ho : o.op = .load T x) (hw : Region.wanted o (yielded ops a.tmps) = true) (hx : ev a x = some (.pointer (some ⟨n, 0, none⟩)))
    (k : wpQuiet P ops (CM w0 σ) Q rest (a.put o.dst (.agg c.toArray))) (hl : c.length = s := by first | rfl | assumption | (simp; done) | (simp; omega)) : wpQuiet P ops (CM w0 σ) Q (o :: rest) a :=
  qlr ho hw hx (by rw [List.drop_zero, List.take_of_length_le (by omega)]; exact k) (by omega)
end
end Go.Proofs.Ytlhchjjegaflhaa

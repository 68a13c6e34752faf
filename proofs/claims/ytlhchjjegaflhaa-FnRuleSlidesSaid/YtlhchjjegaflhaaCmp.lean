/-
  '==' and '!=' of boards, as steps of a walk. No condition of their own.
-/
import Derived.Test.YtlhchjjegaflhaaEqv
import Derived.Test.YtlhchjjegaflhaaFam
set_option linter.unusedVariables false
set_option linter.unusedSimpArgs false
namespace Go.Proofs.Ytlhchjjegaflhaa
open Go.RowKit
section
variable {P : Program} {ops : Array Oper} {rest : List Oper} {o : Oper} {a : Act} {w0 w : World} {σ : List Blk} {Q : Exit → Act → World → Prop} {QF : Act → Prop} {F : Array Bool → List Blk} {k : Nat} {st : List (Nat × Nat × List Value)}
/-- Whether the comparison is of equality. -/
def cmpV (op : BinOp) (p : Bool) : Bool := match op with
  | .eql => p
  | _ => !p
theorem run_cmp {T T' : TypeId} {s kk : Nat} [he : EqInts P T s kk] {op : BinOp} {x y : Operand} {xs ys : List Int} {p : Bool} (hop : op = .eql ∨ op = .neq) (ho : o.op = .binOp op T x y T') (hx : ev a x = some (.agg (xs.map iv).toArray)) (hy : ev a y = some (.agg (ys.map iv).toArray))
    (hk : kk ≤ 10000) (hg : P.eqGuardType P.depth T = false) (hxl : xs.length = s) (hyl : ys.length = s) (hp : decide (xs = ys) = p) (w : World) : (execOp a.eval o).run P w = .ok (.value (.bool (cmpV op p))) w := by
  subst hp
  unfold execOp
  simp only [ho, ev_eval hx, ev_eval hy, Sem.run_bind, run_eqGuard_agg w op T x y _ _ hg, Result.andThen_ok]
  rcases hop with rfl | rfl
  · rw [run_eql_ints hk xs ys hxl hyl w]; simp [cmpV]
  · rw [run_neq_ints hk xs ys hxl hyl w]; simp [cmpV]
section
variable {d : Option Tmp} {op : BinOp} {T T' ty : TypeId} {x y : Operand} {ps : String} {af : Array Edge} {gd : Option (Nat × Bool)}
theorem gcmp (h : wpList P ops Q (⟨d, .binOp op T x y T', ty, ps, af, gd⟩ :: rest) a w) : wpList P ops Q (⟨d, .binOp op T x y T', ty, ps, af, gd⟩ :: rest) a w := h
theorem gcmpF (h : wpF P ops w0 F QF k (⟨d, .binOp op T x y T', ty, ps, af, gd⟩ :: rest) a) : wpF P ops w0 F QF k (⟨d, .binOp op T x y T', ty, ps, af, gd⟩ :: rest) a := h
end
theorem mcmp {T T' : TypeId} {s kk : Nat} [he : EqInts P T s kk] {op : BinOp} {x y : Operand} {xs ys : List Int} {p : Bool} (hp : decide (xs = ys) = p) (hop : op = .eql ∨ op = .neq) (ho : o.op = .binOp op T x y T') (hw : Region.wanted o (yielded ops a.tmps) = true) (hx : ev a x = some (.agg (xs.map iv).toArray)) (hy : ev a y = some (.agg (ys.map iv).toArray))
    (h : wpList P ops Q rest (a.put o.dst (.bool (cmpV op p))) w) (hg : P.eqGuardType P.depth T = false := by kernel_rfl) (hk : kk ≤ 10000 := by decide) (hxl : xs.length = s := by first | assumption | (simp; done) | (simp; omega)) (hyl : ys.length = s := by first | assumption | (simp; done) | (simp; omega)) : wpList P ops Q (o :: rest) a w := by
  refine wpList_step fun K hK => ?_
  rw [if_pos hw]
  unfold Oper.wp
  rw [run_cmp hop ho hx hy hk hg hxl hyl hp w]
  exact hK _ _ h
theorem fcmp {T T' : TypeId} {s kk : Nat} [he : EqInts P T s kk] {op : BinOp} {x y : Operand} {xs ys : List Int} {p : Bool} (hp : decide (xs = ys) = p) (hop : op = .eql ∨ op = .neq) (ho : o.op = .binOp op T x y T') (hw : Region.wanted o (yielded ops a.tmps) = true) (hx : ev a x = some (.agg (xs.map iv).toArray)) (hy : ev a y = some (.agg (ys.map iv).toArray))
    (h : wpF P ops w0 (fam σ st) QF (k + 1) rest (a.put o.dst (.bool (cmpV op p)))) (hg : P.eqGuardType P.depth T = false := by kernel_rfl) (hk : kk ≤ 10000 := by decide) (hk2 : (st.all fun s => s.1 != k) = true := by rfl) (hxl : xs.length = s := by first | assumption | (simp; done) | (simp; omega)) (hyl : ys.length = s := by first | assumption | (simp; done) | (simp; omega)) : wpF P ops w0 (fam σ st) QF k (o :: rest) a := by
  refine ⟨_, .inl ⟨hw, fun L w hL hcl hm => ?_⟩, h⟩
  rw [fam_other σ k L st hk2, run_cmp hop ho hx hy hk hg hxl hyl hp w]
  exact ⟨by first | rfl | trivial, hm⟩
end
end Go.Proofs.Ytlhchjjegaflhaa

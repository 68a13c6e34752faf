/-
  Bytes of the call's own as a text: the conversion in a walk. No condition of its own.
-/
import Derived.Test.YtjmolkamaeonmaaDoorStr
import Derived.Laws.IdiomStrings
import Derived.Lib.ItoaNum
set_option linter.unusedVariables false
set_option linter.unusedSimpArgs false
namespace Go.Proofs.YtjmolkamaeonmaaDoor
open Go.RowKit Slm
def u8v (c : UInt8) : Value := .int .u8 c.toNat
section
variable {P : Program} {ops : Array Oper} {rest : List Oper} {o : Oper} {a : Act} {w0 w : World} {σ : List Blk} {Q : Exit → Act → World → Prop} {n i : Nat} {c : List Value} {t : TypeId}
theorem gcv {d : Option Tmp} {src dst ty : TypeId} {x : Operand} {po : String} {af : Array Edge} {gd : Option (Nat × Bool)} (k : wpList P ops Q (⟨d, .convert src dst x, ty, po, af, gd⟩ :: rest) a w) : wpList P ops Q (⟨d, .convert src dst x, ty, po, af, gd⟩ :: rest) a w := k
theorem mcvs {src dst e : TypeId} {x : Operand} {len cap : Nat} (l : List UInt8) (hs : P.underlying src = some (.slice e)) (he : P.underlying e = some (.int .u8)) (hd : P.underlying dst = some .string) [hA : At σ n c t i] (hm : Mem w0 w σ) (ho : o.op = .convert src dst x) (hw : Region.wanted o (yielded ops a.tmps) = true) (hx : ev a x = some (.slice (some ⟨n, 0, none⟩) len cap))
    (hl : l.length = len) (hc : ∀ j (hj : j < l.length), c[j]? = some (.int .u8 (l[j].toNat : Int))) (k : wpList P ops Q rest (a.put o.dst (.string (bs l))) w) : wpList P ops Q (o :: rest) a w := by
  refine wpList_step fun K hK => ?_
  rw [if_pos hw]
  subst hl
  have hr := run_convert_bytes_back (P := P) w src dst e ⟨n, 0, none⟩ cap l hs he hd (fun j hj => by
    have h1 := hm.cell (.of hA.out) j
    rw [hc j hj] at h1
    rw [← h1]
    congr 1
    unfold Addr.add
    split <;> simp_all)
  unfold Oper.wp execOp
  simp only [ho, ev_eval hx, Sem.run_bind, hr, Result.andThen_ok, Sem.run_pure]
  exact hK _ _ k
end
/-- The text that marks a place. -/
def markL (k : Nat) : List UInt8 := 109 :: Lib.decDigits k
theorem dig1_u8 (r : Nat) (h : r < 10) : ((UInt8.ofNat (48 + r)).toNat : Int) = 48 + r := by
  rw [UInt8.toNat_ofNat']; omega
end Go.Proofs.YtjmolkamaeonmaaDoor

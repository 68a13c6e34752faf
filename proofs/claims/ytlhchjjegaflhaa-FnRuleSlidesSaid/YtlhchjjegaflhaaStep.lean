/-
  Walks of steps: what a step is, the board behind it, the score.
-/
import Derived.Test.YtlhchjjegaflhaaSlide3
import Derived.Test.YtlhchjjegaflhaaSmall
import Derived.Test.YtlhchjjegaflhaaCmp
set_option linter.unusedVariables false
set_option linter.unusedSimpArgs false
namespace Go.Proofs.Ytlhchjjegaflhaa
open Go.RowKit Slm
def stpOK (d r c t : Int) : Bool := inB d 0 3 && (inB r 0 3 && inB c 0 3) && inB t 1 2
/-- Whether something is a step of a board. -/
def stpB (b : List Int) (d r c t : Int) : Bool := stpOK d r c t && (!decide (slideB 1 d.toNat b = b) && decide (atL (slideB 1 d.toNat b) (4 * r.toNat + c.toNat) = 0))
def nextB (b : List Int) (d r c t : Int) : List Int := (slideB 1 d.toNat b).set (4 * r.toNat + c.toNat) t
def z16 : List Int := [0, 0, 0, 0, 0, 0, 0, 0, 0, 0, 0, 0, 0, 0, 0, 0]
def doB (b : List Int) (d r c t : Int) : List Int := if stpB b d r c t = true then nextB b d r c t else z16
def doS (b : List Int) (d r c t : Int) : Int := if stpB b d r c t = true then scoreB d.toNat b else 0
theorem stp_nat {d r c t : Int} (h : stpOK d r c t = true) : ∃ d' r' c' t' : Nat, d = d' ∧ r = r' ∧ c = c' ∧ t = t' ∧ d' ≤ 3 ∧ r' ≤ 3 ∧ c' ≤ 3 ∧ (1 ≤ t' ∧ t' ≤ 2) := by
  simp only [stpOK, Bool.and_eq_true, inB_iff] at h
  exact ⟨d.toNat, r.toNat, c.toNat, t.toNat, by omega, by omega, by omega, by omega, by omega, by omega, by omega, by omega⟩
theorem nextB_len {b : List Int} (hl : b.length = 16) (d r c t : Int) : (nextB b d r c t).length = 16 := by
  rw [nextB, List.length_set, slideB_len, hl]
theorem nextB_ok {b : List Int} (h : okL b = true) {d r c t : Int} (hs : stpB b d r c t = true) : okL (nextB b d r c t) = true := by
  simp only [stpB, stpOK, Bool.and_eq_true, inB_iff] at hs
  exact set_ok (slideB_ok h 1 _) _ (by omega)
theorem scoreB_bd {b : List Int} (h : okL b = true) (d : Nat) : 0 ≤ scoreB d b ∧ scoreB d b ≤ 2097152 := scoreN_bd h d 4
end Go.Proofs.Ytlhchjjegaflhaa

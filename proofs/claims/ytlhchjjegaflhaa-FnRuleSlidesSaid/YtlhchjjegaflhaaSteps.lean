/-
  Walks of the steps of a board, and of what is a step, of the program.
-/
import Derived.Test.YtlhchjjegaflhaaStep
import Derived.Test.YtlhchjjegaflhaaFm
import Derived.Test.YtlhchjjegaflhaaSeed
import Derived.Test.YtlhchjjegaflhaaAgree
import Derived.Test.YtlhchjjegaflhaaNew
set_option linter.unusedVariables false
set_option linter.unusedSimpArgs false
namespace Go.Proofs.Ytlhchjjegaflhaa
open Go.RowKit Slm
/-- The two steps that put a tile into a cell. -/
def stp2 (d : Nat) (k : Nat) : List Stp := [((d : Int), ((k / 4 : Nat) : Int), ((k % 4 : Nat) : Int), 1), ((d : Int), ((k / 4 : Nat) : Int), ((k % 4 : Nat) : Int), 2)]
def stepsL (d : Nat) (b : List Int) : List Stp := if slideB 1 d b = b then [] else (emptyL (slideB 1 d b)).flatMap (stp2 d)
theorem stepsL_len (d : Nat) (b : List Int) : (stepsL d b).length ≤ 32 := by
  unfold stepsL
  split
  · simp
  · have h1 := emptyL_len (slideB 1 d b)
    have h2 : ((emptyL (slideB 1 d b)).flatMap (stp2 d)).length = (emptyL (slideB 1 d b)).length * 2 := by
      induction emptyL (slideB 1 d b) with
      | nil => rfl
      | cons a l ih => rw [List.flatMap_cons, List.length_append, ih]; simp [stp2]; omega
    omega
theorem mem_emptyL {b : List Int} {k : Nat} : k ∈ emptyL b ↔ k < 16 ∧ atL b k = 0 := by simp [emptyL, emptyK]
theorem mem_steps {d r c t : Int} (b : List Int) (hd : inB d 0 3 = true) (hc : (inB r 0 3 && inB c 0 3) = true) : (d, r, c, t) ∈ stepsL d.toNat b ↔ stpB b d r c t = true := by
  simp only [Bool.and_eq_true, inB_iff] at hd hc
  obtain ⟨d', rfl⟩ := Int.eq_ofNat_of_zero_le hd.1
  obtain ⟨r', rfl⟩ := Int.eq_ofNat_of_zero_le hc.1.1
  obtain ⟨c', rfl⟩ := Int.eq_ofNat_of_zero_le hc.2.1
  have q1 : inB (d' : Int) 0 3 = true := inB_iff.2 hd
  have q2 : inB (r' : Int) 0 3 = true := inB_iff.2 hc.1
  have q3 : inB (c' : Int) 0 3 = true := inB_iff.2 hc.2
  unfold stpB stpOK stepsL
  simp only [Int.toNat_natCast, q1, q2, q3, Bool.true_and]
  by_cases hS : slideB 1 d' b = b
  · simp [hS]
  · simp only [if_neg hS, List.mem_flatMap, mem_emptyL, stp2, List.mem_cons, List.not_mem_nil, or_false, Prod.mk.injEq, Bool.and_eq_true, inB_iff, Bool.not_eq_true', decide_eq_false_iff_not, decide_eq_true_eq]
    constructor
    · rintro ⟨k, ⟨hk, h0⟩, ⟨_, h1, h2, h3⟩ | ⟨_, h1, h2, h3⟩⟩
      all_goals
        have : 4 * r' + c' = k := by omega
        rw [this]
        exact ⟨by omega, hS, h0⟩
    · rintro ⟨ht, _, h0⟩
      refine ⟨4 * r' + c', ⟨by omega, h0⟩, ?_⟩
      have e1 : (4 * r' + c') / 4 = r' := by omega
      have e2 : (4 * r' + c') % 4 = c' := by omega
      rw [e1, e2]
      have : t = 1 ∨ t = 2 := by omega
      rcases this with rfl | rfl <;> simp
end Go.Proofs.Ytlhchjjegaflhaa

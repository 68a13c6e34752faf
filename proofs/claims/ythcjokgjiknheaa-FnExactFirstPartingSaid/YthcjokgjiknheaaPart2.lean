/-
  FirstParting, whether the replays are valid or not.
-/
import Derived.Test.YthcjokgjiknheaaPart
set_option linter.unusedVariables false
set_option linter.unusedSimpArgs false
namespace Go.Proofs.Ythcjokgjiknheaa
open Go.RowKit Slm
theorem spec_FirstParting2 {w0 w : World} {σ : List Blk} {g i cap gc ic capc : Nat} {more morec : List Value} (b : List Int) (hl : b.length = 16) (S : List Stp) (c : List Int) (hlc : c.length = 16) (U : List Stp) (hm : Mem w0 w σ) [hAt1 : At σ g ((S.flatMap stI).map iv ++ more) 55 i] [hAt2 : At σ gc ((U.flatMap stI).map iv ++ morec) 55 ic] :
    Calls Try.prog 21 #[.agg (b.map iv ++ [Value.slice (some ⟨g, 0, none⟩) S.length cap]).toArray, .agg (c.map iv ++ [Value.slice (some ⟨gc, 0, none⟩) U.length capc]).toArray] w fun e w' => e = .returned (.tuple #[iv (partK b S c U), .bool (partQ b S c U)]) ∧ Mem w0 w' σ := by
  cases hq : (valR b S && valR c U)
  · exact spec_FirstParting_no b hl S c hlc U hm hq
  · have h := hq
    rw [Bool.and_eq_true] at h
    exact spec_FirstParting b hl S c hlc U hm h.1 h.2
theorem impl_FirstParting2 {w0 w : World} {σ : List Blk} {g i cap gc ic capc : Nat} {more morec : List Value} (b : List Int) (hl : b.length = 16) (S : List Stp) (c : List Int) (hlc : c.length = 16) (U : List Stp) (hm : Mem w0 w σ) [hAt1 : At σ g ((S.flatMap stI).map iv ++ more) 55 i] [hAt2 : At σ gc ((U.flatMap stI).map iv ++ morec) 55 ic] :
    Calls Try.prog 22 #[.agg (b.map iv ++ [Value.slice (some ⟨g, 0, none⟩) S.length cap]).toArray, .agg (c.map iv ++ [Value.slice (some ⟨gc, 0, none⟩) U.length capc]).toArray] w fun e w' => e = .returned (.tuple #[iv (partK b S c U), .bool (partQ b S c U)]) ∧ Mem w0 w' σ := by
  cases hq : (valR b S && valR c U)
  · exact impl_FirstParting_no b hl S c hlc U hm hq
  · have h := hq
    rw [Bool.and_eq_true] at h
    exact impl_FirstParting b hl S c hlc U hm h.1 h.2
end Go.Proofs.Ythcjokgjiknheaa

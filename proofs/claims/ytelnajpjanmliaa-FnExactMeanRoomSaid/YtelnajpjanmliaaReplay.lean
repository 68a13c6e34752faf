/-
  Walks of what is asked of replays.
-/
import Derived.Test.YtelnajpjanmliaaBoards
import Derived.Test.YtelnajpjanmliaaRep2
set_option linter.unusedVariables false
set_option linter.unusedSimpArgs false
namespace Go.Proofs.Ytelnajpjanmliaa
open Go.RowKit Slm
section
variable {P : Program} {w0 w : World} {σ : List Blk}
/-- A callee that returns a slice of its own among other things. -/
theorem mem_callF {f : FuncId} {args : Array Value} {R : Ending → World → Prop} {T : TypeId} {s : Nat} {xs : List Value} {F : Value → Value} (h : Calls P f args w fun e w' => ∃ v, e = .returned (F v) ∧ Sl w0 w' v T s xs σ)
    (k : ∀ g more len cap w', Mem w0 w' (⟨g, xs ++ more, T⟩ :: σ) → Fit (xs ++ more) s len cap → xs.length = len * s → R (.returned (F (.slice (some ⟨g, 0, none⟩) len cap))) w') : Calls P f args w R :=
  h.mono fun e w' ⟨v, he, g, more, len, cap, hv, h1, h2, h3⟩ => by subst he; subst hv; exact k g more len cap w' h1 h2 h3
theorem mem_callNF {f : FuncId} {args : Array Value} {R : Ending → World → Prop} {T : TypeId} {s : Nat} {xs : List Value} {F : Value → Value} (hm : Mem w0 w σ) (h : Calls P f args w fun e w' => ∃ v, e = .returned (F v) ∧ Sl w w' v T s xs [])
    (k : ∀ g more len cap w', Mem w0 w' (⟨g, xs ++ more, T⟩ :: σ) → Fit (xs ++ more) s len cap → xs.length = len * s → R (.returned (F (.slice (some ⟨g, 0, none⟩) len cap))) w') : Calls P f args w R :=
  mem_callF (h.mono fun e w' ⟨v, he, hs⟩ => ⟨v, he, by simpa using Sl.lift hm hs⟩) k
end
end Go.Proofs.Ytelnajpjanmliaa

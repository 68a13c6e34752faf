/-
  A region that draws its order, walked in all orders up to ONE common end: the blocks it has made, by name.
-/
import Derived.Test.YtelnajpjanmliaaAny
set_option linter.unusedVariables false
set_option linter.unusedSimpArgs false
namespace Go.Proofs.Ytelnajpjanmliaa
open Go.RowKit
section
variable {P : Program} {Q : Exit → Act → World → Prop} {w0 w : World} {σ : List Blk} {a : Act}
theorem qw_skipR {ops : List Oper} {L : Array Bool} {k fuel : Nat} {o : Oper} {rest : List Oper} (hr : (Region.ready .any ops.toArray L).contains k = false) (h : QW P ops Q w0 σ (k + 1) rest fuel L a w) : QW P ops Q w0 σ k (o :: rest) fuel L a w := h
/-- The end of a region: what stands in the act and which blocks there are, by up to five names and a rest of cells. -/
def JoinR (w0 : World) (F : Nat → Nat → Nat → Nat → Nat → Act) (C : Nat → Nat → Nat → Nat → Nat → List Value → List Blk) : Exit → Act → World → Prop
  | .normal, a, w => ∃ n g1 c1 g2 c2 m, a = F n g1 c1 g2 c2 ∧ Mem w0 w (C n g1 c1 g2 c2 m)
  | _, _, _ => False
theorem wp_join {id : Nat} {l : List Oper} {F : Nat → Nat → Nat → Nat → Nat → Act} (D : Nat → Nat → Nat → Nat → Nat → List Value → List Blk)
    (h : Mem w0 w σ → (Code.region id l.toArray true).wp P (JoinR w0 F (fun n g1 c1 g2 c2 m => D n g1 c1 g2 c2 m ++ σ)) a w)
    (k : ∀ n g1 c1 g2 c2 m w', Mem w0 w' (D n g1 c1 g2 c2 m ++ σ) → Q .normal (F n g1 c1 g2 c2) w') : Mem w0 w σ → (Code.region id l.toArray true).wp P Q a w := fun hm => by
  refine Code.wp_mono (Q := JoinR w0 F (fun n g1 c1 g2 c2 m => D n g1 c1 g2 c2 m ++ σ)) (fun e a' w' he => ?_) (h hm)
  cases e
  case normal =>
    obtain ⟨n, g1, c1, g2, c2, m, rfl, hm'⟩ := he
    exact k n g1 c1 g2 c2 m w' hm'
  all_goals exact he.elim
theorem gjn {F : Nat → Nat → Nat → Nat → Nat → Act} {C : Nat → Nat → Nat → Nat → Nat → List Value → List Blk} {e : Exit} (h : JoinR w0 F C e a w) : JoinR w0 F C e a w := h
theorem jend {F : Nat → Nat → Nat → Nat → Nat → Act} {C : Nat → Nat → Nat → Nat → Nat → List Value → List Blk} (n g1 c1 g2 c2 : Nat) (m : List Value) (he : a = F n g1 c1 g2 c2) (hm : Mem w0 w (C n g1 c1 g2 c2 m)) : JoinR w0 F C .normal a w := ⟨n, g1, c1, g2, c2, m, he, hm⟩
end
end Go.Proofs.Ytelnajpjanmliaa

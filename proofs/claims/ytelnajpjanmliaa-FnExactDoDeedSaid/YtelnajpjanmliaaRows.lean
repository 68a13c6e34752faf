/-
  No cell of these rows narrows 'for every input' (looked for: loops, veiled, ifaces, maps, wideKeys, modest, calm, conditions, laid).
  DERIVED. THE GIVEN ROWS OF THIS SEAT. 5 by the template 'for every input the law returns true; each argument reads behind the call as it read before'; 0 by the template 'total and deterministic' (their statements: YtelnajpjanmliaaTotals.lean).
  GIVEN WITH THE SEED: the statements are not yours to turn. If you find one false, say at which input.
  Laid BY PROGRAM, IN A SANDBOX (cutbox-rows.mjs): the forced cells as the released guide's own fill.sh prints them over the translation 601648e5799d12e5… (all of the seat's roots in one cut). By AI agents, Wed Nov 11 2026. No macro, syntax, notation, axiom, sorry.
-/
import Derived.Test.YtelnajpjanmliaaChecked
import GoSem.Claim
import GoSem.ClaimJoined
import GoSem.ClaimMapViews
import Derived.JoinedTies
import Derived.KernelRfl
namespace Go.Proofs.Ytelnajpjanmliaa
/- THE CELL 'sum', in the pinned program and in every row, IS THE sha256 OF THE DUMP (.gsa) THAT YtelnajpjanmliaaProg.lean LOADS. Nothing in Lean hashes anything: it is a label: what it is worth is what the hold of that sum in a sandbox is worth. -/
noncomputable def Try.pinned : Pinned := { name := "ytelnajpjanmliaa", sum := "601648e5799d12e56f5d8cacd804342faaef36ee171bcfa361a89dc9bce2add7", checked := Try.checked }
namespace Rows
def none {H : Type} : Left H := { results := [], args := [] }

/-- 'laws.FnExactDoDeed': WHATEVER THE INPUT: true; the input reads as it did. -/
def fnExactDoDeedSpec : ChangeSpec := { name := "fnExactDoDeed", fn := fun _ => fun
  | [d1, d2] => { results := [.lit (.bool true)], args := [d1, d2] }
  | _ => none }
def fnExactDoDeedRow : OpenClaim := { program := "ytelnajpjanmliaa", sum := "601648e5799d12e56f5d8cacd804342faaef36ee171bcfa361a89dc9bce2add7", func := "loop.example/g01194/laws.FnExactDoDeed", spec := "fnExactDoDeed", unfollowed := true, recurses := true, apart := false }
def FnExactDoDeedSaid : Prop := fnExactDoDeedRow.holds Try.pinned (OpenSpec.ofChange fnExactDoDeedSpec)

/-- ITS FALSE NEIGHBOUR: 'it returns false'. Refute it at one input. -/
def fnExactDoDeedWrong : ChangeSpec := { name := "fnExactDoDeed", fn := fun _ => fun
  | [d1, d2] => { results := [.lit (.bool false)], args := [d1, d2] }
  | _ => none }
def FnExactDoDeedWrongFalsely : Prop := fnExactDoDeedRow.holds Try.pinned (OpenSpec.ofChange fnExactDoDeedWrong)

/-- 'laws.FnExactMeanRoom': WHATEVER THE INPUT: true; the input reads as it did. -/
def fnExactMeanRoomSpec : ChangeSpec := { name := "fnExactMeanRoom", fn := fun _ => fun
  | [d1, d2] => { results := [.lit (.bool true)], args := [d1, d2] }
  | _ => none }
def fnExactMeanRoomRow : OpenClaim := { program := "ytelnajpjanmliaa", sum := "601648e5799d12e56f5d8cacd804342faaef36ee171bcfa361a89dc9bce2add7", func := "loop.example/g01194/laws.FnExactMeanRoom", spec := "fnExactMeanRoom", unfollowed := true, recurses := true, apart := false }
def FnExactMeanRoomSaid : Prop := fnExactMeanRoomRow.holds Try.pinned (OpenSpec.ofChange fnExactMeanRoomSpec)

/-- ITS FALSE NEIGHBOUR: 'it returns false'. Refute it at one input. -/
def fnExactMeanRoomWrong : ChangeSpec := { name := "fnExactMeanRoom", fn := fun _ => fun
  | [d1, d2] => { results := [.lit (.bool false)], args := [d1, d2] }
  | _ => none }
def FnExactMeanRoomWrongFalsely : Prop := fnExactMeanRoomRow.holds Try.pinned (OpenSpec.ofChange fnExactMeanRoomWrong)

/-- 'laws.FnExactBestRoom': WHATEVER THE INPUT: true; the input reads as it did. -/
def fnExactBestRoomSpec : ChangeSpec := { name := "fnExactBestRoom", fn := fun _ => fun
  | [d] => { results := [.lit (.bool true)], args := [d] }
  | _ => none }
def fnExactBestRoomRow : OpenClaim := { program := "ytelnajpjanmliaa", sum := "601648e5799d12e56f5d8cacd804342faaef36ee171bcfa361a89dc9bce2add7", func := "loop.example/g01194/laws.FnExactBestRoom", spec := "fnExactBestRoom", unfollowed := true, recurses := true, apart := false }
def FnExactBestRoomSaid : Prop := fnExactBestRoomRow.holds Try.pinned (OpenSpec.ofChange fnExactBestRoomSpec)

/-- ITS FALSE NEIGHBOUR: 'it returns false'. Refute it at one input. -/
def fnExactBestRoomWrong : ChangeSpec := { name := "fnExactBestRoom", fn := fun _ => fun
  | [d] => { results := [.lit (.bool false)], args := [d] }
  | _ => none }
def FnExactBestRoomWrongFalsely : Prop := fnExactBestRoomRow.holds Try.pinned (OpenSpec.ofChange fnExactBestRoomWrong)

/-- 'laws.FnExactKeepChance': WHATEVER THE INPUT: true; the input reads as it did. -/
def fnExactKeepChanceSpec : ChangeSpec := { name := "fnExactKeepChance", fn := fun _ => fun
  | [d1, d2] => { results := [.lit (.bool true)], args := [d1, d2] }
  | _ => none }
def fnExactKeepChanceRow : OpenClaim := { program := "ytelnajpjanmliaa", sum := "601648e5799d12e56f5d8cacd804342faaef36ee171bcfa361a89dc9bce2add7", func := "loop.example/g01194/laws.FnExactKeepChance", spec := "fnExactKeepChance", unfollowed := true, recurses := true, apart := false }
def FnExactKeepChanceSaid : Prop := fnExactKeepChanceRow.holds Try.pinned (OpenSpec.ofChange fnExactKeepChanceSpec)

/-- ITS FALSE NEIGHBOUR: 'it returns false'. Refute it at one input. -/
def fnExactKeepChanceWrong : ChangeSpec := { name := "fnExactKeepChance", fn := fun _ => fun
  | [d1, d2] => { results := [.lit (.bool false)], args := [d1, d2] }
  | _ => none }
def FnExactKeepChanceWrongFalsely : Prop := fnExactKeepChanceRow.holds Try.pinned (OpenSpec.ofChange fnExactKeepChanceWrong)

/-- 'laws.FnExactReachRule': WHATEVER THE INPUT: true; the input reads as it did. -/
def fnExactReachRuleSpec : ChangeSpec := { name := "fnExactReachRule", fn := fun _ => fun
  | [d1, d2] => { results := [.lit (.bool true)], args := [d1, d2] }
  | _ => none }
def fnExactReachRuleRow : OpenClaim := { program := "ytelnajpjanmliaa", sum := "601648e5799d12e56f5d8cacd804342faaef36ee171bcfa361a89dc9bce2add7", func := "loop.example/g01194/laws.FnExactReachRule", spec := "fnExactReachRule", unfollowed := true, recurses := true, apart := false }
def FnExactReachRuleSaid : Prop := fnExactReachRuleRow.holds Try.pinned (OpenSpec.ofChange fnExactReachRuleSpec)

/-- ITS FALSE NEIGHBOUR: 'it returns false'. Refute it at one input. -/
def fnExactReachRuleWrong : ChangeSpec := { name := "fnExactReachRule", fn := fun _ => fun
  | [d1, d2] => { results := [.lit (.bool false)], args := [d1, d2] }
  | _ => none }
def FnExactReachRuleWrongFalsely : Prop := fnExactReachRuleRow.holds Try.pinned (OpenSpec.ofChange fnExactReachRuleWrong)

/- THE SECOND FORM. 'bulk': how many values and letters a reading holds, each counted each time it is reached (what is shared counts as often as it is met; a slice's spare places count too). A statement '..UptoSaid' is the law's where the arguments, and the package variables that the reading takes, are together of bulk at most 1048576: NARROWER than '..Said'. Prove '..Said' where nothing that the law and all that it calls make is longer than what came in: it says more and counts as full. Else prove '..UptoSaid'. A law counts once. -/
mutual
def uptoBulk {H : Type} : DataW H → Nat
  | .lit (.string bytes) => bytes.length + 1
  | .lit _ => 1
  | .nil => 1
  | .ptr d => uptoBulk d + 1
  | .slice elems spare => uptoBulkAll elems + uptoBulkAll spare + 1
  | .agg parts => uptoBulkAll parts + 1
  | .iface _ d => uptoBulk d + 1
  | .map entries => uptoBulkEntries entries + 1
  | .held _ => 1
def uptoBulkAll {H : Type} : List (DataW H) → Nat
  | [] => 0
  | d :: r => uptoBulk d + uptoBulkAll r
def uptoBulkEntries {H : Type} : List (Lit × DataW H) → Nat
  | [] => 0
  | x :: r => uptoBulkEntry x + uptoBulkEntries r
def uptoBulkEntry {H : Type} : Lit × DataW H → Nat
  | (.string bytes, d) => bytes.length + uptoBulk d + 1
  | (_, d) => uptoBulk d + 1
 end
def uptoSmall : (H : Type) → List (DataW H) → Bool := fun _ ds => decide (uptoBulkAll ds ≤ 1048576)
def OpenSpec.upto (s : _root_.Go.ChangeSpec) : _root_.Go.OpenSpec := { _root_.Go.OpenSpec.ofChange s with cond := some uptoSmall }

/-- 'laws.FnExactDoDeed', WHERE WHAT IT READS IS OF BULK AT MOST 1048576: true; the input reads as it did. -/
def fnExactDoDeedUptoRow : OpenClaim := { program := "ytelnajpjanmliaa", sum := "601648e5799d12e56f5d8cacd804342faaef36ee171bcfa361a89dc9bce2add7", func := "loop.example/g01194/laws.FnExactDoDeed", spec := "fnExactDoDeed", unfollowed := true, recurses := true, apart := false, narrowed := true }
def FnExactDoDeedUptoSaid : Prop := fnExactDoDeedUptoRow.holds Try.pinned (OpenSpec.upto fnExactDoDeedSpec)

/-- 'laws.FnExactMeanRoom', WHERE WHAT IT READS IS OF BULK AT MOST 1048576: true; the input reads as it did. -/
def fnExactMeanRoomUptoRow : OpenClaim := { program := "ytelnajpjanmliaa", sum := "601648e5799d12e56f5d8cacd804342faaef36ee171bcfa361a89dc9bce2add7", func := "loop.example/g01194/laws.FnExactMeanRoom", spec := "fnExactMeanRoom", unfollowed := true, recurses := true, apart := false, narrowed := true }
def FnExactMeanRoomUptoSaid : Prop := fnExactMeanRoomUptoRow.holds Try.pinned (OpenSpec.upto fnExactMeanRoomSpec)

/-- 'laws.FnExactBestRoom', WHERE WHAT IT READS IS OF BULK AT MOST 1048576: true; the input reads as it did. -/
def fnExactBestRoomUptoRow : OpenClaim := { program := "ytelnajpjanmliaa", sum := "601648e5799d12e56f5d8cacd804342faaef36ee171bcfa361a89dc9bce2add7", func := "loop.example/g01194/laws.FnExactBestRoom", spec := "fnExactBestRoom", unfollowed := true, recurses := true, apart := false, narrowed := true }
def FnExactBestRoomUptoSaid : Prop := fnExactBestRoomUptoRow.holds Try.pinned (OpenSpec.upto fnExactBestRoomSpec)

/-- 'laws.FnExactKeepChance', WHERE WHAT IT READS IS OF BULK AT MOST 1048576: true; the input reads as it did. -/
def fnExactKeepChanceUptoRow : OpenClaim := { program := "ytelnajpjanmliaa", sum := "601648e5799d12e56f5d8cacd804342faaef36ee171bcfa361a89dc9bce2add7", func := "loop.example/g01194/laws.FnExactKeepChance", spec := "fnExactKeepChance", unfollowed := true, recurses := true, apart := false, narrowed := true }
def FnExactKeepChanceUptoSaid : Prop := fnExactKeepChanceUptoRow.holds Try.pinned (OpenSpec.upto fnExactKeepChanceSpec)

/-- 'laws.FnExactReachRule', WHERE WHAT IT READS IS OF BULK AT MOST 1048576: true; the input reads as it did. -/
def fnExactReachRuleUptoRow : OpenClaim := { program := "ytelnajpjanmliaa", sum := "601648e5799d12e56f5d8cacd804342faaef36ee171bcfa361a89dc9bce2add7", func := "loop.example/g01194/laws.FnExactReachRule", spec := "fnExactReachRule", unfollowed := true, recurses := true, apart := false, narrowed := true }
def FnExactReachRuleUptoSaid : Prop := fnExactReachRuleUptoRow.holds Try.pinned (OpenSpec.upto fnExactReachRuleSpec)

end Rows
end Go.Proofs.Ytelnajpjanmliaa

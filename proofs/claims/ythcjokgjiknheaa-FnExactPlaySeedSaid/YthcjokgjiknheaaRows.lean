/-
  No cell of these rows narrows 'for every input' (looked for: loops, veiled, ifaces, maps, wideKeys, modest, calm, conditions, laid).
  DERIVED. THE GIVEN ROWS OF THIS SEAT. 10 by the template 'for every input the law returns true; each argument reads behind the call as it read before'; 0 by the template 'total and deterministic' (their statements: YthcjokgjiknheaaTotals.lean).
  GIVEN WITH THE SEED: the statements are not yours to turn. If you find one false, say at which input.
  Laid BY PROGRAM, IN A SANDBOX (cutbox-rows.mjs): the forced cells as the released guide's own fill.sh prints them over the translation 44dcfbc212b466c9… (all of the seat's roots in one cut). By AI agents, Wed Nov 11 2026. No macro, syntax, notation, axiom, sorry.
-/
import Derived.Test.YthcjokgjiknheaaChecked
import GoSem.Claim
import GoSem.ClaimJoined
import GoSem.ClaimMapViews
import Derived.JoinedTies
import Derived.KernelRfl
namespace Go.Proofs.Ythcjokgjiknheaa
/- THE CELL 'sum', in the pinned program and in every row, IS THE sha256 OF THE DUMP (.gsa) THAT YthcjokgjiknheaaProg.lean LOADS. Nothing in Lean hashes anything: it is a label: what it is worth is what the hold of that sum in a sandbox is worth. -/
noncomputable def Try.pinned : Pinned := { name := "ythcjokgjiknheaa", sum := "44dcfbc212b466c9ca97ee7fd953f74d56fecb1de41db38164d1e8b34c2b6841", checked := Try.checked }
namespace Rows
def none {H : Type} : Left H := { results := [], args := [] }

/-- 'laws.FnExactIsReplay': WHATEVER THE INPUT: true; the input reads as it did. -/
def fnExactIsReplaySpec : ChangeSpec := { name := "fnExactIsReplay", fn := fun _ => fun
  | [d] => { results := [.lit (.bool true)], args := [d] }
  | _ => none }
def fnExactIsReplayRow : OpenClaim := { program := "ythcjokgjiknheaa", sum := "44dcfbc212b466c9ca97ee7fd953f74d56fecb1de41db38164d1e8b34c2b6841", func := "loop.example/g01194/laws.FnExactIsReplay", spec := "fnExactIsReplay", unfollowed := true, recurses := true, apart := false }
def FnExactIsReplaySaid : Prop := fnExactIsReplayRow.holds Try.pinned (OpenSpec.ofChange fnExactIsReplaySpec)

/-- ITS FALSE NEIGHBOUR: 'it returns false'. Refute it at one input. -/
def fnExactIsReplayWrong : ChangeSpec := { name := "fnExactIsReplay", fn := fun _ => fun
  | [d] => { results := [.lit (.bool false)], args := [d] }
  | _ => none }
def FnExactIsReplayWrongFalsely : Prop := fnExactIsReplayRow.holds Try.pinned (OpenSpec.ofChange fnExactIsReplayWrong)

/-- 'laws.FnExactBoardAt': WHATEVER THE INPUT: true; the input reads as it did. -/
def fnExactBoardAtSpec : ChangeSpec := { name := "fnExactBoardAt", fn := fun _ => fun
  | [d1, d2] => { results := [.lit (.bool true)], args := [d1, d2] }
  | _ => none }
def fnExactBoardAtRow : OpenClaim := { program := "ythcjokgjiknheaa", sum := "44dcfbc212b466c9ca97ee7fd953f74d56fecb1de41db38164d1e8b34c2b6841", func := "loop.example/g01194/laws.FnExactBoardAt", spec := "fnExactBoardAt", unfollowed := true, recurses := true, apart := false }
def FnExactBoardAtSaid : Prop := fnExactBoardAtRow.holds Try.pinned (OpenSpec.ofChange fnExactBoardAtSpec)

/-- ITS FALSE NEIGHBOUR: 'it returns false'. Refute it at one input. -/
def fnExactBoardAtWrong : ChangeSpec := { name := "fnExactBoardAt", fn := fun _ => fun
  | [d1, d2] => { results := [.lit (.bool false)], args := [d1, d2] }
  | _ => none }
def FnExactBoardAtWrongFalsely : Prop := fnExactBoardAtRow.holds Try.pinned (OpenSpec.ofChange fnExactBoardAtWrong)

/-- 'laws.FnExactFirstParting': WHATEVER THE INPUT: true; the input reads as it did. -/
def fnExactFirstPartingSpec : ChangeSpec := { name := "fnExactFirstParting", fn := fun _ => fun
  | [d1, d2] => { results := [.lit (.bool true)], args := [d1, d2] }
  | _ => none }
def fnExactFirstPartingRow : OpenClaim := { program := "ythcjokgjiknheaa", sum := "44dcfbc212b466c9ca97ee7fd953f74d56fecb1de41db38164d1e8b34c2b6841", func := "loop.example/g01194/laws.FnExactFirstParting", spec := "fnExactFirstParting", unfollowed := true, recurses := true, apart := false }
def FnExactFirstPartingSaid : Prop := fnExactFirstPartingRow.holds Try.pinned (OpenSpec.ofChange fnExactFirstPartingSpec)

/-- ITS FALSE NEIGHBOUR: 'it returns false'. Refute it at one input. -/
def fnExactFirstPartingWrong : ChangeSpec := { name := "fnExactFirstParting", fn := fun _ => fun
  | [d1, d2] => { results := [.lit (.bool false)], args := [d1, d2] }
  | _ => none }
def FnExactFirstPartingWrongFalsely : Prop := fnExactFirstPartingRow.holds Try.pinned (OpenSpec.ofChange fnExactFirstPartingWrong)

/-- 'laws.FnExactCommonSteps': WHATEVER THE INPUT: true; the input reads as it did. -/
def fnExactCommonStepsSpec : ChangeSpec := { name := "fnExactCommonSteps", fn := fun _ => fun
  | [d1, d2] => { results := [.lit (.bool true)], args := [d1, d2] }
  | _ => none }
def fnExactCommonStepsRow : OpenClaim := { program := "ythcjokgjiknheaa", sum := "44dcfbc212b466c9ca97ee7fd953f74d56fecb1de41db38164d1e8b34c2b6841", func := "loop.example/g01194/laws.FnExactCommonSteps", spec := "fnExactCommonSteps", unfollowed := true, recurses := true, apart := false }
def FnExactCommonStepsSaid : Prop := fnExactCommonStepsRow.holds Try.pinned (OpenSpec.ofChange fnExactCommonStepsSpec)

/-- ITS FALSE NEIGHBOUR: 'it returns false'. Refute it at one input. -/
def fnExactCommonStepsWrong : ChangeSpec := { name := "fnExactCommonSteps", fn := fun _ => fun
  | [d1, d2] => { results := [.lit (.bool false)], args := [d1, d2] }
  | _ => none }
def FnExactCommonStepsWrongFalsely : Prop := fnExactCommonStepsRow.holds Try.pinned (OpenSpec.ofChange fnExactCommonStepsWrong)

/-- 'laws.FnExactReplayScore': WHATEVER THE INPUT: true; the input reads as it did. -/
def fnExactReplayScoreSpec : ChangeSpec := { name := "fnExactReplayScore", fn := fun _ => fun
  | [d] => { results := [.lit (.bool true)], args := [d] }
  | _ => none }
def fnExactReplayScoreRow : OpenClaim := { program := "ythcjokgjiknheaa", sum := "44dcfbc212b466c9ca97ee7fd953f74d56fecb1de41db38164d1e8b34c2b6841", func := "loop.example/g01194/laws.FnExactReplayScore", spec := "fnExactReplayScore", unfollowed := true, recurses := true, apart := false }
def FnExactReplayScoreSaid : Prop := fnExactReplayScoreRow.holds Try.pinned (OpenSpec.ofChange fnExactReplayScoreSpec)

/-- ITS FALSE NEIGHBOUR: 'it returns false'. Refute it at one input. -/
def fnExactReplayScoreWrong : ChangeSpec := { name := "fnExactReplayScore", fn := fun _ => fun
  | [d] => { results := [.lit (.bool false)], args := [d] }
  | _ => none }
def FnExactReplayScoreWrongFalsely : Prop := fnExactReplayScoreRow.holds Try.pinned (OpenSpec.ofChange fnExactReplayScoreWrong)

/-- 'laws.FnExactHighestIn': WHATEVER THE INPUT: true; the input reads as it did. -/
def fnExactHighestInSpec : ChangeSpec := { name := "fnExactHighestIn", fn := fun _ => fun
  | [d] => { results := [.lit (.bool true)], args := [d] }
  | _ => none }
def fnExactHighestInRow : OpenClaim := { program := "ythcjokgjiknheaa", sum := "44dcfbc212b466c9ca97ee7fd953f74d56fecb1de41db38164d1e8b34c2b6841", func := "loop.example/g01194/laws.FnExactHighestIn", spec := "fnExactHighestIn", unfollowed := true, recurses := true, apart := false }
def FnExactHighestInSaid : Prop := fnExactHighestInRow.holds Try.pinned (OpenSpec.ofChange fnExactHighestInSpec)

/-- ITS FALSE NEIGHBOUR: 'it returns false'. Refute it at one input. -/
def fnExactHighestInWrong : ChangeSpec := { name := "fnExactHighestIn", fn := fun _ => fun
  | [d] => { results := [.lit (.bool false)], args := [d] }
  | _ => none }
def FnExactHighestInWrongFalsely : Prop := fnExactHighestInRow.holds Try.pinned (OpenSpec.ofChange fnExactHighestInWrong)

/-- 'laws.FnExactUndoSteps': WHATEVER THE INPUT: true; the input reads as it did. -/
def fnExactUndoStepsSpec : ChangeSpec := { name := "fnExactUndoSteps", fn := fun _ => fun
  | [d1, d2] => { results := [.lit (.bool true)], args := [d1, d2] }
  | _ => none }
def fnExactUndoStepsRow : OpenClaim := { program := "ythcjokgjiknheaa", sum := "44dcfbc212b466c9ca97ee7fd953f74d56fecb1de41db38164d1e8b34c2b6841", func := "loop.example/g01194/laws.FnExactUndoSteps", spec := "fnExactUndoSteps", unfollowed := true, recurses := true, apart := false }
def FnExactUndoStepsSaid : Prop := fnExactUndoStepsRow.holds Try.pinned (OpenSpec.ofChange fnExactUndoStepsSpec)

/-- ITS FALSE NEIGHBOUR: 'it returns false'. Refute it at one input. -/
def fnExactUndoStepsWrong : ChangeSpec := { name := "fnExactUndoSteps", fn := fun _ => fun
  | [d1, d2] => { results := [.lit (.bool false)], args := [d1, d2] }
  | _ => none }
def FnExactUndoStepsWrongFalsely : Prop := fnExactUndoStepsRow.holds Try.pinned (OpenSpec.ofChange fnExactUndoStepsWrong)

/-- 'laws.FnExactAddStep': WHATEVER THE INPUT: true; the input reads as it did. -/
def fnExactAddStepSpec : ChangeSpec := { name := "fnExactAddStep", fn := fun _ => fun
  | [d1, d2] => { results := [.lit (.bool true)], args := [d1, d2] }
  | _ => none }
def fnExactAddStepRow : OpenClaim := { program := "ythcjokgjiknheaa", sum := "44dcfbc212b466c9ca97ee7fd953f74d56fecb1de41db38164d1e8b34c2b6841", func := "loop.example/g01194/laws.FnExactAddStep", spec := "fnExactAddStep", unfollowed := true, recurses := true, apart := false }
def FnExactAddStepSaid : Prop := fnExactAddStepRow.holds Try.pinned (OpenSpec.ofChange fnExactAddStepSpec)

/-- ITS FALSE NEIGHBOUR: 'it returns false'. Refute it at one input. -/
def fnExactAddStepWrong : ChangeSpec := { name := "fnExactAddStep", fn := fun _ => fun
  | [d1, d2] => { results := [.lit (.bool false)], args := [d1, d2] }
  | _ => none }
def FnExactAddStepWrongFalsely : Prop := fnExactAddStepRow.holds Try.pinned (OpenSpec.ofChange fnExactAddStepWrong)

/-- 'laws.FnExactReplayText': WHATEVER THE INPUT: true; the input reads as it did. -/
def fnExactReplayTextSpec : ChangeSpec := { name := "fnExactReplayText", fn := fun _ => fun
  | [d] => { results := [.lit (.bool true)], args := [d] }
  | _ => none }
def fnExactReplayTextRow : OpenClaim := { program := "ythcjokgjiknheaa", sum := "44dcfbc212b466c9ca97ee7fd953f74d56fecb1de41db38164d1e8b34c2b6841", func := "loop.example/g01194/laws.FnExactReplayText", spec := "fnExactReplayText", inPlace := ["internal/abi.NoEscape", "internal/bytealg.MakeNoZero"], unfollowed := true, recurses := true, apart := false }
def FnExactReplayTextSaid : Prop := fnExactReplayTextRow.holds Try.pinned (OpenSpec.ofChange fnExactReplayTextSpec)

/-- ITS FALSE NEIGHBOUR: 'it returns false'. Refute it at one input. -/
def fnExactReplayTextWrong : ChangeSpec := { name := "fnExactReplayText", fn := fun _ => fun
  | [d] => { results := [.lit (.bool false)], args := [d] }
  | _ => none }
def FnExactReplayTextWrongFalsely : Prop := fnExactReplayTextRow.holds Try.pinned (OpenSpec.ofChange fnExactReplayTextWrong)

/-- 'laws.FnExactPlaySeed': WHATEVER THE INPUT: true; the input reads as it did. -/
def fnExactPlaySeedSpec : ChangeSpec := { name := "fnExactPlaySeed", fn := fun _ => fun
  | [d1, d2, d3, d4] => { results := [.lit (.bool true)], args := [d1, d2, d3, d4] }
  | _ => none }
def fnExactPlaySeedRow : OpenClaim := { program := "ythcjokgjiknheaa", sum := "44dcfbc212b466c9ca97ee7fd953f74d56fecb1de41db38164d1e8b34c2b6841", func := "loop.example/g01194/laws.FnExactPlaySeed", spec := "fnExactPlaySeed", unfollowed := true, recurses := true, apart := false }
def FnExactPlaySeedSaid : Prop := fnExactPlaySeedRow.holds Try.pinned (OpenSpec.ofChange fnExactPlaySeedSpec)

/-- ITS FALSE NEIGHBOUR: 'it returns false'. Refute it at one input. -/
def fnExactPlaySeedWrong : ChangeSpec := { name := "fnExactPlaySeed", fn := fun _ => fun
  | [d1, d2, d3, d4] => { results := [.lit (.bool false)], args := [d1, d2, d3, d4] }
  | _ => none }
def FnExactPlaySeedWrongFalsely : Prop := fnExactPlaySeedRow.holds Try.pinned (OpenSpec.ofChange fnExactPlaySeedWrong)

/- THE SECOND FORM. 'bulk': how many values and letters a reading holds, each counted each time it is reached (what is shared counts as often as it is met; a slice's spare places count too). A statement '..UptoSaid' is the law's where the arguments, and the package variables that the reading takes, are together of bulk at most 1048576: NARROWER than '..Said'. Prove '..Said' where nothing that the law and all that it calls make is longer than what came in: it says more and counts as full. Else prove '..UptoSaid'. A law counts once. -/
mutual
def uptoBulk {H : Type} : DataW H → Nat
  | .lit (.string bytes) => bytes.length + 1
  | .lit _ => 1
  | .nil => 1
  | .ptr d => uptoBulk d + 1
  | .slice elems spare => uptoBulkAll elems + uptoBulkAll spare + 1
  | .agg parts => uptoBulkAll parts + 1
  | .iface _ d => uptoBulk d + 1
  | .map entries => uptoBulkEntries entries + 1
  | .held _ => 1
def uptoBulkAll {H : Type} : List (DataW H) → Nat
  | [] => 0
  | d :: r => uptoBulk d + uptoBulkAll r
def uptoBulkEntries {H : Type} : List (Lit × DataW H) → Nat
  | [] => 0
  | x :: r => uptoBulkEntry x + uptoBulkEntries r
def uptoBulkEntry {H : Type} : Lit × DataW H → Nat
  | (.string bytes, d) => bytes.length + uptoBulk d + 1
  | (_, d) => uptoBulk d + 1
 end
def uptoSmall : (H : Type) → List (DataW H) → Bool := fun _ ds => decide (uptoBulkAll ds ≤ 1048576)
def OpenSpec.upto (s : _root_.Go.ChangeSpec) : _root_.Go.OpenSpec := { _root_.Go.OpenSpec.ofChange s with cond := some uptoSmall }

/-- 'laws.FnExactIsReplay', WHERE WHAT IT READS IS OF BULK AT MOST 1048576: true; the input reads as it did. -/
def fnExactIsReplayUptoRow : OpenClaim := { program := "ythcjokgjiknheaa", sum := "44dcfbc212b466c9ca97ee7fd953f74d56fecb1de41db38164d1e8b34c2b6841", func := "loop.example/g01194/laws.FnExactIsReplay", spec := "fnExactIsReplay", unfollowed := true, recurses := true, apart := false, narrowed := true }
def FnExactIsReplayUptoSaid : Prop := fnExactIsReplayUptoRow.holds Try.pinned (OpenSpec.upto fnExactIsReplaySpec)

/-- 'laws.FnExactBoardAt', WHERE WHAT IT READS IS OF BULK AT MOST 1048576: true; the input reads as it did. -/
def fnExactBoardAtUptoRow : OpenClaim := { program := "ythcjokgjiknheaa", sum := "44dcfbc212b466c9ca97ee7fd953f74d56fecb1de41db38164d1e8b34c2b6841", func := "loop.example/g01194/laws.FnExactBoardAt", spec := "fnExactBoardAt", unfollowed := true, recurses := true, apart := false, narrowed := true }
def FnExactBoardAtUptoSaid : Prop := fnExactBoardAtUptoRow.holds Try.pinned (OpenSpec.upto fnExactBoardAtSpec)

/-- 'laws.FnExactFirstParting', WHERE WHAT IT READS IS OF BULK AT MOST 1048576: true; the input reads as it did. -/
def fnExactFirstPartingUptoRow : OpenClaim := { program := "ythcjokgjiknheaa", sum := "44dcfbc212b466c9ca97ee7fd953f74d56fecb1de41db38164d1e8b34c2b6841", func := "loop.example/g01194/laws.FnExactFirstParting", spec := "fnExactFirstParting", unfollowed := true, recurses := true, apart := false, narrowed := true }
def FnExactFirstPartingUptoSaid : Prop := fnExactFirstPartingUptoRow.holds Try.pinned (OpenSpec.upto fnExactFirstPartingSpec)

/-- 'laws.FnExactCommonSteps', WHERE WHAT IT READS IS OF BULK AT MOST 1048576: true; the input reads as it did. -/
def fnExactCommonStepsUptoRow : OpenClaim := { program := "ythcjokgjiknheaa", sum := "44dcfbc212b466c9ca97ee7fd953f74d56fecb1de41db38164d1e8b34c2b6841", func := "loop.example/g01194/laws.FnExactCommonSteps", spec := "fnExactCommonSteps", unfollowed := true, recurses := true, apart := false, narrowed := true }
def FnExactCommonStepsUptoSaid : Prop := fnExactCommonStepsUptoRow.holds Try.pinned (OpenSpec.upto fnExactCommonStepsSpec)

/-- 'laws.FnExactReplayScore', WHERE WHAT IT READS IS OF BULK AT MOST 1048576: true; the input reads as it did. -/
def fnExactReplayScoreUptoRow : OpenClaim := { program := "ythcjokgjiknheaa", sum := "44dcfbc212b466c9ca97ee7fd953f74d56fecb1de41db38164d1e8b34c2b6841", func := "loop.example/g01194/laws.FnExactReplayScore", spec := "fnExactReplayScore", unfollowed := true, recurses := true, apart := false, narrowed := true }
def FnExactReplayScoreUptoSaid : Prop := fnExactReplayScoreUptoRow.holds Try.pinned (OpenSpec.upto fnExactReplayScoreSpec)

/-- 'laws.FnExactHighestIn', WHERE WHAT IT READS IS OF BULK AT MOST 1048576: true; the input reads as it did. -/
def fnExactHighestInUptoRow : OpenClaim := { program := "ythcjokgjiknheaa", sum := "44dcfbc212b466c9ca97ee7fd953f74d56fecb1de41db38164d1e8b34c2b6841", func := "loop.example/g01194/laws.FnExactHighestIn", spec := "fnExactHighestIn", unfollowed := true, recurses := true, apart := false, narrowed := true }
def FnExactHighestInUptoSaid : Prop := fnExactHighestInUptoRow.holds Try.pinned (OpenSpec.upto fnExactHighestInSpec)

/-- 'laws.FnExactUndoSteps', WHERE WHAT IT READS IS OF BULK AT MOST 1048576: true; the input reads as it did. -/
def fnExactUndoStepsUptoRow : OpenClaim := { program := "ythcjokgjiknheaa", sum := "44dcfbc212b466c9ca97ee7fd953f74d56fecb1de41db38164d1e8b34c2b6841", func := "loop.example/g01194/laws.FnExactUndoSteps", spec := "fnExactUndoSteps", unfollowed := true, recurses := true, apart := false, narrowed := true }
def FnExactUndoStepsUptoSaid : Prop := fnExactUndoStepsUptoRow.holds Try.pinned (OpenSpec.upto fnExactUndoStepsSpec)

/-- 'laws.FnExactAddStep', WHERE WHAT IT READS IS OF BULK AT MOST 1048576: true; the input reads as it did. -/
def fnExactAddStepUptoRow : OpenClaim := { program := "ythcjokgjiknheaa", sum := "44dcfbc212b466c9ca97ee7fd953f74d56fecb1de41db38164d1e8b34c2b6841", func := "loop.example/g01194/laws.FnExactAddStep", spec := "fnExactAddStep", unfollowed := true, recurses := true, apart := false, narrowed := true }
def FnExactAddStepUptoSaid : Prop := fnExactAddStepUptoRow.holds Try.pinned (OpenSpec.upto fnExactAddStepSpec)

/-- 'laws.FnExactReplayText', WHERE WHAT IT READS IS OF BULK AT MOST 1048576: true; the input reads as it did. -/
def fnExactReplayTextUptoRow : OpenClaim := { program := "ythcjokgjiknheaa", sum := "44dcfbc212b466c9ca97ee7fd953f74d56fecb1de41db38164d1e8b34c2b6841", func := "loop.example/g01194/laws.FnExactReplayText", spec := "fnExactReplayText", inPlace := ["internal/abi.NoEscape", "internal/bytealg.MakeNoZero"], unfollowed := true, recurses := true, apart := false, narrowed := true }
def FnExactReplayTextUptoSaid : Prop := fnExactReplayTextUptoRow.holds Try.pinned (OpenSpec.upto fnExactReplayTextSpec)

/-- 'laws.FnExactPlaySeed', WHERE WHAT IT READS IS OF BULK AT MOST 1048576: true; the input reads as it did. -/
def fnExactPlaySeedUptoRow : OpenClaim := { program := "ythcjokgjiknheaa", sum := "44dcfbc212b466c9ca97ee7fd953f74d56fecb1de41db38164d1e8b34c2b6841", func := "loop.example/g01194/laws.FnExactPlaySeed", spec := "fnExactPlaySeed", unfollowed := true, recurses := true, apart := false, narrowed := true }
def FnExactPlaySeedUptoSaid : Prop := fnExactPlaySeedUptoRow.holds Try.pinned (OpenSpec.upto fnExactPlaySeedSpec)

end Rows
end Go.Proofs.Ythcjokgjiknheaa

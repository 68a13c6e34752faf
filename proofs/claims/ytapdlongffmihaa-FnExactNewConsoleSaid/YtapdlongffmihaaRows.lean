/-
  No cell of these rows narrows 'for every input' (looked for: loops, veiled, ifaces, maps, wideKeys, modest, calm, conditions, laid).
  DERIVED. THE GIVEN ROWS OF THIS SEAT. 11 by the template 'for every input the law returns true; each argument reads behind the call as it read before'; 0 by the template 'total and deterministic' (their statements: YtapdlongffmihaaTotals.lean).
  GIVEN WITH THE SEED: the statements are not yours to turn. If you find one false, say at which input.
  Laid BY PROGRAM, IN A SANDBOX (cutbox-rows.mjs): the forced cells as the released guide's own fill.sh prints them over the translation 4b48321965eb0a52… (all of the seat's roots in one cut). By AI agents, Wed Nov 11 2026. No macro, syntax, notation, axiom, sorry.
-/
import Derived.Test.YtapdlongffmihaaChecked
import GoSem.Claim
import GoSem.ClaimJoined
import GoSem.ClaimMapViews
import Derived.JoinedTies
import Derived.KernelRfl
namespace Go.Proofs.Ytapdlongffmihaa
/- THE CELL 'sum', in the pinned program and in every row, IS THE sha256 OF THE DUMP (.gsa) THAT YtapdlongffmihaaProg.lean LOADS. Nothing in Lean hashes anything: it is a label: what it is worth is what the hold of that sum in a sandbox is worth. -/
noncomputable def Try.pinned : Pinned := { name := "ytapdlongffmihaa", sum := "4b48321965eb0a529af09f4093a4a80956ab13ccc65b211f71a6a95e4677a99e", checked := Try.checked }
namespace Rows
def none {H : Type} : Left H := { results := [], args := [] }

/-- 'laws.FnExactNextSeed': WHATEVER THE INPUT: true; the input reads as it did. -/
def fnExactNextSeedSpec : ChangeSpec := { name := "fnExactNextSeed", fn := fun _ => fun
  | [d] => { results := [.lit (.bool true)], args := [d] }
  | _ => none }
def fnExactNextSeedRow : OpenClaim := { program := "ytapdlongffmihaa", sum := "4b48321965eb0a529af09f4093a4a80956ab13ccc65b211f71a6a95e4677a99e", func := "loop.example/g01194/laws.FnExactNextSeed", spec := "fnExactNextSeed", apart := false }
def FnExactNextSeedSaid : Prop := fnExactNextSeedRow.holds Try.pinned (OpenSpec.ofChange fnExactNextSeedSpec)

/-- ITS FALSE NEIGHBOUR: 'it returns false'. Refute it at one input. -/
def fnExactNextSeedWrong : ChangeSpec := { name := "fnExactNextSeed", fn := fun _ => fun
  | [d] => { results := [.lit (.bool false)], args := [d] }
  | _ => none }
def FnExactNextSeedWrongFalsely : Prop := fnExactNextSeedRow.holds Try.pinned (OpenSpec.ofChange fnExactNextSeedWrong)

/-- 'laws.FnExactStepText': WHATEVER THE INPUT: true; the input reads as it did. -/
def fnExactStepTextSpec : ChangeSpec := { name := "fnExactStepText", fn := fun _ => fun
  | [d] => { results := [.lit (.bool true)], args := [d] }
  | _ => none }
def fnExactStepTextRow : OpenClaim := { program := "ytapdlongffmihaa", sum := "4b48321965eb0a529af09f4093a4a80956ab13ccc65b211f71a6a95e4677a99e", func := "loop.example/g01194/laws.FnExactStepText", spec := "fnExactStepText", recurses := true, apart := false }
def FnExactStepTextSaid : Prop := fnExactStepTextRow.holds Try.pinned (OpenSpec.ofChange fnExactStepTextSpec)

/-- ITS FALSE NEIGHBOUR: 'it returns false'. Refute it at one input. -/
def fnExactStepTextWrong : ChangeSpec := { name := "fnExactStepText", fn := fun _ => fun
  | [d] => { results := [.lit (.bool false)], args := [d] }
  | _ => none }
def FnExactStepTextWrongFalsely : Prop := fnExactStepTextRow.holds Try.pinned (OpenSpec.ofChange fnExactStepTextWrong)

/-- 'laws.FnExactWorthBy': WHATEVER THE INPUT: true; the input reads as it did. -/
def fnExactWorthBySpec : ChangeSpec := { name := "fnExactWorthBy", fn := fun _ => fun
  | [d1, d2] => { results := [.lit (.bool true)], args := [d1, d2] }
  | _ => none }
def fnExactWorthByRow : OpenClaim := { program := "ytapdlongffmihaa", sum := "4b48321965eb0a529af09f4093a4a80956ab13ccc65b211f71a6a95e4677a99e", func := "loop.example/g01194/laws.FnExactWorthBy", spec := "fnExactWorthBy", apart := false }
def FnExactWorthBySaid : Prop := fnExactWorthByRow.holds Try.pinned (OpenSpec.ofChange fnExactWorthBySpec)

/-- ITS FALSE NEIGHBOUR: 'it returns false'. Refute it at one input. -/
def fnExactWorthByWrong : ChangeSpec := { name := "fnExactWorthBy", fn := fun _ => fun
  | [d1, d2] => { results := [.lit (.bool false)], args := [d1, d2] }
  | _ => none }
def FnExactWorthByWrongFalsely : Prop := fnExactWorthByRow.holds Try.pinned (OpenSpec.ofChange fnExactWorthByWrong)

/-- 'laws.FnExactIsDesk': WHATEVER THE INPUT: true; the input reads as it did. -/
def fnExactIsDeskSpec : ChangeSpec := { name := "fnExactIsDesk", fn := fun _ => fun
  | [d] => { results := [.lit (.bool true)], args := [d] }
  | _ => none }
def fnExactIsDeskRow : OpenClaim := { program := "ytapdlongffmihaa", sum := "4b48321965eb0a529af09f4093a4a80956ab13ccc65b211f71a6a95e4677a99e", func := "loop.example/g01194/laws.FnExactIsDesk", spec := "fnExactIsDesk", unfollowed := true, recurses := true, apart := false }
def FnExactIsDeskSaid : Prop := fnExactIsDeskRow.holds Try.pinned (OpenSpec.ofChange fnExactIsDeskSpec)

/-- ITS FALSE NEIGHBOUR: 'it returns false'. Refute it at one input. -/
def fnExactIsDeskWrong : ChangeSpec := { name := "fnExactIsDesk", fn := fun _ => fun
  | [d] => { results := [.lit (.bool false)], args := [d] }
  | _ => none }
def FnExactIsDeskWrongFalsely : Prop := fnExactIsDeskRow.holds Try.pinned (OpenSpec.ofChange fnExactIsDeskWrong)

/-- 'laws.FnExactMergeOf': WHATEVER THE INPUT: true; the input reads as it did. -/
def fnExactMergeOfSpec : ChangeSpec := { name := "fnExactMergeOf", fn := fun _ => fun
  | [d1, d2, d3] => { results := [.lit (.bool true)], args := [d1, d2, d3] }
  | _ => none }
def fnExactMergeOfRow : OpenClaim := { program := "ytapdlongffmihaa", sum := "4b48321965eb0a529af09f4093a4a80956ab13ccc65b211f71a6a95e4677a99e", func := "loop.example/g01194/laws.FnExactMergeOf", spec := "fnExactMergeOf", apart := false }
def FnExactMergeOfSaid : Prop := fnExactMergeOfRow.holds Try.pinned (OpenSpec.ofChange fnExactMergeOfSpec)

/-- ITS FALSE NEIGHBOUR: 'it returns false'. Refute it at one input. -/
def fnExactMergeOfWrong : ChangeSpec := { name := "fnExactMergeOf", fn := fun _ => fun
  | [d1, d2, d3] => { results := [.lit (.bool false)], args := [d1, d2, d3] }
  | _ => none }
def FnExactMergeOfWrongFalsely : Prop := fnExactMergeOfRow.holds Try.pinned (OpenSpec.ofChange fnExactMergeOfWrong)

/-- 'laws.FnExactNewDesk': WHATEVER THE INPUT: true; the input reads as it did. -/
def fnExactNewDeskSpec : ChangeSpec := { name := "fnExactNewDesk", fn := fun _ => fun
  | [d] => { results := [.lit (.bool true)], args := [d] }
  | _ => none }
def fnExactNewDeskRow : OpenClaim := { program := "ytapdlongffmihaa", sum := "4b48321965eb0a529af09f4093a4a80956ab13ccc65b211f71a6a95e4677a99e", func := "loop.example/g01194/laws.FnExactNewDesk", spec := "fnExactNewDesk", unfollowed := true, recurses := true, apart := false }
def FnExactNewDeskSaid : Prop := fnExactNewDeskRow.holds Try.pinned (OpenSpec.ofChange fnExactNewDeskSpec)

/-- ITS FALSE NEIGHBOUR: 'it returns false'. Refute it at one input. -/
def fnExactNewDeskWrong : ChangeSpec := { name := "fnExactNewDesk", fn := fun _ => fun
  | [d] => { results := [.lit (.bool false)], args := [d] }
  | _ => none }
def FnExactNewDeskWrongFalsely : Prop := fnExactNewDeskRow.holds Try.pinned (OpenSpec.ofChange fnExactNewDeskWrong)

/-- 'laws.FnExactSeedTile': WHATEVER THE INPUT: true; the input reads as it did. -/
def fnExactSeedTileSpec : ChangeSpec := { name := "fnExactSeedTile", fn := fun _ => fun
  | [d1, d2] => { results := [.lit (.bool true)], args := [d1, d2] }
  | _ => none }
def fnExactSeedTileRow : OpenClaim := { program := "ytapdlongffmihaa", sum := "4b48321965eb0a529af09f4093a4a80956ab13ccc65b211f71a6a95e4677a99e", func := "loop.example/g01194/laws.FnExactSeedTile", spec := "fnExactSeedTile", unfollowed := true, recurses := true, apart := false }
def FnExactSeedTileSaid : Prop := fnExactSeedTileRow.holds Try.pinned (OpenSpec.ofChange fnExactSeedTileSpec)

/-- ITS FALSE NEIGHBOUR: 'it returns false'. Refute it at one input. -/
def fnExactSeedTileWrong : ChangeSpec := { name := "fnExactSeedTile", fn := fun _ => fun
  | [d1, d2] => { results := [.lit (.bool false)], args := [d1, d2] }
  | _ => none }
def FnExactSeedTileWrongFalsely : Prop := fnExactSeedTileRow.holds Try.pinned (OpenSpec.ofChange fnExactSeedTileWrong)

/-- 'laws.FnExactPairsBy': WHATEVER THE INPUT: true; the input reads as it did. -/
def fnExactPairsBySpec : ChangeSpec := { name := "fnExactPairsBy", fn := fun _ => fun
  | [d] => { results := [.lit (.bool true)], args := [d] }
  | _ => none }
def fnExactPairsByRow : OpenClaim := { program := "ytapdlongffmihaa", sum := "4b48321965eb0a529af09f4093a4a80956ab13ccc65b211f71a6a95e4677a99e", func := "loop.example/g01194/laws.FnExactPairsBy", spec := "fnExactPairsBy", apart := false }
def FnExactPairsBySaid : Prop := fnExactPairsByRow.holds Try.pinned (OpenSpec.ofChange fnExactPairsBySpec)

/-- ITS FALSE NEIGHBOUR: 'it returns false'. Refute it at one input. -/
def fnExactPairsByWrong : ChangeSpec := { name := "fnExactPairsBy", fn := fun _ => fun
  | [d] => { results := [.lit (.bool false)], args := [d] }
  | _ => none }
def FnExactPairsByWrongFalsely : Prop := fnExactPairsByRow.holds Try.pinned (OpenSpec.ofChange fnExactPairsByWrong)

/-- 'laws.FnExactNewConsole': WHATEVER THE INPUT: true; the input reads as it did. -/
def fnExactNewConsoleSpec : ChangeSpec := { name := "fnExactNewConsole", fn := fun _ => fun
  | [d] => { results := [.lit (.bool true)], args := [d] }
  | _ => none }
def fnExactNewConsoleRow : OpenClaim := { program := "ytapdlongffmihaa", sum := "4b48321965eb0a529af09f4093a4a80956ab13ccc65b211f71a6a95e4677a99e", func := "loop.example/g01194/laws.FnExactNewConsole", spec := "fnExactNewConsole", unfollowed := true, recurses := true, apart := false }
def FnExactNewConsoleSaid : Prop := fnExactNewConsoleRow.holds Try.pinned (OpenSpec.ofChange fnExactNewConsoleSpec)

/-- ITS FALSE NEIGHBOUR: 'it returns false'. Refute it at one input. -/
def fnExactNewConsoleWrong : ChangeSpec := { name := "fnExactNewConsole", fn := fun _ => fun
  | [d] => { results := [.lit (.bool false)], args := [d] }
  | _ => none }
def FnExactNewConsoleWrongFalsely : Prop := fnExactNewConsoleRow.holds Try.pinned (OpenSpec.ofChange fnExactNewConsoleWrong)

/-- 'laws.FnExactPointsLeft': WHATEVER THE INPUT: true; the input reads as it did. -/
def fnExactPointsLeftSpec : ChangeSpec := { name := "fnExactPointsLeft", fn := fun _ => fun
  | [d] => { results := [.lit (.bool true)], args := [d] }
  | _ => none }
def fnExactPointsLeftRow : OpenClaim := { program := "ytapdlongffmihaa", sum := "4b48321965eb0a529af09f4093a4a80956ab13ccc65b211f71a6a95e4677a99e", func := "loop.example/g01194/laws.FnExactPointsLeft", spec := "fnExactPointsLeft", unfollowed := true, recurses := true, apart := false }
def FnExactPointsLeftSaid : Prop := fnExactPointsLeftRow.holds Try.pinned (OpenSpec.ofChange fnExactPointsLeftSpec)

/-- ITS FALSE NEIGHBOUR: 'it returns false'. Refute it at one input. -/
def fnExactPointsLeftWrong : ChangeSpec := { name := "fnExactPointsLeft", fn := fun _ => fun
  | [d] => { results := [.lit (.bool false)], args := [d] }
  | _ => none }
def FnExactPointsLeftWrongFalsely : Prop := fnExactPointsLeftRow.holds Try.pinned (OpenSpec.ofChange fnExactPointsLeftWrong)

/-- 'laws.FnExactSumBy': WHATEVER THE INPUT: true; the input reads as it did. -/
def fnExactSumBySpec : ChangeSpec := { name := "fnExactSumBy", fn := fun _ => fun
  | [d1, d2] => { results := [.lit (.bool true)], args := [d1, d2] }
  | _ => none }
def fnExactSumByRow : OpenClaim := { program := "ytapdlongffmihaa", sum := "4b48321965eb0a529af09f4093a4a80956ab13ccc65b211f71a6a95e4677a99e", func := "loop.example/g01194/laws.FnExactSumBy", spec := "fnExactSumBy", unfollowed := true, recurses := true, apart := false }
def FnExactSumBySaid : Prop := fnExactSumByRow.holds Try.pinned (OpenSpec.ofChange fnExactSumBySpec)

/-- ITS FALSE NEIGHBOUR: 'it returns false'. Refute it at one input. -/
def fnExactSumByWrong : ChangeSpec := { name := "fnExactSumBy", fn := fun _ => fun
  | [d1, d2] => { results := [.lit (.bool false)], args := [d1, d2] }
  | _ => none }
def FnExactSumByWrongFalsely : Prop := fnExactSumByRow.holds Try.pinned (OpenSpec.ofChange fnExactSumByWrong)

/- THE SECOND FORM. 'bulk': how many values and letters a reading holds, each counted each time it is reached (what is shared counts as often as it is met; a slice's spare places count too). A statement '..UptoSaid' is the law's where the arguments, and the package variables that the reading takes, are together of bulk at most 1048576: NARROWER than '..Said'. Prove '..Said' where nothing that the law and all that it calls make is longer than what came in: it says more and counts as full. Else prove '..UptoSaid'. A law counts once. -/
mutual
def uptoBulk {H : Type} : DataW H → Nat
  | .lit (.string bytes) => bytes.length + 1
  | .lit _ => 1
  | .nil => 1
  | .ptr d => uptoBulk d + 1
  | .slice elems spare => uptoBulkAll elems + uptoBulkAll spare + 1
  | .agg parts => uptoBulkAll parts + 1
  | .iface _ d => uptoBulk d + 1
  | .map entries => uptoBulkEntries entries + 1
  | .held _ => 1
def uptoBulkAll {H : Type} : List (DataW H) → Nat
  | [] => 0
  | d :: r => uptoBulk d + uptoBulkAll r
def uptoBulkEntries {H : Type} : List (Lit × DataW H) → Nat
  | [] => 0
  | x :: r => uptoBulkEntry x + uptoBulkEntries r
def uptoBulkEntry {H : Type} : Lit × DataW H → Nat
  | (.string bytes, d) => bytes.length + uptoBulk d + 1
  | (_, d) => uptoBulk d + 1
 end
def uptoSmall : (H : Type) → List (DataW H) → Bool := fun _ ds => decide (uptoBulkAll ds ≤ 1048576)
def OpenSpec.upto (s : _root_.Go.ChangeSpec) : _root_.Go.OpenSpec := { _root_.Go.OpenSpec.ofChange s with cond := some uptoSmall }

/-- 'laws.FnExactNextSeed', WHERE WHAT IT READS IS OF BULK AT MOST 1048576: true; the input reads as it did. -/
def fnExactNextSeedUptoRow : OpenClaim := { program := "ytapdlongffmihaa", sum := "4b48321965eb0a529af09f4093a4a80956ab13ccc65b211f71a6a95e4677a99e", func := "loop.example/g01194/laws.FnExactNextSeed", spec := "fnExactNextSeed", apart := false, narrowed := true }
def FnExactNextSeedUptoSaid : Prop := fnExactNextSeedUptoRow.holds Try.pinned (OpenSpec.upto fnExactNextSeedSpec)

/-- 'laws.FnExactStepText', WHERE WHAT IT READS IS OF BULK AT MOST 1048576: true; the input reads as it did. -/
def fnExactStepTextUptoRow : OpenClaim := { program := "ytapdlongffmihaa", sum := "4b48321965eb0a529af09f4093a4a80956ab13ccc65b211f71a6a95e4677a99e", func := "loop.example/g01194/laws.FnExactStepText", spec := "fnExactStepText", recurses := true, apart := false, narrowed := true }
def FnExactStepTextUptoSaid : Prop := fnExactStepTextUptoRow.holds Try.pinned (OpenSpec.upto fnExactStepTextSpec)

/-- 'laws.FnExactWorthBy', WHERE WHAT IT READS IS OF BULK AT MOST 1048576: true; the input reads as it did. -/
def fnExactWorthByUptoRow : OpenClaim := { program := "ytapdlongffmihaa", sum := "4b48321965eb0a529af09f4093a4a80956ab13ccc65b211f71a6a95e4677a99e", func := "loop.example/g01194/laws.FnExactWorthBy", spec := "fnExactWorthBy", apart := false, narrowed := true }
def FnExactWorthByUptoSaid : Prop := fnExactWorthByUptoRow.holds Try.pinned (OpenSpec.upto fnExactWorthBySpec)

/-- 'laws.FnExactIsDesk', WHERE WHAT IT READS IS OF BULK AT MOST 1048576: true; the input reads as it did. -/
def fnExactIsDeskUptoRow : OpenClaim := { program := "ytapdlongffmihaa", sum := "4b48321965eb0a529af09f4093a4a80956ab13ccc65b211f71a6a95e4677a99e", func := "loop.example/g01194/laws.FnExactIsDesk", spec := "fnExactIsDesk", unfollowed := true, recurses := true, apart := false, narrowed := true }
def FnExactIsDeskUptoSaid : Prop := fnExactIsDeskUptoRow.holds Try.pinned (OpenSpec.upto fnExactIsDeskSpec)

/-- 'laws.FnExactMergeOf', WHERE WHAT IT READS IS OF BULK AT MOST 1048576: true; the input reads as it did. -/
def fnExactMergeOfUptoRow : OpenClaim := { program := "ytapdlongffmihaa", sum := "4b48321965eb0a529af09f4093a4a80956ab13ccc65b211f71a6a95e4677a99e", func := "loop.example/g01194/laws.FnExactMergeOf", spec := "fnExactMergeOf", apart := false, narrowed := true }
def FnExactMergeOfUptoSaid : Prop := fnExactMergeOfUptoRow.holds Try.pinned (OpenSpec.upto fnExactMergeOfSpec)

/-- 'laws.FnExactNewDesk', WHERE WHAT IT READS IS OF BULK AT MOST 1048576: true; the input reads as it did. -/
def fnExactNewDeskUptoRow : OpenClaim := { program := "ytapdlongffmihaa", sum := "4b48321965eb0a529af09f4093a4a80956ab13ccc65b211f71a6a95e4677a99e", func := "loop.example/g01194/laws.FnExactNewDesk", spec := "fnExactNewDesk", unfollowed := true, recurses := true, apart := false, narrowed := true }
def FnExactNewDeskUptoSaid : Prop := fnExactNewDeskUptoRow.holds Try.pinned (OpenSpec.upto fnExactNewDeskSpec)

/-- 'laws.FnExactSeedTile', WHERE WHAT IT READS IS OF BULK AT MOST 1048576: true; the input reads as it did. -/
def fnExactSeedTileUptoRow : OpenClaim := { program := "ytapdlongffmihaa", sum := "4b48321965eb0a529af09f4093a4a80956ab13ccc65b211f71a6a95e4677a99e", func := "loop.example/g01194/laws.FnExactSeedTile", spec := "fnExactSeedTile", unfollowed := true, recurses := true, apart := false, narrowed := true }
def FnExactSeedTileUptoSaid : Prop := fnExactSeedTileUptoRow.holds Try.pinned (OpenSpec.upto fnExactSeedTileSpec)

/-- 'laws.FnExactPairsBy', WHERE WHAT IT READS IS OF BULK AT MOST 1048576: true; the input reads as it did. -/
def fnExactPairsByUptoRow : OpenClaim := { program := "ytapdlongffmihaa", sum := "4b48321965eb0a529af09f4093a4a80956ab13ccc65b211f71a6a95e4677a99e", func := "loop.example/g01194/laws.FnExactPairsBy", spec := "fnExactPairsBy", apart := false, narrowed := true }
def FnExactPairsByUptoSaid : Prop := fnExactPairsByUptoRow.holds Try.pinned (OpenSpec.upto fnExactPairsBySpec)

/-- 'laws.FnExactNewConsole', WHERE WHAT IT READS IS OF BULK AT MOST 1048576: true; the input reads as it did. -/
def fnExactNewConsoleUptoRow : OpenClaim := { program := "ytapdlongffmihaa", sum := "4b48321965eb0a529af09f4093a4a80956ab13ccc65b211f71a6a95e4677a99e", func := "loop.example/g01194/laws.FnExactNewConsole", spec := "fnExactNewConsole", unfollowed := true, recurses := true, apart := false, narrowed := true }
def FnExactNewConsoleUptoSaid : Prop := fnExactNewConsoleUptoRow.holds Try.pinned (OpenSpec.upto fnExactNewConsoleSpec)

/-- 'laws.FnExactPointsLeft', WHERE WHAT IT READS IS OF BULK AT MOST 1048576: true; the input reads as it did. -/
def fnExactPointsLeftUptoRow : OpenClaim := { program := "ytapdlongffmihaa", sum := "4b48321965eb0a529af09f4093a4a80956ab13ccc65b211f71a6a95e4677a99e", func := "loop.example/g01194/laws.FnExactPointsLeft", spec := "fnExactPointsLeft", unfollowed := true, recurses := true, apart := false, narrowed := true }
def FnExactPointsLeftUptoSaid : Prop := fnExactPointsLeftUptoRow.holds Try.pinned (OpenSpec.upto fnExactPointsLeftSpec)

/-- 'laws.FnExactSumBy', WHERE WHAT IT READS IS OF BULK AT MOST 1048576: true; the input reads as it did. -/
def fnExactSumByUptoRow : OpenClaim := { program := "ytapdlongffmihaa", sum := "4b48321965eb0a529af09f4093a4a80956ab13ccc65b211f71a6a95e4677a99e", func := "loop.example/g01194/laws.FnExactSumBy", spec := "fnExactSumBy", unfollowed := true, recurses := true, apart := false, narrowed := true }
def FnExactSumByUptoSaid : Prop := fnExactSumByUptoRow.holds Try.pinned (OpenSpec.upto fnExactSumBySpec)

end Rows
end Go.Proofs.Ytapdlongffmihaa

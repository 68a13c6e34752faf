/-
  No cell of these rows narrows 'for every input' (looked for: loops, veiled, ifaces, maps, wideKeys, modest, calm, conditions, laid).
  DERIVED. THE GIVEN ROWS OF THIS SEAT. 12 by the template 'for every input the law returns true; each argument reads behind the call as it read before'; 0 by the template 'total and deterministic' (their statements: YtjddfilabmcnpaaTotals.lean).
  GIVEN WITH THE SEED: the statements are not yours to turn. If you find one false, say at which input.
  Laid BY PROGRAM, IN A SANDBOX (cutbox-rows.mjs): the forced cells as the released guide's own fill.sh prints them over the translation a577d930f0bc858c… (all of the seat's roots in one cut). By AI agents, Wed Nov 11 2026. No macro, syntax, notation, axiom, sorry.
-/
import Derived.Test.YtjddfilabmcnpaaChecked
import GoSem.Claim
import GoSem.ClaimJoined
import GoSem.ClaimMapViews
import Derived.JoinedTies
import Derived.KernelRfl
namespace Go.Proofs.Ytjddfilabmcnpaa
/- THE CELL 'sum', in the pinned program and in every row, IS THE sha256 OF THE DUMP (.gsa) THAT YtjddfilabmcnpaaProg.lean LOADS. Nothing in Lean hashes anything: it is a label: what it is worth is what the hold of that sum in a sandbox is worth. -/
noncomputable def Try.pinned : Pinned := { name := "ytjddfilabmcnpaa", sum := "a577d930f0bc858c3165df1ff3ba110ceface8f3c5725c45fc9b01929acb2e28", checked := Try.checked }
namespace Rows
def none {H : Type} : Left H := { results := [], args := [] }

/-- 'laws.FnExactStepText': WHATEVER THE INPUT: true; the input reads as it did. -/
def fnExactStepTextSpec : ChangeSpec := { name := "fnExactStepText", fn := fun _ => fun
  | [d] => { results := [.lit (.bool true)], args := [d] }
  | _ => none }
def fnExactStepTextRow : OpenClaim := { program := "ytjddfilabmcnpaa", sum := "a577d930f0bc858c3165df1ff3ba110ceface8f3c5725c45fc9b01929acb2e28", func := "loop.example/g01194/laws.FnExactStepText", spec := "fnExactStepText", recurses := true, apart := false }
def FnExactStepTextSaid : Prop := fnExactStepTextRow.holds Try.pinned (OpenSpec.ofChange fnExactStepTextSpec)

/-- ITS FALSE NEIGHBOUR: 'it returns false'. Refute it at one input. -/
def fnExactStepTextWrong : ChangeSpec := { name := "fnExactStepText", fn := fun _ => fun
  | [d] => { results := [.lit (.bool false)], args := [d] }
  | _ => none }
def FnExactStepTextWrongFalsely : Prop := fnExactStepTextRow.holds Try.pinned (OpenSpec.ofChange fnExactStepTextWrong)

/-- 'laws.FnExactSeedTile': WHATEVER THE INPUT: true; the input reads as it did. -/
def fnExactSeedTileSpec : ChangeSpec := { name := "fnExactSeedTile", fn := fun _ => fun
  | [d1, d2] => { results := [.lit (.bool true)], args := [d1, d2] }
  | _ => none }
def fnExactSeedTileRow : OpenClaim := { program := "ytjddfilabmcnpaa", sum := "a577d930f0bc858c3165df1ff3ba110ceface8f3c5725c45fc9b01929acb2e28", func := "loop.example/g01194/laws.FnExactSeedTile", spec := "fnExactSeedTile", unfollowed := true, recurses := true, apart := false }
def FnExactSeedTileSaid : Prop := fnExactSeedTileRow.holds Try.pinned (OpenSpec.ofChange fnExactSeedTileSpec)

/-- ITS FALSE NEIGHBOUR: 'it returns false'. Refute it at one input. -/
def fnExactSeedTileWrong : ChangeSpec := { name := "fnExactSeedTile", fn := fun _ => fun
  | [d1, d2] => { results := [.lit (.bool false)], args := [d1, d2] }
  | _ => none }
def FnExactSeedTileWrongFalsely : Prop := fnExactSeedTileRow.holds Try.pinned (OpenSpec.ofChange fnExactSeedTileWrong)

/-- 'laws.FnExactPairsBy': WHATEVER THE INPUT: true; the input reads as it did. -/
def fnExactPairsBySpec : ChangeSpec := { name := "fnExactPairsBy", fn := fun _ => fun
  | [d] => { results := [.lit (.bool true)], args := [d] }
  | _ => none }
def fnExactPairsByRow : OpenClaim := { program := "ytjddfilabmcnpaa", sum := "a577d930f0bc858c3165df1ff3ba110ceface8f3c5725c45fc9b01929acb2e28", func := "loop.example/g01194/laws.FnExactPairsBy", spec := "fnExactPairsBy", apart := false }
def FnExactPairsBySaid : Prop := fnExactPairsByRow.holds Try.pinned (OpenSpec.ofChange fnExactPairsBySpec)

/-- ITS FALSE NEIGHBOUR: 'it returns false'. Refute it at one input. -/
def fnExactPairsByWrong : ChangeSpec := { name := "fnExactPairsBy", fn := fun _ => fun
  | [d] => { results := [.lit (.bool false)], args := [d] }
  | _ => none }
def FnExactPairsByWrongFalsely : Prop := fnExactPairsByRow.holds Try.pinned (OpenSpec.ofChange fnExactPairsByWrong)

/-- 'laws.FnExactPointsLeft': WHATEVER THE INPUT: true; the input reads as it did. -/
def fnExactPointsLeftSpec : ChangeSpec := { name := "fnExactPointsLeft", fn := fun _ => fun
  | [d] => { results := [.lit (.bool true)], args := [d] }
  | _ => none }
def fnExactPointsLeftRow : OpenClaim := { program := "ytjddfilabmcnpaa", sum := "a577d930f0bc858c3165df1ff3ba110ceface8f3c5725c45fc9b01929acb2e28", func := "loop.example/g01194/laws.FnExactPointsLeft", spec := "fnExactPointsLeft", unfollowed := true, recurses := true, apart := false }
def FnExactPointsLeftSaid : Prop := fnExactPointsLeftRow.holds Try.pinned (OpenSpec.ofChange fnExactPointsLeftSpec)

/-- ITS FALSE NEIGHBOUR: 'it returns false'. Refute it at one input. -/
def fnExactPointsLeftWrong : ChangeSpec := { name := "fnExactPointsLeft", fn := fun _ => fun
  | [d] => { results := [.lit (.bool false)], args := [d] }
  | _ => none }
def FnExactPointsLeftWrongFalsely : Prop := fnExactPointsLeftRow.holds Try.pinned (OpenSpec.ofChange fnExactPointsLeftWrong)

/-- 'laws.FnExactSumBy': WHATEVER THE INPUT: true; the input reads as it did. -/
def fnExactSumBySpec : ChangeSpec := { name := "fnExactSumBy", fn := fun _ => fun
  | [d1, d2] => { results := [.lit (.bool true)], args := [d1, d2] }
  | _ => none }
def fnExactSumByRow : OpenClaim := { program := "ytjddfilabmcnpaa", sum := "a577d930f0bc858c3165df1ff3ba110ceface8f3c5725c45fc9b01929acb2e28", func := "loop.example/g01194/laws.FnExactSumBy", spec := "fnExactSumBy", unfollowed := true, recurses := true, apart := false }
def FnExactSumBySaid : Prop := fnExactSumByRow.holds Try.pinned (OpenSpec.ofChange fnExactSumBySpec)

/-- ITS FALSE NEIGHBOUR: 'it returns false'. Refute it at one input. -/
def fnExactSumByWrong : ChangeSpec := { name := "fnExactSumBy", fn := fun _ => fun
  | [d1, d2] => { results := [.lit (.bool false)], args := [d1, d2] }
  | _ => none }
def FnExactSumByWrongFalsely : Prop := fnExactSumByRow.holds Try.pinned (OpenSpec.ofChange fnExactSumByWrong)

/-- 'laws.FnExactIsOverBy': WHATEVER THE INPUT: true; the input reads as it did. -/
def fnExactIsOverBySpec : ChangeSpec := { name := "fnExactIsOverBy", fn := fun _ => fun
  | [d1, d2] => { results := [.lit (.bool true)], args := [d1, d2] }
  | _ => none }
def fnExactIsOverByRow : OpenClaim := { program := "ytjddfilabmcnpaa", sum := "a577d930f0bc858c3165df1ff3ba110ceface8f3c5725c45fc9b01929acb2e28", func := "loop.example/g01194/laws.FnExactIsOverBy", spec := "fnExactIsOverBy", unfollowed := true, recurses := true, apart := false }
def FnExactIsOverBySaid : Prop := fnExactIsOverByRow.holds Try.pinned (OpenSpec.ofChange fnExactIsOverBySpec)

/-- ITS FALSE NEIGHBOUR: 'it returns false'. Refute it at one input. -/
def fnExactIsOverByWrong : ChangeSpec := { name := "fnExactIsOverBy", fn := fun _ => fun
  | [d1, d2] => { results := [.lit (.bool false)], args := [d1, d2] }
  | _ => none }
def FnExactIsOverByWrongFalsely : Prop := fnExactIsOverByRow.holds Try.pinned (OpenSpec.ofChange fnExactIsOverByWrong)

/-- 'laws.FnExactMostMergersBy': WHATEVER THE INPUT: true; the input reads as it did. -/
def fnExactMostMergersBySpec : ChangeSpec := { name := "fnExactMostMergersBy", fn := fun _ => fun
  | [d1, d2] => { results := [.lit (.bool true)], args := [d1, d2] }
  | _ => none }
def fnExactMostMergersByRow : OpenClaim := { program := "ytjddfilabmcnpaa", sum := "a577d930f0bc858c3165df1ff3ba110ceface8f3c5725c45fc9b01929acb2e28", func := "loop.example/g01194/laws.FnExactMostMergersBy", spec := "fnExactMostMergersBy", unfollowed := true, recurses := true, apart := false }
def FnExactMostMergersBySaid : Prop := fnExactMostMergersByRow.holds Try.pinned (OpenSpec.ofChange fnExactMostMergersBySpec)

/-- ITS FALSE NEIGHBOUR: 'it returns false'. Refute it at one input. -/
def fnExactMostMergersByWrong : ChangeSpec := { name := "fnExactMostMergersBy", fn := fun _ => fun
  | [d1, d2] => { results := [.lit (.bool false)], args := [d1, d2] }
  | _ => none }
def FnExactMostMergersByWrongFalsely : Prop := fnExactMostMergersByRow.holds Try.pinned (OpenSpec.ofChange fnExactMostMergersByWrong)

/-- 'laws.FnExactSettleBy': WHATEVER THE INPUT: true; the input reads as it did. -/
def fnExactSettleBySpec : ChangeSpec := { name := "fnExactSettleBy", fn := fun _ => fun
  | [d1, d2, d3] => { results := [.lit (.bool true)], args := [d1, d2, d3] }
  | _ => none }
def fnExactSettleByRow : OpenClaim := { program := "ytjddfilabmcnpaa", sum := "a577d930f0bc858c3165df1ff3ba110ceface8f3c5725c45fc9b01929acb2e28", func := "loop.example/g01194/laws.FnExactSettleBy", spec := "fnExactSettleBy", unfollowed := true, recurses := true, apart := false }
def FnExactSettleBySaid : Prop := fnExactSettleByRow.holds Try.pinned (OpenSpec.ofChange fnExactSettleBySpec)

/-- ITS FALSE NEIGHBOUR: 'it returns false'. Refute it at one input. -/
def fnExactSettleByWrong : ChangeSpec := { name := "fnExactSettleBy", fn := fun _ => fun
  | [d1, d2, d3] => { results := [.lit (.bool false)], args := [d1, d2, d3] }
  | _ => none }
def FnExactSettleByWrongFalsely : Prop := fnExactSettleByRow.holds Try.pinned (OpenSpec.ofChange fnExactSettleByWrong)

/-- 'laws.FnExactSlideBy': WHATEVER THE INPUT: true; the input reads as it did. -/
def fnExactSlideBySpec : ChangeSpec := { name := "fnExactSlideBy", fn := fun _ => fun
  | [d1, d2, d3] => { results := [.lit (.bool true)], args := [d1, d2, d3] }
  | _ => none }
def fnExactSlideByRow : OpenClaim := { program := "ytjddfilabmcnpaa", sum := "a577d930f0bc858c3165df1ff3ba110ceface8f3c5725c45fc9b01929acb2e28", func := "loop.example/g01194/laws.FnExactSlideBy", spec := "fnExactSlideBy", unfollowed := true, recurses := true, apart := false }
def FnExactSlideBySaid : Prop := fnExactSlideByRow.holds Try.pinned (OpenSpec.ofChange fnExactSlideBySpec)

/-- ITS FALSE NEIGHBOUR: 'it returns false'. Refute it at one input. -/
def fnExactSlideByWrong : ChangeSpec := { name := "fnExactSlideBy", fn := fun _ => fun
  | [d1, d2, d3] => { results := [.lit (.bool false)], args := [d1, d2, d3] }
  | _ => none }
def FnExactSlideByWrongFalsely : Prop := fnExactSlideByRow.holds Try.pinned (OpenSpec.ofChange fnExactSlideByWrong)

/-- 'laws.FnExactMovesBy': WHATEVER THE INPUT: true; the input reads as it did. -/
def fnExactMovesBySpec : ChangeSpec := { name := "fnExactMovesBy", fn := fun _ => fun
  | [d1, d2] => { results := [.lit (.bool true)], args := [d1, d2] }
  | _ => none }
def fnExactMovesByRow : OpenClaim := { program := "ytjddfilabmcnpaa", sum := "a577d930f0bc858c3165df1ff3ba110ceface8f3c5725c45fc9b01929acb2e28", func := "loop.example/g01194/laws.FnExactMovesBy", spec := "fnExactMovesBy", unfollowed := true, recurses := true, apart := false }
def FnExactMovesBySaid : Prop := fnExactMovesByRow.holds Try.pinned (OpenSpec.ofChange fnExactMovesBySpec)

/-- ITS FALSE NEIGHBOUR: 'it returns false'. Refute it at one input. -/
def fnExactMovesByWrong : ChangeSpec := { name := "fnExactMovesBy", fn := fun _ => fun
  | [d1, d2] => { results := [.lit (.bool false)], args := [d1, d2] }
  | _ => none }
def FnExactMovesByWrongFalsely : Prop := fnExactMovesByRow.holds Try.pinned (OpenSpec.ofChange fnExactMovesByWrong)

/-- 'laws.FnExactCommonMoves': WHATEVER THE INPUT: true; the input reads as it did. -/
def fnExactCommonMovesSpec : ChangeSpec := { name := "fnExactCommonMoves", fn := fun _ => fun
  | [d] => { results := [.lit (.bool true)], args := [d] }
  | _ => none }
def fnExactCommonMovesRow : OpenClaim := { program := "ytjddfilabmcnpaa", sum := "a577d930f0bc858c3165df1ff3ba110ceface8f3c5725c45fc9b01929acb2e28", func := "loop.example/g01194/laws.FnExactCommonMoves", spec := "fnExactCommonMoves", unfollowed := true, recurses := true, apart := false }
def FnExactCommonMovesSaid : Prop := fnExactCommonMovesRow.holds Try.pinned (OpenSpec.ofChange fnExactCommonMovesSpec)

/-- ITS FALSE NEIGHBOUR: 'it returns false'. Refute it at one input. -/
def fnExactCommonMovesWrong : ChangeSpec := { name := "fnExactCommonMoves", fn := fun _ => fun
  | [d] => { results := [.lit (.bool false)], args := [d] }
  | _ => none }
def FnExactCommonMovesWrongFalsely : Prop := fnExactCommonMovesRow.holds Try.pinned (OpenSpec.ofChange fnExactCommonMovesWrong)

/-- 'laws.FnExactRulesAgree': WHATEVER THE INPUT: true; the input reads as it did. -/
def fnExactRulesAgreeSpec : ChangeSpec := { name := "fnExactRulesAgree", fn := fun _ => fun
  | [d1, d2] => { results := [.lit (.bool true)], args := [d1, d2] }
  | _ => none }
def fnExactRulesAgreeRow : OpenClaim := { program := "ytjddfilabmcnpaa", sum := "a577d930f0bc858c3165df1ff3ba110ceface8f3c5725c45fc9b01929acb2e28", func := "loop.example/g01194/laws.FnExactRulesAgree", spec := "fnExactRulesAgree", unfollowed := true, recurses := true, apart := false }
def FnExactRulesAgreeSaid : Prop := fnExactRulesAgreeRow.holds Try.pinned (OpenSpec.ofChange fnExactRulesAgreeSpec)

/-- ITS FALSE NEIGHBOUR: 'it returns false'. Refute it at one input. -/
def fnExactRulesAgreeWrong : ChangeSpec := { name := "fnExactRulesAgree", fn := fun _ => fun
  | [d1, d2] => { results := [.lit (.bool false)], args := [d1, d2] }
  | _ => none }
def FnExactRulesAgreeWrongFalsely : Prop := fnExactRulesAgreeRow.holds Try.pinned (OpenSpec.ofChange fnExactRulesAgreeWrong)

/- THE SECOND FORM. 'bulk': how many values and letters a reading holds, each counted each time it is reached (what is shared counts as often as it is met; a slice's spare places count too). A statement '..UptoSaid' is the law's where the arguments, and the package variables that the reading takes, are together of bulk at most 1048576: NARROWER than '..Said'. Prove '..Said' where nothing that the law and all that it calls make is longer than what came in: it says more and counts as full. Else prove '..UptoSaid'. A law counts once. -/
mutual
def uptoBulk {H : Type} : DataW H → Nat
  | .lit (.string bytes) => bytes.length + 1
  | .lit _ => 1
  | .nil => 1
  | .ptr d => uptoBulk d + 1
  | .slice elems spare => uptoBulkAll elems + uptoBulkAll spare + 1
  | .agg parts => uptoBulkAll parts + 1
  | .iface _ d => uptoBulk d + 1
  | .map entries => uptoBulkEntries entries + 1
  | .held _ => 1
def uptoBulkAll {H : Type} : List (DataW H) → Nat
  | [] => 0
  | d :: r => uptoBulk d + uptoBulkAll r
def uptoBulkEntries {H : Type} : List (Lit × DataW H) → Nat
  | [] => 0
  | x :: r => uptoBulkEntry x + uptoBulkEntries r
def uptoBulkEntry {H : Type} : Lit × DataW H → Nat
  | (.string bytes, d) => bytes.length + uptoBulk d + 1
  | (_, d) => uptoBulk d + 1
 end
def uptoSmall : (H : Type) → List (DataW H) → Bool := fun _ ds => decide (uptoBulkAll ds ≤ 1048576)
def OpenSpec.upto (s : _root_.Go.ChangeSpec) : _root_.Go.OpenSpec := { _root_.Go.OpenSpec.ofChange s with cond := some uptoSmall }

/-- 'laws.FnExactStepText', WHERE WHAT IT READS IS OF BULK AT MOST 1048576: true; the input reads as it did. -/
def fnExactStepTextUptoRow : OpenClaim := { program := "ytjddfilabmcnpaa", sum := "a577d930f0bc858c3165df1ff3ba110ceface8f3c5725c45fc9b01929acb2e28", func := "loop.example/g01194/laws.FnExactStepText", spec := "fnExactStepText", recurses := true, apart := false, narrowed := true }
def FnExactStepTextUptoSaid : Prop := fnExactStepTextUptoRow.holds Try.pinned (OpenSpec.upto fnExactStepTextSpec)

/-- 'laws.FnExactSeedTile', WHERE WHAT IT READS IS OF BULK AT MOST 1048576: true; the input reads as it did. -/
def fnExactSeedTileUptoRow : OpenClaim := { program := "ytjddfilabmcnpaa", sum := "a577d930f0bc858c3165df1ff3ba110ceface8f3c5725c45fc9b01929acb2e28", func := "loop.example/g01194/laws.FnExactSeedTile", spec := "fnExactSeedTile", unfollowed := true, recurses := true, apart := false, narrowed := true }
def FnExactSeedTileUptoSaid : Prop := fnExactSeedTileUptoRow.holds Try.pinned (OpenSpec.upto fnExactSeedTileSpec)

/-- 'laws.FnExactPairsBy', WHERE WHAT IT READS IS OF BULK AT MOST 1048576: true; the input reads as it did. -/
def fnExactPairsByUptoRow : OpenClaim := { program := "ytjddfilabmcnpaa", sum := "a577d930f0bc858c3165df1ff3ba110ceface8f3c5725c45fc9b01929acb2e28", func := "loop.example/g01194/laws.FnExactPairsBy", spec := "fnExactPairsBy", apart := false, narrowed := true }
def FnExactPairsByUptoSaid : Prop := fnExactPairsByUptoRow.holds Try.pinned (OpenSpec.upto fnExactPairsBySpec)

/-- 'laws.FnExactPointsLeft', WHERE WHAT IT READS IS OF BULK AT MOST 1048576: true; the input reads as it did. -/
def fnExactPointsLeftUptoRow : OpenClaim := { program := "ytjddfilabmcnpaa", sum := "a577d930f0bc858c3165df1ff3ba110ceface8f3c5725c45fc9b01929acb2e28", func := "loop.example/g01194/laws.FnExactPointsLeft", spec := "fnExactPointsLeft", unfollowed := true, recurses := true, apart := false, narrowed := true }
def FnExactPointsLeftUptoSaid : Prop := fnExactPointsLeftUptoRow.holds Try.pinned (OpenSpec.upto fnExactPointsLeftSpec)

/-- 'laws.FnExactSumBy', WHERE WHAT IT READS IS OF BULK AT MOST 1048576: true; the input reads as it did. -/
def fnExactSumByUptoRow : OpenClaim := { program := "ytjddfilabmcnpaa", sum := "a577d930f0bc858c3165df1ff3ba110ceface8f3c5725c45fc9b01929acb2e28", func := "loop.example/g01194/laws.FnExactSumBy", spec := "fnExactSumBy", unfollowed := true, recurses := true, apart := false, narrowed := true }
def FnExactSumByUptoSaid : Prop := fnExactSumByUptoRow.holds Try.pinned (OpenSpec.upto fnExactSumBySpec)

/-- 'laws.FnExactIsOverBy', WHERE WHAT IT READS IS OF BULK AT MOST 1048576: true; the input reads as it did. -/
def fnExactIsOverByUptoRow : OpenClaim := { program := "ytjddfilabmcnpaa", sum := "a577d930f0bc858c3165df1ff3ba110ceface8f3c5725c45fc9b01929acb2e28", func := "loop.example/g01194/laws.FnExactIsOverBy", spec := "fnExactIsOverBy", unfollowed := true, recurses := true, apart := false, narrowed := true }
def FnExactIsOverByUptoSaid : Prop := fnExactIsOverByUptoRow.holds Try.pinned (OpenSpec.upto fnExactIsOverBySpec)

/-- 'laws.FnExactMostMergersBy', WHERE WHAT IT READS IS OF BULK AT MOST 1048576: true; the input reads as it did. -/
def fnExactMostMergersByUptoRow : OpenClaim := { program := "ytjddfilabmcnpaa", sum := "a577d930f0bc858c3165df1ff3ba110ceface8f3c5725c45fc9b01929acb2e28", func := "loop.example/g01194/laws.FnExactMostMergersBy", spec := "fnExactMostMergersBy", unfollowed := true, recurses := true, apart := false, narrowed := true }
def FnExactMostMergersByUptoSaid : Prop := fnExactMostMergersByUptoRow.holds Try.pinned (OpenSpec.upto fnExactMostMergersBySpec)

/-- 'laws.FnExactSettleBy', WHERE WHAT IT READS IS OF BULK AT MOST 1048576: true; the input reads as it did. -/
def fnExactSettleByUptoRow : OpenClaim := { program := "ytjddfilabmcnpaa", sum := "a577d930f0bc858c3165df1ff3ba110ceface8f3c5725c45fc9b01929acb2e28", func := "loop.example/g01194/laws.FnExactSettleBy", spec := "fnExactSettleBy", unfollowed := true, recurses := true, apart := false, narrowed := true }
def FnExactSettleByUptoSaid : Prop := fnExactSettleByUptoRow.holds Try.pinned (OpenSpec.upto fnExactSettleBySpec)

/-- 'laws.FnExactSlideBy', WHERE WHAT IT READS IS OF BULK AT MOST 1048576: true; the input reads as it did. -/
def fnExactSlideByUptoRow : OpenClaim := { program := "ytjddfilabmcnpaa", sum := "a577d930f0bc858c3165df1ff3ba110ceface8f3c5725c45fc9b01929acb2e28", func := "loop.example/g01194/laws.FnExactSlideBy", spec := "fnExactSlideBy", unfollowed := true, recurses := true, apart := false, narrowed := true }
def FnExactSlideByUptoSaid : Prop := fnExactSlideByUptoRow.holds Try.pinned (OpenSpec.upto fnExactSlideBySpec)

/-- 'laws.FnExactMovesBy', WHERE WHAT IT READS IS OF BULK AT MOST 1048576: true; the input reads as it did. -/
def fnExactMovesByUptoRow : OpenClaim := { program := "ytjddfilabmcnpaa", sum := "a577d930f0bc858c3165df1ff3ba110ceface8f3c5725c45fc9b01929acb2e28", func := "loop.example/g01194/laws.FnExactMovesBy", spec := "fnExactMovesBy", unfollowed := true, recurses := true, apart := false, narrowed := true }
def FnExactMovesByUptoSaid : Prop := fnExactMovesByUptoRow.holds Try.pinned (OpenSpec.upto fnExactMovesBySpec)

/-- 'laws.FnExactCommonMoves', WHERE WHAT IT READS IS OF BULK AT MOST 1048576: true; the input reads as it did. -/
def fnExactCommonMovesUptoRow : OpenClaim := { program := "ytjddfilabmcnpaa", sum := "a577d930f0bc858c3165df1ff3ba110ceface8f3c5725c45fc9b01929acb2e28", func := "loop.example/g01194/laws.FnExactCommonMoves", spec := "fnExactCommonMoves", unfollowed := true, recurses := true, apart := false, narrowed := true }
def FnExactCommonMovesUptoSaid : Prop := fnExactCommonMovesUptoRow.holds Try.pinned (OpenSpec.upto fnExactCommonMovesSpec)

/-- 'laws.FnExactRulesAgree', WHERE WHAT IT READS IS OF BULK AT MOST 1048576: true; the input reads as it did. -/
def fnExactRulesAgreeUptoRow : OpenClaim := { program := "ytjddfilabmcnpaa", sum := "a577d930f0bc858c3165df1ff3ba110ceface8f3c5725c45fc9b01929acb2e28", func := "loop.example/g01194/laws.FnExactRulesAgree", spec := "fnExactRulesAgree", unfollowed := true, recurses := true, apart := false, narrowed := true }
def FnExactRulesAgreeUptoSaid : Prop := fnExactRulesAgreeUptoRow.holds Try.pinned (OpenSpec.upto fnExactRulesAgreeSpec)

end Rows
end Go.Proofs.Ytjddfilabmcnpaa

/-
  No cell of these rows narrows 'for every input' (looked for: loops, veiled, ifaces, maps, wideKeys, modest, calm, conditions, laid).
  DERIVED. THE GIVEN ROWS OF THIS SEAT. 3 by the template 'for every input the law returns true; each argument reads behind the call as it read before'; 0 by the template 'total and deterministic' (their statements: YtlhchjjegaflhaaTotals.lean).
  GIVEN WITH THE SEED: the statements are not yours to turn. If you find one false, say at which input.
  Laid BY PROGRAM, IN A SANDBOX (cutbox-rows.mjs): the forced cells as the released guide's own fill.sh prints them over the translation 5db45834bd8433ed… (all of the seat's roots in one cut). By AI agents, Wed Nov 11 2026. No macro, syntax, notation, axiom, sorry.
-/
import Derived.Test.YtlhchjjegaflhaaChecked
import GoSem.Claim
import GoSem.ClaimJoined
import GoSem.ClaimMapViews
import Derived.JoinedTies
import Derived.KernelRfl
namespace Go.Proofs.Ytlhchjjegaflhaa
/- THE CELL 'sum', in the pinned program and in every row, IS THE sha256 OF THE DUMP (.gsa) THAT YtlhchjjegaflhaaProg.lean LOADS. Nothing in Lean hashes anything: it is a label: what it is worth is what the hold of that sum in a sandbox is worth. -/
noncomputable def Try.pinned : Pinned := { name := "ytlhchjjegaflhaa", sum := "5db45834bd8433ed78d4c1ff9d3fc413eb5105ef82d5361bbc37ac945c6d312b", checked := Try.checked }
namespace Rows
def none {H : Type} : Left H := { results := [], args := [] }

/-- 'laws.FnRuleSlides': WHATEVER THE INPUT: true; the input reads as it did. -/
def fnRuleSlidesSpec : ChangeSpec := { name := "fnRuleSlides", fn := fun _ => fun
  | [d] => { results := [.lit (.bool true)], args := [d] }
  | _ => none }
def fnRuleSlidesRow : OpenClaim := { program := "ytlhchjjegaflhaa", sum := "5db45834bd8433ed78d4c1ff9d3fc413eb5105ef82d5361bbc37ac945c6d312b", func := "loop.example/g01194/laws.FnRuleSlides", spec := "fnRuleSlides", unfollowed := true, recurses := true, apart := false }
def FnRuleSlidesSaid : Prop := fnRuleSlidesRow.holds Try.pinned (OpenSpec.ofChange fnRuleSlidesSpec)

/-- ITS FALSE NEIGHBOUR: 'it returns false'. Refute it at one input. -/
def fnRuleSlidesWrong : ChangeSpec := { name := "fnRuleSlides", fn := fun _ => fun
  | [d] => { results := [.lit (.bool false)], args := [d] }
  | _ => none }
def FnRuleSlidesWrongFalsely : Prop := fnRuleSlidesRow.holds Try.pinned (OpenSpec.ofChange fnRuleSlidesWrong)

/-- 'laws.FnRules': WHATEVER THE INPUT: true; the input reads as it did. -/
def fnRulesSpec : ChangeSpec := { name := "fnRules", fn := fun _ => fun
  | [d] => { results := [.lit (.bool true)], args := [d] }
  | _ => none }
def fnRulesRow : OpenClaim := { program := "ytlhchjjegaflhaa", sum := "5db45834bd8433ed78d4c1ff9d3fc413eb5105ef82d5361bbc37ac945c6d312b", func := "loop.example/g01194/laws.FnRules", spec := "fnRules", unfollowed := true, recurses := true, apart := false }
def FnRulesSaid : Prop := fnRulesRow.holds Try.pinned (OpenSpec.ofChange fnRulesSpec)

/-- ITS FALSE NEIGHBOUR: 'it returns false'. Refute it at one input. -/
def fnRulesWrong : ChangeSpec := { name := "fnRules", fn := fun _ => fun
  | [d] => { results := [.lit (.bool false)], args := [d] }
  | _ => none }
def FnRulesWrongFalsely : Prop := fnRulesRow.holds Try.pinned (OpenSpec.ofChange fnRulesWrong)

/-- 'laws.FnExactReachRule': WHATEVER THE INPUT: true; the input reads as it did. -/
def fnExactReachRuleSpec : ChangeSpec := { name := "fnExactReachRule", fn := fun _ => fun
  | [d1, d2] => { results := [.lit (.bool true)], args := [d1, d2] }
  | _ => none }
def fnExactReachRuleRow : OpenClaim := { program := "ytlhchjjegaflhaa", sum := "5db45834bd8433ed78d4c1ff9d3fc413eb5105ef82d5361bbc37ac945c6d312b", func := "loop.example/g01194/laws.FnExactReachRule", spec := "fnExactReachRule", unfollowed := true, recurses := true, apart := false }
def FnExactReachRuleSaid : Prop := fnExactReachRuleRow.holds Try.pinned (OpenSpec.ofChange fnExactReachRuleSpec)

/-- ITS FALSE NEIGHBOUR: 'it returns false'. Refute it at one input. -/
def fnExactReachRuleWrong : ChangeSpec := { name := "fnExactReachRule", fn := fun _ => fun
  | [d1, d2] => { results := [.lit (.bool false)], args := [d1, d2] }
  | _ => none }
def FnExactReachRuleWrongFalsely : Prop := fnExactReachRuleRow.holds Try.pinned (OpenSpec.ofChange fnExactReachRuleWrong)

/- THE SECOND FORM. 'bulk': how many values and letters a reading holds, each counted each time it is reached (what is shared counts as often as it is met; a slice's spare places count too). A statement '..UptoSaid' is the law's where the arguments, and the package variables that the reading takes, are together of bulk at most 1048576: NARROWER than '..Said'. Prove '..Said' where nothing that the law and all that it calls make is longer than what came in: it says more and counts as full. Else prove '..UptoSaid'. A law counts once. -/
mutual
def uptoBulk {H : Type} : DataW H → Nat
  | .lit (.string bytes) => bytes.length + 1
  | .lit _ => 1
  | .nil => 1
  | .ptr d => uptoBulk d + 1
  | .slice elems spare => uptoBulkAll elems + uptoBulkAll spare + 1
  | .agg parts => uptoBulkAll parts + 1
  | .iface _ d => uptoBulk d + 1
  | .map entries => uptoBulkEntries entries + 1
  | .held _ => 1
def uptoBulkAll {H : Type} : List (DataW H) → Nat
  | [] => 0
  | d :: r => uptoBulk d + uptoBulkAll r
def uptoBulkEntries {H : Type} : List (Lit × DataW H) → Nat
  | [] => 0
  | x :: r => uptoBulkEntry x + uptoBulkEntries r
def uptoBulkEntry {H : Type} : Lit × DataW H → Nat
  | (.string bytes, d) => bytes.length + uptoBulk d + 1
  | (_, d) => uptoBulk d + 1
 end
def uptoSmall : (H : Type) → List (DataW H) → Bool := fun _ ds => decide (uptoBulkAll ds ≤ 1048576)
def OpenSpec.upto (s : _root_.Go.ChangeSpec) : _root_.Go.OpenSpec := { _root_.Go.OpenSpec.ofChange s with cond := some uptoSmall }

/-- 'laws.FnRuleSlides', WHERE WHAT IT READS IS OF BULK AT MOST 1048576: true; the input reads as it did. -/
def fnRuleSlidesUptoRow : OpenClaim := { program := "ytlhchjjegaflhaa", sum := "5db45834bd8433ed78d4c1ff9d3fc413eb5105ef82d5361bbc37ac945c6d312b", func := "loop.example/g01194/laws.FnRuleSlides", spec := "fnRuleSlides", unfollowed := true, recurses := true, apart := false, narrowed := true }
def FnRuleSlidesUptoSaid : Prop := fnRuleSlidesUptoRow.holds Try.pinned (OpenSpec.upto fnRuleSlidesSpec)

/-- 'laws.FnRules', WHERE WHAT IT READS IS OF BULK AT MOST 1048576: true; the input reads as it did. -/
def fnRulesUptoRow : OpenClaim := { program := "ytlhchjjegaflhaa", sum := "5db45834bd8433ed78d4c1ff9d3fc413eb5105ef82d5361bbc37ac945c6d312b", func := "loop.example/g01194/laws.FnRules", spec := "fnRules", unfollowed := true, recurses := true, apart := false, narrowed := true }
def FnRulesUptoSaid : Prop := fnRulesUptoRow.holds Try.pinned (OpenSpec.upto fnRulesSpec)

/-- 'laws.FnExactReachRule', WHERE WHAT IT READS IS OF BULK AT MOST 1048576: true; the input reads as it did. -/
def fnExactReachRuleUptoRow : OpenClaim := { program := "ytlhchjjegaflhaa", sum := "5db45834bd8433ed78d4c1ff9d3fc413eb5105ef82d5361bbc37ac945c6d312b", func := "loop.example/g01194/laws.FnExactReachRule", spec := "fnExactReachRule", unfollowed := true, recurses := true, apart := false, narrowed := true }
def FnExactReachRuleUptoSaid : Prop := fnExactReachRuleUptoRow.holds Try.pinned (OpenSpec.upto fnExactReachRuleSpec)

end Rows
end Go.Proofs.Ytlhchjjegaflhaa

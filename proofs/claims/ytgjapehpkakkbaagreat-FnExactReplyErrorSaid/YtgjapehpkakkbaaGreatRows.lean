/-
  No cell of these rows narrows 'for every input' (looked for: loops, veiled, ifaces, maps, wideKeys, modest, calm, conditions, laid).
  DERIVED. THE GIVEN ROWS OF THIS SEAT. 12 by the template 'for every input the law returns true; each argument reads behind the call as it read before'; 0 by the template 'total and deterministic' (their statements: YtgjapehpkakkbaaGreatTotals.lean).
  GIVEN WITH THE SEED: the statements are not yours to turn. If you find one false, say at which input.
  Laid BY PROGRAM, IN A SANDBOX (cutbox-rows.mjs): the forced cells as the released guide's own fill.sh prints them over the translation 7c8e93b6fc3a70e1… (all of the seat's roots in one cut). By AI agents, Wed Nov 11 2026. No macro, syntax, notation, axiom, sorry.
-/
import Derived.Test.YtgjapehpkakkbaaGreatChecked
import GoSem.Claim
import GoSem.ClaimJoined
import GoSem.ClaimMapViews
import Derived.JoinedTies
import Derived.KernelRfl
namespace Go.Proofs.YtgjapehpkakkbaaGreat
/- THE CELL 'sum', in the pinned program and in every row, IS THE sha256 OF THE DUMP (.gsa) THAT YtgjapehpkakkbaaGreatProg.lean LOADS. Nothing in Lean hashes anything: it is a label: what it is worth is what the hold of that sum in a sandbox is worth. -/
noncomputable def Tryz.pinned : Pinned := { name := "ytgjapehpkakkbaagreat", sum := "7c8e93b6fc3a70e1e8cf96b30cf8b3bf11bc7bf861b94e430afe1c5c73adc658", checked := Tryz.checked }
namespace Rows
def none {H : Type} : Left H := { results := [], args := [] }

/-- 'laws.FnLuck': WHATEVER THE INPUT: true; the input reads as it did. -/
def fnLuckSpec : ChangeSpec := { name := "fnLuck", fn := fun _ => fun
  | [d] => { results := [.lit (.bool true)], args := [d] }
  | _ => none }
def fnLuckRow : OpenClaim := { program := "ytgjapehpkakkbaagreat", sum := "7c8e93b6fc3a70e1e8cf96b30cf8b3bf11bc7bf861b94e430afe1c5c73adc658", func := "loop.example/g00885/laws.FnLuck", spec := "fnLuck", unfollowed := true, recurses := true, named := ["math/bits.divideError", "math/bits.overflowError"], plainKeys := false, apart := false }
def FnLuckSaid : Prop := fnLuckRow.holds Tryz.pinned (OpenSpec.ofChange fnLuckSpec)

/-- ITS FALSE NEIGHBOUR: 'it returns false'. Refute it at one input. -/
def fnLuckWrong : ChangeSpec := { name := "fnLuck", fn := fun _ => fun
  | [d] => { results := [.lit (.bool false)], args := [d] }
  | _ => none }
def FnLuckWrongFalsely : Prop := fnLuckRow.holds Tryz.pinned (OpenSpec.ofChange fnLuckWrong)

/-- 'laws.FnLosses': WHATEVER THE INPUT: true; the input reads as it did. -/
def fnLossesSpec : ChangeSpec := { name := "fnLosses", fn := fun _ => fun
  | [d] => { results := [.lit (.bool true)], args := [d] }
  | _ => none }
def fnLossesRow : OpenClaim := { program := "ytgjapehpkakkbaagreat", sum := "7c8e93b6fc3a70e1e8cf96b30cf8b3bf11bc7bf861b94e430afe1c5c73adc658", func := "loop.example/g00885/laws.FnLosses", spec := "fnLosses", unfollowed := true, recurses := true, named := ["math/bits.divideError", "math/bits.overflowError"], plainKeys := false, apart := false }
def FnLossesSaid : Prop := fnLossesRow.holds Tryz.pinned (OpenSpec.ofChange fnLossesSpec)

/-- ITS FALSE NEIGHBOUR: 'it returns false'. Refute it at one input. -/
def fnLossesWrong : ChangeSpec := { name := "fnLosses", fn := fun _ => fun
  | [d] => { results := [.lit (.bool false)], args := [d] }
  | _ => none }
def FnLossesWrongFalsely : Prop := fnLossesRow.holds Tryz.pinned (OpenSpec.ofChange fnLossesWrong)

/-- 'laws.FnExactMoneyEquity': WHATEVER THE INPUT: true; the input reads as it did. -/
def fnExactMoneyEquitySpec : ChangeSpec := { name := "fnExactMoneyEquity", fn := fun _ => fun
  | [d1, d2, d3, d4, d5] => { results := [.lit (.bool true)], args := [d1, d2, d3, d4, d5] }
  | _ => none }
def fnExactMoneyEquityRow : OpenClaim := { program := "ytgjapehpkakkbaagreat", sum := "7c8e93b6fc3a70e1e8cf96b30cf8b3bf11bc7bf861b94e430afe1c5c73adc658", func := "loop.example/g00885/laws.FnExactMoneyEquity", spec := "fnExactMoneyEquity", unfollowed := true, recurses := true, named := ["math/bits.divideError", "math/bits.overflowError"], plainKeys := false, apart := false }
def FnExactMoneyEquitySaid : Prop := fnExactMoneyEquityRow.holds Tryz.pinned (OpenSpec.ofChange fnExactMoneyEquitySpec)

/-- ITS FALSE NEIGHBOUR: 'it returns false'. Refute it at one input. -/
def fnExactMoneyEquityWrong : ChangeSpec := { name := "fnExactMoneyEquity", fn := fun _ => fun
  | [d1, d2, d3, d4, d5] => { results := [.lit (.bool false)], args := [d1, d2, d3, d4, d5] }
  | _ => none }
def FnExactMoneyEquityWrongFalsely : Prop := fnExactMoneyEquityRow.holds Tryz.pinned (OpenSpec.ofChange fnExactMoneyEquityWrong)

/-- 'laws.FnExactRollEquity': WHATEVER THE INPUT: true; the input reads as it did. -/
def fnExactRollEquitySpec : ChangeSpec := { name := "fnExactRollEquity", fn := fun _ => fun
  | [d1, d2, d3, d4, d5] => { results := [.lit (.bool true)], args := [d1, d2, d3, d4, d5] }
  | _ => none }
def fnExactRollEquityRow : OpenClaim := { program := "ytgjapehpkakkbaagreat", sum := "7c8e93b6fc3a70e1e8cf96b30cf8b3bf11bc7bf861b94e430afe1c5c73adc658", func := "loop.example/g00885/laws.FnExactRollEquity", spec := "fnExactRollEquity", unfollowed := true, recurses := true, named := ["math/bits.divideError", "math/bits.overflowError"], plainKeys := false, apart := false }
def FnExactRollEquitySaid : Prop := fnExactRollEquityRow.holds Tryz.pinned (OpenSpec.ofChange fnExactRollEquitySpec)

/-- ITS FALSE NEIGHBOUR: 'it returns false'. Refute it at one input. -/
def fnExactRollEquityWrong : ChangeSpec := { name := "fnExactRollEquity", fn := fun _ => fun
  | [d1, d2, d3, d4, d5] => { results := [.lit (.bool false)], args := [d1, d2, d3, d4, d5] }
  | _ => none }
def FnExactRollEquityWrongFalsely : Prop := fnExactRollEquityRow.holds Tryz.pinned (OpenSpec.ofChange fnExactRollEquityWrong)

/-- 'laws.FnExactDoubledEquity': WHATEVER THE INPUT: true; the input reads as it did. -/
def fnExactDoubledEquitySpec : ChangeSpec := { name := "fnExactDoubledEquity", fn := fun _ => fun
  | [d1, d2, d3, d4, d5] => { results := [.lit (.bool true)], args := [d1, d2, d3, d4, d5] }
  | _ => none }
def fnExactDoubledEquityRow : OpenClaim := { program := "ytgjapehpkakkbaagreat", sum := "7c8e93b6fc3a70e1e8cf96b30cf8b3bf11bc7bf861b94e430afe1c5c73adc658", func := "loop.example/g00885/laws.FnExactDoubledEquity", spec := "fnExactDoubledEquity", unfollowed := true, recurses := true, named := ["math/bits.divideError", "math/bits.overflowError"], plainKeys := false, apart := false }
def FnExactDoubledEquitySaid : Prop := fnExactDoubledEquityRow.holds Tryz.pinned (OpenSpec.ofChange fnExactDoubledEquitySpec)

/-- ITS FALSE NEIGHBOUR: 'it returns false'. Refute it at one input. -/
def fnExactDoubledEquityWrong : ChangeSpec := { name := "fnExactDoubledEquity", fn := fun _ => fun
  | [d1, d2, d3, d4, d5] => { results := [.lit (.bool false)], args := [d1, d2, d3, d4, d5] }
  | _ => none }
def FnExactDoubledEquityWrongFalsely : Prop := fnExactDoubledEquityRow.holds Tryz.pinned (OpenSpec.ofChange fnExactDoubledEquityWrong)

/-- 'laws.FnExactBestReply': WHATEVER THE INPUT: true; the input reads as it did. -/
def fnExactBestReplySpec : ChangeSpec := { name := "fnExactBestReply", fn := fun _ => fun
  | [d1, d2, d3, d4, d5] => { results := [.lit (.bool true)], args := [d1, d2, d3, d4, d5] }
  | _ => none }
def fnExactBestReplyRow : OpenClaim := { program := "ytgjapehpkakkbaagreat", sum := "7c8e93b6fc3a70e1e8cf96b30cf8b3bf11bc7bf861b94e430afe1c5c73adc658", func := "loop.example/g00885/laws.FnExactBestReply", spec := "fnExactBestReply", unfollowed := true, recurses := true, named := ["math/bits.divideError", "math/bits.overflowError"], plainKeys := false, apart := false }
def FnExactBestReplySaid : Prop := fnExactBestReplyRow.holds Tryz.pinned (OpenSpec.ofChange fnExactBestReplySpec)

/-- ITS FALSE NEIGHBOUR: 'it returns false'. Refute it at one input. -/
def fnExactBestReplyWrong : ChangeSpec := { name := "fnExactBestReply", fn := fun _ => fun
  | [d1, d2, d3, d4, d5] => { results := [.lit (.bool false)], args := [d1, d2, d3, d4, d5] }
  | _ => none }
def FnExactBestReplyWrongFalsely : Prop := fnExactBestReplyRow.holds Tryz.pinned (OpenSpec.ofChange fnExactBestReplyWrong)

/-- 'laws.FnExactBestMoneyResult': WHATEVER THE INPUT: true; the input reads as it did. -/
def fnExactBestMoneyResultSpec : ChangeSpec := { name := "fnExactBestMoneyResult", fn := fun _ => fun
  | [d1, d2, d3, d4, d5, d6] => { results := [.lit (.bool true)], args := [d1, d2, d3, d4, d5, d6] }
  | _ => none }
def fnExactBestMoneyResultRow : OpenClaim := { program := "ytgjapehpkakkbaagreat", sum := "7c8e93b6fc3a70e1e8cf96b30cf8b3bf11bc7bf861b94e430afe1c5c73adc658", func := "loop.example/g00885/laws.FnExactBestMoneyResult", spec := "fnExactBestMoneyResult", unfollowed := true, recurses := true, named := ["math/bits.divideError", "math/bits.overflowError"], plainKeys := false, apart := false }
def FnExactBestMoneyResultSaid : Prop := fnExactBestMoneyResultRow.holds Tryz.pinned (OpenSpec.ofChange fnExactBestMoneyResultSpec)

/-- ITS FALSE NEIGHBOUR: 'it returns false'. Refute it at one input. -/
def fnExactBestMoneyResultWrong : ChangeSpec := { name := "fnExactBestMoneyResult", fn := fun _ => fun
  | [d1, d2, d3, d4, d5, d6] => { results := [.lit (.bool false)], args := [d1, d2, d3, d4, d5, d6] }
  | _ => none }
def FnExactBestMoneyResultWrongFalsely : Prop := fnExactBestMoneyResultRow.holds Tryz.pinned (OpenSpec.ofChange fnExactBestMoneyResultWrong)

/-- 'laws.FnExactChoiceValue': WHATEVER THE INPUT: true; the input reads as it did. -/
def fnExactChoiceValueSpec : ChangeSpec := { name := "fnExactChoiceValue", fn := fun _ => fun
  | [d1, d2, d3, d4, d5, d6] => { results := [.lit (.bool true)], args := [d1, d2, d3, d4, d5, d6] }
  | _ => none }
def fnExactChoiceValueRow : OpenClaim := { program := "ytgjapehpkakkbaagreat", sum := "7c8e93b6fc3a70e1e8cf96b30cf8b3bf11bc7bf861b94e430afe1c5c73adc658", func := "loop.example/g00885/laws.FnExactChoiceValue", spec := "fnExactChoiceValue", unfollowed := true, recurses := true, named := ["math/bits.divideError", "math/bits.overflowError"], plainKeys := false, apart := false }
def FnExactChoiceValueSaid : Prop := fnExactChoiceValueRow.holds Tryz.pinned (OpenSpec.ofChange fnExactChoiceValueSpec)

/-- ITS FALSE NEIGHBOUR: 'it returns false'. Refute it at one input. -/
def fnExactChoiceValueWrong : ChangeSpec := { name := "fnExactChoiceValue", fn := fun _ => fun
  | [d1, d2, d3, d4, d5, d6] => { results := [.lit (.bool false)], args := [d1, d2, d3, d4, d5, d6] }
  | _ => none }
def FnExactChoiceValueWrongFalsely : Prop := fnExactChoiceValueRow.holds Tryz.pinned (OpenSpec.ofChange fnExactChoiceValueWrong)

/-- 'laws.FnExactIsRedouble': WHATEVER THE INPUT: true; the input reads as it did. -/
def fnExactIsRedoubleSpec : ChangeSpec := { name := "fnExactIsRedouble", fn := fun _ => fun
  | [d1, d2, d3, d4, d5] => { results := [.lit (.bool true)], args := [d1, d2, d3, d4, d5] }
  | _ => none }
def fnExactIsRedoubleRow : OpenClaim := { program := "ytgjapehpkakkbaagreat", sum := "7c8e93b6fc3a70e1e8cf96b30cf8b3bf11bc7bf861b94e430afe1c5c73adc658", func := "loop.example/g00885/laws.FnExactIsRedouble", spec := "fnExactIsRedouble", unfollowed := true, recurses := true, named := ["math/bits.divideError", "math/bits.overflowError"], plainKeys := false, apart := false }
def FnExactIsRedoubleSaid : Prop := fnExactIsRedoubleRow.holds Tryz.pinned (OpenSpec.ofChange fnExactIsRedoubleSpec)

/-- ITS FALSE NEIGHBOUR: 'it returns false'. Refute it at one input. -/
def fnExactIsRedoubleWrong : ChangeSpec := { name := "fnExactIsRedouble", fn := fun _ => fun
  | [d1, d2, d3, d4, d5] => { results := [.lit (.bool false)], args := [d1, d2, d3, d4, d5] }
  | _ => none }
def FnExactIsRedoubleWrongFalsely : Prop := fnExactIsRedoubleRow.holds Tryz.pinned (OpenSpec.ofChange fnExactIsRedoubleWrong)

/-- 'laws.FnExactDecideCube': WHATEVER THE INPUT: true; the input reads as it did. -/
def fnExactDecideCubeSpec : ChangeSpec := { name := "fnExactDecideCube", fn := fun _ => fun
  | [d1, d2, d3, d4, d5] => { results := [.lit (.bool true)], args := [d1, d2, d3, d4, d5] }
  | _ => none }
def fnExactDecideCubeRow : OpenClaim := { program := "ytgjapehpkakkbaagreat", sum := "7c8e93b6fc3a70e1e8cf96b30cf8b3bf11bc7bf861b94e430afe1c5c73adc658", func := "loop.example/g00885/laws.FnExactDecideCube", spec := "fnExactDecideCube", unfollowed := true, recurses := true, named := ["math/bits.divideError", "math/bits.overflowError"], plainKeys := false, apart := false }
def FnExactDecideCubeSaid : Prop := fnExactDecideCubeRow.holds Tryz.pinned (OpenSpec.ofChange fnExactDecideCubeSpec)

/-- ITS FALSE NEIGHBOUR: 'it returns false'. Refute it at one input. -/
def fnExactDecideCubeWrong : ChangeSpec := { name := "fnExactDecideCube", fn := fun _ => fun
  | [d1, d2, d3, d4, d5] => { results := [.lit (.bool false)], args := [d1, d2, d3, d4, d5] }
  | _ => none }
def FnExactDecideCubeWrongFalsely : Prop := fnExactDecideCubeRow.holds Tryz.pinned (OpenSpec.ofChange fnExactDecideCubeWrong)

/-- 'laws.FnExactDoublingError': WHATEVER THE INPUT: true; the input reads as it did. -/
def fnExactDoublingErrorSpec : ChangeSpec := { name := "fnExactDoublingError", fn := fun _ => fun
  | [d1, d2, d3, d4, d5, d6] => { results := [.lit (.bool true)], args := [d1, d2, d3, d4, d5, d6] }
  | _ => none }
def fnExactDoublingErrorRow : OpenClaim := { program := "ytgjapehpkakkbaagreat", sum := "7c8e93b6fc3a70e1e8cf96b30cf8b3bf11bc7bf861b94e430afe1c5c73adc658", func := "loop.example/g00885/laws.FnExactDoublingError", spec := "fnExactDoublingError", unfollowed := true, recurses := true, named := ["math/bits.divideError", "math/bits.overflowError"], plainKeys := false, apart := false }
def FnExactDoublingErrorSaid : Prop := fnExactDoublingErrorRow.holds Tryz.pinned (OpenSpec.ofChange fnExactDoublingErrorSpec)

/-- ITS FALSE NEIGHBOUR: 'it returns false'. Refute it at one input. -/
def fnExactDoublingErrorWrong : ChangeSpec := { name := "fnExactDoublingError", fn := fun _ => fun
  | [d1, d2, d3, d4, d5, d6] => { results := [.lit (.bool false)], args := [d1, d2, d3, d4, d5, d6] }
  | _ => none }
def FnExactDoublingErrorWrongFalsely : Prop := fnExactDoublingErrorRow.holds Tryz.pinned (OpenSpec.ofChange fnExactDoublingErrorWrong)

/-- 'laws.FnExactReplyError': WHATEVER THE INPUT: true; the input reads as it did. -/
def fnExactReplyErrorSpec : ChangeSpec := { name := "fnExactReplyError", fn := fun _ => fun
  | [d1, d2, d3, d4, d5, d6] => { results := [.lit (.bool true)], args := [d1, d2, d3, d4, d5, d6] }
  | _ => none }
def fnExactReplyErrorRow : OpenClaim := { program := "ytgjapehpkakkbaagreat", sum := "7c8e93b6fc3a70e1e8cf96b30cf8b3bf11bc7bf861b94e430afe1c5c73adc658", func := "loop.example/g00885/laws.FnExactReplyError", spec := "fnExactReplyError", unfollowed := true, recurses := true, named := ["math/bits.divideError", "math/bits.overflowError"], plainKeys := false, apart := false }
def FnExactReplyErrorSaid : Prop := fnExactReplyErrorRow.holds Tryz.pinned (OpenSpec.ofChange fnExactReplyErrorSpec)

/-- ITS FALSE NEIGHBOUR: 'it returns false'. Refute it at one input. -/
def fnExactReplyErrorWrong : ChangeSpec := { name := "fnExactReplyError", fn := fun _ => fun
  | [d1, d2, d3, d4, d5, d6] => { results := [.lit (.bool false)], args := [d1, d2, d3, d4, d5, d6] }
  | _ => none }
def FnExactReplyErrorWrongFalsely : Prop := fnExactReplyErrorRow.holds Tryz.pinned (OpenSpec.ofChange fnExactReplyErrorWrong)

/- THE SECOND FORM. 'bulk': how many values and letters a reading holds, each counted each time it is reached (what is shared counts as often as it is met; a slice's spare places count too). A statement '..UptoSaid' is the law's where the arguments, and the package variables that the reading takes, are together of bulk at most 1048576: NARROWER than '..Said'. Prove '..Said' where nothing that the law and all that it calls make is longer than what came in: it says more and counts as full. Else prove '..UptoSaid'. A law counts once. -/
mutual
def uptoBulk {H : Type} : DataW H → Nat
  | .lit (.string bytes) => bytes.length + 1
  | .lit _ => 1
  | .nil => 1
  | .ptr d => uptoBulk d + 1
  | .slice elems spare => uptoBulkAll elems + uptoBulkAll spare + 1
  | .agg parts => uptoBulkAll parts + 1
  | .iface _ d => uptoBulk d + 1
  | .map entries => uptoBulkEntries entries + 1
  | .held _ => 1
def uptoBulkAll {H : Type} : List (DataW H) → Nat
  | [] => 0
  | d :: r => uptoBulk d + uptoBulkAll r
def uptoBulkEntries {H : Type} : List (Lit × DataW H) → Nat
  | [] => 0
  | x :: r => uptoBulkEntry x + uptoBulkEntries r
def uptoBulkEntry {H : Type} : Lit × DataW H → Nat
  | (.string bytes, d) => bytes.length + uptoBulk d + 1
  | (_, d) => uptoBulk d + 1
 end
def uptoSmall : (H : Type) → List (DataW H) → Bool := fun _ ds => decide (uptoBulkAll ds ≤ 1048576)
def OpenSpec.upto (s : _root_.Go.ChangeSpec) : _root_.Go.OpenSpec := { _root_.Go.OpenSpec.ofChange s with cond := some uptoSmall }

/-- 'laws.FnLuck', WHERE WHAT IT READS IS OF BULK AT MOST 1048576: true; the input reads as it did. -/
def fnLuckUptoRow : OpenClaim := { program := "ytgjapehpkakkbaagreat", sum := "7c8e93b6fc3a70e1e8cf96b30cf8b3bf11bc7bf861b94e430afe1c5c73adc658", func := "loop.example/g00885/laws.FnLuck", spec := "fnLuck", unfollowed := true, recurses := true, named := ["math/bits.divideError", "math/bits.overflowError"], plainKeys := false, apart := false, narrowed := true }
def FnLuckUptoSaid : Prop := fnLuckUptoRow.holds Tryz.pinned (OpenSpec.upto fnLuckSpec)

/-- 'laws.FnLosses', WHERE WHAT IT READS IS OF BULK AT MOST 1048576: true; the input reads as it did. -/
def fnLossesUptoRow : OpenClaim := { program := "ytgjapehpkakkbaagreat", sum := "7c8e93b6fc3a70e1e8cf96b30cf8b3bf11bc7bf861b94e430afe1c5c73adc658", func := "loop.example/g00885/laws.FnLosses", spec := "fnLosses", unfollowed := true, recurses := true, named := ["math/bits.divideError", "math/bits.overflowError"], plainKeys := false, apart := false, narrowed := true }
def FnLossesUptoSaid : Prop := fnLossesUptoRow.holds Tryz.pinned (OpenSpec.upto fnLossesSpec)

/-- 'laws.FnExactMoneyEquity', WHERE WHAT IT READS IS OF BULK AT MOST 1048576: true; the input reads as it did. -/
def fnExactMoneyEquityUptoRow : OpenClaim := { program := "ytgjapehpkakkbaagreat", sum := "7c8e93b6fc3a70e1e8cf96b30cf8b3bf11bc7bf861b94e430afe1c5c73adc658", func := "loop.example/g00885/laws.FnExactMoneyEquity", spec := "fnExactMoneyEquity", unfollowed := true, recurses := true, named := ["math/bits.divideError", "math/bits.overflowError"], plainKeys := false, apart := false, narrowed := true }
def FnExactMoneyEquityUptoSaid : Prop := fnExactMoneyEquityUptoRow.holds Tryz.pinned (OpenSpec.upto fnExactMoneyEquitySpec)

/-- 'laws.FnExactRollEquity', WHERE WHAT IT READS IS OF BULK AT MOST 1048576: true; the input reads as it did. -/
def fnExactRollEquityUptoRow : OpenClaim := { program := "ytgjapehpkakkbaagreat", sum := "7c8e93b6fc3a70e1e8cf96b30cf8b3bf11bc7bf861b94e430afe1c5c73adc658", func := "loop.example/g00885/laws.FnExactRollEquity", spec := "fnExactRollEquity", unfollowed := true, recurses := true, named := ["math/bits.divideError", "math/bits.overflowError"], plainKeys := false, apart := false, narrowed := true }
def FnExactRollEquityUptoSaid : Prop := fnExactRollEquityUptoRow.holds Tryz.pinned (OpenSpec.upto fnExactRollEquitySpec)

/-- 'laws.FnExactDoubledEquity', WHERE WHAT IT READS IS OF BULK AT MOST 1048576: true; the input reads as it did. -/
def fnExactDoubledEquityUptoRow : OpenClaim := { program := "ytgjapehpkakkbaagreat", sum := "7c8e93b6fc3a70e1e8cf96b30cf8b3bf11bc7bf861b94e430afe1c5c73adc658", func := "loop.example/g00885/laws.FnExactDoubledEquity", spec := "fnExactDoubledEquity", unfollowed := true, recurses := true, named := ["math/bits.divideError", "math/bits.overflowError"], plainKeys := false, apart := false, narrowed := true }
def FnExactDoubledEquityUptoSaid : Prop := fnExactDoubledEquityUptoRow.holds Tryz.pinned (OpenSpec.upto fnExactDoubledEquitySpec)

/-- 'laws.FnExactBestReply', WHERE WHAT IT READS IS OF BULK AT MOST 1048576: true; the input reads as it did. -/
def fnExactBestReplyUptoRow : OpenClaim := { program := "ytgjapehpkakkbaagreat", sum := "7c8e93b6fc3a70e1e8cf96b30cf8b3bf11bc7bf861b94e430afe1c5c73adc658", func := "loop.example/g00885/laws.FnExactBestReply", spec := "fnExactBestReply", unfollowed := true, recurses := true, named := ["math/bits.divideError", "math/bits.overflowError"], plainKeys := false, apart := false, narrowed := true }
def FnExactBestReplyUptoSaid : Prop := fnExactBestReplyUptoRow.holds Tryz.pinned (OpenSpec.upto fnExactBestReplySpec)

/-- 'laws.FnExactBestMoneyResult', WHERE WHAT IT READS IS OF BULK AT MOST 1048576: true; the input reads as it did. -/
def fnExactBestMoneyResultUptoRow : OpenClaim := { program := "ytgjapehpkakkbaagreat", sum := "7c8e93b6fc3a70e1e8cf96b30cf8b3bf11bc7bf861b94e430afe1c5c73adc658", func := "loop.example/g00885/laws.FnExactBestMoneyResult", spec := "fnExactBestMoneyResult", unfollowed := true, recurses := true, named := ["math/bits.divideError", "math/bits.overflowError"], plainKeys := false, apart := false, narrowed := true }
def FnExactBestMoneyResultUptoSaid : Prop := fnExactBestMoneyResultUptoRow.holds Tryz.pinned (OpenSpec.upto fnExactBestMoneyResultSpec)

/-- 'laws.FnExactChoiceValue', WHERE WHAT IT READS IS OF BULK AT MOST 1048576: true; the input reads as it did. -/
def fnExactChoiceValueUptoRow : OpenClaim := { program := "ytgjapehpkakkbaagreat", sum := "7c8e93b6fc3a70e1e8cf96b30cf8b3bf11bc7bf861b94e430afe1c5c73adc658", func := "loop.example/g00885/laws.FnExactChoiceValue", spec := "fnExactChoiceValue", unfollowed := true, recurses := true, named := ["math/bits.divideError", "math/bits.overflowError"], plainKeys := false, apart := false, narrowed := true }
def FnExactChoiceValueUptoSaid : Prop := fnExactChoiceValueUptoRow.holds Tryz.pinned (OpenSpec.upto fnExactChoiceValueSpec)

/-- 'laws.FnExactIsRedouble', WHERE WHAT IT READS IS OF BULK AT MOST 1048576: true; the input reads as it did. -/
def fnExactIsRedoubleUptoRow : OpenClaim := { program := "ytgjapehpkakkbaagreat", sum := "7c8e93b6fc3a70e1e8cf96b30cf8b3bf11bc7bf861b94e430afe1c5c73adc658", func := "loop.example/g00885/laws.FnExactIsRedouble", spec := "fnExactIsRedouble", unfollowed := true, recurses := true, named := ["math/bits.divideError", "math/bits.overflowError"], plainKeys := false, apart := false, narrowed := true }
def FnExactIsRedoubleUptoSaid : Prop := fnExactIsRedoubleUptoRow.holds Tryz.pinned (OpenSpec.upto fnExactIsRedoubleSpec)

/-- 'laws.FnExactDecideCube', WHERE WHAT IT READS IS OF BULK AT MOST 1048576: true; the input reads as it did. -/
def fnExactDecideCubeUptoRow : OpenClaim := { program := "ytgjapehpkakkbaagreat", sum := "7c8e93b6fc3a70e1e8cf96b30cf8b3bf11bc7bf861b94e430afe1c5c73adc658", func := "loop.example/g00885/laws.FnExactDecideCube", spec := "fnExactDecideCube", unfollowed := true, recurses := true, named := ["math/bits.divideError", "math/bits.overflowError"], plainKeys := false, apart := false, narrowed := true }
def FnExactDecideCubeUptoSaid : Prop := fnExactDecideCubeUptoRow.holds Tryz.pinned (OpenSpec.upto fnExactDecideCubeSpec)

/-- 'laws.FnExactDoublingError', WHERE WHAT IT READS IS OF BULK AT MOST 1048576: true; the input reads as it did. -/
def fnExactDoublingErrorUptoRow : OpenClaim := { program := "ytgjapehpkakkbaagreat", sum := "7c8e93b6fc3a70e1e8cf96b30cf8b3bf11bc7bf861b94e430afe1c5c73adc658", func := "loop.example/g00885/laws.FnExactDoublingError", spec := "fnExactDoublingError", unfollowed := true, recurses := true, named := ["math/bits.divideError", "math/bits.overflowError"], plainKeys := false, apart := false, narrowed := true }
def FnExactDoublingErrorUptoSaid : Prop := fnExactDoublingErrorUptoRow.holds Tryz.pinned (OpenSpec.upto fnExactDoublingErrorSpec)

/-- 'laws.FnExactReplyError', WHERE WHAT IT READS IS OF BULK AT MOST 1048576: true; the input reads as it did. -/
def fnExactReplyErrorUptoRow : OpenClaim := { program := "ytgjapehpkakkbaagreat", sum := "7c8e93b6fc3a70e1e8cf96b30cf8b3bf11bc7bf861b94e430afe1c5c73adc658", func := "loop.example/g00885/laws.FnExactReplyError", spec := "fnExactReplyError", unfollowed := true, recurses := true, named := ["math/bits.divideError", "math/bits.overflowError"], plainKeys := false, apart := false, narrowed := true }
def FnExactReplyErrorUptoSaid : Prop := fnExactReplyErrorUptoRow.holds Tryz.pinned (OpenSpec.upto fnExactReplyErrorSpec)

end Rows
end Go.Proofs.YtgjapehpkakkbaaGreat

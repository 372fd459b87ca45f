/-
  No cell of these rows narrows 'for every input' (looked for: loops, veiled, ifaces, maps, wideKeys, modest, calm, conditions, laid).
  DERIVED. THE GIVEN ROWS OF THIS SEAT. 11 by the template 'for every input the law returns true; each argument reads behind the call as it read before'; 0 by the template 'total and deterministic' (their statements: YtkaiilmgemaljaaGreatTotals.lean).
  GIVEN WITH THE SEED: the statements are not yours to turn. If you find one false, say at which input.
  Laid BY PROGRAM, IN A SANDBOX (cutbox-rows.mjs): the forced cells as the released guide's own fill.sh prints them over the translation c177d202b847012e… (all of the seat's roots in one cut). By AI agents, Wed Nov 11 2026. No macro, syntax, notation, axiom, sorry.
-/
import Derived.Test.YtkaiilmgemaljaaGreatChecked
import GoSem.Claim
import GoSem.ClaimJoined
import GoSem.ClaimMapViews
import Derived.JoinedTies
import Derived.KernelRfl
namespace Go.Proofs.YtkaiilmgemaljaaGreat
/- THE CELL 'sum', in the pinned program and in every row, IS THE sha256 OF THE DUMP (.gsa) THAT YtkaiilmgemaljaaGreatProg.lean LOADS. Nothing in Lean hashes anything: it is a label: what it is worth is what the hold of that sum in a sandbox is worth. -/
noncomputable def Tryz.pinned : Pinned := { name := "ytkaiilmgemaljaagreat", sum := "c177d202b847012e23ac4657b04402c35fd4fdb2d48b24c858f5bced2c9f5ff1", checked := Tryz.checked }
namespace Rows
def none {H : Type} : Left H := { results := [], args := [] }

/-- 'laws.FnLuck': WHATEVER THE INPUT: true; the input reads as it did. -/
def fnLuckSpec : ChangeSpec := { name := "fnLuck", fn := fun _ => fun
  | [d] => { results := [.lit (.bool true)], args := [d] }
  | _ => none }
def fnLuckRow : OpenClaim := { program := "ytkaiilmgemaljaagreat", sum := "c177d202b847012e23ac4657b04402c35fd4fdb2d48b24c858f5bced2c9f5ff1", func := "loop.example/g00885/laws.FnLuck", spec := "fnLuck", unfollowed := true, recurses := true, named := ["math/bits.divideError", "math/bits.overflowError"], plainKeys := false, apart := false }
def FnLuckSaid : Prop := fnLuckRow.holds Tryz.pinned (OpenSpec.ofChange fnLuckSpec)

/-- ITS FALSE NEIGHBOUR: 'it returns false'. Refute it at one input. -/
def fnLuckWrong : ChangeSpec := { name := "fnLuck", fn := fun _ => fun
  | [d] => { results := [.lit (.bool false)], args := [d] }
  | _ => none }
def FnLuckWrongFalsely : Prop := fnLuckRow.holds Tryz.pinned (OpenSpec.ofChange fnLuckWrong)

/-- 'laws.FnLosses': WHATEVER THE INPUT: true; the input reads as it did. -/
def fnLossesSpec : ChangeSpec := { name := "fnLosses", fn := fun _ => fun
  | [d] => { results := [.lit (.bool true)], args := [d] }
  | _ => none }
def fnLossesRow : OpenClaim := { program := "ytkaiilmgemaljaagreat", sum := "c177d202b847012e23ac4657b04402c35fd4fdb2d48b24c858f5bced2c9f5ff1", func := "loop.example/g00885/laws.FnLosses", spec := "fnLosses", unfollowed := true, recurses := true, named := ["math/bits.divideError", "math/bits.overflowError"], plainKeys := false, apart := false }
def FnLossesSaid : Prop := fnLossesRow.holds Tryz.pinned (OpenSpec.ofChange fnLossesSpec)

/-- ITS FALSE NEIGHBOUR: 'it returns false'. Refute it at one input. -/
def fnLossesWrong : ChangeSpec := { name := "fnLosses", fn := fun _ => fun
  | [d] => { results := [.lit (.bool false)], args := [d] }
  | _ => none }
def FnLossesWrongFalsely : Prop := fnLossesRow.holds Tryz.pinned (OpenSpec.ofChange fnLossesWrong)

/-- 'laws.FnOwnership': WHATEVER THE INPUT: true; the input reads as it did. -/
def fnOwnershipSpec : ChangeSpec := { name := "fnOwnership", fn := fun _ => fun
  | [d] => { results := [.lit (.bool true)], args := [d] }
  | _ => none }
def fnOwnershipRow : OpenClaim := { program := "ytkaiilmgemaljaagreat", sum := "c177d202b847012e23ac4657b04402c35fd4fdb2d48b24c858f5bced2c9f5ff1", func := "loop.example/g00885/laws.FnOwnership", spec := "fnOwnership", unfollowed := true, recurses := true, named := ["math/bits.divideError", "math/bits.overflowError"], plainKeys := false, apart := false }
def FnOwnershipSaid : Prop := fnOwnershipRow.holds Tryz.pinned (OpenSpec.ofChange fnOwnershipSpec)

/-- ITS FALSE NEIGHBOUR: 'it returns false'. Refute it at one input. -/
def fnOwnershipWrong : ChangeSpec := { name := "fnOwnership", fn := fun _ => fun
  | [d] => { results := [.lit (.bool false)], args := [d] }
  | _ => none }
def FnOwnershipWrongFalsely : Prop := fnOwnershipRow.holds Tryz.pinned (OpenSpec.ofChange fnOwnershipWrong)

/-- 'laws.FnRollMean': WHATEVER THE INPUT: true; the input reads as it did. -/
def fnRollMeanSpec : ChangeSpec := { name := "fnRollMean", fn := fun _ => fun
  | [d] => { results := [.lit (.bool true)], args := [d] }
  | _ => none }
def fnRollMeanRow : OpenClaim := { program := "ytkaiilmgemaljaagreat", sum := "c177d202b847012e23ac4657b04402c35fd4fdb2d48b24c858f5bced2c9f5ff1", func := "loop.example/g00885/laws.FnRollMean", spec := "fnRollMean", unfollowed := true, recurses := true, named := ["math/bits.divideError", "math/bits.overflowError"], plainKeys := false, apart := false }
def FnRollMeanSaid : Prop := fnRollMeanRow.holds Tryz.pinned (OpenSpec.ofChange fnRollMeanSpec)

/-- ITS FALSE NEIGHBOUR: 'it returns false'. Refute it at one input. -/
def fnRollMeanWrong : ChangeSpec := { name := "fnRollMean", fn := fun _ => fun
  | [d] => { results := [.lit (.bool false)], args := [d] }
  | _ => none }
def FnRollMeanWrongFalsely : Prop := fnRollMeanRow.holds Tryz.pinned (OpenSpec.ofChange fnRollMeanWrong)

/-- 'laws.FnEquity': WHATEVER THE INPUT: true; the input reads as it did. -/
def fnEquitySpec : ChangeSpec := { name := "fnEquity", fn := fun _ => fun
  | [d] => { results := [.lit (.bool true)], args := [d] }
  | _ => none }
def fnEquityRow : OpenClaim := { program := "ytkaiilmgemaljaagreat", sum := "c177d202b847012e23ac4657b04402c35fd4fdb2d48b24c858f5bced2c9f5ff1", func := "loop.example/g00885/laws.FnEquity", spec := "fnEquity", unfollowed := true, recurses := true, named := ["math/bits.divideError", "math/bits.overflowError"], plainKeys := false, apart := false }
def FnEquitySaid : Prop := fnEquityRow.holds Tryz.pinned (OpenSpec.ofChange fnEquitySpec)

/-- ITS FALSE NEIGHBOUR: 'it returns false'. Refute it at one input. -/
def fnEquityWrong : ChangeSpec := { name := "fnEquity", fn := fun _ => fun
  | [d] => { results := [.lit (.bool false)], args := [d] }
  | _ => none }
def FnEquityWrongFalsely : Prop := fnEquityRow.holds Tryz.pinned (OpenSpec.ofChange fnEquityWrong)

/-- 'laws.FnBestMoney': WHATEVER THE INPUT: true; the input reads as it did. -/
def fnBestMoneySpec : ChangeSpec := { name := "fnBestMoney", fn := fun _ => fun
  | [d] => { results := [.lit (.bool true)], args := [d] }
  | _ => none }
def fnBestMoneyRow : OpenClaim := { program := "ytkaiilmgemaljaagreat", sum := "c177d202b847012e23ac4657b04402c35fd4fdb2d48b24c858f5bced2c9f5ff1", func := "loop.example/g00885/laws.FnBestMoney", spec := "fnBestMoney", unfollowed := true, recurses := true, named := ["math/bits.divideError", "math/bits.overflowError"], plainKeys := false, apart := false }
def FnBestMoneySaid : Prop := fnBestMoneyRow.holds Tryz.pinned (OpenSpec.ofChange fnBestMoneySpec)

/-- ITS FALSE NEIGHBOUR: 'it returns false'. Refute it at one input. -/
def fnBestMoneyWrong : ChangeSpec := { name := "fnBestMoney", fn := fun _ => fun
  | [d] => { results := [.lit (.bool false)], args := [d] }
  | _ => none }
def FnBestMoneyWrongFalsely : Prop := fnBestMoneyRow.holds Tryz.pinned (OpenSpec.ofChange fnBestMoneyWrong)

/-- 'laws.FnReply': WHATEVER THE INPUT: true; the input reads as it did. -/
def fnReplySpec : ChangeSpec := { name := "fnReply", fn := fun _ => fun
  | [d] => { results := [.lit (.bool true)], args := [d] }
  | _ => none }
def fnReplyRow : OpenClaim := { program := "ytkaiilmgemaljaagreat", sum := "c177d202b847012e23ac4657b04402c35fd4fdb2d48b24c858f5bced2c9f5ff1", func := "loop.example/g00885/laws.FnReply", spec := "fnReply", unfollowed := true, recurses := true, named := ["math/bits.divideError", "math/bits.overflowError"], plainKeys := false, apart := false }
def FnReplySaid : Prop := fnReplyRow.holds Tryz.pinned (OpenSpec.ofChange fnReplySpec)

/-- ITS FALSE NEIGHBOUR: 'it returns false'. Refute it at one input. -/
def fnReplyWrong : ChangeSpec := { name := "fnReply", fn := fun _ => fun
  | [d] => { results := [.lit (.bool false)], args := [d] }
  | _ => none }
def FnReplyWrongFalsely : Prop := fnReplyRow.holds Tryz.pinned (OpenSpec.ofChange fnReplyWrong)

/-- 'laws.FnNoDoubling': WHATEVER THE INPUT: true; the input reads as it did. -/
def fnNoDoublingSpec : ChangeSpec := { name := "fnNoDoubling", fn := fun _ => fun
  | [d] => { results := [.lit (.bool true)], args := [d] }
  | _ => none }
def fnNoDoublingRow : OpenClaim := { program := "ytkaiilmgemaljaagreat", sum := "c177d202b847012e23ac4657b04402c35fd4fdb2d48b24c858f5bced2c9f5ff1", func := "loop.example/g00885/laws.FnNoDoubling", spec := "fnNoDoubling", unfollowed := true, recurses := true, named := ["math/bits.divideError", "math/bits.overflowError"], plainKeys := false, apart := false }
def FnNoDoublingSaid : Prop := fnNoDoublingRow.holds Tryz.pinned (OpenSpec.ofChange fnNoDoublingSpec)

/-- ITS FALSE NEIGHBOUR: 'it returns false'. Refute it at one input. -/
def fnNoDoublingWrong : ChangeSpec := { name := "fnNoDoubling", fn := fun _ => fun
  | [d] => { results := [.lit (.bool false)], args := [d] }
  | _ => none }
def FnNoDoublingWrongFalsely : Prop := fnNoDoublingRow.holds Tryz.pinned (OpenSpec.ofChange fnNoDoublingWrong)

/-- 'laws.FnExactCubeGain': WHATEVER THE INPUT: true; the input reads as it did. -/
def fnExactCubeGainSpec : ChangeSpec := { name := "fnExactCubeGain", fn := fun _ => fun
  | [d1, d2, d3, d4, d5] => { results := [.lit (.bool true)], args := [d1, d2, d3, d4, d5] }
  | _ => none }
def fnExactCubeGainRow : OpenClaim := { program := "ytkaiilmgemaljaagreat", sum := "c177d202b847012e23ac4657b04402c35fd4fdb2d48b24c858f5bced2c9f5ff1", func := "loop.example/g00885/laws.FnExactCubeGain", spec := "fnExactCubeGain", unfollowed := true, recurses := true, named := ["math/bits.divideError", "math/bits.overflowError"], plainKeys := false, apart := false }
def FnExactCubeGainSaid : Prop := fnExactCubeGainRow.holds Tryz.pinned (OpenSpec.ofChange fnExactCubeGainSpec)

/-- ITS FALSE NEIGHBOUR: 'it returns false'. Refute it at one input. -/
def fnExactCubeGainWrong : ChangeSpec := { name := "fnExactCubeGain", fn := fun _ => fun
  | [d1, d2, d3, d4, d5] => { results := [.lit (.bool false)], args := [d1, d2, d3, d4, d5] }
  | _ => none }
def FnExactCubeGainWrongFalsely : Prop := fnExactCubeGainRow.holds Tryz.pinned (OpenSpec.ofChange fnExactCubeGainWrong)

/-- 'laws.FnExactBuildDatabase': WHATEVER THE INPUT: true; the input reads as it did. -/
def fnExactBuildDatabaseSpec : ChangeSpec := { name := "fnExactBuildDatabase", fn := fun _ => fun
  | [d1, d2] => { results := [.lit (.bool true)], args := [d1, d2] }
  | _ => none }
def fnExactBuildDatabaseRow : OpenClaim := { program := "ytkaiilmgemaljaagreat", sum := "c177d202b847012e23ac4657b04402c35fd4fdb2d48b24c858f5bced2c9f5ff1", func := "loop.example/g00885/laws.FnExactBuildDatabase", spec := "fnExactBuildDatabase", unfollowed := true, recurses := true, named := ["math/bits.divideError", "math/bits.overflowError"], plainKeys := false, apart := false }
def FnExactBuildDatabaseSaid : Prop := fnExactBuildDatabaseRow.holds Tryz.pinned (OpenSpec.ofChange fnExactBuildDatabaseSpec)

/-- ITS FALSE NEIGHBOUR: 'it returns false'. Refute it at one input. -/
def fnExactBuildDatabaseWrong : ChangeSpec := { name := "fnExactBuildDatabase", fn := fun _ => fun
  | [d1, d2] => { results := [.lit (.bool false)], args := [d1, d2] }
  | _ => none }
def FnExactBuildDatabaseWrongFalsely : Prop := fnExactBuildDatabaseRow.holds Tryz.pinned (OpenSpec.ofChange fnExactBuildDatabaseWrong)

/-- 'laws.FnDatabase': WHATEVER THE INPUT: true; the input reads as it did. -/
def fnDatabaseSpec : ChangeSpec := { name := "fnDatabase", fn := fun _ => fun
  | [d] => { results := [.lit (.bool true)], args := [d] }
  | _ => none }
def fnDatabaseRow : OpenClaim := { program := "ytkaiilmgemaljaagreat", sum := "c177d202b847012e23ac4657b04402c35fd4fdb2d48b24c858f5bced2c9f5ff1", func := "loop.example/g00885/laws.FnDatabase", spec := "fnDatabase", unfollowed := true, recurses := true, named := ["math/bits.divideError", "math/bits.overflowError"], plainKeys := false, apart := false }
def FnDatabaseSaid : Prop := fnDatabaseRow.holds Tryz.pinned (OpenSpec.ofChange fnDatabaseSpec)

/-- ITS FALSE NEIGHBOUR: 'it returns false'. Refute it at one input. -/
def fnDatabaseWrong : ChangeSpec := { name := "fnDatabase", fn := fun _ => fun
  | [d] => { results := [.lit (.bool false)], args := [d] }
  | _ => none }
def FnDatabaseWrongFalsely : Prop := fnDatabaseRow.holds Tryz.pinned (OpenSpec.ofChange fnDatabaseWrong)

/- THE SECOND FORM. 'bulk': how many values and letters a reading holds, each counted each time it is reached (what is shared counts as often as it is met; a slice's spare places count too). A statement '..UptoSaid' is the law's where the arguments, and the package variables that the reading takes, are together of bulk at most 1048576: NARROWER than '..Said'. Prove '..Said' where nothing that the law and all that it calls make is longer than what came in: it says more and counts as full. Else prove '..UptoSaid'. A law counts once. -/
mutual
def uptoBulk {H : Type} : DataW H → Nat
  | .lit (.string bytes) => bytes.length + 1
  | .lit _ => 1
  | .nil => 1
  | .ptr d => uptoBulk d + 1
  | .slice elems spare => uptoBulkAll elems + uptoBulkAll spare + 1
  | .agg parts => uptoBulkAll parts + 1
  | .iface _ d => uptoBulk d + 1
  | .map entries => uptoBulkEntries entries + 1
  | .held _ => 1
def uptoBulkAll {H : Type} : List (DataW H) → Nat
  | [] => 0
  | d :: r => uptoBulk d + uptoBulkAll r
def uptoBulkEntries {H : Type} : List (Lit × DataW H) → Nat
  | [] => 0
  | x :: r => uptoBulkEntry x + uptoBulkEntries r
def uptoBulkEntry {H : Type} : Lit × DataW H → Nat
  | (.string bytes, d) => bytes.length + uptoBulk d + 1
  | (_, d) => uptoBulk d + 1
 end
def uptoSmall : (H : Type) → List (DataW H) → Bool := fun _ ds => decide (uptoBulkAll ds ≤ 1048576)
def OpenSpec.upto (s : _root_.Go.ChangeSpec) : _root_.Go.OpenSpec := { _root_.Go.OpenSpec.ofChange s with cond := some uptoSmall }

/-- 'laws.FnLuck', WHERE WHAT IT READS IS OF BULK AT MOST 1048576: true; the input reads as it did. -/
def fnLuckUptoRow : OpenClaim := { program := "ytkaiilmgemaljaagreat", sum := "c177d202b847012e23ac4657b04402c35fd4fdb2d48b24c858f5bced2c9f5ff1", func := "loop.example/g00885/laws.FnLuck", spec := "fnLuck", unfollowed := true, recurses := true, named := ["math/bits.divideError", "math/bits.overflowError"], plainKeys := false, apart := false, narrowed := true }
def FnLuckUptoSaid : Prop := fnLuckUptoRow.holds Tryz.pinned (OpenSpec.upto fnLuckSpec)

/-- 'laws.FnLosses', WHERE WHAT IT READS IS OF BULK AT MOST 1048576: true; the input reads as it did. -/
def fnLossesUptoRow : OpenClaim := { program := "ytkaiilmgemaljaagreat", sum := "c177d202b847012e23ac4657b04402c35fd4fdb2d48b24c858f5bced2c9f5ff1", func := "loop.example/g00885/laws.FnLosses", spec := "fnLosses", unfollowed := true, recurses := true, named := ["math/bits.divideError", "math/bits.overflowError"], plainKeys := false, apart := false, narrowed := true }
def FnLossesUptoSaid : Prop := fnLossesUptoRow.holds Tryz.pinned (OpenSpec.upto fnLossesSpec)

/-- 'laws.FnOwnership', WHERE WHAT IT READS IS OF BULK AT MOST 1048576: true; the input reads as it did. -/
def fnOwnershipUptoRow : OpenClaim := { program := "ytkaiilmgemaljaagreat", sum := "c177d202b847012e23ac4657b04402c35fd4fdb2d48b24c858f5bced2c9f5ff1", func := "loop.example/g00885/laws.FnOwnership", spec := "fnOwnership", unfollowed := true, recurses := true, named := ["math/bits.divideError", "math/bits.overflowError"], plainKeys := false, apart := false, narrowed := true }
def FnOwnershipUptoSaid : Prop := fnOwnershipUptoRow.holds Tryz.pinned (OpenSpec.upto fnOwnershipSpec)

/-- 'laws.FnRollMean', WHERE WHAT IT READS IS OF BULK AT MOST 1048576: true; the input reads as it did. -/
def fnRollMeanUptoRow : OpenClaim := { program := "ytkaiilmgemaljaagreat", sum := "c177d202b847012e23ac4657b04402c35fd4fdb2d48b24c858f5bced2c9f5ff1", func := "loop.example/g00885/laws.FnRollMean", spec := "fnRollMean", unfollowed := true, recurses := true, named := ["math/bits.divideError", "math/bits.overflowError"], plainKeys := false, apart := false, narrowed := true }
def FnRollMeanUptoSaid : Prop := fnRollMeanUptoRow.holds Tryz.pinned (OpenSpec.upto fnRollMeanSpec)

/-- 'laws.FnEquity', WHERE WHAT IT READS IS OF BULK AT MOST 1048576: true; the input reads as it did. -/
def fnEquityUptoRow : OpenClaim := { program := "ytkaiilmgemaljaagreat", sum := "c177d202b847012e23ac4657b04402c35fd4fdb2d48b24c858f5bced2c9f5ff1", func := "loop.example/g00885/laws.FnEquity", spec := "fnEquity", unfollowed := true, recurses := true, named := ["math/bits.divideError", "math/bits.overflowError"], plainKeys := false, apart := false, narrowed := true }
def FnEquityUptoSaid : Prop := fnEquityUptoRow.holds Tryz.pinned (OpenSpec.upto fnEquitySpec)

/-- 'laws.FnBestMoney', WHERE WHAT IT READS IS OF BULK AT MOST 1048576: true; the input reads as it did. -/
def fnBestMoneyUptoRow : OpenClaim := { program := "ytkaiilmgemaljaagreat", sum := "c177d202b847012e23ac4657b04402c35fd4fdb2d48b24c858f5bced2c9f5ff1", func := "loop.example/g00885/laws.FnBestMoney", spec := "fnBestMoney", unfollowed := true, recurses := true, named := ["math/bits.divideError", "math/bits.overflowError"], plainKeys := false, apart := false, narrowed := true }
def FnBestMoneyUptoSaid : Prop := fnBestMoneyUptoRow.holds Tryz.pinned (OpenSpec.upto fnBestMoneySpec)

/-- 'laws.FnReply', WHERE WHAT IT READS IS OF BULK AT MOST 1048576: true; the input reads as it did. -/
def fnReplyUptoRow : OpenClaim := { program := "ytkaiilmgemaljaagreat", sum := "c177d202b847012e23ac4657b04402c35fd4fdb2d48b24c858f5bced2c9f5ff1", func := "loop.example/g00885/laws.FnReply", spec := "fnReply", unfollowed := true, recurses := true, named := ["math/bits.divideError", "math/bits.overflowError"], plainKeys := false, apart := false, narrowed := true }
def FnReplyUptoSaid : Prop := fnReplyUptoRow.holds Tryz.pinned (OpenSpec.upto fnReplySpec)

/-- 'laws.FnNoDoubling', WHERE WHAT IT READS IS OF BULK AT MOST 1048576: true; the input reads as it did. -/
def fnNoDoublingUptoRow : OpenClaim := { program := "ytkaiilmgemaljaagreat", sum := "c177d202b847012e23ac4657b04402c35fd4fdb2d48b24c858f5bced2c9f5ff1", func := "loop.example/g00885/laws.FnNoDoubling", spec := "fnNoDoubling", unfollowed := true, recurses := true, named := ["math/bits.divideError", "math/bits.overflowError"], plainKeys := false, apart := false, narrowed := true }
def FnNoDoublingUptoSaid : Prop := fnNoDoublingUptoRow.holds Tryz.pinned (OpenSpec.upto fnNoDoublingSpec)

/-- 'laws.FnExactCubeGain', WHERE WHAT IT READS IS OF BULK AT MOST 1048576: true; the input reads as it did. -/
def fnExactCubeGainUptoRow : OpenClaim := { program := "ytkaiilmgemaljaagreat", sum := "c177d202b847012e23ac4657b04402c35fd4fdb2d48b24c858f5bced2c9f5ff1", func := "loop.example/g00885/laws.FnExactCubeGain", spec := "fnExactCubeGain", unfollowed := true, recurses := true, named := ["math/bits.divideError", "math/bits.overflowError"], plainKeys := false, apart := false, narrowed := true }
def FnExactCubeGainUptoSaid : Prop := fnExactCubeGainUptoRow.holds Tryz.pinned (OpenSpec.upto fnExactCubeGainSpec)

/-- 'laws.FnExactBuildDatabase', WHERE WHAT IT READS IS OF BULK AT MOST 1048576: true; the input reads as it did. -/
def fnExactBuildDatabaseUptoRow : OpenClaim := { program := "ytkaiilmgemaljaagreat", sum := "c177d202b847012e23ac4657b04402c35fd4fdb2d48b24c858f5bced2c9f5ff1", func := "loop.example/g00885/laws.FnExactBuildDatabase", spec := "fnExactBuildDatabase", unfollowed := true, recurses := true, named := ["math/bits.divideError", "math/bits.overflowError"], plainKeys := false, apart := false, narrowed := true }
def FnExactBuildDatabaseUptoSaid : Prop := fnExactBuildDatabaseUptoRow.holds Tryz.pinned (OpenSpec.upto fnExactBuildDatabaseSpec)

/-- 'laws.FnDatabase', WHERE WHAT IT READS IS OF BULK AT MOST 1048576: true; the input reads as it did. -/
def fnDatabaseUptoRow : OpenClaim := { program := "ytkaiilmgemaljaagreat", sum := "c177d202b847012e23ac4657b04402c35fd4fdb2d48b24c858f5bced2c9f5ff1", func := "loop.example/g00885/laws.FnDatabase", spec := "fnDatabase", unfollowed := true, recurses := true, named := ["math/bits.divideError", "math/bits.overflowError"], plainKeys := false, apart := false, narrowed := true }
def FnDatabaseUptoSaid : Prop := fnDatabaseUptoRow.holds Tryz.pinned (OpenSpec.upto fnDatabaseSpec)

end Rows
end Go.Proofs.YtkaiilmgemaljaaGreat

/-
  No cell of these rows narrows 'for every input' (looked for: loops, veiled, ifaces, maps, wideKeys, modest, calm, conditions, laid).
  DERIVED. THE GIVEN ROWS OF THIS SEAT. 8 by the template 'for every input the law returns true; each argument reads behind the call as it read before'; 0 by the template 'total and deterministic' (their statements: YtlbkfhdnhalpbaaGreatTotals.lean).
  GIVEN WITH THE SEED: the statements are not yours to turn. If you find one false, say at which input.
  Laid BY PROGRAM, IN A SANDBOX (cutbox-rows.mjs): the forced cells as the released guide's own fill.sh prints them over the translation c609b705775d083e… (all of the seat's roots in one cut). By AI agents, Wed Nov 11 2026. No macro, syntax, notation, axiom, sorry.
-/
import Derived.Test.YtlbkfhdnhalpbaaGreatChecked
import GoSem.Claim
import GoSem.ClaimJoined
import GoSem.ClaimMapViews
import Derived.JoinedTies
import Derived.KernelRfl
namespace Go.Proofs.YtlbkfhdnhalpbaaGreat
/- THE CELL 'sum', in the pinned program and in every row, IS THE sha256 OF THE DUMP (.gsa) THAT YtlbkfhdnhalpbaaGreatProg.lean LOADS. Nothing in Lean hashes anything: it is a label: what it is worth is what the hold of that sum in a sandbox is worth. -/
noncomputable def Tryz.pinned : Pinned := { name := "ytlbkfhdnhalpbaagreat", sum := "c609b705775d083e50c2312482d70e032d1b23c5c2f2296e634e834386a94643", checked := Tryz.checked }
namespace Rows
def none {H : Type} : Left H := { results := [], args := [] }

/-- 'laws.FnExactSecondChance': WHATEVER THE INPUT: true; the input reads as it did. -/
def fnExactSecondChanceSpec : ChangeSpec := { name := "fnExactSecondChance", fn := fun _ => fun
  | [d1, d2, d3] => { results := [.lit (.bool true)], args := [d1, d2, d3] }
  | _ => none }
def fnExactSecondChanceRow : OpenClaim := { program := "ytlbkfhdnhalpbaagreat", sum := "c609b705775d083e50c2312482d70e032d1b23c5c2f2296e634e834386a94643", func := "loop.example/g00885/laws.FnExactSecondChance", spec := "fnExactSecondChance", unfollowed := true, recurses := true, named := ["math/bits.divideError", "math/bits.overflowError"], apart := false }
def FnExactSecondChanceSaid : Prop := fnExactSecondChanceRow.holds Tryz.pinned (OpenSpec.ofChange fnExactSecondChanceSpec)

/-- ITS FALSE NEIGHBOUR: 'it returns false'. Refute it at one input. -/
def fnExactSecondChanceWrong : ChangeSpec := { name := "fnExactSecondChance", fn := fun _ => fun
  | [d1, d2, d3] => { results := [.lit (.bool false)], args := [d1, d2, d3] }
  | _ => none }
def FnExactSecondChanceWrongFalsely : Prop := fnExactSecondChanceRow.holds Tryz.pinned (OpenSpec.ofChange fnExactSecondChanceWrong)

/-- 'laws.FnExactBestRaceResult': WHATEVER THE INPUT: true; the input reads as it did. -/
def fnExactBestRaceResultSpec : ChangeSpec := { name := "fnExactBestRaceResult", fn := fun _ => fun
  | [d1, d2, d3, d4] => { results := [.lit (.bool true)], args := [d1, d2, d3, d4] }
  | _ => none }
def fnExactBestRaceResultRow : OpenClaim := { program := "ytlbkfhdnhalpbaagreat", sum := "c609b705775d083e50c2312482d70e032d1b23c5c2f2296e634e834386a94643", func := "loop.example/g00885/laws.FnExactBestRaceResult", spec := "fnExactBestRaceResult", unfollowed := true, recurses := true, named := ["math/bits.divideError", "math/bits.overflowError"], apart := false }
def FnExactBestRaceResultSaid : Prop := fnExactBestRaceResultRow.holds Tryz.pinned (OpenSpec.ofChange fnExactBestRaceResultSpec)

/-- ITS FALSE NEIGHBOUR: 'it returns false'. Refute it at one input. -/
def fnExactBestRaceResultWrong : ChangeSpec := { name := "fnExactBestRaceResult", fn := fun _ => fun
  | [d1, d2, d3, d4] => { results := [.lit (.bool false)], args := [d1, d2, d3, d4] }
  | _ => none }
def FnExactBestRaceResultWrongFalsely : Prop := fnExactBestRaceResultRow.holds Tryz.pinned (OpenSpec.ofChange fnExactBestRaceResultWrong)

/-- 'laws.FnTop': WHATEVER THE INPUT: true; the input reads as it did. -/
def fnTopSpec : ChangeSpec := { name := "fnTop", fn := fun _ => fun
  | [d] => { results := [.lit (.bool true)], args := [d] }
  | _ => none }
def fnTopRow : OpenClaim := { program := "ytlbkfhdnhalpbaagreat", sum := "c609b705775d083e50c2312482d70e032d1b23c5c2f2296e634e834386a94643", func := "loop.example/g00885/laws.FnTop", spec := "fnTop", inPlace := ["internal/bytealg.MakeNoZero"], unfollowed := true, recurses := true, named := ["math/bits.divideError", "math/bits.overflowError"], apart := false }
def FnTopSaid : Prop := fnTopRow.holds Tryz.pinned (OpenSpec.ofChange fnTopSpec)

/-- ITS FALSE NEIGHBOUR: 'it returns false'. Refute it at one input. -/
def fnTopWrong : ChangeSpec := { name := "fnTop", fn := fun _ => fun
  | [d] => { results := [.lit (.bool false)], args := [d] }
  | _ => none }
def FnTopWrongFalsely : Prop := fnTopRow.holds Tryz.pinned (OpenSpec.ofChange fnTopWrong)

/-- 'laws.FnExactRaceLuck': WHATEVER THE INPUT: true; the input reads as it did. -/
def fnExactRaceLuckSpec : ChangeSpec := { name := "fnExactRaceLuck", fn := fun _ => fun
  | [d1, d2, d3, d4] => { results := [.lit (.bool true)], args := [d1, d2, d3, d4] }
  | _ => none }
def fnExactRaceLuckRow : OpenClaim := { program := "ytlbkfhdnhalpbaagreat", sum := "c609b705775d083e50c2312482d70e032d1b23c5c2f2296e634e834386a94643", func := "loop.example/g00885/laws.FnExactRaceLuck", spec := "fnExactRaceLuck", unfollowed := true, recurses := true, named := ["math/bits.divideError", "math/bits.overflowError"], apart := false }
def FnExactRaceLuckSaid : Prop := fnExactRaceLuckRow.holds Tryz.pinned (OpenSpec.ofChange fnExactRaceLuckSpec)

/-- ITS FALSE NEIGHBOUR: 'it returns false'. Refute it at one input. -/
def fnExactRaceLuckWrong : ChangeSpec := { name := "fnExactRaceLuck", fn := fun _ => fun
  | [d1, d2, d3, d4] => { results := [.lit (.bool false)], args := [d1, d2, d3, d4] }
  | _ => none }
def FnExactRaceLuckWrongFalsely : Prop := fnExactRaceLuckRow.holds Tryz.pinned (OpenSpec.ofChange fnExactRaceLuckWrong)

/-- 'laws.FnExactRollChances': WHATEVER THE INPUT: true; the input reads as it did. -/
def fnExactRollChancesSpec : ChangeSpec := { name := "fnExactRollChances", fn := fun _ => fun
  | [d1, d2, d3] => { results := [.lit (.bool true)], args := [d1, d2, d3] }
  | _ => none }
def fnExactRollChancesRow : OpenClaim := { program := "ytlbkfhdnhalpbaagreat", sum := "c609b705775d083e50c2312482d70e032d1b23c5c2f2296e634e834386a94643", func := "loop.example/g00885/laws.FnExactRollChances", spec := "fnExactRollChances", unfollowed := true, recurses := true, named := ["math/bits.divideError", "math/bits.overflowError"], apart := false }
def FnExactRollChancesSaid : Prop := fnExactRollChancesRow.holds Tryz.pinned (OpenSpec.ofChange fnExactRollChancesSpec)

/-- ITS FALSE NEIGHBOUR: 'it returns false'. Refute it at one input. -/
def fnExactRollChancesWrong : ChangeSpec := { name := "fnExactRollChances", fn := fun _ => fun
  | [d1, d2, d3] => { results := [.lit (.bool false)], args := [d1, d2, d3] }
  | _ => none }
def FnExactRollChancesWrongFalsely : Prop := fnExactRollChancesRow.holds Tryz.pinned (OpenSpec.ofChange fnExactRollChancesWrong)

/-- 'laws.FnExactCubelessEquity': WHATEVER THE INPUT: true; the input reads as it did. -/
def fnExactCubelessEquitySpec : ChangeSpec := { name := "fnExactCubelessEquity", fn := fun _ => fun
  | [d1, d2, d3] => { results := [.lit (.bool true)], args := [d1, d2, d3] }
  | _ => none }
def fnExactCubelessEquityRow : OpenClaim := { program := "ytlbkfhdnhalpbaagreat", sum := "c609b705775d083e50c2312482d70e032d1b23c5c2f2296e634e834386a94643", func := "loop.example/g00885/laws.FnExactCubelessEquity", spec := "fnExactCubelessEquity", unfollowed := true, recurses := true, named := ["math/bits.divideError", "math/bits.overflowError"], apart := false }
def FnExactCubelessEquitySaid : Prop := fnExactCubelessEquityRow.holds Tryz.pinned (OpenSpec.ofChange fnExactCubelessEquitySpec)

/-- ITS FALSE NEIGHBOUR: 'it returns false'. Refute it at one input. -/
def fnExactCubelessEquityWrong : ChangeSpec := { name := "fnExactCubelessEquity", fn := fun _ => fun
  | [d1, d2, d3] => { results := [.lit (.bool false)], args := [d1, d2, d3] }
  | _ => none }
def FnExactCubelessEquityWrongFalsely : Prop := fnExactCubelessEquityRow.holds Tryz.pinned (OpenSpec.ofChange fnExactCubelessEquityWrong)

/-- 'laws.FnExactResultChances': WHATEVER THE INPUT: true; the input reads as it did. -/
def fnExactResultChancesSpec : ChangeSpec := { name := "fnExactResultChances", fn := fun _ => fun
  | [d1, d2, d3, d4] => { results := [.lit (.bool true)], args := [d1, d2, d3, d4] }
  | _ => none }
def fnExactResultChancesRow : OpenClaim := { program := "ytlbkfhdnhalpbaagreat", sum := "c609b705775d083e50c2312482d70e032d1b23c5c2f2296e634e834386a94643", func := "loop.example/g00885/laws.FnExactResultChances", spec := "fnExactResultChances", unfollowed := true, recurses := true, named := ["math/bits.divideError", "math/bits.overflowError"], apart := false }
def FnExactResultChancesSaid : Prop := fnExactResultChancesRow.holds Tryz.pinned (OpenSpec.ofChange fnExactResultChancesSpec)

/-- ITS FALSE NEIGHBOUR: 'it returns false'. Refute it at one input. -/
def fnExactResultChancesWrong : ChangeSpec := { name := "fnExactResultChances", fn := fun _ => fun
  | [d1, d2, d3, d4] => { results := [.lit (.bool false)], args := [d1, d2, d3, d4] }
  | _ => none }
def FnExactResultChancesWrongFalsely : Prop := fnExactResultChancesRow.holds Tryz.pinned (OpenSpec.ofChange fnExactResultChancesWrong)

/-- 'laws.FnExactRaceLoss': WHATEVER THE INPUT: true; the input reads as it did. -/
def fnExactRaceLossSpec : ChangeSpec := { name := "fnExactRaceLoss", fn := fun _ => fun
  | [d1, d2, d3, d4, d5] => { results := [.lit (.bool true)], args := [d1, d2, d3, d4, d5] }
  | _ => none }
def fnExactRaceLossRow : OpenClaim := { program := "ytlbkfhdnhalpbaagreat", sum := "c609b705775d083e50c2312482d70e032d1b23c5c2f2296e634e834386a94643", func := "loop.example/g00885/laws.FnExactRaceLoss", spec := "fnExactRaceLoss", unfollowed := true, recurses := true, named := ["math/bits.divideError", "math/bits.overflowError"], apart := false }
def FnExactRaceLossSaid : Prop := fnExactRaceLossRow.holds Tryz.pinned (OpenSpec.ofChange fnExactRaceLossSpec)

/-- ITS FALSE NEIGHBOUR: 'it returns false'. Refute it at one input. -/
def fnExactRaceLossWrong : ChangeSpec := { name := "fnExactRaceLoss", fn := fun _ => fun
  | [d1, d2, d3, d4, d5] => { results := [.lit (.bool false)], args := [d1, d2, d3, d4, d5] }
  | _ => none }
def FnExactRaceLossWrongFalsely : Prop := fnExactRaceLossRow.holds Tryz.pinned (OpenSpec.ofChange fnExactRaceLossWrong)

/- THE SECOND FORM. 'bulk': how many values and letters a reading holds, each counted each time it is reached (what is shared counts as often as it is met; a slice's spare places count too). A statement '..UptoSaid' is the law's where the arguments, and the package variables that the reading takes, are together of bulk at most 1048576: NARROWER than '..Said'. Prove '..Said' where nothing that the law and all that it calls make is longer than what came in: it says more and counts as full. Else prove '..UptoSaid'. A law counts once. -/
mutual
def uptoBulk {H : Type} : DataW H → Nat
  | .lit (.string bytes) => bytes.length + 1
  | .lit _ => 1
  | .nil => 1
  | .ptr d => uptoBulk d + 1
  | .slice elems spare => uptoBulkAll elems + uptoBulkAll spare + 1
  | .agg parts => uptoBulkAll parts + 1
  | .iface _ d => uptoBulk d + 1
  | .map entries => uptoBulkEntries entries + 1
  | .held _ => 1
def uptoBulkAll {H : Type} : List (DataW H) → Nat
  | [] => 0
  | d :: r => uptoBulk d + uptoBulkAll r
def uptoBulkEntries {H : Type} : List (Lit × DataW H) → Nat
  | [] => 0
  | x :: r => uptoBulkEntry x + uptoBulkEntries r
def uptoBulkEntry {H : Type} : Lit × DataW H → Nat
  | (.string bytes, d) => bytes.length + uptoBulk d + 1
  | (_, d) => uptoBulk d + 1
 end
def uptoSmall : (H : Type) → List (DataW H) → Bool := fun _ ds => decide (uptoBulkAll ds ≤ 1048576)
def OpenSpec.upto (s : _root_.Go.ChangeSpec) : _root_.Go.OpenSpec := { _root_.Go.OpenSpec.ofChange s with cond := some uptoSmall }

/-- 'laws.FnExactSecondChance', WHERE WHAT IT READS IS OF BULK AT MOST 1048576: true; the input reads as it did. -/
def fnExactSecondChanceUptoRow : OpenClaim := { program := "ytlbkfhdnhalpbaagreat", sum := "c609b705775d083e50c2312482d70e032d1b23c5c2f2296e634e834386a94643", func := "loop.example/g00885/laws.FnExactSecondChance", spec := "fnExactSecondChance", unfollowed := true, recurses := true, named := ["math/bits.divideError", "math/bits.overflowError"], apart := false, narrowed := true }
def FnExactSecondChanceUptoSaid : Prop := fnExactSecondChanceUptoRow.holds Tryz.pinned (OpenSpec.upto fnExactSecondChanceSpec)

/-- 'laws.FnExactBestRaceResult', WHERE WHAT IT READS IS OF BULK AT MOST 1048576: true; the input reads as it did. -/
def fnExactBestRaceResultUptoRow : OpenClaim := { program := "ytlbkfhdnhalpbaagreat", sum := "c609b705775d083e50c2312482d70e032d1b23c5c2f2296e634e834386a94643", func := "loop.example/g00885/laws.FnExactBestRaceResult", spec := "fnExactBestRaceResult", unfollowed := true, recurses := true, named := ["math/bits.divideError", "math/bits.overflowError"], apart := false, narrowed := true }
def FnExactBestRaceResultUptoSaid : Prop := fnExactBestRaceResultUptoRow.holds Tryz.pinned (OpenSpec.upto fnExactBestRaceResultSpec)

/-- 'laws.FnTop', WHERE WHAT IT READS IS OF BULK AT MOST 1048576: true; the input reads as it did. -/
def fnTopUptoRow : OpenClaim := { program := "ytlbkfhdnhalpbaagreat", sum := "c609b705775d083e50c2312482d70e032d1b23c5c2f2296e634e834386a94643", func := "loop.example/g00885/laws.FnTop", spec := "fnTop", inPlace := ["internal/bytealg.MakeNoZero"], unfollowed := true, recurses := true, named := ["math/bits.divideError", "math/bits.overflowError"], apart := false, narrowed := true }
def FnTopUptoSaid : Prop := fnTopUptoRow.holds Tryz.pinned (OpenSpec.upto fnTopSpec)

/-- 'laws.FnExactRaceLuck', WHERE WHAT IT READS IS OF BULK AT MOST 1048576: true; the input reads as it did. -/
def fnExactRaceLuckUptoRow : OpenClaim := { program := "ytlbkfhdnhalpbaagreat", sum := "c609b705775d083e50c2312482d70e032d1b23c5c2f2296e634e834386a94643", func := "loop.example/g00885/laws.FnExactRaceLuck", spec := "fnExactRaceLuck", unfollowed := true, recurses := true, named := ["math/bits.divideError", "math/bits.overflowError"], apart := false, narrowed := true }
def FnExactRaceLuckUptoSaid : Prop := fnExactRaceLuckUptoRow.holds Tryz.pinned (OpenSpec.upto fnExactRaceLuckSpec)

/-- 'laws.FnExactRollChances', WHERE WHAT IT READS IS OF BULK AT MOST 1048576: true; the input reads as it did. -/
def fnExactRollChancesUptoRow : OpenClaim := { program := "ytlbkfhdnhalpbaagreat", sum := "c609b705775d083e50c2312482d70e032d1b23c5c2f2296e634e834386a94643", func := "loop.example/g00885/laws.FnExactRollChances", spec := "fnExactRollChances", unfollowed := true, recurses := true, named := ["math/bits.divideError", "math/bits.overflowError"], apart := false, narrowed := true }
def FnExactRollChancesUptoSaid : Prop := fnExactRollChancesUptoRow.holds Tryz.pinned (OpenSpec.upto fnExactRollChancesSpec)

/-- 'laws.FnExactCubelessEquity', WHERE WHAT IT READS IS OF BULK AT MOST 1048576: true; the input reads as it did. -/
def fnExactCubelessEquityUptoRow : OpenClaim := { program := "ytlbkfhdnhalpbaagreat", sum := "c609b705775d083e50c2312482d70e032d1b23c5c2f2296e634e834386a94643", func := "loop.example/g00885/laws.FnExactCubelessEquity", spec := "fnExactCubelessEquity", unfollowed := true, recurses := true, named := ["math/bits.divideError", "math/bits.overflowError"], apart := false, narrowed := true }
def FnExactCubelessEquityUptoSaid : Prop := fnExactCubelessEquityUptoRow.holds Tryz.pinned (OpenSpec.upto fnExactCubelessEquitySpec)

/-- 'laws.FnExactResultChances', WHERE WHAT IT READS IS OF BULK AT MOST 1048576: true; the input reads as it did. -/
def fnExactResultChancesUptoRow : OpenClaim := { program := "ytlbkfhdnhalpbaagreat", sum := "c609b705775d083e50c2312482d70e032d1b23c5c2f2296e634e834386a94643", func := "loop.example/g00885/laws.FnExactResultChances", spec := "fnExactResultChances", unfollowed := true, recurses := true, named := ["math/bits.divideError", "math/bits.overflowError"], apart := false, narrowed := true }
def FnExactResultChancesUptoSaid : Prop := fnExactResultChancesUptoRow.holds Tryz.pinned (OpenSpec.upto fnExactResultChancesSpec)

/-- 'laws.FnExactRaceLoss', WHERE WHAT IT READS IS OF BULK AT MOST 1048576: true; the input reads as it did. -/
def fnExactRaceLossUptoRow : OpenClaim := { program := "ytlbkfhdnhalpbaagreat", sum := "c609b705775d083e50c2312482d70e032d1b23c5c2f2296e634e834386a94643", func := "loop.example/g00885/laws.FnExactRaceLoss", spec := "fnExactRaceLoss", unfollowed := true, recurses := true, named := ["math/bits.divideError", "math/bits.overflowError"], apart := false, narrowed := true }
def FnExactRaceLossUptoSaid : Prop := fnExactRaceLossUptoRow.holds Tryz.pinned (OpenSpec.upto fnExactRaceLossSpec)

end Rows
end Go.Proofs.YtlbkfhdnhalpbaaGreat

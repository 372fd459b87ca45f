/-
  No cell of these rows narrows 'for every input' (looked for: loops, veiled, ifaces, maps, wideKeys, modest, calm, conditions, laid).
  DERIVED. THE GIVEN ROWS OF THIS SEAT. 8 by the template 'for every input the law returns true; each argument reads behind the call as it read before'; 0 by the template 'total and deterministic' (their statements: YtcmeoenkgmghkaaGreatTotals.lean).
  GIVEN WITH THE SEED: the statements are not yours to turn. If you find one false, say at which input.
  Laid BY PROGRAM, IN A SANDBOX (cutbox-rows.mjs): the forced cells as the released guide's own fill.sh prints them over the translation 304fe67ed9e705e3… (all of the seat's roots in one cut). By AI agents, Wed Nov 11 2026. No macro, syntax, notation, axiom, sorry.
-/
import Derived.Test.YtcmeoenkgmghkaaGreatChecked
import GoSem.Claim
import GoSem.ClaimJoined
import GoSem.ClaimMapViews
import Derived.JoinedTies
import Derived.KernelRfl
namespace Go.Proofs.YtcmeoenkgmghkaaGreat
/- THE CELL 'sum', in the pinned program and in every row, IS THE sha256 OF THE DUMP (.gsa) THAT YtcmeoenkgmghkaaGreatProg.lean LOADS. Nothing in Lean hashes anything: it is a label: what it is worth is what the hold of that sum in a sandbox is worth. -/
noncomputable def Tryz.pinned : Pinned := { name := "ytcmeoenkgmghkaagreat", sum := "304fe67ed9e705e3b2fd2181187c789dbc097bad3550eb1cc23921a1e1a01e11", checked := Tryz.checked }
namespace Rows
def none {H : Type} : Left H := { results := [], args := [] }

/-- 'laws.FnExactPlayIntervals': WHATEVER THE INPUT: true; the input reads as it did. -/
def fnExactPlayIntervalsSpec : ChangeSpec := { name := "fnExactPlayIntervals", fn := fun _ => fun
  | [d1, d2, d3, d4] => { results := [.lit (.bool true)], args := [d1, d2, d3, d4] }
  | _ => none }
def fnExactPlayIntervalsRow : OpenClaim := { program := "ytcmeoenkgmghkaagreat", sum := "304fe67ed9e705e3b2fd2181187c789dbc097bad3550eb1cc23921a1e1a01e11", func := "loop.example/g00885/laws.FnExactPlayIntervals", spec := "fnExactPlayIntervals", unfollowed := true, recurses := true, named := ["math/bits.divideError", "math/bits.overflowError"], apart := false }
def FnExactPlayIntervalsSaid : Prop := fnExactPlayIntervalsRow.holds Tryz.pinned (OpenSpec.ofChange fnExactPlayIntervalsSpec)

/-- ITS FALSE NEIGHBOUR: 'it returns false'. Refute it at one input. -/
def fnExactPlayIntervalsWrong : ChangeSpec := { name := "fnExactPlayIntervals", fn := fun _ => fun
  | [d1, d2, d3, d4] => { results := [.lit (.bool false)], args := [d1, d2, d3, d4] }
  | _ => none }
def FnExactPlayIntervalsWrongFalsely : Prop := fnExactPlayIntervalsRow.holds Tryz.pinned (OpenSpec.ofChange fnExactPlayIntervalsWrong)

/-- 'laws.FnExactWinInterval': WHATEVER THE INPUT: true; the input reads as it did. -/
def fnExactWinIntervalSpec : ChangeSpec := { name := "fnExactWinInterval", fn := fun _ => fun
  | [d1, d2, d3] => { results := [.lit (.bool true)], args := [d1, d2, d3] }
  | _ => none }
def fnExactWinIntervalRow : OpenClaim := { program := "ytcmeoenkgmghkaagreat", sum := "304fe67ed9e705e3b2fd2181187c789dbc097bad3550eb1cc23921a1e1a01e11", func := "loop.example/g00885/laws.FnExactWinInterval", spec := "fnExactWinInterval", unfollowed := true, recurses := true, named := ["math/bits.divideError", "math/bits.overflowError"], apart := false }
def FnExactWinIntervalSaid : Prop := fnExactWinIntervalRow.holds Tryz.pinned (OpenSpec.ofChange fnExactWinIntervalSpec)

/-- ITS FALSE NEIGHBOUR: 'it returns false'. Refute it at one input. -/
def fnExactWinIntervalWrong : ChangeSpec := { name := "fnExactWinInterval", fn := fun _ => fun
  | [d1, d2, d3] => { results := [.lit (.bool false)], args := [d1, d2, d3] }
  | _ => none }
def FnExactWinIntervalWrongFalsely : Prop := fnExactWinIntervalRow.holds Tryz.pinned (OpenSpec.ofChange fnExactWinIntervalWrong)

/-- 'laws.FnExactIntervalWidth': WHATEVER THE INPUT: true; the input reads as it did. -/
def fnExactIntervalWidthSpec : ChangeSpec := { name := "fnExactIntervalWidth", fn := fun _ => fun
  | [d1, d2, d3] => { results := [.lit (.bool true)], args := [d1, d2, d3] }
  | _ => none }
def fnExactIntervalWidthRow : OpenClaim := { program := "ytcmeoenkgmghkaagreat", sum := "304fe67ed9e705e3b2fd2181187c789dbc097bad3550eb1cc23921a1e1a01e11", func := "loop.example/g00885/laws.FnExactIntervalWidth", spec := "fnExactIntervalWidth", unfollowed := true, recurses := true, named := ["math/bits.divideError", "math/bits.overflowError"], apart := false }
def FnExactIntervalWidthSaid : Prop := fnExactIntervalWidthRow.holds Tryz.pinned (OpenSpec.ofChange fnExactIntervalWidthSpec)

/-- ITS FALSE NEIGHBOUR: 'it returns false'. Refute it at one input. -/
def fnExactIntervalWidthWrong : ChangeSpec := { name := "fnExactIntervalWidth", fn := fun _ => fun
  | [d1, d2, d3] => { results := [.lit (.bool false)], args := [d1, d2, d3] }
  | _ => none }
def FnExactIntervalWidthWrongFalsely : Prop := fnExactIntervalWidthRow.holds Tryz.pinned (OpenSpec.ofChange fnExactIntervalWidthWrong)

/-- 'laws.FnExactCertainPlay': WHATEVER THE INPUT: true; the input reads as it did. -/
def fnExactCertainPlaySpec : ChangeSpec := { name := "fnExactCertainPlay", fn := fun _ => fun
  | [d1, d2, d3, d4] => { results := [.lit (.bool true)], args := [d1, d2, d3, d4] }
  | _ => none }
def fnExactCertainPlayRow : OpenClaim := { program := "ytcmeoenkgmghkaagreat", sum := "304fe67ed9e705e3b2fd2181187c789dbc097bad3550eb1cc23921a1e1a01e11", func := "loop.example/g00885/laws.FnExactCertainPlay", spec := "fnExactCertainPlay", unfollowed := true, recurses := true, named := ["math/bits.divideError", "math/bits.overflowError"], apart := false }
def FnExactCertainPlaySaid : Prop := fnExactCertainPlayRow.holds Tryz.pinned (OpenSpec.ofChange fnExactCertainPlaySpec)

/-- ITS FALSE NEIGHBOUR: 'it returns false'. Refute it at one input. -/
def fnExactCertainPlayWrong : ChangeSpec := { name := "fnExactCertainPlay", fn := fun _ => fun
  | [d1, d2, d3, d4] => { results := [.lit (.bool false)], args := [d1, d2, d3, d4] }
  | _ => none }
def FnExactCertainPlayWrongFalsely : Prop := fnExactCertainPlayRow.holds Tryz.pinned (OpenSpec.ofChange fnExactCertainPlayWrong)

/-- 'laws.FnExactWorsePlays': WHATEVER THE INPUT: true; the input reads as it did. -/
def fnExactWorsePlaysSpec : ChangeSpec := { name := "fnExactWorsePlays", fn := fun _ => fun
  | [d1, d2, d3, d4] => { results := [.lit (.bool true)], args := [d1, d2, d3, d4] }
  | _ => none }
def fnExactWorsePlaysRow : OpenClaim := { program := "ytcmeoenkgmghkaagreat", sum := "304fe67ed9e705e3b2fd2181187c789dbc097bad3550eb1cc23921a1e1a01e11", func := "loop.example/g00885/laws.FnExactWorsePlays", spec := "fnExactWorsePlays", unfollowed := true, recurses := true, named := ["math/bits.divideError", "math/bits.overflowError"], apart := false }
def FnExactWorsePlaysSaid : Prop := fnExactWorsePlaysRow.holds Tryz.pinned (OpenSpec.ofChange fnExactWorsePlaysSpec)

/-- ITS FALSE NEIGHBOUR: 'it returns false'. Refute it at one input. -/
def fnExactWorsePlaysWrong : ChangeSpec := { name := "fnExactWorsePlays", fn := fun _ => fun
  | [d1, d2, d3, d4] => { results := [.lit (.bool false)], args := [d1, d2, d3, d4] }
  | _ => none }
def FnExactWorsePlaysWrongFalsely : Prop := fnExactWorsePlaysRow.holds Tryz.pinned (OpenSpec.ofChange fnExactWorsePlaysWrong)

/-- 'laws.FnIntervals': WHATEVER THE INPUT: true; the input reads as it did. -/
def fnIntervalsSpec : ChangeSpec := { name := "fnIntervals", fn := fun _ => fun
  | [d] => { results := [.lit (.bool true)], args := [d] }
  | _ => none }
def fnIntervalsRow : OpenClaim := { program := "ytcmeoenkgmghkaagreat", sum := "304fe67ed9e705e3b2fd2181187c789dbc097bad3550eb1cc23921a1e1a01e11", func := "loop.example/g00885/laws.FnIntervals", spec := "fnIntervals", unfollowed := true, recurses := true, named := ["math/bits.divideError", "math/bits.overflowError"], apart := false }
def FnIntervalsSaid : Prop := fnIntervalsRow.holds Tryz.pinned (OpenSpec.ofChange fnIntervalsSpec)

/-- ITS FALSE NEIGHBOUR: 'it returns false'. Refute it at one input. -/
def fnIntervalsWrong : ChangeSpec := { name := "fnIntervals", fn := fun _ => fun
  | [d] => { results := [.lit (.bool false)], args := [d] }
  | _ => none }
def FnIntervalsWrongFalsely : Prop := fnIntervalsRow.holds Tryz.pinned (OpenSpec.ofChange fnIntervalsWrong)

/-- 'laws.FnCertain': WHATEVER THE INPUT: true; the input reads as it did. -/
def fnCertainSpec : ChangeSpec := { name := "fnCertain", fn := fun _ => fun
  | [d] => { results := [.lit (.bool true)], args := [d] }
  | _ => none }
def fnCertainRow : OpenClaim := { program := "ytcmeoenkgmghkaagreat", sum := "304fe67ed9e705e3b2fd2181187c789dbc097bad3550eb1cc23921a1e1a01e11", func := "loop.example/g00885/laws.FnCertain", spec := "fnCertain", unfollowed := true, recurses := true, named := ["math/bits.divideError", "math/bits.overflowError"], apart := false }
def FnCertainSaid : Prop := fnCertainRow.holds Tryz.pinned (OpenSpec.ofChange fnCertainSpec)

/-- ITS FALSE NEIGHBOUR: 'it returns false'. Refute it at one input. -/
def fnCertainWrong : ChangeSpec := { name := "fnCertain", fn := fun _ => fun
  | [d] => { results := [.lit (.bool false)], args := [d] }
  | _ => none }
def FnCertainWrongFalsely : Prop := fnCertainRow.holds Tryz.pinned (OpenSpec.ofChange fnCertainWrong)

/-- 'laws.FnTop': WHATEVER THE INPUT: true; the input reads as it did. -/
def fnTopSpec : ChangeSpec := { name := "fnTop", fn := fun _ => fun
  | [d] => { results := [.lit (.bool true)], args := [d] }
  | _ => none }
def fnTopRow : OpenClaim := { program := "ytcmeoenkgmghkaagreat", sum := "304fe67ed9e705e3b2fd2181187c789dbc097bad3550eb1cc23921a1e1a01e11", func := "loop.example/g00885/laws.FnTop", spec := "fnTop", inPlace := ["internal/bytealg.MakeNoZero"], unfollowed := true, recurses := true, named := ["math/bits.divideError", "math/bits.overflowError"], apart := false }
def FnTopSaid : Prop := fnTopRow.holds Tryz.pinned (OpenSpec.ofChange fnTopSpec)

/-- ITS FALSE NEIGHBOUR: 'it returns false'. Refute it at one input. -/
def fnTopWrong : ChangeSpec := { name := "fnTop", fn := fun _ => fun
  | [d] => { results := [.lit (.bool false)], args := [d] }
  | _ => none }
def FnTopWrongFalsely : Prop := fnTopRow.holds Tryz.pinned (OpenSpec.ofChange fnTopWrong)

/- THE SECOND FORM. 'bulk': how many values and letters a reading holds, each counted each time it is reached (what is shared counts as often as it is met; a slice's spare places count too). A statement '..UptoSaid' is the law's where the arguments, and the package variables that the reading takes, are together of bulk at most 1048576: NARROWER than '..Said'. Prove '..Said' where nothing that the law and all that it calls make is longer than what came in: it says more and counts as full. Else prove '..UptoSaid'. A law counts once. -/
mutual
def uptoBulk {H : Type} : DataW H → Nat
  | .lit (.string bytes) => bytes.length + 1
  | .lit _ => 1
  | .nil => 1
  | .ptr d => uptoBulk d + 1
  | .slice elems spare => uptoBulkAll elems + uptoBulkAll spare + 1
  | .agg parts => uptoBulkAll parts + 1
  | .iface _ d => uptoBulk d + 1
  | .map entries => uptoBulkEntries entries + 1
  | .held _ => 1
def uptoBulkAll {H : Type} : List (DataW H) → Nat
  | [] => 0
  | d :: r => uptoBulk d + uptoBulkAll r
def uptoBulkEntries {H : Type} : List (Lit × DataW H) → Nat
  | [] => 0
  | x :: r => uptoBulkEntry x + uptoBulkEntries r
def uptoBulkEntry {H : Type} : Lit × DataW H → Nat
  | (.string bytes, d) => bytes.length + uptoBulk d + 1
  | (_, d) => uptoBulk d + 1
 end
def uptoSmall : (H : Type) → List (DataW H) → Bool := fun _ ds => decide (uptoBulkAll ds ≤ 1048576)
def OpenSpec.upto (s : _root_.Go.ChangeSpec) : _root_.Go.OpenSpec := { _root_.Go.OpenSpec.ofChange s with cond := some uptoSmall }

/-- 'laws.FnExactPlayIntervals', WHERE WHAT IT READS IS OF BULK AT MOST 1048576: true; the input reads as it did. -/
def fnExactPlayIntervalsUptoRow : OpenClaim := { program := "ytcmeoenkgmghkaagreat", sum := "304fe67ed9e705e3b2fd2181187c789dbc097bad3550eb1cc23921a1e1a01e11", func := "loop.example/g00885/laws.FnExactPlayIntervals", spec := "fnExactPlayIntervals", unfollowed := true, recurses := true, named := ["math/bits.divideError", "math/bits.overflowError"], apart := false, narrowed := true }
def FnExactPlayIntervalsUptoSaid : Prop := fnExactPlayIntervalsUptoRow.holds Tryz.pinned (OpenSpec.upto fnExactPlayIntervalsSpec)

/-- 'laws.FnExactWinInterval', WHERE WHAT IT READS IS OF BULK AT MOST 1048576: true; the input reads as it did. -/
def fnExactWinIntervalUptoRow : OpenClaim := { program := "ytcmeoenkgmghkaagreat", sum := "304fe67ed9e705e3b2fd2181187c789dbc097bad3550eb1cc23921a1e1a01e11", func := "loop.example/g00885/laws.FnExactWinInterval", spec := "fnExactWinInterval", unfollowed := true, recurses := true, named := ["math/bits.divideError", "math/bits.overflowError"], apart := false, narrowed := true }
def FnExactWinIntervalUptoSaid : Prop := fnExactWinIntervalUptoRow.holds Tryz.pinned (OpenSpec.upto fnExactWinIntervalSpec)

/-- 'laws.FnExactIntervalWidth', WHERE WHAT IT READS IS OF BULK AT MOST 1048576: true; the input reads as it did. -/
def fnExactIntervalWidthUptoRow : OpenClaim := { program := "ytcmeoenkgmghkaagreat", sum := "304fe67ed9e705e3b2fd2181187c789dbc097bad3550eb1cc23921a1e1a01e11", func := "loop.example/g00885/laws.FnExactIntervalWidth", spec := "fnExactIntervalWidth", unfollowed := true, recurses := true, named := ["math/bits.divideError", "math/bits.overflowError"], apart := false, narrowed := true }
def FnExactIntervalWidthUptoSaid : Prop := fnExactIntervalWidthUptoRow.holds Tryz.pinned (OpenSpec.upto fnExactIntervalWidthSpec)

/-- 'laws.FnExactCertainPlay', WHERE WHAT IT READS IS OF BULK AT MOST 1048576: true; the input reads as it did. -/
def fnExactCertainPlayUptoRow : OpenClaim := { program := "ytcmeoenkgmghkaagreat", sum := "304fe67ed9e705e3b2fd2181187c789dbc097bad3550eb1cc23921a1e1a01e11", func := "loop.example/g00885/laws.FnExactCertainPlay", spec := "fnExactCertainPlay", unfollowed := true, recurses := true, named := ["math/bits.divideError", "math/bits.overflowError"], apart := false, narrowed := true }
def FnExactCertainPlayUptoSaid : Prop := fnExactCertainPlayUptoRow.holds Tryz.pinned (OpenSpec.upto fnExactCertainPlaySpec)

/-- 'laws.FnExactWorsePlays', WHERE WHAT IT READS IS OF BULK AT MOST 1048576: true; the input reads as it did. -/
def fnExactWorsePlaysUptoRow : OpenClaim := { program := "ytcmeoenkgmghkaagreat", sum := "304fe67ed9e705e3b2fd2181187c789dbc097bad3550eb1cc23921a1e1a01e11", func := "loop.example/g00885/laws.FnExactWorsePlays", spec := "fnExactWorsePlays", unfollowed := true, recurses := true, named := ["math/bits.divideError", "math/bits.overflowError"], apart := false, narrowed := true }
def FnExactWorsePlaysUptoSaid : Prop := fnExactWorsePlaysUptoRow.holds Tryz.pinned (OpenSpec.upto fnExactWorsePlaysSpec)

/-- 'laws.FnIntervals', WHERE WHAT IT READS IS OF BULK AT MOST 1048576: true; the input reads as it did. -/
def fnIntervalsUptoRow : OpenClaim := { program := "ytcmeoenkgmghkaagreat", sum := "304fe67ed9e705e3b2fd2181187c789dbc097bad3550eb1cc23921a1e1a01e11", func := "loop.example/g00885/laws.FnIntervals", spec := "fnIntervals", unfollowed := true, recurses := true, named := ["math/bits.divideError", "math/bits.overflowError"], apart := false, narrowed := true }
def FnIntervalsUptoSaid : Prop := fnIntervalsUptoRow.holds Tryz.pinned (OpenSpec.upto fnIntervalsSpec)

/-- 'laws.FnCertain', WHERE WHAT IT READS IS OF BULK AT MOST 1048576: true; the input reads as it did. -/
def fnCertainUptoRow : OpenClaim := { program := "ytcmeoenkgmghkaagreat", sum := "304fe67ed9e705e3b2fd2181187c789dbc097bad3550eb1cc23921a1e1a01e11", func := "loop.example/g00885/laws.FnCertain", spec := "fnCertain", unfollowed := true, recurses := true, named := ["math/bits.divideError", "math/bits.overflowError"], apart := false, narrowed := true }
def FnCertainUptoSaid : Prop := fnCertainUptoRow.holds Tryz.pinned (OpenSpec.upto fnCertainSpec)

/-- 'laws.FnTop', WHERE WHAT IT READS IS OF BULK AT MOST 1048576: true; the input reads as it did. -/
def fnTopUptoRow : OpenClaim := { program := "ytcmeoenkgmghkaagreat", sum := "304fe67ed9e705e3b2fd2181187c789dbc097bad3550eb1cc23921a1e1a01e11", func := "loop.example/g00885/laws.FnTop", spec := "fnTop", inPlace := ["internal/bytealg.MakeNoZero"], unfollowed := true, recurses := true, named := ["math/bits.divideError", "math/bits.overflowError"], apart := false, narrowed := true }
def FnTopUptoSaid : Prop := fnTopUptoRow.holds Tryz.pinned (OpenSpec.upto fnTopSpec)

end Rows
end Go.Proofs.YtcmeoenkgmghkaaGreat

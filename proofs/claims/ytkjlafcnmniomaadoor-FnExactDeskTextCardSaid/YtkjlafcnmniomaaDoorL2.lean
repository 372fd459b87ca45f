/- Contracts of marking a desk without a past, and of looking at the marks. There are no conditions. -/
import Derived.Test.YtkjlafcnmniomaaDoorL1
import Derived.Test.YtkjlafcnmniomaaDoorMem
namespace Go.Proofs.YtkjlafcnmniomaaDoor
set_option linter.unusedVariables false
set_option linter.unusedSimpArgs false
open Go.RowKit


theorem eqBoardS_zero (A B : Option Addr) (c d : Nat) (w : World) :
    Calls Tryd.prog 30 #[.slice A 0 c, .slice B 0 d] w fun en w' => en = .returned (.bool true) ∧ w = w' := by
  go_enter Tryd.func30, Tryd.ntmps30
  go_wp2_with (fail)
  refine wp_loop_rounds 1 ?_
  rw [rounds_succ]
  go_wp2
  go_ret
  exact ⟨rfl, rfl⟩

/-- The slices v1 and v2 lie apart. -/
def Apart (v1 v2 : Value) : Prop := v1.ownBlock = none ∨ v1.ownBlock ≠ v2.ownBlock

end Go.Proofs.YtkjlafcnmniomaaDoor

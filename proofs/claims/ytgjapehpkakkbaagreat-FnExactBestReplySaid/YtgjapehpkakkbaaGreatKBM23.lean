/- Contracts of the program's equities for money. There are no conditions. -/
import Derived.Test.YtgjapehpkakkbaaGreatKM14
import Derived.Test.YtgjapehpkakkbaaGreatKM22
import Derived.Test.YtgjapehpkakkbaaGreatKQN
namespace Go.Proofs.YtgjapehpkakkbaaGreat
set_option linter.unusedVariables false
set_option linter.unusedSimpArgs false
open Go.RowKit Mo Ps Ra Ex

theorem codeM_ok {p c h s m : Int} {own other : List Int} {v o : Int} {more : Bool} (H : codeM p c h s m own other v o more = 0) : codeL p c h s m own other v o more = 0 ∧ own.sum ≠ 0 ∧ other.sum ≠ 0 := by
 unfold codeM at H
 by_cases h0 : codeL p c h s m own other v o more = 0
 · rw [if_pos h0] at H
   by_cases h1 : own.sum = 0 ∨ other.sum = 0
   · rw [if_pos h1] at H; cases H
   · exact ⟨h0, fun h => h1 (.inl h), fun h => h1 (.inr h)⟩
 · rw [if_neg h0] at H; exact absurd H h0

end Go.Proofs.YtgjapehpkakkbaaGreat

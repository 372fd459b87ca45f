/- Contracts of the reference's l09Code, AddExact and ScaleExact at valid numbers. There are no conditions beyond those. -/
import Derived.Test.YtkaiilmgemaljaaGreatPZk
import Derived.Test.YtkaiilmgemaljaaGreatPZm
import Derived.Test.YtkaiilmgemaljaaGreatPZl
namespace Go.Proofs.YtkaiilmgemaljaaGreat
set_option linter.unusedVariables false
set_option linter.unusedSimpArgs false
open Go.RowKit Ps Ra Ex

theorem valid_yes {B n : Int} {d : Nat} (h : Val B ⟨n, d⟩) : valB B n d = true := valB_yes.2 h
end Go.Proofs.YtkaiilmgemaljaaGreat

/- Contracts of IsDesk, the program's and the reference's, and of what they ask of rolls. There are no conditions. -/
import Derived.Test.YtkjlafcnmniomaaDoorA6
import Derived.Test.YtkjlafcnmniomaaDoorA5
import Derived.Test.YtkjlafcnmniomaaDoorRol
namespace Go.Proofs.YtkjlafcnmniomaaDoor
set_option linter.unusedVariables false
set_option linter.unusedSimpArgs false
open Go.RowKit

def noneB (a b : Int) : Bool := decide (a = 0 ∧ b = 0)

theorem l34None_any (a b : Int) (w : World) : Calls Tryd.prog 12 #[.agg #[.int .i64 a, .int .i64 b]] w fun e w' => e = .returned (.bool (noneB a b)) ∧ Below w.heap.size w w' := by
  by_cases h1 : a = 0
  · by_cases h2 : b = 0
    · have HF : Hid (noneB a b = true) := decide_eq_true ⟨h1, h2⟩
      have b1 : (a == 0) = true := by simp [h1]
      have b2 : (b == 0) = true := by simp [h2]
      clear h1 h2
      go_enter Tryd.func12, Tryd.ntmps12
      go_wp2
      go_ret
      exact ⟨by rw [HF.out]; rfl, (Below.refl _ _).alloc (Nat.le_refl _) _⟩
    · have HF : Hid (noneB a b = false) := decide_eq_false (by omega)
      have b1 : (a == 0) = true := by simp [h1]
      have b2 : (b == 0) = false := by simp [h2]
      clear h1 h2
      go_enter Tryd.func12, Tryd.ntmps12
      go_wp2
      go_ret
      exact ⟨by rw [HF.out]; rfl, (Below.refl _ _).alloc (Nat.le_refl _) _⟩
  · have HF : Hid (noneB a b = false) := decide_eq_false (by omega)
    have b1 : (a == 0) = false := by simp [h1]
    clear h1
    go_enter Tryd.func12, Tryd.ntmps12
    go_wp2
    go_ret
    exact ⟨by rw [HF.out]; rfl, (Below.refl _ _).alloc (Nat.le_refl _) _⟩

theorem neq_roll (a b a' b' : Int) (w : World) : (binOp .neq 36 (.agg #[.int .i64 a, .int .i64 b]) (.agg #[.int .i64 a', .int .i64 b'])).run Tryd.prog w = .ok (.bool (!decide (a = a' ∧ b = b'))) w := by
  have u3 := Tryd.underlying2
  have hS : Tryd.prog.underlying 36 = some (.struct (Tryd.prog.fieldsOf 36)) := by kernel_rfl
  have hp : Tryd.prog.stoodInHeld 36 = false := by kernel_rfl
  rw [run_neq_struct, show (10000 : Nat) = 9999 + 1 from rfl, run_equalIn_agg w 9999 36 _ _ hS hp]
  simp only [Program.fieldsOf, Tryd.underlying36]
  go_simp
  by_cases h1 : a = a' <;> by_cases h2 : b = b' <;> simp [h1, h2]
end Go.Proofs.YtkjlafcnmniomaaDoor

/- Contracts of IsDesk, the program's and the reference's, and of what they ask of rolls. There are no conditions. -/
import Derived.Test.YtlbkfhdnhalpbaaA6
import Derived.Test.YtlbkfhdnhalpbaaA5
namespace Go.Proofs.Ytlbkfhdnhalpbaa
set_option linter.unusedVariables false
set_option linter.unusedSimpArgs false
open Go.RowKit

def noneB (a b : Int) : Bool := decide (a = 0 ∧ b = 0)
def rollB (s a b : Int) : Bool := decide (1 ≤ a ∧ a ≤ s ∧ 1 ≤ b ∧ b ≤ a)

theorem l34None_any (a b : Int) (w : World) : Calls Try.prog 39 #[.agg #[.int .i64 a, .int .i64 b]] w fun e w' => e = .returned (.bool (noneB a b)) ∧ Below w.heap.size w w' := by
  by_cases h1 : a = 0
  · by_cases h2 : b = 0
    · have HF : Hid (noneB a b = true) := decide_eq_true ⟨h1, h2⟩
      have b1 : (a == 0) = true := by simp [h1]
      have b2 : (b == 0) = true := by simp [h2]
      clear h1 h2
      go_enter Try.func39, Try.ntmps39
      go_wp2
      go_ret
      exact ⟨by rw [HF.out]; rfl, (Below.refl _ _).alloc (Nat.le_refl _) _⟩
    · have HF : Hid (noneB a b = false) := decide_eq_false (by omega)
      have b1 : (a == 0) = true := by simp [h1]
      have b2 : (b == 0) = false := by simp [h2]
      clear h1 h2
      go_enter Try.func39, Try.ntmps39
      go_wp2
      go_ret
      exact ⟨by rw [HF.out]; rfl, (Below.refl _ _).alloc (Nat.le_refl _) _⟩
  · have HF : Hid (noneB a b = false) := decide_eq_false (by omega)
    have b1 : (a == 0) = false := by simp [h1]
    clear h1
    go_enter Try.func39, Try.ntmps39
    go_wp2
    go_ret
    exact ⟨by rw [HF.out]; rfl, (Below.refl _ _).alloc (Nat.le_refl _) _⟩

theorem l10Roll_any (p c h s a b : Int) (w : World) : Calls Try.prog 40 #[.agg #[.int .i64 p, .int .i64 c, .int .i64 h, .int .i64 s], .agg #[.int .i64 a, .int .i64 b]] w fun e w' => e = .returned (.bool (rollB s a b)) ∧ Below w.heap.size w w' := by
  by_cases h1 : 1 ≤ a ∧ a ≤ s
  · have e1 := inB_yes h1
    by_cases h2 : 1 ≤ b ∧ b ≤ a
    · have e2 := inB_yes h2
      have HF : Hid (rollB s a b = true) := decide_eq_true (by omega)
      go_enter Try.func40, Try.ntmps40
      go_wp2_with (go_at_call 53; refine (l01In_any _ _ _ _).mono ?_; rintro e w' ⟨rfl, rfl⟩)
      go_ret
      exact ⟨by rw [HF.out]; rfl, ((Below.refl _ _).alloc (Nat.le_refl _) _).alloc (by simp) _⟩
    · have e2 := inB_no h2
      have HF : Hid (rollB s a b = false) := decide_eq_false (by omega)
      go_enter Try.func40, Try.ntmps40
      go_wp2_with (go_at_call 53; refine (l01In_any _ _ _ _).mono ?_; rintro e w' ⟨rfl, rfl⟩)
      go_ret
      exact ⟨by rw [HF.out]; rfl, ((Below.refl _ _).alloc (Nat.le_refl _) _).alloc (by simp) _⟩
  · have e1 := inB_no h1
    have HF : Hid (rollB s a b = false) := decide_eq_false (by omega)
    go_enter Try.func40, Try.ntmps40
    go_wp2_with (go_at_call 53; refine (l01In_any _ _ _ _).mono ?_; rintro e w' ⟨rfl, rfl⟩)
    go_ret
    exact ⟨by rw [HF.out]; rfl, ((Below.refl _ _).alloc (Nat.le_refl _) _).alloc (by simp) _⟩

theorem IsRoll_any (p c h s a b : Int) (w : World) : Calls Try.prog 45 #[.agg #[.int .i64 p, .int .i64 c, .int .i64 h, .int .i64 s], .agg #[.int .i64 a, .int .i64 b]] w fun e w' => e = .returned (.bool (isVar p c h s && rollB s a b)) ∧ Below w.heap.size w w' := by
  have HB : Hid (Below w.heap.size w ((w.alloc (.cells #[.int .i64 p, .int .i64 c, .int .i64 h, .int .i64 s] 24)).alloc (.cells #[.int .i64 a, .int .i64 b] 29))) := ((Below.refl _ _).alloc (Nat.le_refl _) _).alloc (by simp) _
  by_cases hv : isVar p c h s = true
  · by_cases h1 : 1 ≤ a ∧ a ≤ s
    · have e1 := inB_yes h1
      by_cases h2 : 1 ≤ b ∧ b ≤ a
      · have e2 := inB_yes h2
        have HF : Hid ((isVar p c h s && rollB s a b) = true) := by unfold Hid; rw [hv, Bool.true_and]; exact decide_eq_true (by omega)
        go_enter Try.func45, Try.ntmps45
        go_wp2_with (first | (go_at_call 25; refine (more_first (IsVariant_any _ _ _ _ _)).mono ?_; rintro e w' ⟨rfl, t, rfl⟩) | (go_at_call 55; refine (within_any _ _ _ _).mono ?_; rintro e w' ⟨rfl, rfl⟩))
        go_ret
        exact ⟨by rw [HF.out]; rfl, HB.out.trans ((below_more _ _).mono HB.out.size)⟩
      · have e2 := inB_no h2
        have HF : Hid ((isVar p c h s && rollB s a b) = false) := by unfold Hid; rw [hv, Bool.true_and]; exact decide_eq_false (by omega)
        go_enter Try.func45, Try.ntmps45
        go_wp2_with (first | (go_at_call 25; refine (more_first (IsVariant_any _ _ _ _ _)).mono ?_; rintro e w' ⟨rfl, t, rfl⟩) | (go_at_call 55; refine (within_any _ _ _ _).mono ?_; rintro e w' ⟨rfl, rfl⟩))
        go_ret
        exact ⟨by rw [HF.out]; rfl, HB.out.trans ((below_more _ _).mono HB.out.size)⟩
    · have e1 := inB_no h1
      have HF : Hid ((isVar p c h s && rollB s a b) = false) := by unfold Hid; rw [hv, Bool.true_and]; exact decide_eq_false (by omega)
      go_enter Try.func45, Try.ntmps45
      go_wp2_with (first | (go_at_call 25; refine (more_first (IsVariant_any _ _ _ _ _)).mono ?_; rintro e w' ⟨rfl, t, rfl⟩) | (go_at_call 55; refine (within_any _ _ _ _).mono ?_; rintro e w' ⟨rfl, rfl⟩))
      go_ret
      exact ⟨by rw [HF.out]; rfl, HB.out.trans ((below_more _ _).mono HB.out.size)⟩
  · replace hv : isVar p c h s = false := by simpa using hv
    have HF : Hid ((isVar p c h s && rollB s a b) = false) := by unfold Hid; rw [hv, Bool.false_and]
    go_enter Try.func45, Try.ntmps45
    go_wp2_with (first | (go_at_call 25; refine (more_first (IsVariant_any _ _ _ _ _)).mono ?_; rintro e w' ⟨rfl, t, rfl⟩) | (go_at_call 55; refine (within_any _ _ _ _).mono ?_; rintro e w' ⟨rfl, rfl⟩))
    go_ret
    exact ⟨by rw [HF.out]; rfl, HB.out.trans ((below_more _ _).mono HB.out.size)⟩

theorem neq_roll (a b a' b' : Int) (w : World) : (binOp .neq 29 (.agg #[.int .i64 a, .int .i64 b]) (.agg #[.int .i64 a', .int .i64 b'])).run Try.prog w = .ok (.bool (!decide (a = a' ∧ b = b'))) w := by
  have u3 := Try.underlying2
  have hS : Try.prog.underlying 29 = some (.struct (Try.prog.fieldsOf 29)) := by kernel_rfl
  have hp : Try.prog.stoodInHeld 29 = false := by kernel_rfl
  rw [run_neq_struct, show (10000 : Nat) = 9999 + 1 from rfl, run_equalIn_agg w 9999 29 _ _ hS hp]
  simp only [Program.fieldsOf, Try.underlying29]
  go_simp
  by_cases h1 : a = a' <;> by_cases h2 : b = b' <;> simp [h1, h2]
end Go.Proofs.Ytlbkfhdnhalpbaa

/- Contracts of what both sides ask of a roll. There are no conditions. -/
import Derived.Test.YtkjlafcnmniomaaDoorA2
namespace Go.Proofs.YtkjlafcnmniomaaDoor
set_option linter.unusedVariables false
set_option linter.unusedSimpArgs false
open Go.RowKit

def rollB (s a b : Int) : Bool := decide (1 ≤ a ∧ a ≤ s ∧ 1 ≤ b ∧ b ≤ a)

theorem l10Roll_any (p c h s a b : Int) (w : World) : Calls Tryd.prog 34 #[.agg #[.int .i64 p, .int .i64 c, .int .i64 h, .int .i64 s], .agg #[.int .i64 a, .int .i64 b]] w fun e w' => e = .returned (.bool (rollB s a b)) ∧ Below w.heap.size w w' := by
  by_cases h1 : 1 ≤ a ∧ a ≤ s
  · have e1 := inB_yes h1
    by_cases h2 : 1 ≤ b ∧ b ≤ a
    · have e2 := inB_yes h2
      have HF : Hid (rollB s a b = true) := decide_eq_true (by omega)
      go_enter Tryd.func34, Tryd.ntmps34
      go_wp2_with (go_at_call 55; refine (l01In_any _ _ _ _).mono ?_; rintro e w' ⟨rfl, rfl⟩)
      go_ret
      exact ⟨by rw [HF.out]; rfl, ((Below.refl _ _).alloc (Nat.le_refl _) _).alloc (by simp) _⟩
    · have e2 := inB_no h2
      have HF : Hid (rollB s a b = false) := decide_eq_false (by omega)
      go_enter Tryd.func34, Tryd.ntmps34
      go_wp2_with (go_at_call 55; refine (l01In_any _ _ _ _).mono ?_; rintro e w' ⟨rfl, rfl⟩)
      go_ret
      exact ⟨by rw [HF.out]; rfl, ((Below.refl _ _).alloc (Nat.le_refl _) _).alloc (by simp) _⟩
  · have e1 := inB_no h1
    have HF : Hid (rollB s a b = false) := decide_eq_false (by omega)
    go_enter Tryd.func34, Tryd.ntmps34
    go_wp2_with (go_at_call 55; refine (l01In_any _ _ _ _).mono ?_; rintro e w' ⟨rfl, rfl⟩)
    go_ret
    exact ⟨by rw [HF.out]; rfl, ((Below.refl _ _).alloc (Nat.le_refl _) _).alloc (by simp) _⟩

theorem IsRoll_any (p c h s a b : Int) (w : World) : Calls Tryd.prog 45 #[.agg #[.int .i64 p, .int .i64 c, .int .i64 h, .int .i64 s], .agg #[.int .i64 a, .int .i64 b]] w fun e w' => e = .returned (.bool (isVar p c h s && rollB s a b)) ∧ Below w.heap.size w w' := by
  have HB : Hid (Below w.heap.size w ((w.alloc (.cells #[.int .i64 p, .int .i64 c, .int .i64 h, .int .i64 s] 34)).alloc (.cells #[.int .i64 a, .int .i64 b] 36))) := ((Below.refl _ _).alloc (Nat.le_refl _) _).alloc (by simp) _
  by_cases hv : isVar p c h s = true
  · by_cases h1 : 1 ≤ a ∧ a ≤ s
    · have e1 := inB_yes h1
      by_cases h2 : 1 ≤ b ∧ b ≤ a
      · have e2 := inB_yes h2
        have HF : Hid ((isVar p c h s && rollB s a b) = true) := by unfold Hid; rw [hv, Bool.true_and]; exact decide_eq_true (by omega)
        go_enter Tryd.func45, Tryd.ntmps45
        go_wp2_with (first | (go_at_call 42; refine (more_first (IsVariant_any _ _ _ _ _)).mono ?_; rintro e w' ⟨rfl, t, rfl⟩) | (go_at_call 58; refine (within_any _ _ _ _).mono ?_; rintro e w' ⟨rfl, rfl⟩))
        go_ret
        exact ⟨by rw [HF.out]; rfl, HB.out.trans ((below_more _ _).mono HB.out.size)⟩
      · have e2 := inB_no h2
        have HF : Hid ((isVar p c h s && rollB s a b) = false) := by unfold Hid; rw [hv, Bool.true_and]; exact decide_eq_false (by omega)
        go_enter Tryd.func45, Tryd.ntmps45
        go_wp2_with (first | (go_at_call 42; refine (more_first (IsVariant_any _ _ _ _ _)).mono ?_; rintro e w' ⟨rfl, t, rfl⟩) | (go_at_call 58; refine (within_any _ _ _ _).mono ?_; rintro e w' ⟨rfl, rfl⟩))
        go_ret
        exact ⟨by rw [HF.out]; rfl, HB.out.trans ((below_more _ _).mono HB.out.size)⟩
    · have e1 := inB_no h1
      have HF : Hid ((isVar p c h s && rollB s a b) = false) := by unfold Hid; rw [hv, Bool.true_and]; exact decide_eq_false (by omega)
      go_enter Tryd.func45, Tryd.ntmps45
      go_wp2_with (first | (go_at_call 42; refine (more_first (IsVariant_any _ _ _ _ _)).mono ?_; rintro e w' ⟨rfl, t, rfl⟩) | (go_at_call 58; refine (within_any _ _ _ _).mono ?_; rintro e w' ⟨rfl, rfl⟩))
      go_ret
      exact ⟨by rw [HF.out]; rfl, HB.out.trans ((below_more _ _).mono HB.out.size)⟩
  · replace hv : isVar p c h s = false := by simpa using hv
    have HF : Hid ((isVar p c h s && rollB s a b) = false) := by unfold Hid; rw [hv, Bool.false_and]
    go_enter Tryd.func45, Tryd.ntmps45
    go_wp2_with (first | (go_at_call 42; refine (more_first (IsVariant_any _ _ _ _ _)).mono ?_; rintro e w' ⟨rfl, t, rfl⟩) | (go_at_call 58; refine (within_any _ _ _ _).mono ?_; rintro e w' ⟨rfl, rfl⟩))
    go_ret
    exact ⟨by rw [HF.out]; rfl, HB.out.trans ((below_more _ _).mono HB.out.size)⟩

end Go.Proofs.YtkjlafcnmniomaaDoor

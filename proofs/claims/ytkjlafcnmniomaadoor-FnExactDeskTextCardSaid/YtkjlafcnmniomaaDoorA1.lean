/- Contracts of the small functions of chapters 1 and 7: what is in a range, what a variant, a roll, a seed is. There are no conditions. -/
import Derived.Test.YtkjlafcnmniomaaDoorChecked
import Derived.Test.YtkjlafcnmniomaaDoorBase
import Derived.Test.YtkjlafcnmniomaaDoorPlain
namespace Go.Proofs.YtkjlafcnmniomaaDoor
set_option linter.unusedVariables false
set_option linter.unusedSimpArgs false
open Go.RowKit

def inB (x lo hi : Int) : Bool := decide (lo ≤ x ∧ x ≤ hi)
theorem inB_yes {x lo hi : Int} (h : lo ≤ x ∧ x ≤ hi) : inB x lo hi = true := decide_eq_true h
theorem inB_no {x lo hi : Int} (h : ¬ (lo ≤ x ∧ x ≤ hi)) : inB x lo hi = false := decide_eq_false h


theorem within_any (x lo hi : Int) (w : World) :
    Calls Tryd.prog 58 #[.int .i64 x, .int .i64 lo, .int .i64 hi] w fun e w' => e = .returned (.bool (inB x lo hi)) ∧ w = w' := by
  by_cases h1 : lo ≤ x
  · by_cases h2 : x ≤ hi
    · have H := Lib.hid (inB_yes ⟨h1, h2⟩)
      go_enter Tryd.func58, Tryd.ntmps58
      go_wp2
      go_ret
      exact ⟨by rw [H.out]; rfl, rfl⟩
    · have H := Lib.hid (inB_no (x := x) (lo := lo) (hi := hi) (by omega))
      go_enter Tryd.func58, Tryd.ntmps58
      go_wp2
      go_ret
      exact ⟨by rw [H.out]; rfl, rfl⟩
  · have H := Lib.hid (inB_no (x := x) (lo := lo) (hi := hi) (by omega))
    go_enter Tryd.func58, Tryd.ntmps58
    go_wp2
    go_ret
    exact ⟨by rw [H.out]; rfl, rfl⟩
theorem l01In_any (x lo hi : Int) (w : World) :
    Calls Tryd.prog 55 #[.int .i64 x, .int .i64 lo, .int .i64 hi] w fun e w' => e = .returned (.bool (inB x lo hi)) ∧ w = w' := by
  by_cases h1 : lo ≤ x
  · by_cases h2 : x ≤ hi
    · have H := Lib.hid (inB_yes ⟨h1, h2⟩)
      go_enter Tryd.func55, Tryd.ntmps55
      go_wp2
      go_ret
      exact ⟨by rw [H.out]; rfl, rfl⟩
    · have H := Lib.hid (inB_no (x := x) (lo := lo) (hi := hi) (by omega))
      go_enter Tryd.func55, Tryd.ntmps55
      go_wp2
      go_ret
      exact ⟨by rw [H.out]; rfl, rfl⟩
  · have H := Lib.hid (inB_no (x := x) (lo := lo) (hi := hi) (by omega))
    go_enter Tryd.func55, Tryd.ntmps55
    go_wp2
    go_ret
    exact ⟨by rw [H.out]; rfl, rfl⟩

theorem IsVariant_any (p c h s : Int) (w : World) :
    Calls Tryd.prog 42 #[.agg #[.int .i64 p, .int .i64 c, .int .i64 h, .int .i64 s]] w fun e w' => e = .returned (.bool (isVar p c h s)) ∧ Below w.heap.size w w' := by
  by_cases h1 : 2 ≤ p ∧ p ≤ 24
  · have e1 := inB_yes h1
    by_cases h2 : 1 ≤ c ∧ c ≤ 15
    · have e2 := inB_yes h2
      by_cases h3 : 1 ≤ h ∧ h ≤ p
      · have e3 := inB_yes h3
        by_cases h4 : 1 ≤ s ∧ s ≤ 6
        · have e4 := inB_yes h4
          have H := Lib.hid (isVar_mk ⟨h1.1, h1.2, h2.1, h2.2, h3.1, h3.2, h4⟩)
          go_enter Tryd.func42, Tryd.ntmps42
          go_wp2_with (go_at_call 58; refine (within_any _ _ _ _).mono ?_; rintro e w' ⟨rfl, rfl⟩)
          go_ret
          exact ⟨by rw [H.out]; rfl, (Below.refl _ _).alloc (Nat.le_refl _) _⟩
        · have e4 := inB_no h4
          have H := Lib.hid (isVar_no (p := p) (c := c) (h := h) (s := s) (by omega))
          go_enter Tryd.func42, Tryd.ntmps42
          go_wp2_with (go_at_call 58; refine (within_any _ _ _ _).mono ?_; rintro e w' ⟨rfl, rfl⟩)
          go_ret
          exact ⟨by rw [H.out]; rfl, (Below.refl _ _).alloc (Nat.le_refl _) _⟩
      · have e3 := inB_no h3
        have H := Lib.hid (isVar_no (p := p) (c := c) (h := h) (s := s) (by omega))
        go_enter Tryd.func42, Tryd.ntmps42
        go_wp2_with (go_at_call 58; refine (within_any _ _ _ _).mono ?_; rintro e w' ⟨rfl, rfl⟩)
        go_ret
        exact ⟨by rw [H.out]; rfl, (Below.refl _ _).alloc (Nat.le_refl _) _⟩
    · have e2 := inB_no h2
      have H := Lib.hid (isVar_no (p := p) (c := c) (h := h) (s := s) (by omega))
      go_enter Tryd.func42, Tryd.ntmps42
      go_wp2_with (go_at_call 58; refine (within_any _ _ _ _).mono ?_; rintro e w' ⟨rfl, rfl⟩)
      go_ret
      exact ⟨by rw [H.out]; rfl, (Below.refl _ _).alloc (Nat.le_refl _) _⟩
  · have e1 := inB_no h1
    have H := Lib.hid (isVar_no (p := p) (c := c) (h := h) (s := s) (by omega))
    go_enter Tryd.func42, Tryd.ntmps42
    go_wp2_with (go_at_call 58; refine (within_any _ _ _ _).mono ?_; rintro e w' ⟨rfl, rfl⟩)
    go_ret
    exact ⟨by rw [H.out]; rfl, (Below.refl _ _).alloc (Nat.le_refl _) _⟩
theorem sIsVariant_any (p c h s : Int) (w : World) :
    Calls Tryd.prog 38 #[.agg #[.int .i64 p, .int .i64 c, .int .i64 h, .int .i64 s]] w fun e w' => e = .returned (.bool (isVar p c h s)) ∧ Below w.heap.size w w' := by
  by_cases h1 : 2 ≤ p ∧ p ≤ 24
  · have e1 := inB_yes h1
    by_cases h2 : 1 ≤ c ∧ c ≤ 15
    · have e2 := inB_yes h2
      by_cases h3 : 1 ≤ h ∧ h ≤ p
      · have e3 := inB_yes h3
        by_cases h4 : 1 ≤ s ∧ s ≤ 6
        · have e4 := inB_yes h4
          have H := Lib.hid (isVar_mk ⟨h1.1, h1.2, h2.1, h2.2, h3.1, h3.2, h4⟩)
          go_enter Tryd.func38, Tryd.ntmps38
          go_wp2_with (go_at_call 55; refine (l01In_any _ _ _ _).mono ?_; rintro e w' ⟨rfl, rfl⟩)
          go_ret
          exact ⟨by rw [H.out]; rfl, (Below.refl _ _).alloc (Nat.le_refl _) _⟩
        · have e4 := inB_no h4
          have H := Lib.hid (isVar_no (p := p) (c := c) (h := h) (s := s) (by omega))
          go_enter Tryd.func38, Tryd.ntmps38
          go_wp2_with (go_at_call 55; refine (l01In_any _ _ _ _).mono ?_; rintro e w' ⟨rfl, rfl⟩)
          go_ret
          exact ⟨by rw [H.out]; rfl, (Below.refl _ _).alloc (Nat.le_refl _) _⟩
      · have e3 := inB_no h3
        have H := Lib.hid (isVar_no (p := p) (c := c) (h := h) (s := s) (by omega))
        go_enter Tryd.func38, Tryd.ntmps38
        go_wp2_with (go_at_call 55; refine (l01In_any _ _ _ _).mono ?_; rintro e w' ⟨rfl, rfl⟩)
        go_ret
        exact ⟨by rw [H.out]; rfl, (Below.refl _ _).alloc (Nat.le_refl _) _⟩
    · have e2 := inB_no h2
      have H := Lib.hid (isVar_no (p := p) (c := c) (h := h) (s := s) (by omega))
      go_enter Tryd.func38, Tryd.ntmps38
      go_wp2_with (go_at_call 55; refine (l01In_any _ _ _ _).mono ?_; rintro e w' ⟨rfl, rfl⟩)
      go_ret
      exact ⟨by rw [H.out]; rfl, (Below.refl _ _).alloc (Nat.le_refl _) _⟩
  · have e1 := inB_no h1
    have H := Lib.hid (isVar_no (p := p) (c := c) (h := h) (s := s) (by omega))
    go_enter Tryd.func38, Tryd.ntmps38
    go_wp2_with (go_at_call 55; refine (l01In_any _ _ _ _).mono ?_; rintro e w' ⟨rfl, rfl⟩)
    go_ret
    exact ⟨by rw [H.out]; rfl, (Below.refl _ _).alloc (Nat.le_refl _) _⟩

/-- A seed. -/
def seedB (x : Int) : Bool := inB x 1 2147483646
theorem isSeed_any (x : Int) (w : World) :
    Calls Tryd.prog 44 #[.int .i64 x] w fun e w' => e = .returned (.bool (seedB x)) ∧ w = w' := by
  go_enter Tryd.func44, Tryd.ntmps44
  go_wp2_with (go_at_call 58; refine (within_any _ _ _ _).mono ?_; rintro e w' ⟨rfl, rfl⟩)
  go_ret
  exact ⟨rfl, rfl⟩
theorem l07Seed_any (x : Int) (w : World) :
    Calls Tryd.prog 35 #[.int .i64 x] w fun e w' => e = .returned (.bool (seedB x)) ∧ w = w' := by
  go_enter Tryd.func35, Tryd.ntmps35
  go_wp2_with (go_at_call 55; refine (l01In_any _ _ _ _).mono ?_; rintro e w' ⟨rfl, rfl⟩)
  go_ret
  exact ⟨rfl, rfl⟩
theorem toVariant_any (p c h s : Int) (w : World) :
    Calls Tryd.prog 17 #[.agg #[.int .i64 p, .int .i64 c, .int .i64 h, .int .i64 s]] w fun e w' => e = .returned (.agg #[.int .i64 p, .int .i64 c, .int .i64 h, .int .i64 s]) ∧ Below w.heap.size w w' := by
  go_enter Tryd.func17, Tryd.ntmps17
  go_wp2
  exact bodyPost_ret (v := .agg #[.int .i64 p, .int .i64 c, .int .i64 h, .int .i64 s]) (by simp [results, Tryd.results17, go_sem]) rfl ⟨rfl, (((Below.refl _ _).alloc (Nat.le_refl _) _).alloc (by simp) _).alloc (by simp; omega) _⟩
end Go.Proofs.YtkjlafcnmniomaaDoor

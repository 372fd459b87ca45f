/- Plain facts on a number and one minus it; comparing exact numbers; what the laws measure. There are no conditions beyond those that each states. -/
import Derived.Test.YtchaenamdpikpaaGreatD7
import Derived.Test.YtchaenamdpikpaaGreatV1
import Derived.Test.YtchaenamdpikpaaGreatN50
namespace Go.Proofs.YtchaenamdpikpaaGreat
set_option linter.unusedVariables false
set_option linter.unusedSimpArgs false
open Go.RowKit Ps Ra Ex

theorem both_one {B : Int} (hB : 1 ≤ B) {x y : E} (h : oneM B y = some x) : addE B x y = some oneE := by
  have hs := (mk_val hB h).2
  have hs' : x.num * pw B y.depth = (pw B y.depth - y.num) * pw B x.depth := by
    have : Same B x ⟨oneE.num * pw B (max oneE.depth (negE y).depth - oneE.depth) + (negE y).num * pw B (max oneE.depth (negE y).depth - (negE y).depth), max oneE.depth (negE y).depth⟩ := hs
    unfold Same oneE negE at this
    simp only [Nat.zero_max, Nat.sub_zero, Nat.sub_self, pw_zero, Int.one_mul, Int.mul_one] at this
    rw [this, Int.sub_eq_add_neg]
  unfold addE
  refine mk_some hB one_val ?_
  show (1 : Int) * pw B (max x.depth y.depth) = (x.num * pw B (max x.depth y.depth - x.depth) + y.num * pw B (max x.depth y.depth - y.depth)) * pw B 0
  rw [pw_zero, Int.one_mul, Int.mul_one]
  have h1 : pw B (max x.depth y.depth) = pw B x.depth * pw B (max x.depth y.depth - x.depth) := by rw [← pw_add]; congr 1; omega
  have h2 : pw B (max x.depth y.depth) = pw B y.depth * pw B (max x.depth y.depth - y.depth) := by rw [← pw_add]; congr 1; omega
  have p1 := pw_pos hB x.depth
  have p2 := pw_pos hB y.depth
  generalize pw B (max x.depth y.depth) = R at *
  generalize pw B (max x.depth y.depth - x.depth) = a at *
  generalize pw B (max x.depth y.depth - y.depth) = c at *
  generalize pw B x.depth = Q at *
  generalize pw B y.depth = P at *
  generalize x.num = u at *
  generalize y.num = v at *
  have hPQ : P * Q ≠ 0 := Int.mul_ne_zero (by omega) (by omega)
  refine Int.eq_of_mul_eq_mul_right hPQ ?_
  have e1 : u * a * (P * Q) = (u * P) * (Q * a) := by ac_rfl
  have e2 : v * c * (P * Q) = (v * Q) * (P * c) := by ac_rfl
  rw [Int.add_mul, e1, e2, ← h1, ← h2, hs', ← Int.add_mul, ← Int.add_mul, show P - v + v = P by omega, Int.mul_comm]
theorem neq_exact (a b a' b' : Int) (w : World) : (binOp .neq 30 (.agg #[.int .i64 a, .int .i64 b]) (.agg #[.int .i64 a', .int .i64 b'])).run Tryz.prog w = .ok (.bool (!decide (a = a' ∧ b = b'))) w := by
  have u3 := Tryz.underlying2
  have hS : Tryz.prog.underlying 30 = some (.struct (Tryz.prog.fieldsOf 30)) := by kernel_rfl
  have hp : Tryz.prog.stoodInHeld 30 = false := by kernel_rfl
  rw [run_neq_struct, show (10000 : Nat) = 9999 + 1 from rfl, run_equalIn_agg w 9999 30 _ _ hS hp]
  simp only [Program.fieldsOf, Tryz.underlying30]
  go_simp
  by_cases h1 : a = a' <;> by_cases h2 : b = b' <;> simp [h1, h2]
theorem eql_exact (a b a' b' : Int) (w : World) : (binOp .eql 30 (.agg #[.int .i64 a, .int .i64 b]) (.agg #[.int .i64 a', .int .i64 b'])).run Tryz.prog w = .ok (.bool (decide (a = a' ∧ b = b'))) w := by
  have u3 := Tryz.underlying2
  have hS : Tryz.prog.underlying 30 = some (.struct (Tryz.prog.fieldsOf 30)) := by kernel_rfl
  have hp : Tryz.prog.stoodInHeld 30 = false := by kernel_rfl
  rw [run_eql_struct, show (10000 : Nat) = 9999 + 1 from rfl, run_equalIn_agg w 9999 30 _ _ hS hp]
  simp only [Program.fieldsOf, Tryz.underlying30]
  go_simp
  by_cases h1 : a = a' <;> by_cases h2 : b = b' <;> simp [h1, h2]
theorem big_any (A : Option Addr) (n c : Nat) (w : World) : Calls Tryz.prog 5 #[.slice A n c] w fun e w' => e = .returned (.bool (decide (4096 < n))) ∧ w = w' := by
  go_enter Tryz.func5, Tryz.ntmps5
  go_wp2_with (fail)
  go_ret
  exact ⟨by by_cases h : 4096 < n <;> simp [h] <;> omega, rfl⟩
/-- What both chances have in common. -/
theorem both_facts {p c h s : Int} {own other : List Int} {a b : Int} (H : secR p c h s own other = (a, b, 0)) : ∃ (s' : Nat) (x y : E), s = (s' : Int) ∧ isVar p c h s = true ∧ Val (sq s') x ∧ Val (sq s') y ∧ a = x.num ∧ b = (x.depth : Int) ∧ winR p c h s other own = (y.num, (y.depth : Int), 0) ∧ addE (sq s') x y = some oneE := by
  unfold secR at H
  by_cases hc : codeW p c h s own other false = 0
  · rw [if_pos hc] at H
    have hT : codeT p c h s [own, other] = 0 := by
      unfold codeW at hc
      split at hc
      · assumption
      · exact hc
    have hv := (codeT_ok hT).1
    have hvv := isVar_yes hv
    obtain ⟨s', rfl⟩ : ∃ s' : Nat, s = s' := ⟨s.toNat, by omega⟩
    have hB := (sq_bd (s := s') (by omega) (by omega)).1
    rw [Int.toNat_natCast] at H
    unfold sec at H
    cases hw : win s' other own with
    | none => rw [hw] at H; exact absurd (congrArg (·.2.2) H) (by simp [numR])
    | some y =>
      rw [hw] at H
      have H' : numR (oneM (sq s') y) = (a, b, 0) := H
      cases hx : oneM (sq s') y with
      | none => rw [hx] at H'; exact absurd (congrArg (·.2.2) H') (by simp [numR])
      | some x =>
        rw [hx] at H'
        simp only [numR, Prod.mk.injEq, and_true] at H'
        refine ⟨s', x, y, rfl, hv, addE_val hB hx, win_val hB hw, H'.1.symm, H'.2.symm, ?_, both_one hB hx⟩
        unfold winR
        rw [codeW_comm p c h s' other own, if_pos hc, Int.toNat_natCast, hw]
        rfl
  · rw [if_neg hc] at H
    exact absurd (congrArg (·.2.2) H) hc
end Go.Proofs.YtchaenamdpikpaaGreat

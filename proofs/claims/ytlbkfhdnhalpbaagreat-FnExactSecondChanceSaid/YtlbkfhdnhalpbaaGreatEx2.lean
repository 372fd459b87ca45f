/- Plain facts on the wys in which the program and the reference reckon with exact numbers. No program is in sight; there are no conditions. -/
import Derived.Test.YtlbkfhdnhalpbaaGreatRace
namespace Go.Proofs.YtlbkfhdnhalpbaaGreat.Ra
set_option linter.unusedVariables false
set_option linter.unusedSimpArgs false
open Go.Proofs.YtlbkfhdnhalpbaaGreat.Ex Go.Proofs.YtlbkfhdnhalpbaaGreat.Ps

/-! ### powers -/
theorem pw_base_mono {A B : Int} (hA : 1 ≤ A) (h : A ≤ B) (k : Nat) : pw A k ≤ pw B k := by
  induction k with
  | zero => exact Int.le_refl _
  | succ k ih =>
    rw [pw_succ, pw_succ]
    have h1 := pw_pos hA k
    exact Int.mul_le_mul ih h (by omega) (by omega)
theorem pw_big {B : Int} (hB : 2 ≤ B) {d : Nat} (h : 50 ≤ d) : maxScale < pw B d := by
  have h1 := pw_base_mono (by omega) hB d
  have h2 := pw_mono (B := 2) (by omega) h
  have h3 : maxScale < pw 2 50 := by decide
  omega
theorem depth_lt {B : Int} {x : E} (hB : 1 ≤ B) (h : Val B x) : x.depth < 50 := by
  rcases Int.lt_or_le 1 B with h1 | h1
  · apply Nat.lt_of_not_le
    intro hd
    have := pw_big (B := B) (by omega) hd
    have := h.2.2.1
    omega
  · have : B = 1 := by omega
    have := h.2.2.2.2 this
    omega
def sq (s : Nat) : Int := (s : Int) * s
theorem sq_bd {s : Nat} (h1 : 1 ≤ s) (h6 : s ≤ 6) : 1 ≤ sq s ∧ sq s ≤ 36 ∧ (sq s = 1 ∨ 4 ≤ sq s) := by
  obtain rfl | rfl | rfl | rfl | rfl | rfl : s = 1 ∨ s = 2 ∨ s = 3 ∨ s = 4 ∨ s = 5 ∨ s = 6 := by omega
  all_goals decide

/-! ### validity -/
def valB (B n : Int) (d : Nat) : Bool := decide (Val B ⟨n, d⟩)
theorem valB_yes {B n : Int} {d : Nat} : valB B n d = true ↔ Val B ⟨n, d⟩ := by unfold valB; exact decide_eq_true_iff
theorem valB_far {B n : Int} {d : Nat} (h : n < -maxNum ∨ maxNum < n) : valB B n d = false := decide_eq_false fun ⟨h1, h2, _⟩ => by simp at h1 h2; omega
theorem valB_zero {B n : Int} (h1 : -maxNum ≤ n) (h2 : n ≤ maxNum) : valB B n 0 = true := decide_eq_true ⟨h1, h2, by show (1 : Int) ≤ maxScale; decide, .inl rfl, fun _ => rfl⟩
theorem valB_one {n : Int} {d : Nat} (h : d ≠ 0) : valB 1 n d = false := decide_eq_false fun ⟨_, _, _, _, h5⟩ => h (h5 rfl)
theorem valB_deep {B n : Int} {d : Nat} (h : maxScale < pw B d) : valB B n d = false := decide_eq_false fun ⟨_, _, h3, _⟩ => by simp at h3; omega
theorem valB_dvd {B n : Int} {d : Nat} (hd : d ≠ 0) (h : B ∣ n) : valB B n d = false := decide_eq_false fun ⟨_, _, _, h4, _⟩ => h4.elim (fun h0 => hd h0) fun h0 => h0 h
theorem valB_mk {B n : Int} {d : Nat} (h1 : -maxNum ≤ n) (h2 : n ≤ maxNum) (h3 : pw B d ≤ maxScale) (h4 : ¬ B ∣ n) (h5 : B ≠ 1) : valB B n d = true := decide_eq_true ⟨h1, h2, h3, .inr h4, fun h => absurd h h5⟩
theorem tmod_zero {n B : Int} : n.tmod B = 0 ↔ B ∣ n := (Int.dvd_iff_tmod_eq_zero).symm
theorem tdiv_dvd {n B : Int} (h : B ∣ n) : n.tdiv B = n / B := Int.tdiv_eq_ediv_of_dvd h

/-! ### striking factors -/
theorem strip_go {B n : Int} {d : Nat} (h : B ∣ n) : strip B (d + 1) n = strip B d (n / B) := by show (if B ∣ n then _ else _) = _; rw [if_pos h]
theorem strip_stop {B n : Int} {d : Nat} (h : ¬ B ∣ n) : strip B (d + 1) n = ⟨n, d + 1⟩ := by show (if B ∣ n then _ else _) = _; rw [if_neg h]
theorem mk_strip {B n : Int} {d : Nat} {m : Int} {e : Nat} (h : strip B d n = ⟨m, e⟩) : mk B n d = if valB B m e then some ⟨m, e⟩ else none := by
  unfold mk
  rw [h]
  by_cases hv : Val B ⟨m, e⟩
  · rw [if_pos hv, if_pos (valB_yes.2 hv)]
  · rw [if_neg hv, if_neg fun h => hv (valB_yes.1 h)]
theorem mk_one (n : Int) (d : Nat) : mk 1 n d = mk 1 n 0 := by unfold mk; rw [strip_one, strip_one]
theorem strip_of_low {B n : Int} {d : Nat} (h : Low B ⟨n, d⟩) : strip B d n = ⟨n, d⟩ := by
  cases d with
  | zero => rfl
  | succ d =>
    rcases h with h | h
    · exact absurd h (by simp)
    · exact strip_stop h
theorem mk_self {B : Int} {x : E} (h : Val B x) : mk B x.num x.depth = some x := by
  rw [mk_strip (strip_of_low h.2.2.2.1), if_pos (valB_yes.2 h)]

/-! ### sums -/
theorem addE_le {B : Int} {x y : E} (h : x.depth ≤ y.depth) : addE B x y = mk B (x.num * pw B (y.depth - x.depth) + y.num) y.depth := by
  unfold addE; rw [Nat.max_eq_right h, Nat.sub_self, pw_zero, Int.mul_one]
theorem addE_comm (B : Int) (x y : E) : addE B x y = addE B y x := by
  unfold addE; rw [Nat.max_comm y.depth x.depth, Int.add_comm]
/-- What is added is at most maxNum, and the sum is not divisible. -/
theorem addE_far {B : Int} (hB : 1 ≤ B) {x y : E} (hy : Val B y) {j : Nat} (hj : j < y.depth - x.depth) (hf : 4 * maxNum < x.num * pw B j * B ∨ x.num * pw B j * B < -(4 * maxNum)) : addE B x y = none := by
  rw [addE_le (by omega)]
  obtain ⟨h1, h2, _, h4, _⟩ := hy
  have hd : B ∣ x.num * pw B (y.depth - x.depth) := by
    obtain ⟨k, hk⟩ : ∃ k, y.depth - x.depth = k + 1 := ⟨y.depth - x.depth - 1, by omega⟩
    rw [hk, pw_succ, ← Int.mul_assoc]; exact Int.dvd_mul_left _ _
  have hn : ¬ B ∣ x.num * pw B (y.depth - x.depth) + y.num := by
    intro h
    have : B ∣ y.num := (Int.dvd_add_right hd).1 h
    rcases h4 with h4 | h4
    · omega
    · exact h4 this
  have hs : strip B y.depth (x.num * pw B (y.depth - x.depth) + y.num) = ⟨_, y.depth⟩ := strip_of_low (.inr hn)
  rw [mk_strip hs, if_neg]
  rw [Bool.not_eq_true]
  apply valB_far
  have e : x.num * pw B (y.depth - x.depth) = x.num * pw B j * B * pw B (y.depth - x.depth - (j + 1)) := by
    rw [Int.mul_assoc, Int.mul_assoc, ← Int.mul_assoc (pw B j), ← pw_succ, ← pw_add]
    congr 2; omega
  have hp := pw_pos hB (y.depth - x.depth - (j + 1))
  generalize x.num * pw B j * B = u at *
  generalize pw B (y.depth - x.depth - (j + 1)) = q at *
  have hm : maxNum = 1000000000000000000 := rfl
  rw [e]
  rcases hf with hf | hf
  · have : u * 1 ≤ u * q := Int.mul_le_mul_of_nonneg_left hp (by omega)
    omega
  · have : (-u) * 1 ≤ (-u) * q := Int.mul_le_mul_of_nonneg_left hp (by omega)
    rw [Int.neg_mul, Int.neg_mul] at this
    omega

/-! ### fractions in lowest terms -/
/-- If p / q is in lowest terms and q divides B^d for d and for no less, then p * (B^d / q) over B^d is the normal form. -/
theorem fit_low {B p q : Int} {d : Nat} (hB : 1 ≤ B) (hq : 1 ≤ q) (hc : Int.gcd p q = 1) (h1 : q ∣ pw B d) (h2 : ∀ k, k < d → ¬ q ∣ pw B k) : Low B ⟨p * (pw B d / q), d⟩ := by
  cases d with
  | zero => exact .inl rfl
  | succ d =>
    refine .inr fun hd => ?_
    obtain ⟨m, hm⟩ := h1
    have e : pw B (d + 1) / q = m := by rw [hm]; exact Int.mul_ediv_cancel_left _ (by omega)
    rw [e] at hd
    obtain ⟨t, ht⟩ := hd
    simp only at ht
    have h3 : p * pw B d = q * t := by
      apply Int.eq_of_mul_eq_mul_right (a := B) (by omega)
      rw [Int.mul_assoc, ← pw_succ, hm, Int.mul_left_comm, ht, Int.mul_comm B t, Int.mul_assoc]
    have h4 : q.natAbs ∣ p.natAbs * (pw B d).natAbs := by rw [← Int.natAbs_mul, h3, Int.natAbs_mul]; exact Nat.dvd_mul_right _ _
    have h5 : q.natAbs ∣ (pw B d).natAbs := Nat.Coprime.dvd_of_dvd_mul_left (by rw [Nat.coprime_iff_gcd_eq_one, Nat.gcd_comm]; exact hc) h4
    exact h2 d (by omega) (Int.natAbs_dvd_natAbs.1 h5)
/-- The walk over depths: q divides B^d for the first time. -/
theorem fit_mk {B a b p q g : Int} {d D : Nat} (hB : 1 ≤ B) (hb : 1 ≤ b) (hg : 1 ≤ g) (ha : a = p * g) (hbq : b = q * g) (hq : 1 ≤ q) (hc : Int.gcd p q = 1) (h1 : q ∣ pw B d) (h2 : ∀ k, k < d → ¬ q ∣ pw B k) (hdiv : b ∣ pw B D) :
    Same B ⟨p * (pw B d / q), d⟩ ⟨a * (pw B D / b), D⟩ := by
  obtain ⟨m, hm⟩ := h1
  obtain ⟨n, hn⟩ := hdiv
  have e1 : pw B d / q = m := by rw [hm]; exact Int.mul_ediv_cancel_left _ (by omega)
  have e2 : pw B D / b = n := by rw [hn]; exact Int.mul_ediv_cancel_left _ (by omega)
  simp only [Same]
  rw [e1, e2, hm, hn, ha, hbq]
  ac_rfl
end Go.Proofs.YtlbkfhdnhalpbaaGreat.Ra

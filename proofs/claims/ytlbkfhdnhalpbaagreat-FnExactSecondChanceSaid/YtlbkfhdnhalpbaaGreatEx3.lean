/- Plain facts on the ways in which the reference reckons with exact numbers: fractions in lowest terms, digits. No program is in sight; there are no conditions. -/
import Derived.Test.YtlbkfhdnhalpbaaGreatEx2
namespace Go.Proofs.YtlbkfhdnhalpbaaGreat.Ra
set_option linter.unusedVariables false
set_option linter.unusedSimpArgs false
open Go.Proofs.YtlbkfhdnhalpbaaGreat.Ex Go.Proofs.YtlbkfhdnhalpbaaGreat.Ps

/-! ### fractions -/
theorem maxNum_val : maxNum = 1000000000000000000 := rfl
theorem gcd_step (x y : Nat) : Nat.gcd y (x % y) = Nat.gcd x y := by rw [Nat.gcd_comm y, ← Nat.gcd_rec, Nat.gcd_comm]
theorem gcd_facts {a b : Int} (hb : 1 ≤ b) : 1 ≤ (Int.gcd a b : Int) ∧ a = a / (Int.gcd a b : Int) * (Int.gcd a b : Int) ∧ b = b / (Int.gcd a b : Int) * (Int.gcd a b : Int) ∧ 1 ≤ b / (Int.gcd a b : Int) ∧ Int.gcd (a / (Int.gcd a b : Int)) (b / (Int.gcd a b : Int)) = 1 := by
  have hp : 0 < Int.gcd a b := Int.gcd_pos_of_ne_zero_right a (by omega)
  have h1 : a = a / (Int.gcd a b : Int) * (Int.gcd a b : Int) := (Int.ediv_mul_cancel (Int.gcd_dvd_left a b)).symm
  have h2 : b = b / (Int.gcd a b : Int) * (Int.gcd a b : Int) := (Int.ediv_mul_cancel (Int.gcd_dvd_right a b)).symm
  refine ⟨by omega, h1, h2, ?_, ?_⟩
  · apply Int.le_ediv_of_mul_le (by omega)
    have := Int.le_of_dvd (by omega) (Int.gcd_dvd_right a b)
    omega
  · have h3 : Int.gcd (a / (Int.gcd a b : Int) * (Int.gcd a b : Int)) (b / (Int.gcd a b : Int) * (Int.gcd a b : Int)) = Int.gcd a b := by rw [← h1, ← h2]
    rw [Int.gcd_mul_right] at h3
    have h4 : Int.gcd (a / (Int.gcd a b : Int)) (b / (Int.gcd a b : Int)) * Int.gcd a b = 1 * Int.gcd a b := by
      rw [Nat.one_mul]; simpa using h3
    exact Nat.eq_of_mul_eq_mul_right hp h4
theorem coprime_dvd {p q r : Int} (hc : Int.gcd p q = 1) (h : q ∣ p * r) : q ∣ r := by
  have h4 : q.natAbs ∣ p.natAbs * r.natAbs := by rw [← Int.natAbs_mul]; exact Int.natAbs_dvd_natAbs.2 h
  have h5 : q.natAbs ∣ r.natAbs := Nat.Coprime.dvd_of_dvd_mul_left (by rw [Nat.coprime_iff_gcd_eq_one, Nat.gcd_comm]; exact hc) h4
  exact Int.natAbs_dvd_natAbs.1 h5

/-- p / q over a power of the base, where p / q is in lowest terms. -/
def fitE (B p q : Int) (D : Nat) : Option E := mk B (p * (pw B D / q)) D
theorem fit_same {B p q : Int} {D : Nat} (hB : 1 ≤ B) (hq : 1 ≤ q) (hd : q ∣ pw B D) {x : E} (h : Same B x ⟨p * (pw B D / q), D⟩) : x.num * q = p * pw B x.depth := by
  obtain ⟨m, hm⟩ := hd
  have e : pw B D / q = m := by rw [hm]; exact Int.mul_ediv_cancel_left _ (by omega)
  have hp := pw_pos hB D
  simp only [Same] at h
  rw [e, hm] at h
  have hm0 : m ≠ 0 := by intro h0; rw [h0] at hm; simp at hm; omega
  apply Int.eq_of_mul_eq_mul_right hm0
  rw [Int.mul_assoc, h, Int.mul_right_comm]
theorem fit_hit {B p q : Int} {d D : Nat} (hB : 1 ≤ B) (hq : 1 ≤ q) (hc : Int.gcd p q = 1) (hD : q ∣ pw B D) (h1 : q ∣ pw B d) (h2 : ∀ k, k < d → ¬ q ∣ pw B k) (h3 : pw B d ≤ maxScale) :
    fitE B p q D = if -maxNum ≤ p * (pw B d / q) ∧ p * (pw B d / q) ≤ maxNum then some ⟨p * (pw B d / q), d⟩ else none := by
  have hlow := fit_low hB hq hc h1 h2
  have hsame : Same B ⟨p * (pw B d / q), d⟩ ⟨p * (pw B D / q), D⟩ := by
    have := fit_mk (B := B) (a := p) (b := q) (p := p) (q := q) (g := 1) (d := d) (D := D) hB hq (Int.le_refl _) (by omega) (by omega) hq hc h1 h2 hD
    exact this
  have hone : B = 1 → d = 0 := by
    intro e
    cases d with
    | zero => rfl
    | succ d =>
      exfalso
      apply h2 0 (by omega)
      rw [e, pw_one] at h1; rw [e, pw_one]; exact h1
  split
  · rename_i h
    exact mk_some hB ⟨h.1, h.2, h3, hlow, hone⟩ hsame
  · rename_i h
    refine mk_none hB fun x hv hs => h ?_
    have e : x = ⟨p * (pw B d / q), d⟩ := low_unique hB hv.2.2.2.1 hlow (same_trans hB hs hsame.symm)
    rw [e] at hv
    exact ⟨hv.1, hv.2.1⟩
theorem fit_miss {B p q : Int} {d D : Nat} (hB : 1 ≤ B) (hq : 1 ≤ q) (hc : Int.gcd p q = 1) (hD : q ∣ pw B D) (h2 : ∀ k, k < d → ¬ q ∣ pw B k) (h3 : maxScale < pw B d) : fitE B p q D = none := by
  refine mk_none hB fun x hv hs => ?_
  have e := fit_same hB hq hD hs
  have hx : x.depth < d := by
    apply Nat.lt_of_not_le
    intro h
    have := pw_mono hB h
    have := hv.2.2.1
    omega
  exact h2 _ hx (coprime_dvd hc ⟨x.num, by rw [← e, Int.mul_comm]⟩)
theorem fit_far {B p q : Int} {D : Nat} (hB : 1 ≤ B) (hq : 1 ≤ q) (hc : Int.gcd p q = 1) (hD : q ∣ pw B D) (h : p < -maxNum ∨ maxNum < p) : fitE B p q D = none := by
  refine mk_none hB fun x hv hs => ?_
  have e := fit_same hB hq hD hs
  have h1 : p ∣ x.num := by
    refine coprime_dvd (p := q) (q := p) (by rw [Int.gcd_comm]; exact hc) ⟨pw B x.depth, ?_⟩
    rw [Int.mul_comm, e]
  have hm := maxNum_val
  have hx : x.num ≠ 0 := by
    intro h0
    rw [h0, Int.zero_mul] at e
    have hp := pw_pos hB x.depth
    rcases Int.mul_eq_zero.1 e.symm with h' | h' <;> omega
  have h2 : p.natAbs ≤ x.num.natAbs := Nat.le_of_dvd (by omega) (Int.natAbs_dvd_natAbs.2 h1)
  have := hv.1
  have := hv.2.1
  omega
/-- A fraction a / b, b a divisor of a power of the base. -/
theorem fit_reduce {B a b : Int} {D : Nat} (hB : 1 ≤ B) (hb : 1 ≤ b) (hdiv : b ∣ pw B D) : b / (Int.gcd a b : Int) ∣ pw B D ∧ a * (pw B D / b) = a / (Int.gcd a b : Int) * (pw B D / (b / (Int.gcd a b : Int))) := by
  obtain ⟨h1, h2, h3, h4, _⟩ := gcd_facts (a := a) hb
  generalize (Int.gcd a b : Int) = g at *
  generalize hp : a / g = p at *
  generalize hq : b / g = q at *
  obtain ⟨n, hn⟩ := hdiv
  have e2 : pw B D / b = n := by rw [hn]; exact Int.mul_ediv_cancel_left _ (by omega)
  have e1 : pw B D / q = g * n := by rw [hn, h3, Int.mul_assoc]; exact Int.mul_ediv_cancel_left _ (by omega)
  refine ⟨⟨g * n, by rw [hn, h3, Int.mul_assoc]⟩, ?_⟩
  rw [e1, e2, h2, Int.mul_assoc]

/-! ### products -/
def prodOk (a b : Int) : Bool := decide (-maxNum ≤ a * b ∧ a * b ≤ maxNum)
theorem abs_mul_le {a b : Int} {m : Int} : (-m ≤ a * b ∧ a * b ≤ m) ↔ (a.natAbs : Int) * b.natAbs ≤ m := by
  rw [← Int.natCast_mul, ← Int.natAbs_mul]; omega
theorem prodOk_yes {a b : Int} (hb : b ≠ 0) (h : (a.natAbs : Int) ≤ maxNum / (b.natAbs : Int)) : prodOk a b = true := by
  refine decide_eq_true (abs_mul_le.2 ?_)
  exact Int.mul_le_of_le_ediv (by omega) h
theorem prodOk_no {a b : Int} (hb : b ≠ 0) (h : maxNum / (b.natAbs : Int) < (a.natAbs : Int)) : prodOk a b = false := by
  refine decide_eq_false fun hh => ?_
  have h1 := abs_mul_le.1 hh
  have h2 : (a.natAbs : Int) ≤ maxNum / (b.natAbs : Int) := Int.le_ediv_of_mul_le (by omega) h1
  omega
theorem prodOk_zero {a b : Int} (h : a = 0 ∨ b = 0) : prodOk a b = true := by
  refine decide_eq_true ?_
  have hm := maxNum_val
  rcases h with h | h <;> subst h <;> simp <;> omega
theorem mul_reduce {B n k : Int} {d : Nat} (hB : 1 ≤ B) :
    let D := (Int.gcd k (pw B d) : Int)
    let g := (Int.gcd n (pw B d / D) : Int)
    1 ≤ D ∧ 1 ≤ pw B d / D ∧ 1 ≤ g ∧ 1 ≤ pw B d / D / g ∧ pw B d / D / g ∣ pw B d ∧ Int.gcd (n / g * (k / D)) (pw B d / D / g) = 1 ∧ n / g * (k / D) * (pw B d / (pw B d / D / g)) = n * k := by
  intro D g
  obtain ⟨h1, h2, h3, h4, h5⟩ := gcd_facts (a := k) (pw_pos hB d)
  change 1 ≤ D at h1
  change k = k / D * D at h2
  change pw B d = pw B d / D * D at h3
  change 1 ≤ pw B d / D at h4
  change Int.gcd (k / D) (pw B d / D) = 1 at h5
  obtain ⟨g1, g2, g3, g4, g5⟩ := gcd_facts (a := n) h4
  change 1 ≤ g at g1
  change n = n / g * g at g2
  change pw B d / D = pw B d / D / g * g at g3
  change 1 ≤ pw B d / D / g at g4
  change Int.gcd (n / g) (pw B d / D / g) = 1 at g5
  have hS : pw B d = pw B d / D / g * (g * D) := by rw [← Int.mul_assoc, ← g3]; exact h3
  refine ⟨h1, h4, g1, g4, ⟨g * D, hS⟩, ?_, ?_⟩
  · have hk : Int.gcd (k / D) (pw B d / D / g) = 1 := by
      apply Nat.eq_one_of_dvd_one
      have a1 : (Int.gcd (k / D) (pw B d / D / g) : Int) ∣ (Int.gcd (k / D) (pw B d / D) : Int) :=
        Int.dvd_coe_gcd (Int.gcd_dvd_left _ _) (Int.dvd_trans (Int.gcd_dvd_right _ _) ⟨g, g3⟩)
      rw [h5] at a1
      exact Int.natCast_dvd_natCast.1 a1
    have e1 : Nat.Coprime (n / g).natAbs (pw B d / D / g).natAbs := g5
    have e2 : Nat.Coprime (k / D).natAbs (pw B d / D / g).natAbs := hk
    show Nat.gcd (n / g * (k / D)).natAbs _ = 1
    rw [Int.natAbs_mul]
    exact Nat.Coprime.mul_left e1 e2
  · have e : pw B d / (pw B d / D / g) = g * D := by
      conv => lhs; rw [show pw B d / (pw B d / D / g) = (pw B d / D / g * (g * D)) / (pw B d / D / g) by rw [← hS]]
      exact Int.mul_ediv_cancel_left _ (by omega)
    rw [e]
    conv => rhs; rw [g2, h2]
    ac_rfl

/-! ### digits -/
/-- The whole part of x times B^j. -/
def flo (B : Int) (x : E) (j : Nat) : Int := x.num * pw B j / pw B x.depth
def dig (B : Int) (x : E) : Nat → Int
  | 0 => flo B x 0
  | j + 1 => flo B x (j + 1) - B * flo B x j
theorem flo_low {B : Int} (hB : 1 ≤ B) {x : E} {k : Nat} (h : k ≤ x.depth) : flo B x k = x.num / pw B (x.depth - k) := by
  obtain ⟨m, hm⟩ := Nat.exists_eq_add_of_le h
  unfold flo
  have hp := pw_pos hB k
  rw [hm, pw_add, show k + m - k = m by omega, Int.mul_comm (pw B k)]
  exact Int.mul_ediv_mul_of_pos_left _ _ (by omega)
theorem flo_high {B : Int} (hB : 1 ≤ B) {x : E} {k : Nat} (h : x.depth ≤ k) : flo B x k = x.num * pw B (k - x.depth) := by
  obtain ⟨m, hm⟩ := Nat.exists_eq_add_of_le h
  unfold flo
  have hp := pw_pos hB x.depth
  rw [hm, pw_add, show x.depth + m - x.depth = m by omega, Int.mul_left_comm]
  exact Int.mul_ediv_cancel_left _ (by omega)
theorem dig_low {B : Int} (hB : 1 ≤ B) {x : E} {k : Nat} (h : k < x.depth) : x.num % pw B (x.depth - k) / pw B (x.depth - k - 1) = dig B x (k + 1) := by
  show _ = flo B x (k + 1) - B * flo B x k
  rw [flo_low hB (by omega), flo_low hB (show k ≤ x.depth by omega), show x.depth - (k + 1) = x.depth - k - 1 by omega]
  obtain ⟨m, hm⟩ : ∃ m, x.depth - k = m + 1 := ⟨x.depth - k - 1, by omega⟩
  rw [hm, Nat.add_sub_cancel, pw_succ]
  have hp := pw_pos hB m
  have e := Int.mul_ediv_add_emod x.num (pw B m * B)
  generalize x.num / (pw B m * B) = q at *
  generalize x.num % (pw B m * B) = r at *
  rw [← e, Int.mul_assoc, Int.add_comm, Int.add_mul_ediv_left _ _ (by omega)]
  omega
theorem dig_high {B : Int} (hB : 1 ≤ B) {x : E} {k : Nat} (h : x.depth < k) : dig B x k = 0 := by
  obtain ⟨m, rfl⟩ : ∃ m, k = m + 1 := ⟨k - 1, by omega⟩
  show flo B x (m + 1) - B * flo B x m = 0
  rw [flo_high hB (by omega), flo_high hB (show x.depth ≤ m by omega), show m + 1 - x.depth = (m - x.depth) + 1 by omega, pw_succ]
  rw [Int.mul_comm B, Int.mul_assoc]; omega
theorem div_mono {a b c d : Int} (hb : 1 ≤ b) (hd : 1 ≤ d) (h : c * b ≤ a * d) : c / d ≤ a / b := by
  apply Int.le_ediv_of_mul_le (by omega)
  have h1 : c / d * d ≤ c := Int.ediv_mul_le c (by omega)
  have h2 : c / d * d * b ≤ c * b := Int.mul_le_mul_of_nonneg_right h1 (by omega)
  apply Int.le_of_mul_le_mul_right (a := d) _ (by omega)
  rw [Int.mul_right_comm]; omega
theorem flo_mono {B : Int} (hB : 1 ≤ B) {x y : E} (j : Nat) (h : y.num * pw B x.depth ≤ x.num * pw B y.depth) : flo B y j ≤ flo B x j := by
  unfold flo
  refine div_mono (pw_pos hB _) (pw_pos hB _) ?_
  rw [Int.mul_right_comm, Int.mul_right_comm x.num]
  exact Int.mul_le_mul_of_nonneg_right h (by have := pw_pos hB j; omega)
/-- -1, 0 or 1. -/
def cmpE (B : Int) (x y : E) : Int := if x.num * pw B y.depth < y.num * pw B x.depth then -1 else if y.num * pw B x.depth < x.num * pw B y.depth then 1 else 0
theorem cmp_bd (B : Int) (x y : E) : -1 ≤ cmpE B x y ∧ cmpE B x y ≤ 1 := by
  unfold cmpE
  by_cases h1 : x.num * pw B y.depth < y.num * pw B x.depth
  · rw [if_pos h1]; omega
  · rw [if_neg h1]
    by_cases h2 : y.num * pw B x.depth < x.num * pw B y.depth
    · rw [if_pos h2]; omega
    · rw [if_neg h2]; omega
theorem cmp_lt {B : Int} (hB : 1 ≤ B) {x y : E} {j : Nat} (h : flo B x j < flo B y j) : cmpE B x y = -1 := by
  unfold cmpE
  rw [if_pos]
  apply Int.not_le.1
  intro h'
  have := flo_mono hB j h'
  omega
theorem cmp_gt {B : Int} (hB : 1 ≤ B) {x y : E} {j : Nat} (h : flo B y j < flo B x j) : cmpE B x y = 1 := by
  have h1 : y.num * pw B x.depth < x.num * pw B y.depth := by
    apply Int.not_le.1
    intro h'
    have := flo_mono hB j h'
    omega
  unfold cmpE
  rw [if_neg (by omega), if_pos h1]
theorem cmp_eq {B : Int} (hB : 1 ≤ B) {x y : E} {j : Nat} (hx : x.depth ≤ j) (hy : y.depth ≤ j) (h : flo B x j = flo B y j) : cmpE B x y = 0 := by
  rw [flo_high hB hx, flo_high hB hy] at h
  have e : x.num * pw B y.depth = y.num * pw B x.depth := by
    have hp := pw_pos hB j
    apply Int.eq_of_mul_eq_mul_right (a := pw B j) (by omega)
    have e1 : pw B j = pw B (j - x.depth) * pw B x.depth := by rw [← pw_add]; congr 1; omega
    have e2 : pw B j = pw B (j - y.depth) * pw B y.depth := by rw [← pw_add]; congr 1; omega
    calc x.num * pw B y.depth * pw B j = x.num * pw B (j - x.depth) * (pw B x.depth * pw B y.depth) := by rw [e1]; ac_rfl
      _ = y.num * pw B (j - y.depth) * (pw B x.depth * pw B y.depth) := by rw [h]
      _ = y.num * pw B x.depth * pw B j := by rw [e2]; ac_rfl
  unfold cmpE
  rw [if_neg (by omega), if_neg (by omega)]
theorem dig_lt {B : Int} (hB : 1 ≤ B) {x y : E} {j : Nat} (h0 : ∀ i, i < j → flo B x i = flo B y i) (h : dig B x j < dig B y j) : cmpE B x y = -1 := by
  refine cmp_lt hB (j := j) ?_
  cases j with
  | zero => exact h
  | succ j =>
    have := h0 j (by omega)
    simp only [dig] at h
    rw [this] at h; omega
theorem dig_gt {B : Int} (hB : 1 ≤ B) {x y : E} {j : Nat} (h0 : ∀ i, i < j → flo B x i = flo B y i) (h : dig B y j < dig B x j) : cmpE B x y = 1 := by
  refine cmp_gt hB (j := j) ?_
  cases j with
  | zero => exact h
  | succ j =>
    have := h0 j (by omega)
    simp only [dig] at h
    rw [this] at h; omega
theorem dig_eq {B : Int} {x y : E} {j : Nat} (h0 : ∀ i, i < j → flo B x i = flo B y i) (h : dig B x j = dig B y j) : ∀ i, i < j + 1 → flo B x i = flo B y i := by
  intro i hi
  by_cases e : i < j
  · exact h0 i e
  · have : i = j := by omega
    subst this
    cases i with
    | zero => exact h
    | succ i =>
      have := h0 i (by omega)
      simp only [dig] at h
      rw [this] at h; omega
theorem cmp_ltE {B : Int} {x y : E} : (cmpE B x y < 0) = (ltE B x y = true) := by
  unfold cmpE ltE
  simp only [decide_eq_true_eq]
  split
  · simp [*]
  · split <;> simp [*]
theorem cmp_swap {B : Int} {x y : E} : (0 < cmpE B x y) = (ltE B y x = true) := by
  unfold cmpE ltE
  simp only [decide_eq_true_eq]
  split
  · simp; omega
  · split <;> simp [*]

/-! ### the last step of a mean -/
theorem mean_dvd {B : Int} (hB : 1 ≤ B) {s : E} (hv : Val B s) (h : B ∣ s.num) : mk B s.num (s.depth + 1) = some ⟨s.num / B, 0⟩ := by
  have h0 : s.depth = 0 := hv.2.2.2.1.elim id fun h' => absurd h h'
  have hm := maxNum_val
  rw [h0, mk_strip (m := s.num / B) (e := 0) (by rw [Nat.zero_add, strip_go h]; rfl), if_pos]
  obtain ⟨u, hu⟩ := h
  have e : s.num / B = u := by rw [hu]; exact Int.mul_ediv_cancel_left _ (by omega)
  have h1 := hv.1
  have h2 := hv.2.1
  rw [hu] at h1 h2
  rw [e]
  refine valB_zero ?_ ?_
  · rcases Int.le_total 0 u with hu0 | hu0
    · omega
    · have := Int.mul_le_mul_of_nonpos_right hB hu0; omega
  · rcases Int.le_total 0 u with hu0 | hu0
    · have := Int.mul_le_mul_of_nonneg_right hB hu0; omega
    · omega
theorem mean_not {B : Int} {s : E} (h : ¬ B ∣ s.num) : mk B s.num (s.depth + 1) = if valB B s.num (s.depth + 1) then some ⟨s.num, s.depth + 1⟩ else none := mk_strip (strip_stop h)
end Go.Proofs.YtlbkfhdnhalpbaaGreat.Ra

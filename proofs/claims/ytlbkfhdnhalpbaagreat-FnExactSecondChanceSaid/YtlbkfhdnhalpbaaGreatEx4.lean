/- Plain facts on the ways in which the program multiplies and compares exact numbers. No program is in sight; there are no conditions. -/
import Derived.Test.YtlbkfhdnhalpbaaGreatEx3
namespace Go.Proofs.YtlbkfhdnhalpbaaGreat.Ra
set_option linter.unusedVariables false
set_option linter.unusedSimpArgs false
open Go.Proofs.YtlbkfhdnhalpbaaGreat.Ex Go.Proofs.YtlbkfhdnhalpbaaGreat.Ps

/-! ### products of 128 bits -/
def two64 : Int := 18446744073709551616
def hiW (u : Int) : Int := u / two64
def loW (u : Int) : Int := u % two64
theorem hl_bd {u : Int} (h : 0 ≤ u) : 0 ≤ hiW u ∧ 0 ≤ loW u := by unfold hiW loW two64; omega
theorem hl_eq {u v : Int} (h1 : hiW u = hiW v) (h2 : loW u = loW v) : u = v := by unfold hiW loW two64 at *; omega
theorem hl_lt {u v : Int} (h : u < v) : hiW u < hiW v ∨ hiW u = hiW v ∧ loW u < loW v := by unfold hiW loW two64 at *; omega
theorem hi_small {u : Int} (h0 : 0 ≤ u) (h : u < 18446744073709551616) : hiW u = 0 ∧ loW u = u := by unfold hiW loW two64; omega

/-! ### comparing -/
theorem cmp_np {B : Int} (hB : 1 ≤ B) {x y : E} (h1 : x.num < 0) (h2 : 0 ≤ y.num) : cmpE B x y = -1 := by
  have hx := pw_pos hB x.depth
  have hy := pw_pos hB y.depth
  have a : x.num * pw B y.depth < 0 := Int.mul_neg_of_neg_of_pos h1 (by omega)
  have b : 0 ≤ y.num * pw B x.depth := Int.mul_nonneg h2 (by omega)
  unfold cmpE
  rw [if_pos (by omega)]
theorem cmp_pn {B : Int} (hB : 1 ≤ B) {x y : E} (h1 : 0 ≤ x.num) (h2 : y.num < 0) : cmpE B x y = 1 := by
  have hx := pw_pos hB x.depth
  have hy := pw_pos hB y.depth
  have a : y.num * pw B x.depth < 0 := Int.mul_neg_of_neg_of_pos h2 (by omega)
  have b : 0 ≤ x.num * pw B y.depth := Int.mul_nonneg h1 (by omega)
  unfold cmpE
  rw [if_neg (by omega), if_pos (by omega)]
/-- The two products that are compared. -/
def crs (B : Int) (x y : E) : Int := (x.num.natAbs : Int) * pw B y.depth
theorem crs_pos {B : Int} {x y : E} (h : 0 ≤ x.num) : crs B x y = x.num * pw B y.depth := by unfold crs; rw [show (x.num.natAbs : Int) = x.num by omega]
theorem crs_neg {B : Int} {x y : E} (h : x.num < 0) : crs B x y = -(x.num * pw B y.depth) := by unfold crs; rw [show (x.num.natAbs : Int) = -x.num by omega, Int.neg_mul]
theorem cmp_same {B : Int} {x y : E} (h : crs B x y = crs B y x) (hs : (x.num < 0 ∧ y.num < 0) ∨ (0 ≤ x.num ∧ 0 ≤ y.num)) : cmpE B x y = 0 := by
  rcases hs with ⟨h1, h2⟩ | ⟨h1, h2⟩
  · rw [crs_neg h1, crs_neg h2] at h
    unfold cmpE; rw [if_neg (by omega), if_neg (by omega)]
  · rw [crs_pos h1, crs_pos h2] at h
    unfold cmpE; rw [if_neg (by omega), if_neg (by omega)]
theorem cmp_pp_lt {B : Int} {x y : E} (h : crs B x y < crs B y x) (h1 : 0 ≤ x.num) (h2 : 0 ≤ y.num) : cmpE B x y = -1 := by
  rw [crs_pos h1, crs_pos h2] at h
  unfold cmpE; rw [if_pos (by omega)]
theorem cmp_pp_gt {B : Int} {x y : E} (h : crs B y x < crs B x y) (h1 : 0 ≤ x.num) (h2 : 0 ≤ y.num) : cmpE B x y = 1 := by
  rw [crs_pos h1, crs_pos h2] at h
  unfold cmpE; rw [if_neg (by omega), if_pos (by omega)]
theorem cmp_nn_lt {B : Int} {x y : E} (h : crs B x y < crs B y x) (h1 : x.num < 0) (h2 : y.num < 0) : cmpE B x y = 1 := by
  rw [crs_neg h1, crs_neg h2] at h
  unfold cmpE; rw [if_neg (by omega), if_pos (by omega)]
theorem cmp_nn_gt {B : Int} {x y : E} (h : crs B y x < crs B x y) (h1 : x.num < 0) (h2 : y.num < 0) : cmpE B x y = -1 := by
  rw [crs_neg h1, crs_neg h2] at h
  unfold cmpE; rw [if_pos (by omega)]
theorem crs_bd {B : Int} (hB : 1 ≤ B) {x y : E} (hx : Val B x) (hy : Val B y) : 0 ≤ crs B x y ∧ crs B x y ≤ 1000000000000000000000000000000000 := by
  have h1 : (x.num.natAbs : Int) ≤ 1000000000000000000 := by have := hx.1; have := hx.2.1; unfold maxNum at *; omega
  have h2 := hy.2.2.1
  have hp := pw_pos hB y.depth
  unfold maxScale at h2
  unfold crs
  constructor
  · exact Int.mul_nonneg (by omega) (by omega)
  · have := Int.mul_le_mul h1 h2 (by omega) (by omega)
    omega

/-! ### multiples -/
/-- The sign of a product. -/
def sgP (x k : Int) : Int := if (x < 0 ∧ ¬ k < 0) ∨ (¬ x < 0 ∧ k < 0) then -1 else 1
theorem sgP_mul (x k : Int) : x * k = sgP x k * ((x.natAbs : Int) * k.natAbs) := by
  unfold sgP
  rcases Int.lt_or_le x 0 with h1 | h1 <;> rcases Int.lt_or_le k 0 with h2 | h2
  · rw [if_neg (by omega), show (x.natAbs : Int) = -x by omega, show (k.natAbs : Int) = -k by omega]; simp [Int.neg_mul, Int.mul_neg, Int.neg_neg]
  · rw [if_pos (by omega), show (x.natAbs : Int) = -x by omega, show (k.natAbs : Int) = k by omega]; simp [Int.neg_mul, Int.mul_neg, Int.neg_neg]
  · rw [if_pos (by omega), show (x.natAbs : Int) = x by omega, show (k.natAbs : Int) = -k by omega]; simp [Int.neg_mul, Int.mul_neg, Int.neg_neg]
  · rw [if_neg (by omega), show (x.natAbs : Int) = x by omega, show (k.natAbs : Int) = k by omega]; simp [Int.neg_mul, Int.mul_neg, Int.neg_neg]
theorem sgP_one (x k : Int) : sgP x k = 1 ∨ sgP x k = -1 := by unfold sgP; split <;> simp
theorem sg_dvd {B g u : Int} (hg : g = 1 ∨ g = -1) : B ∣ g * u ↔ B ∣ u := by
  rcases hg with rfl | rfl
  · rw [Int.one_mul]
  · rw [Int.neg_mul, Int.one_mul, Int.dvd_neg]
theorem mk_down {B g u : Int} {j : Nat} (hg : g = 1 ∨ g = -1) (h : B ∣ u) : mk B (g * u) (j + 1) = mk B (g * (u / B)) j := by
  have e : g * u / B = g * (u / B) := by
    rcases hg with rfl | rfl
    · rw [Int.one_mul, Int.one_mul]
    · rw [Int.neg_mul, Int.one_mul, Int.neg_mul, Int.one_mul]; exact Int.neg_ediv_of_dvd h
  unfold mk
  rw [strip_go ((sg_dvd hg).2 h), e]
theorem mk_far {B n : Int} {j : Nat} (hs : j = 0 ∨ ¬ B ∣ n) (h : n < -maxNum ∨ maxNum < n) : mk B n j = none := by
  have e : strip B j n = ⟨n, j⟩ := strip_of_low hs
  rw [mk_strip e, if_neg]
  rw [Bool.not_eq_true]
  exact valB_far h
end Go.Proofs.YtlbkfhdnhalpbaaGreat.Ra

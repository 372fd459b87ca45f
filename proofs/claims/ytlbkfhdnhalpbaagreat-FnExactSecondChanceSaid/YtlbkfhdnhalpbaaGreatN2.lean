/- Contracts of the scales of exact numbers, the program's and the reference's. There are no conditions. -/
import Derived.Test.YtlbkfhdnhalpbaaGreatN1
namespace Go.Proofs.YtlbkfhdnhalpbaaGreat
set_option linter.unusedVariables false
set_option linter.unusedSimpArgs false
open Go.RowKit Ps Ra Ex

def scl (B : Int) (d : Nat) : Int := if pw B d ≤ maxScale then pw B d else 0
def sclB (B : Int) (d : Nat) : Bool := decide (pw B d ≤ maxScale)
theorem scl_ok {B : Int} {d : Nat} (h : pw B d ≤ 1000000000000000) : scl B d = pw B d ∧ sclB B d = true := ⟨if_pos h, decide_eq_true h⟩
theorem scl_no {B : Int} {d : Nat} (h : 1000000000000000 < pw B d) : scl B d = 0 ∧ sclB B d = false := ⟨if_neg (by show ¬ _ ≤ (1000000000000000 : Int); omega), decide_eq_false (by show ¬ _ ≤ (1000000000000000 : Int); omega)⟩

set_option maxRecDepth 10000 in
theorem scaleOf_any (p c h : Int) (s d : Nat) (w : World) (hs1 : 1 ≤ s) (hs6 : s ≤ 6) (hd : d ≤ 1000) :
    Calls Tryz.prog 184 #[.agg #[.int .i64 p, .int .i64 c, .int .i64 h, .int .i64 s], .int .i64 d] w fun e w' => e = .returned (.tuple #[.int .i64 (scl (sq s) d), .bool (sclB (sq s) d)]) ∧ Below w.heap.size w w' := by
  have HB : Hid (Below w.heap.size w (w.alloc (.cells #[.int .i64 p, .int .i64 c, .int .i64 h, .int .i64 s] 29))) := (Below.refl _ _).alloc (Nat.le_refl _) _
  obtain ⟨hq1, hq36, hq4⟩ := sq_bd hs1 hs6
  have CB := Lib.hid fun (W : World) => baseOf_any p c h s W hs6
  by_cases hone : sq s = 1
  · have b1 : (sq s == 1) = true := by simp [hone]
    have HF : Hid (scl (sq s) d = 1 ∧ sclB (sq s) d = true) := by
      have := scl_ok (B := sq s) (d := d) (by rw [hone, pw_one]; decide)
      rw [hone, pw_one] at this; rw [hone]; exact this
    clear hone hq4
    go_enter Tryz.func184, Tryz.ntmps184
    go_wp2_with (go_at_call 175; refine (more_first (CB.out _)).mono ?_; rintro e w' ⟨rfl, t, rfl⟩)
    go_ret2
    exact ⟨by rw [HF.out.1, HF.out.2]; rfl, HB.out.trans ((below_more _ _).mono HB.out.size)⟩
  · have b1 : (sq s == 1) = false := by simp [hone]
    have hq : 4 ≤ sq s := by omega
    clear hone hq4
    go_enter Tryz.func184, Tryz.ntmps184
    go_wp2_with (go_at_call 175; refine (more_first (CB.out _)).mono ?_; rintro e w' ⟨rfl, t, rfl⟩)
    go_loopw [6, 11] (fun sc i wr => ∃ k : Nat, k ≤ d ∧ i = .int .i64 k ∧ sc = .int .i64 (pw (sq s) k) ∧ pw (sq s) k ≤ 1000000000000000 ∧ Below (w.heap.size + 1) (w.alloc (.cells #[.int .i64 p, .int .i64 c, .int .i64 h, .int .i64 s] 29)) wr) (fun _ i _ => d - (intOf i).toNat)
    case atStart => exact ⟨0, by omega, rfl, rfl, by rw [pw_zero]; omega, (below_more _ _).mono (by simp)⟩
    case round =>
      obtain ⟨k, hk, rfl, rfl, hle, hb⟩ := hrel
      have hb0 : Below w.heap.size w wr := HB.out.trans (hb.mono (by omega))
      have hz : w.heap.size < wr.heap.size := by have := hb.size; simp at this; omega
      have c0 : wr.cell? ⟨w.heap.size, 0, none⟩ = some (.int .i64 p) := by rw [hb.cell (by simp)]; simp [go_sem]
      have c1 : wr.cell? ⟨w.heap.size, 1, none⟩ = some (.int .i64 c) := by rw [hb.cell (by simp)]; simp [go_sem]
      have c2 : wr.cell? ⟨w.heap.size, 2, none⟩ = some (.int .i64 h) := by rw [hb.cell (by simp)]; simp [go_sem]
      have c3 : wr.cell? ⟨w.heap.size, 3, none⟩ = some (.int .i64 s) := by rw [hb.cell (by simp)]; simp [go_sem]
      have HBk := Lib.hid hb
      have HB0 := Lib.hid hb0
      have hp := pw_pos hq1 k
      have g1 : pw (sq s) k * sq s ≤ 1000000000000000 * 36 := Int.mul_le_mul hle hq36 (by omega) (by omega)
      have g0 : 0 ≤ pw (sq s) k * sq s := Int.mul_nonneg (by omega) (by omega)
      clear hb hb0
      by_cases hlt : k < d
      · by_cases hbig : pw (sq s) k * sq s ≤ 1000000000000000
        · go_wp2_with (go_at_call 175; refine (more_first (CB.out _)).mono ?_; rintro e w' ⟨rfl, t, rfl⟩)
          go_roundw
          case rel => exact ⟨k + 1, by omega, by go_num, rfl, hbig, HBk.out.trans ((below_more _ _).mono (by omega))⟩
          case measure => simp [intOf]; omega
        · have HF : Hid (scl (sq s) d = 0 ∧ sclB (sq s) d = false) := scl_no (by have := pw_mono hq1 (show k + 1 ≤ d by omega); rw [pw_succ] at this; omega)
          have hbig' : 1000000000000000 < pw (sq s) k * sq s := by omega
          clear hbig
          go_wp2_with (go_at_call 175; refine (more_first (CB.out _)).mono ?_; rintro e w' ⟨rfl, t, rfl⟩)
          go_ret2
          exact ⟨by rw [HF.out.1, HF.out.2]; rfl, HB0.out.trans ((below_more _ _).mono (by omega))⟩
      · obtain rfl : k = d := by omega
        have HF : Hid (scl (sq s) k = pw (sq s) k ∧ sclB (sq s) k = true) := scl_ok hle
        go_wp2
        go_ret2
        exact ⟨by rw [HF.out.1, HF.out.2]; rfl, HB0.out⟩

set_option maxRecDepth 10000 in
theorem l09Scale_any (p c h : Int) (s d : Nat) (w : World) (hs1 : 1 ≤ s) (hs6 : s ≤ 6) (hd : d ≤ 1000) :
    Calls Tryz.prog 158 #[.agg #[.int .i64 p, .int .i64 c, .int .i64 h, .int .i64 s], .int .i64 d] w fun e w' => e = .returned (.tuple #[.int .i64 (scl (sq s) d), .bool (sclB (sq s) d)]) ∧ Below w.heap.size w w' := by
  have HB : Hid (Below w.heap.size w (w.alloc (.cells #[.int .i64 p, .int .i64 c, .int .i64 h, .int .i64 s] 29))) := (Below.refl _ _).alloc (Nat.le_refl _) _
  obtain ⟨hq1, hq36, hq4⟩ := sq_bd hs1 hs6
  have CB := Lib.hid fun (W : World) => l09Base_any p c h s W hs6
  go_enter Tryz.func158, Tryz.ntmps158
  go_wp2
  go_loopw [6, 7] (fun sc i wr => ∃ k : Nat, k ≤ d ∧ i = .int .i64 k ∧ sc = .int .i64 (pw (sq s) k) ∧ pw (sq s) k ≤ 1000000000000000 ∧ Below (w.heap.size + 1) (w.alloc (.cells #[.int .i64 p, .int .i64 c, .int .i64 h, .int .i64 s] 29)) wr) (fun _ i _ => d - (intOf i).toNat)
  case atStart => exact ⟨0, by omega, rfl, rfl, by rw [pw_zero]; omega, Below.refl _ _⟩
  case round =>
    obtain ⟨k, hk, rfl, rfl, hle, hb⟩ := hrel
    have hb0 : Below w.heap.size w wr := HB.out.trans (hb.mono (by omega))
    have hz : w.heap.size < wr.heap.size := by have := hb.size; simp at this; omega
    have c0 : wr.cell? ⟨w.heap.size, 0, none⟩ = some (.int .i64 p) := by rw [hb.cell (by simp)]; simp [go_sem]
    have c1 : wr.cell? ⟨w.heap.size, 1, none⟩ = some (.int .i64 c) := by rw [hb.cell (by simp)]; simp [go_sem]
    have c2 : wr.cell? ⟨w.heap.size, 2, none⟩ = some (.int .i64 h) := by rw [hb.cell (by simp)]; simp [go_sem]
    have c3 : wr.cell? ⟨w.heap.size, 3, none⟩ = some (.int .i64 s) := by rw [hb.cell (by simp)]; simp [go_sem]
    have HBk := Lib.hid hb
    have HB0 := Lib.hid hb0
    have hp := pw_pos hq1 k
    have g1 : pw (sq s) k * sq s ≤ 1000000000000000 * 36 := Int.mul_le_mul hle hq36 (by omega) (by omega)
    have g0 : 0 ≤ pw (sq s) k * sq s := Int.mul_nonneg (by omega) (by omega)
    clear hb hb0
    by_cases hlt : k < d
    · by_cases hone : sq s = 1
      · have HF : Hid (scl (sq s) d = pw (sq s) k ∧ sclB (sq s) d = true) := by
          have := scl_ok (B := sq s) (d := d) (by rw [hone, pw_one]; decide)
          rw [hone, pw_one] at this; rw [hone, pw_one]; exact this
        have b1 : decide (1 < sq s) = false := by simp [hone]
        clear hone hq4
        go_wp2_with (go_at_call 173; refine (more_first (CB.out _)).mono ?_; rintro e w' ⟨rfl, t, rfl⟩)
        go_ret2
        exact ⟨by rw [HF.out.1, HF.out.2]; rfl, HB0.out.trans ((below_more _ _).mono (by omega))⟩
      · have b1 : 1 < sq s := by omega
        clear hone hq4
        by_cases hbig : pw (sq s) k * sq s ≤ 1000000000000000
        · go_wp2_with (go_at_call 173; refine (more_first (CB.out _)).mono ?_; rintro e w' ⟨rfl, t, rfl⟩)
          go_roundw
          case rel => exact ⟨k + 1, by omega, by go_num, rfl, hbig, blw (blw HBk.out (by simp)) (by simp)⟩
          case measure => simp [intOf]; omega
        · have HF : Hid (scl (sq s) d = 0 ∧ sclB (sq s) d = false) := scl_no (by have := pw_mono hq1 (show k + 1 ≤ d by omega); rw [pw_succ] at this; omega)
          have hbig' : 1000000000000000 < pw (sq s) k * sq s := by omega
          clear hbig
          go_wp2_with (go_at_call 173; refine (more_first (CB.out _)).mono ?_; rintro e w' ⟨rfl, t, rfl⟩)
          go_ret2
          exact ⟨by rw [HF.out.1, HF.out.2]; rfl, blw (blw HB0.out (Nat.le_refl _)) (Nat.le_refl _)⟩
    · obtain rfl : k = d := by omega
      have HF : Hid (scl (sq s) k = pw (sq s) k ∧ sclB (sq s) k = true) := scl_ok hle
      go_wp2
      go_ret2
      exact ⟨by rw [HF.out.1, HF.out.2]; rfl, HB0.out⟩
end Go.Proofs.YtlbkfhdnhalpbaaGreat

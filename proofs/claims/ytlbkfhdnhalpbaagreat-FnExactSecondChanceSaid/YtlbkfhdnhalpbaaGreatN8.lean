/- Contracts of the reference's greatest common divisor, product, fraction. There are no conditions. -/
import Derived.Test.YtlbkfhdnhalpbaaGreatN4
namespace Go.Proofs.YtlbkfhdnhalpbaaGreat
set_option linter.unusedVariables false
set_option linter.unusedSimpArgs false
open Go.RowKit Ps Ra Ex

theorem l09Gcd_any (a b : Int) (w : World) (ha1 : -9000000000000000000 ≤ a) (ha2 : a ≤ 9000000000000000000) (hb1 : -9000000000000000000 ≤ b) (hb2 : b ≤ 9000000000000000000) :
    Calls Tryz.prog 159 #[.int .i64 a, .int .i64 b] w fun e w' => e = .returned (.int .i64 (Int.gcd a b : Int)) ∧ w = w' := by
  go_enter Tryz.func159, Tryz.ntmps159
  go_wp2
  all_goals
    go_loop [0, 1] (fun u v => ∃ x y : Nat, u = .int .i64 x ∧ v = .int .i64 y ∧ (x : Int) ≤ 9000000000000000000 ∧ (y : Int) ≤ 9000000000000000000 ∧ Hid (Nat.gcd x y = Int.gcd a b)) (fun _ v => (intOf v).toNat)
    case atStart => exact ⟨a.natAbs, b.natAbs, by congr 1; omega, by congr 1; omega, by omega, by omega, rfl⟩
    case round =>
      obtain ⟨x, y, rfl, rfl, hx, hy, hg⟩ := hrel
      by_cases h0 : y = 0
      · subst h0
        have e : Hid (x = Int.gcd a b) := by have := hg.out; rw [Nat.gcd_zero_right] at this; exact this
        clear hg
        go_wp2
        go_ret
        exact ⟨ret_int (by rw [← e.out]), rfl⟩
      · have b1 : ((y : Int) != 0) = true := by simp; omega
        have hy1 : 1 ≤ (y : Int) := by omega
        have hlt : (x : Int) % y < y := Int.emod_lt_of_pos _ (by omega)
        have hnn : 0 ≤ (x : Int) % y := Int.emod_nonneg _ (by omega)
        have hg' : Hid (Nat.gcd y (x % y) = Int.gcd a b) := by rw [Hid, gcd_step]; exact hg.out
        have E : Hid ((x : Int) % y = ((x % y : Nat) : Int)) := by rw [Hid, Int.natCast_emod]
        clear h0
        go_wp2
        go_round
        case rel => exact ⟨y, x % y, rfl, by rw [E.out], hy, by rw [← E.out]; omega, hg'⟩
        case measure => simp [intOf]; omega

theorem l09Times_ok (a b : Int) (w : World) (ha1 : -9000000000000000000 ≤ a) (ha2 : a ≤ 9000000000000000000) (hb1 : 1 ≤ b) (hb2 : b ≤ 9000000000000000000) (hok : prodOk a b = true) :
    Calls Tryz.prog 160 #[.int .i64 a, .int .i64 b] w fun e w' => e = .returned (.tuple #[.int .i64 (a * b), .bool true]) ∧ w = w' := by
  have hm := maxNum_val
  obtain ⟨hp1, hp2⟩ := of_decide_eq_true hok
  rw [hm] at hp1 hp2
  by_cases ha0 : a = 0
  · have e1 : (a != 0) = false := by simp [ha0]
    clear ha0 hok
    go_enter Tryz.func160, Tryz.ntmps160
    go_wp2
    go_ret2
    exact ⟨rfl, rfl⟩
  · have hb0 : b ≠ 0 := by omega
    have e1 : (a != 0) = true := by simp [ha0]
    have e2 : (b != 0) = true := by simp [hb0]
    obtain ⟨A, hA⟩ : ∃ A : Int, (a.natAbs : Int) = A := ⟨_, rfl⟩
    obtain ⟨B, hB⟩ : ∃ B : Int, (b.natAbs : Int) = B := ⟨_, rfl⟩
    have hq : ¬ 1000000000000000000 / B < A := fun hq => by
      have := prodOk_no (a := a) hb0 (by rw [hA, hB, hm]; exact hq)
      rw [hok] at this; cases this
    clear hok ha0
    obtain rfl : B = b := by omega
    rcases Int.lt_or_le a 0 with h3 | h3
    · obtain rfl : A = -a := by omega
      have hqd : decide (1000000000000000000 / B < -a) = false := decide_eq_false hq
      clear hb0 hA hB hm
      go_enter Tryz.func160, Tryz.ntmps160
      go_wp2
      go_ret2
      exact ⟨rfl, rfl⟩
    · obtain rfl : A = a := by omega
      have hqd : decide (1000000000000000000 / B < A) = false := decide_eq_false hq
      clear hb0 hA hB hm
      go_enter Tryz.func160, Tryz.ntmps160
      go_wp2
      go_ret2
      exact ⟨rfl, rfl⟩
theorem l09Times_no (a b : Int) (w : World) (ha1 : -9000000000000000000 ≤ a) (ha2 : a ≤ 9000000000000000000) (hb1 : 1 ≤ b) (hb2 : b ≤ 9000000000000000000) (hno : prodOk a b = false) :
    Calls Tryz.prog 160 #[.int .i64 a, .int .i64 b] w fun e w' => e = .returned (.tuple #[.int .i64 0, .bool false]) ∧ w = w' := by
  have hm := maxNum_val
  have ha0 : a ≠ 0 := fun h => by rw [prodOk_zero (.inl h)] at hno; cases hno
  have hb0 : b ≠ 0 := by omega
  have e1 : (a != 0) = true := by simp [ha0]
  have e2 : (b != 0) = true := by simp [hb0]
  obtain ⟨A, hA⟩ : ∃ A : Int, (a.natAbs : Int) = A := ⟨_, rfl⟩
  obtain ⟨B, hB⟩ : ∃ B : Int, (b.natAbs : Int) = B := ⟨_, rfl⟩
  have hq : 1000000000000000000 / B < A := by
    apply Int.not_le.1
    intro hq
    rw [prodOk_yes (a := a) hb0 (by rw [hA, hB, hm]; exact hq)] at hno
    cases hno
  clear hno ha0
  obtain rfl : B = b := by omega
  rcases Int.lt_or_le a 0 with h3 | h3
  · obtain rfl : A = -a := by omega
    clear hb0 hA hB hm
    go_enter Tryz.func160, Tryz.ntmps160
    go_wp2
    go_ret2
    exact ⟨rfl, rfl⟩
  · obtain rfl : A = a := by omega
    clear hb0 hA hB hm
    go_enter Tryz.func160, Tryz.ntmps160
    go_wp2
    go_ret2
    exact ⟨rfl, rfl⟩

theorem least_dvd {B q : Int} : ∀ {D : Nat}, q ∣ pw B D → ∃ d, d ≤ D ∧ q ∣ pw B d ∧ ∀ k, k < d → ¬ q ∣ pw B k
  | 0, h => ⟨0, Nat.le_refl _, h, fun k hk => absurd hk (by omega)⟩
  | D + 1, h => by
    by_cases hD : ∃ k, k < D + 1 ∧ q ∣ pw B k
    · obtain ⟨k, hk, hd⟩ := hD
      have := least_below k hd
      obtain ⟨d, h1, h2, h3⟩ := this
      exact ⟨d, by omega, h2, h3⟩
    · exact ⟨D + 1, Nat.le_refl _, h, fun k hk hd => hD ⟨k, hk, hd⟩⟩
where
  least_below : ∀ (k : Nat), q ∣ pw B k → ∃ d, d ≤ k ∧ q ∣ pw B d ∧ ∀ j, j < d → ¬ q ∣ pw B j := by
    intro k
    induction k using Nat.strongRecOn with
    | _ k ih =>
      intro hd
      by_cases hk : ∃ j, j < k ∧ q ∣ pw B j
      · obtain ⟨j, hj, hjd⟩ := hk
        obtain ⟨d, h1, h2, h3⟩ := ih j hj hjd
        exact ⟨d, by omega, h2, h3⟩
      · exact ⟨k, Nat.le_refl _, hd, fun j hj hjd => hk ⟨j, hj, hjd⟩⟩


set_option maxHeartbeats 1000000 in
set_option maxRecDepth 10000 in
theorem l09Fit_hit (p c h a b : Int) (s d : Nat) (w : World) (hs1 : 1 ≤ s) (hs6 : s ≤ 6) (hD : d ≤ 50) (hb1 : 1 ≤ b) (hb2 : b ≤ 9000000000000000000) (ha1 : -9000000000000000000 ≤ a) (ha2 : a ≤ 9000000000000000000)
    (h1 : b / (Int.gcd a b : Int) ∣ pw (sq s) d) (h2 : Hid (∀ k, k < d → ¬ b / (Int.gcd a b : Int) ∣ pw (sq s) k)) (h3 : pw (sq s) d ≤ 1000000000000000) (hok : prodOk (a / (Int.gcd a b : Int)) (pw (sq s) d / (b / (Int.gcd a b : Int))) = true) :
    Calls Tryz.prog 161 #[.agg #[.int .i64 p, .int .i64 c, .int .i64 h, .int .i64 s], .int .i64 a, .int .i64 b] w fun e w' => e = .returned (.tuple #[.agg #[.int .i64 (a / (Int.gcd a b : Int) * (pw (sq s) d / (b / (Int.gcd a b : Int)))), .int .i64 d], .bool true]) ∧ Below w.heap.size w w' := by
  obtain ⟨hq1, hq36, _⟩ := sq_bd hs1 hs6
  obtain ⟨g1, g2, g3, g4, g5⟩ := gcd_facts (a := a) hb1
  have CG : Hid (∀ W : World, Calls Tryz.prog 159 #[.int .i64 a, .int .i64 b] W fun e w' => e = .returned (.int .i64 (Int.gcd a b : Int)) ∧ W = w') := fun W => l09Gcd_any a b W ha1 ha2 (by omega) hb2
  have hP : a.tdiv (Int.gcd a b : Int) = a / (Int.gcd a b : Int) := tdiv_dvd (Int.gcd_dvd_left a b)
  have hPb : -9000000000000000000 ≤ a / (Int.gcd a b : Int) ∧ a / (Int.gcd a b : Int) ≤ 9000000000000000000 := by
    generalize (Int.gcd a b : Int) = g at *
    generalize a / g = u at *
    rcases Int.le_total 0 u with h0 | h0
    · have := Int.mul_le_mul_of_nonneg_left g1 h0; omega
    · have := Int.mul_le_mul_of_nonpos_left h0 g1; omega
  have hQb : b / (Int.gcd a b : Int) ≤ 9000000000000000000 := Int.le_trans (Int.ediv_le_self _ (by omega)) hb2
  have hgb : (Int.gcd a b : Int) ≤ 9000000000000000000 := Int.le_trans (Int.le_of_dvd (by omega) (Int.gcd_dvd_right a b)) hb2
  generalize (Int.gcd a b : Int) = g at *
  generalize a / g = P at *
  generalize hQ : b / g = q at *
  clear g2 g3 g5
  obtain ⟨hP1, hP2⟩ := hPb
  have HF0 : Hid (Fr w ((w.alloc (.cells #[.int .i64 p, .int .i64 c, .int .i64 h, .int .i64 s] 29)).alloc (.cells #[.int .i64 0, .int .i64 0] 26)) [[.int .i64 p, .int .i64 c, .int .i64 h, .int .i64 s], [.int .i64 0, .int .i64 0]]) :=
    ((Fr.start w).allocT (by simp) _ _).allocT (by simp) _ _
  have CS : Hid (∀ (W : World) (j : Nat), j ≤ 1000 → pw (sq s) j ≤ 1000000000000000 → Calls Tryz.prog 158 #[.agg #[.int .i64 p, .int .i64 c, .int .i64 h, .int .i64 s], .int .i64 j] W fun e w' => e = .returned (.tuple #[.int .i64 (pw (sq s) j), .bool true]) ∧ Below W.heap.size W w') := fun W j hj hp => by
    have := l09Scale_any p c h s j W hs1 hs6 hj
    rwa [(scl_ok hp).1, (scl_ok hp).2] at this
  have CN : Hid (∀ (W : World) (j : Nat), j ≤ 1000 → 1000000000000000 < pw (sq s) j → Calls Tryz.prog 158 #[.agg #[.int .i64 p, .int .i64 c, .int .i64 h, .int .i64 s], .int .i64 j] W fun e w' => e = .returned (.tuple #[.int .i64 0, .bool false]) ∧ Below W.heap.size W w') := fun W j hj hp => by
    have := l09Scale_any p c h s j W hs1 hs6 hj
    rwa [(scl_no hp).1, (scl_no hp).2] at this
  go_enter Tryz.func161, Tryz.ntmps161
  go_wp2_with (go_at_call 159; refine (CG.out _).mono ?_; rintro e w' ⟨rfl, rfl⟩)
  simp only [hQ]
  go_loopw [9] (fun v wr => ∃ j : Nat, v = .int .i64 j ∧ j ≤ d ∧ Fr w wr [[.int .i64 p, .int .i64 c, .int .i64 h, .int .i64 s], [.int .i64 0, .int .i64 0]]) (fun v _ => d - (intOf v).toNat)
  case atStart => exact ⟨0, rfl, Nat.zero_le _, HF0.out⟩
  case round =>
    obtain ⟨j, rfl, hj, hF⟩ := hrel
    have HF := Lib.hid hF
    clear hF
    have z0 : w.heap.size < wr.heap.size := HF.out.ltA 0 rfl (by simp)
    have c00 := HF.out.cellA (b := w.heap.size) 0 0 rfl rfl
    have f00 := HF.out.frozA (b := w.heap.size) 0 0 rfl rfl
    have c01 := HF.out.cellA (b := w.heap.size) 0 1 rfl rfl
    have f01 := HF.out.frozA (b := w.heap.size) 0 1 rfl rfl
    have c02 := HF.out.cellA (b := w.heap.size) 0 2 rfl rfl
    have f02 := HF.out.frozA (b := w.heap.size) 0 2 rfl rfl
    have c03 := HF.out.cellA (b := w.heap.size) 0 3 rfl rfl
    have f03 := HF.out.frozA (b := w.heap.size) 0 3 rfl rfl
    have z1 : w.heap.size + 1 < wr.heap.size := HF.out.ltA 1 rfl (by simp)
    have c10 := HF.out.cellA (b := w.heap.size + 1) 1 0 rfl rfl
    have f10 := HF.out.frozA (b := w.heap.size + 1) 1 0 rfl rfl
    have c11 := HF.out.cellA (b := w.heap.size + 1) 1 1 rfl rfl
    have f11 := HF.out.frozA (b := w.heap.size + 1) 1 1 rfl rfl
    by_cases hjd : j = d
    · subst hjd
      have hp0 := pw_pos hq1 j
      have b1 : (pw (sq s) j % q == 0) = true := by simp [Int.emod_eq_zero_of_dvd h1]
      have hm1 : 1 ≤ pw (sq s) j / q := Int.le_ediv_of_mul_le (by omega) (by have := Int.le_of_dvd (by omega) h1; omega)
      have hm2 : pw (sq s) j / q ≤ 1000000000000000 := Int.le_trans (Int.ediv_le_self _ (by omega)) h3
      clear h1
      have HOK := Lib.hid hok
      have HPW := Lib.hid h3
      clear hok
      have CT : Hid (∀ W : World, Calls Tryz.prog 160 #[.int .i64 P, .int .i64 (pw (sq s) j / q)] W _) := fun W => l09Times_ok P (pw (sq s) j / q) W hP1 hP2 hm1 (by omega) HOK.out
      have e1 := inB_yes (of_decide_eq_true HOK.out : -1000000000000000000 ≤ P * (pw (sq s) j / q) ∧ P * (pw (sq s) j / q) ≤ 1000000000000000000)
      go_wp2_with (first | (go_at_call 158; refine (more_first (CS.out _ j (by omega) HPW.out)).mono ?_; rintro e w' ⟨rfl, t, rfl⟩) | (go_at_call 160; refine (CT.out _).mono ?_; rintro e w' ⟨rfl, rfl⟩) | (go_at_call 90; refine (l01In_any _ _ _ _).mono ?_; rintro e w' ⟨rfl, rfl⟩))
      refine bodyPost_ret (v := .tuple #[.agg #[.int .i64 (P * (pw (sq s) j / q)), .int .i64 j], .bool true]) (by simp [results, Tryz.results161, go_sem, c10, c11, z1, f10, f11]) rfl ⟨rfl, ?_⟩
      exact stw (stw (HF.out.more _).b (by omega)) (by omega)
    ·
      have hp3 : pw (sq s) j ≤ 1000000000000000 := (Int.le_trans (pw_mono hq1 (by omega)) h3)
      have hp0 := pw_pos hq1 j
      have hnd := h2.out j (by omega)
      have b1 : (pw (sq s) j % q == 0) = false := by simp; intro h'; exact hnd (Int.dvd_of_emod_eq_zero h')
      clear hnd
      go_wp2_with (go_at_call 158; refine (more_first (CS.out _ j (by omega) hp3)).mono ?_; rintro e w' ⟨rfl, t, rfl⟩)
      go_roundw
      case rel => exact ⟨j + 1, by go_num, by omega, HF.out.more _⟩
      case measure => simp [intOf]; omega
set_option maxHeartbeats 1000000 in
set_option maxRecDepth 10000 in
theorem l09Fit_far (p c h a b : Int) (s d : Nat) (w : World) (hs1 : 1 ≤ s) (hs6 : s ≤ 6) (hD : d ≤ 50) (hb1 : 1 ≤ b) (hb2 : b ≤ 9000000000000000000) (ha1 : -9000000000000000000 ≤ a) (ha2 : a ≤ 9000000000000000000)
    (h1 : b / (Int.gcd a b : Int) ∣ pw (sq s) d) (h2 : Hid (∀ k, k < d → ¬ b / (Int.gcd a b : Int) ∣ pw (sq s) k)) (h3 : pw (sq s) d ≤ 1000000000000000) (hok : prodOk (a / (Int.gcd a b : Int)) (pw (sq s) d / (b / (Int.gcd a b : Int))) = false) :
    Calls Tryz.prog 161 #[.agg #[.int .i64 p, .int .i64 c, .int .i64 h, .int .i64 s], .int .i64 a, .int .i64 b] w fun e w' => e = .returned (.tuple #[.agg #[.int .i64 (0), .int .i64 d], .bool false]) ∧ Below w.heap.size w w' := by
  obtain ⟨hq1, hq36, _⟩ := sq_bd hs1 hs6
  obtain ⟨g1, g2, g3, g4, g5⟩ := gcd_facts (a := a) hb1
  have CG : Hid (∀ W : World, Calls Tryz.prog 159 #[.int .i64 a, .int .i64 b] W fun e w' => e = .returned (.int .i64 (Int.gcd a b : Int)) ∧ W = w') := fun W => l09Gcd_any a b W ha1 ha2 (by omega) hb2
  have hP : a.tdiv (Int.gcd a b : Int) = a / (Int.gcd a b : Int) := tdiv_dvd (Int.gcd_dvd_left a b)
  have hPb : -9000000000000000000 ≤ a / (Int.gcd a b : Int) ∧ a / (Int.gcd a b : Int) ≤ 9000000000000000000 := by
    generalize (Int.gcd a b : Int) = g at *
    generalize a / g = u at *
    rcases Int.le_total 0 u with h0 | h0
    · have := Int.mul_le_mul_of_nonneg_left g1 h0; omega
    · have := Int.mul_le_mul_of_nonpos_left h0 g1; omega
  have hQb : b / (Int.gcd a b : Int) ≤ 9000000000000000000 := Int.le_trans (Int.ediv_le_self _ (by omega)) hb2
  have hgb : (Int.gcd a b : Int) ≤ 9000000000000000000 := Int.le_trans (Int.le_of_dvd (by omega) (Int.gcd_dvd_right a b)) hb2
  generalize (Int.gcd a b : Int) = g at *
  generalize a / g = P at *
  generalize hQ : b / g = q at *
  clear g2 g3 g5
  obtain ⟨hP1, hP2⟩ := hPb
  have HF0 : Hid (Fr w ((w.alloc (.cells #[.int .i64 p, .int .i64 c, .int .i64 h, .int .i64 s] 29)).alloc (.cells #[.int .i64 0, .int .i64 0] 26)) [[.int .i64 p, .int .i64 c, .int .i64 h, .int .i64 s], [.int .i64 0, .int .i64 0]]) :=
    ((Fr.start w).allocT (by simp) _ _).allocT (by simp) _ _
  have CS : Hid (∀ (W : World) (j : Nat), j ≤ 1000 → pw (sq s) j ≤ 1000000000000000 → Calls Tryz.prog 158 #[.agg #[.int .i64 p, .int .i64 c, .int .i64 h, .int .i64 s], .int .i64 j] W fun e w' => e = .returned (.tuple #[.int .i64 (pw (sq s) j), .bool true]) ∧ Below W.heap.size W w') := fun W j hj hp => by
    have := l09Scale_any p c h s j W hs1 hs6 hj
    rwa [(scl_ok hp).1, (scl_ok hp).2] at this
  have CN : Hid (∀ (W : World) (j : Nat), j ≤ 1000 → 1000000000000000 < pw (sq s) j → Calls Tryz.prog 158 #[.agg #[.int .i64 p, .int .i64 c, .int .i64 h, .int .i64 s], .int .i64 j] W fun e w' => e = .returned (.tuple #[.int .i64 0, .bool false]) ∧ Below W.heap.size W w') := fun W j hj hp => by
    have := l09Scale_any p c h s j W hs1 hs6 hj
    rwa [(scl_no hp).1, (scl_no hp).2] at this
  go_enter Tryz.func161, Tryz.ntmps161
  go_wp2_with (go_at_call 159; refine (CG.out _).mono ?_; rintro e w' ⟨rfl, rfl⟩)
  simp only [hQ]
  go_loopw [9] (fun v wr => ∃ j : Nat, v = .int .i64 j ∧ j ≤ d ∧ Fr w wr [[.int .i64 p, .int .i64 c, .int .i64 h, .int .i64 s], [.int .i64 0, .int .i64 0]]) (fun v _ => d - (intOf v).toNat)
  case atStart => exact ⟨0, rfl, Nat.zero_le _, HF0.out⟩
  case round =>
    obtain ⟨j, rfl, hj, hF⟩ := hrel
    have HF := Lib.hid hF
    clear hF
    have z0 : w.heap.size < wr.heap.size := HF.out.ltA 0 rfl (by simp)
    have c00 := HF.out.cellA (b := w.heap.size) 0 0 rfl rfl
    have f00 := HF.out.frozA (b := w.heap.size) 0 0 rfl rfl
    have c01 := HF.out.cellA (b := w.heap.size) 0 1 rfl rfl
    have f01 := HF.out.frozA (b := w.heap.size) 0 1 rfl rfl
    have c02 := HF.out.cellA (b := w.heap.size) 0 2 rfl rfl
    have f02 := HF.out.frozA (b := w.heap.size) 0 2 rfl rfl
    have c03 := HF.out.cellA (b := w.heap.size) 0 3 rfl rfl
    have f03 := HF.out.frozA (b := w.heap.size) 0 3 rfl rfl
    have z1 : w.heap.size + 1 < wr.heap.size := HF.out.ltA 1 rfl (by simp)
    have c10 := HF.out.cellA (b := w.heap.size + 1) 1 0 rfl rfl
    have f10 := HF.out.frozA (b := w.heap.size + 1) 1 0 rfl rfl
    have c11 := HF.out.cellA (b := w.heap.size + 1) 1 1 rfl rfl
    have f11 := HF.out.frozA (b := w.heap.size + 1) 1 1 rfl rfl
    by_cases hjd : j = d
    · subst hjd
      have hp0 := pw_pos hq1 j
      have b1 : (pw (sq s) j % q == 0) = true := by simp [Int.emod_eq_zero_of_dvd h1]
      have hm1 : 1 ≤ pw (sq s) j / q := Int.le_ediv_of_mul_le (by omega) (by have := Int.le_of_dvd (by omega) h1; omega)
      have hm2 : pw (sq s) j / q ≤ 1000000000000000 := Int.le_trans (Int.ediv_le_self _ (by omega)) h3
      clear h1
      have HOK := Lib.hid hok
      have HPW := Lib.hid h3
      clear hok
      have CT : Hid (∀ W : World, Calls Tryz.prog 160 #[.int .i64 P, .int .i64 (pw (sq s) j / q)] W _) := fun W => l09Times_no P (pw (sq s) j / q) W hP1 hP2 hm1 (by omega) HOK.out
      skip
      go_wp2_with (first | (go_at_call 158; refine (more_first (CS.out _ j (by omega) HPW.out)).mono ?_; rintro e w' ⟨rfl, t, rfl⟩) | (go_at_call 160; refine (CT.out _).mono ?_; rintro e w' ⟨rfl, rfl⟩) | (go_at_call 90; refine (l01In_any _ _ _ _).mono ?_; rintro e w' ⟨rfl, rfl⟩))
      refine bodyPost_ret (v := .tuple #[.agg #[.int .i64 (0), .int .i64 j], .bool false]) (by simp [results, Tryz.results161, go_sem, c10, c11, z1, f10, f11]) rfl ⟨rfl, ?_⟩
      exact stw (stw (HF.out.more _).b (by omega)) (by omega)
    ·
      have hp3 : pw (sq s) j ≤ 1000000000000000 := (Int.le_trans (pw_mono hq1 (by omega)) h3)
      have hp0 := pw_pos hq1 j
      have hnd := h2.out j (by omega)
      have b1 : (pw (sq s) j % q == 0) = false := by simp; intro h'; exact hnd (Int.dvd_of_emod_eq_zero h')
      clear hnd
      go_wp2_with (go_at_call 158; refine (more_first (CS.out _ j (by omega) hp3)).mono ?_; rintro e w' ⟨rfl, t, rfl⟩)
      go_roundw
      case rel => exact ⟨j + 1, by go_num, by omega, HF.out.more _⟩
      case measure => simp [intOf]; omega
set_option maxHeartbeats 1000000 in
set_option maxRecDepth 10000 in
theorem l09Fit_miss (p c h a b : Int) (s d : Nat) (w : World) (hs1 : 1 ≤ s) (hs6 : s ≤ 6) (hD : d ≤ 50) (hb1 : 1 ≤ b) (hb2 : b ≤ 9000000000000000000) (ha1 : -9000000000000000000 ≤ a) (ha2 : a ≤ 9000000000000000000)
    (h2 : Hid (∀ k, k < d → ¬ b / (Int.gcd a b : Int) ∣ pw (sq s) k)) (h3 : 1000000000000000 < pw (sq s) d) :
    Calls Tryz.prog 161 #[.agg #[.int .i64 p, .int .i64 c, .int .i64 h, .int .i64 s], .int .i64 a, .int .i64 b] w fun e w' => e = .returned (.tuple #[.agg #[.int .i64 0, .int .i64 0], .bool false]) ∧ Below w.heap.size w w' := by
  obtain ⟨hq1, hq36, _⟩ := sq_bd hs1 hs6
  obtain ⟨g1, g2, g3, g4, g5⟩ := gcd_facts (a := a) hb1
  have CG : Hid (∀ W : World, Calls Tryz.prog 159 #[.int .i64 a, .int .i64 b] W fun e w' => e = .returned (.int .i64 (Int.gcd a b : Int)) ∧ W = w') := fun W => l09Gcd_any a b W ha1 ha2 (by omega) hb2
  have hP : a.tdiv (Int.gcd a b : Int) = a / (Int.gcd a b : Int) := tdiv_dvd (Int.gcd_dvd_left a b)
  have hPb : -9000000000000000000 ≤ a / (Int.gcd a b : Int) ∧ a / (Int.gcd a b : Int) ≤ 9000000000000000000 := by
    generalize (Int.gcd a b : Int) = g at *
    generalize a / g = u at *
    rcases Int.le_total 0 u with h0 | h0
    · have := Int.mul_le_mul_of_nonneg_left g1 h0; omega
    · have := Int.mul_le_mul_of_nonpos_left h0 g1; omega
  have hQb : b / (Int.gcd a b : Int) ≤ 9000000000000000000 := Int.le_trans (Int.ediv_le_self _ (by omega)) hb2
  have hgb : (Int.gcd a b : Int) ≤ 9000000000000000000 := Int.le_trans (Int.le_of_dvd (by omega) (Int.gcd_dvd_right a b)) hb2
  generalize (Int.gcd a b : Int) = g at *
  generalize a / g = P at *
  generalize hQ : b / g = q at *
  clear g2 g3 g5
  obtain ⟨hP1, hP2⟩ := hPb
  have HF0 : Hid (Fr w ((w.alloc (.cells #[.int .i64 p, .int .i64 c, .int .i64 h, .int .i64 s] 29)).alloc (.cells #[.int .i64 0, .int .i64 0] 26)) [[.int .i64 p, .int .i64 c, .int .i64 h, .int .i64 s], [.int .i64 0, .int .i64 0]]) :=
    ((Fr.start w).allocT (by simp) _ _).allocT (by simp) _ _
  have CS : Hid (∀ (W : World) (j : Nat), j ≤ 1000 → pw (sq s) j ≤ 1000000000000000 → Calls Tryz.prog 158 #[.agg #[.int .i64 p, .int .i64 c, .int .i64 h, .int .i64 s], .int .i64 j] W fun e w' => e = .returned (.tuple #[.int .i64 (pw (sq s) j), .bool true]) ∧ Below W.heap.size W w') := fun W j hj hp => by
    have := l09Scale_any p c h s j W hs1 hs6 hj
    rwa [(scl_ok hp).1, (scl_ok hp).2] at this
  have CN : Hid (∀ (W : World) (j : Nat), j ≤ 1000 → 1000000000000000 < pw (sq s) j → Calls Tryz.prog 158 #[.agg #[.int .i64 p, .int .i64 c, .int .i64 h, .int .i64 s], .int .i64 j] W fun e w' => e = .returned (.tuple #[.int .i64 0, .bool false]) ∧ Below W.heap.size W w') := fun W j hj hp => by
    have := l09Scale_any p c h s j W hs1 hs6 hj
    rwa [(scl_no hp).1, (scl_no hp).2] at this
  go_enter Tryz.func161, Tryz.ntmps161
  go_wp2_with (go_at_call 159; refine (CG.out _).mono ?_; rintro e w' ⟨rfl, rfl⟩)
  simp only [hQ]
  go_loopw [9] (fun v wr => ∃ j : Nat, v = .int .i64 j ∧ j ≤ d ∧ Fr w wr [[.int .i64 p, .int .i64 c, .int .i64 h, .int .i64 s], [.int .i64 0, .int .i64 0]]) (fun v _ => d - (intOf v).toNat)
  case atStart => exact ⟨0, rfl, Nat.zero_le _, HF0.out⟩
  case round =>
    obtain ⟨j, rfl, hj, hF⟩ := hrel
    have HF := Lib.hid hF
    clear hF
    have z0 : w.heap.size < wr.heap.size := HF.out.ltA 0 rfl (by simp)
    have c00 := HF.out.cellA (b := w.heap.size) 0 0 rfl rfl
    have f00 := HF.out.frozA (b := w.heap.size) 0 0 rfl rfl
    have c01 := HF.out.cellA (b := w.heap.size) 0 1 rfl rfl
    have f01 := HF.out.frozA (b := w.heap.size) 0 1 rfl rfl
    have c02 := HF.out.cellA (b := w.heap.size) 0 2 rfl rfl
    have f02 := HF.out.frozA (b := w.heap.size) 0 2 rfl rfl
    have c03 := HF.out.cellA (b := w.heap.size) 0 3 rfl rfl
    have f03 := HF.out.frozA (b := w.heap.size) 0 3 rfl rfl
    have z1 : w.heap.size + 1 < wr.heap.size := HF.out.ltA 1 rfl (by simp)
    have c10 := HF.out.cellA (b := w.heap.size + 1) 1 0 rfl rfl
    have f10 := HF.out.frozA (b := w.heap.size + 1) 1 0 rfl rfl
    have c11 := HF.out.cellA (b := w.heap.size + 1) 1 1 rfl rfl
    have f11 := HF.out.frozA (b := w.heap.size + 1) 1 1 rfl rfl
    by_cases hbig : 1000000000000000 < pw (sq s) j
    · go_wp2_with (go_at_call 158; refine (more_first (CN.out _ j (by omega) hbig)).mono ?_; rintro e w' ⟨rfl, t, rfl⟩)
      refine bodyPost_ret (v := .tuple #[.agg #[.int .i64 0, .int .i64 0], .bool false]) (by simp [results, Tryz.results161, go_sem, c10, c11, z1, f10, f11]) rfl ⟨rfl, ?_⟩
      exact stw (stw (HF.out.more _).b (by omega)) (by omega)
    · have hjd : j ≠ d := fun h' => hbig (by rw [h']; exact h3)
      have hp3 : pw (sq s) j ≤ 1000000000000000 := (by omega)
      have hp0 := pw_pos hq1 j
      have hnd := h2.out j (by omega)
      have b1 : (pw (sq s) j % q == 0) = false := by simp; intro h'; exact hnd (Int.dvd_of_emod_eq_zero h')
      clear hnd
      go_wp2_with (go_at_call 158; refine (more_first (CS.out _ j (by omega) hp3)).mono ?_; rintro e w' ⟨rfl, t, rfl⟩)
      go_roundw
      case rel => exact ⟨j + 1, by go_num, by omega, HF.out.more _⟩
      case measure => simp [intOf]; omega

/-- What a fraction is, and what the call hands back beside it. -/
theorem l09Fit_some (p c h a b : Int) (s D : Nat) (hs1 : 1 ≤ s) (hs6 : s ≤ 6) (hD : D ≤ 50) (hb1 : 1 ≤ b) (hb2 : b ≤ 9000000000000000000) (ha1 : -9000000000000000000 ≤ a) (ha2 : a ≤ 9000000000000000000) (hdv : b ∣ pw (sq s) D) :
    ∃ (n : Int) (d : Nat) (f : Bool), (∀ w : World, Calls Tryz.prog 161 #[.agg #[.int .i64 p, .int .i64 c, .int .i64 h, .int .i64 s], .int .i64 a, .int .i64 b] w fun e w' => e = .returned (.tuple #[.agg #[.int .i64 n, .int .i64 d], .bool f]) ∧ Below w.heap.size w w') ∧
      mk (sq s) (a * (pw (sq s) D / b)) D = if f then some ⟨n, d⟩ else none := by
  obtain ⟨hq1, hq36, _⟩ := sq_bd hs1 hs6
  obtain ⟨g1, g2, g3, g4, g5⟩ := gcd_facts (a := a) hb1
  obtain ⟨r1, r2⟩ := fit_reduce (a := a) hq1 hb1 hdv
  obtain ⟨d, d1, d2, d3⟩ := least_dvd r1
  have em : maxScale = 1000000000000000 := rfl
  rw [r2]
  change ∃ (n : Int) (d : Nat) (f : Bool), _ ∧ fitE (sq s) (a / (Int.gcd a b : Int)) (b / (Int.gcd a b : Int)) D = _
  by_cases hsc : pw (sq s) d ≤ 1000000000000000
  · rw [fit_hit hq1 g4 g5 r1 d2 d3 hsc]
    by_cases hok : prodOk (a / (Int.gcd a b : Int)) (pw (sq s) d / (b / (Int.gcd a b : Int))) = true
    · refine ⟨_, d, true, fun w => l09Fit_hit p c h a b s d w hs1 hs6 (by omega) hb1 hb2 ha1 ha2 d2 d3 hsc hok, ?_⟩
      rw [if_pos (of_decide_eq_true hok)]; rfl
    · have hno : prodOk (a / (Int.gcd a b : Int)) (pw (sq s) d / (b / (Int.gcd a b : Int))) = false := by simpa using hok
      refine ⟨_, d, false, fun w => l09Fit_far p c h a b s d w hs1 hs6 (by omega) hb1 hb2 ha1 ha2 d2 d3 hsc hno, ?_⟩
      rw [if_neg (of_decide_eq_false hno)]; rfl
  · rw [fit_miss hq1 g4 g5 r1 d3 (by omega)]
    exact ⟨0, 0, false, fun w => l09Fit_miss p c h a b s d w hs1 hs6 (by omega) hb1 hb2 ha1 ha2 d3 (by omega), rfl⟩
end Go.Proofs.YtlbkfhdnhalpbaaGreat

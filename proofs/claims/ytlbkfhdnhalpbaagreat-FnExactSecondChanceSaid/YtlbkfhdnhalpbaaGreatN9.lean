/- Contracts of the reference's sum and multiple of exact numbers. There are no conditions. -/
import Derived.Test.YtlbkfhdnhalpbaaGreatN8
namespace Go.Proofs.YtlbkfhdnhalpbaaGreat
set_option linter.unusedVariables false
set_option linter.unusedSimpArgs false
open Go.RowKit Ps Ra Ex

theorem addE_far2 {B : Int} {x y : E} (hy : Val B y) (hd : x.depth < y.depth) (hB : 1 ≤ B) (hf : 2 * maxNum < x.num * pw B (y.depth - x.depth) ∨ x.num * pw B (y.depth - x.depth) < -(2 * maxNum)) : addE B x y = none := by
  rw [addE_le (by omega)]
  obtain ⟨h1, h2, _, h4, _⟩ := hy
  have hdv : B ∣ x.num * pw B (y.depth - x.depth) := by
    obtain ⟨k, hk⟩ : ∃ k, y.depth - x.depth = k + 1 := ⟨y.depth - x.depth - 1, by omega⟩
    rw [hk, pw_succ, ← Int.mul_assoc]; exact Int.dvd_mul_left _ _
  have hn : ¬ B ∣ x.num * pw B (y.depth - x.depth) + y.num := by
    intro h
    have : B ∣ y.num := (Int.dvd_add_right hdv).1 h
    rcases h4 with h4 | h4
    · omega
    · exact h4 this
  have hs : strip B y.depth (x.num * pw B (y.depth - x.depth) + y.num) = ⟨_, y.depth⟩ := strip_of_low (.inr hn)
  rw [mk_strip hs, if_neg]
  rw [Bool.not_eq_true]
  apply valB_far
  omega
theorem far_abs {m o : Int} (ho : 1 ≤ o) (h : 2000000000000000000 / o < (m.natAbs : Int)) : 2 * maxNum < m * o ∨ m * o < -(2 * maxNum) := by
  have h1 := (Int.ediv_lt_iff_lt_mul (by omega)).1 h
  have e := maxNum_val
  rcases Int.le_total 0 m with h2 | h2
  · left; rw [show (m.natAbs : Int) = m by omega] at h1; omega
  · right; rw [show (m.natAbs : Int) = -m by omega, Int.neg_mul] at h1; omega
theorem near_abs {m o : Int} (ho : 1 ≤ o) (h : (m.natAbs : Int) ≤ 2000000000000000000 / o) : -2000000000000000000 ≤ m * o ∧ m * o ≤ 2000000000000000000 := by
  have h1 := Int.mul_le_of_le_ediv (by omega) h
  rcases Int.le_total 0 m with h2 | h2
  · have : 0 ≤ m * o := Int.mul_nonneg h2 (by omega)
    rw [show (m.natAbs : Int) = m by omega] at h1; omega
  · have : m * o ≤ 0 := Int.mul_nonpos_of_nonpos_of_nonneg h2 (by omega)
    rw [show (m.natAbs : Int) = -m by omega, Int.neg_mul] at h1; omega

set_option maxHeartbeats 2000000 in
set_option maxRecDepth 10000 in
theorem l09Add_lt (p c h xn yn : Int) (s xd yd : Nat) (w : World) (hs1 : 1 ≤ s) (hs6 : s ≤ 6) (hx : Val (sq s) ⟨xn, xd⟩) (hy : Val (sq s) ⟨yn, yd⟩) (hlt : (xd : Int) < yd) :
    Calls Tryz.prog 92 #[.agg #[.int .i64 p, .int .i64 c, .int .i64 h, .int .i64 s], .agg #[.int .i64 xn, .int .i64 xd], .agg #[.int .i64 yn, .int .i64 yd]] w (RetE w (addE (sq s) ⟨xn, xd⟩ ⟨yn, yd⟩)) := by
  have hsw : Hid (addE (sq s) ⟨xn, xd⟩ ⟨yn, yd⟩ = addE (sq s) ⟨xn, xd⟩ ⟨yn, yd⟩) := by first | rfl | exact addE_comm _ _ _
  obtain ⟨hq1, hq36, _⟩ := sq_bd hs1 hs6
  have hxd : xd < 50 := depth_lt hq1 hx
  have hyd : yd < 50 := depth_lt hq1 hy
  have hx1 : -1000000000000000000 ≤ xn := hx.1
  have hx2 : xn ≤ 1000000000000000000 := hx.2.1
  have hy1 : -1000000000000000000 ≤ yn := hy.1
  have hy2 : yn ≤ 1000000000000000000 := hy.2.1
  have px2 : pw (sq s) xd ≤ 1000000000000000 := hx.2.2.1
  have py2 : pw (sq s) yd ≤ 1000000000000000 := hy.2.2.1
  have ph2 : pw (sq s) yd ≤ 1000000000000000 := by first | exact px2 | exact py2
  have po2 : pw (sq s) (yd - xd) ≤ 1000000000000000 := Int.le_trans (pw_mono hq1 (by omega)) ph2
  have po1 := pw_pos hq1 (yd - xd)
  have C := fun (W : World) (d : Nat) (hd : d ≤ 1000) => l09Scale_any p c h s d W hs1 hs6 hd
  have C1 : Hid (∀ W : World, Calls Tryz.prog 158 #[.agg #[.int .i64 p, .int .i64 c, .int .i64 h, .int .i64 s], .int .i64 yd] W fun e w' => e = .returned (.tuple #[.int .i64 (pw (sq s) yd), .bool true]) ∧ Below W.heap.size W w') := fun W => by
    have := C W yd (by omega); rwa [(scl_ok ph2).1, (scl_ok ph2).2] at this
  have C2 : Hid (∀ W : World, Calls Tryz.prog 158 #[.agg #[.int .i64 p, .int .i64 c, .int .i64 h, .int .i64 s], .int .i64 ((yd : Int) - xd)] W fun e w' => e = .returned (.tuple #[.int .i64 (pw (sq s) (yd - xd)), .bool true]) ∧ Below W.heap.size W w') := fun W => by
    have := C W (yd - xd) (by omega); rwa [(scl_ok po2).1, (scl_ok po2).2, show ((yd - xd : Nat) : Int) = (yd : Int) - xd by omega] at this
  have C3 : Hid (∀ W : World, Calls Tryz.prog 158 #[.agg #[.int .i64 p, .int .i64 c, .int .i64 h, .int .i64 s], .int .i64 0] W fun e w' => e = .returned (.tuple #[.int .i64 1, .bool true]) ∧ Below W.heap.size W w') := fun W => by
    have := C W 0 (by omega)
    have h1 : pw (sq s) 0 ≤ 1000000000000000 := by rw [pw_zero]; omega
    rw [(scl_ok h1).1, (scl_ok h1).2, pw_zero] at this
    exact this
  have HH : Hid (Val (sq s) ⟨yn, yd⟩) := by first | exact hx | exact hy
  have HF0 : Hid (Below w.heap.size w ((((w.alloc (.cells #[.int .i64 p, .int .i64 c, .int .i64 h, .int .i64 s] 29)).alloc (.cells #[.int .i64 xn, .int .i64 xd] 26)).alloc (.cells #[.int .i64 yn, .int .i64 yd] 26)).alloc (.cells #[.int .i64 0, .int .i64 0] 26))) := alw (alw (alw ((Below.refl _ _).alloc (Nat.le_refl _) _) (Nat.le_refl _)) (Nat.le_refl _)) (Nat.le_refl _)
  have hO1 : Hid (yd = xd → pw (sq s) (yd - xd) = 1) := fun e => by rw [e, Nat.sub_self, pw_zero]
  obtain ⟨O, hO⟩ : ∃ O, pw (sq s) (yd - xd) = O := ⟨_, rfl⟩
  rw [hO] at po2 po1 C2 hO1
  have HO := Lib.hid hO
  clear hx hy C hO
  by_cases hfar : 2000000000000000000 / O < (xn.natAbs : Int)
  · have hst : xd < yd := by
      rcases Nat.lt_or_ge xd yd with h' | h'
      · exact h'
      · have := hO1.out (by omega); rw [this] at hfar; omega
    have HR : Hid (addE (sq s) ⟨xn, xd⟩ ⟨yn, yd⟩ = none) := hsw.out.trans (addE_far2 HH.out (by show xd < yd; exact hst) hq1 (by show 2 * maxNum < xn * pw (sq s) (yd - xd) ∨ xn * pw (sq s) (yd - xd) < -(2 * maxNum); rw [HO.out]; exact far_abs po1 hfar))
    have d3 : decide (2000000000000000000 < yn) = false := decide_eq_false (by omega)
    have d4 : decide (2000000000000000000 < -yn) = false := decide_eq_false (by omega)
    clear hst
    by_cases h0 : xn < -xn
    · have g1 : 2000000000000000000 / O < -xn := by rw [show (xn.natAbs : Int) = -xn by omega] at hfar; exact hfar
      clear hfar
      rcases Int.lt_or_le yn (-yn) with hsy | hsy
      all_goals
        go_enter Tryz.func92, Tryz.ntmps92
        go_wp2_with (first | (go_at_call 158; first | ((with_reducible refine (more_first (C1.out _)).mono ?_); rintro e w' ⟨rfl, t, rfl⟩) | ((with_reducible refine (more_call (C2.out _)).mono ?_); rintro e w' ⟨rfl, t, rfl⟩) | ((with_reducible refine (more_call (C3.out _)).mono ?_); rintro e w' ⟨rfl, t, rfl⟩)))
        first | refine wp_region_more2 (by kernel_rfl) (by kernel_rfl) ?_ | refine wp_region_more (by kernel_rfl) (by kernel_rfl) ?_
        repeat (first | go_big_quiet_step (fail) | quiet_step (fail))
        refine wpQuiet_nil ?_
        intro _ hw'
        obtain ⟨tq, hw''⟩ := hw'
        subst hw''
        go_wp2_with (fail)
        refine bodyPost_ret (v := .tuple #[.agg #[.int .i64 0, .int .i64 0], .bool false]) (by simp [results, Tryz.results92, go_sem]) rfl (RetE.mkN HR.out ?_)
        exact stw (stw (blw HF0.out (Nat.le_refl _)) (by omega)) (by omega)
    · replace h0 : -xn ≤ xn := by omega
      have g1 : 2000000000000000000 / O < xn := by rw [show (xn.natAbs : Int) = xn by omega] at hfar; exact hfar
      clear hfar
      rcases Int.lt_or_le yn (-yn) with hsy | hsy
      all_goals
        go_enter Tryz.func92, Tryz.ntmps92
        go_wp2_with (first | (go_at_call 158; first | ((with_reducible refine (more_first (C1.out _)).mono ?_); rintro e w' ⟨rfl, t, rfl⟩) | ((with_reducible refine (more_call (C2.out _)).mono ?_); rintro e w' ⟨rfl, t, rfl⟩) | ((with_reducible refine (more_call (C3.out _)).mono ?_); rintro e w' ⟨rfl, t, rfl⟩)))
        first | refine wp_region_more2 (by kernel_rfl) (by kernel_rfl) ?_ | refine wp_region_more (by kernel_rfl) (by kernel_rfl) ?_
        repeat (first | go_big_quiet_step (fail) | quiet_step (fail))
        refine wpQuiet_nil ?_
        intro _ hw'
        obtain ⟨tq, hw''⟩ := hw'
        subst hw''
        go_wp2_with (fail)
        refine bodyPost_ret (v := .tuple #[.agg #[.int .i64 0, .int .i64 0], .bool false]) (by simp [results, Tryz.results92, go_sem]) rfl (RetE.mkN HR.out ?_)
        exact stw (stw (blw HF0.out (Nat.le_refl _)) (by omega)) (by omega)
  · have hnear := near_abs (m := xn) po1 (by omega)
    have hq0 : 0 ≤ 2000000000000000000 / O := Int.ediv_nonneg (by omega) (by omega)
    have d1 : decide (2000000000000000000 / O < xn) = false := decide_eq_false (by omega)
    have d2 : decide (2000000000000000000 / O < -xn) = false := decide_eq_false (by omega)
    have d3 : decide (2000000000000000000 < yn) = false := decide_eq_false (by omega)
    have d4 : decide (2000000000000000000 < -yn) = false := decide_eq_false (by omega)
    obtain ⟨m, hm⟩ : ∃ m, xn * O = m := ⟨_, rfl⟩
    rw [hm] at hnear
    obtain ⟨hn1, hn2⟩ := hnear
    obtain ⟨n, d, f, CF0, hmk⟩ := l09Fit_some p c h (m + yn) (pw (sq s) yd) s yd hs1 hs6 (by omega) (pw_pos hq1 yd) (by omega) (by omega) (by omega) (Int.dvd_refl _)
    have CF := Lib.hid CF0
    have HR : Hid (addE (sq s) ⟨xn, xd⟩ ⟨yn, yd⟩ = if f then some ⟨n, d⟩ else none) := by
      rw [Hid, hsw.out, ← hmk, addE_le (by show xd ≤ yd; omega), Int.ediv_self (by have := pw_pos hq1 yd; omega), Int.mul_one]
      show mk _ (xn * pw (sq s) (yd - xd) + yn) yd = _
      rw [HO.out, hm]
      all_goals rw [Int.add_comm]
    clear hmk CF0 hfar hq0
    cases f with
    | true =>
      have HR' : Hid (addE (sq s) ⟨xn, xd⟩ ⟨yn, yd⟩ = some ⟨n, d⟩) := HR.out
      clear HR
      rcases Int.lt_or_le xn (-xn) with hsx | hsx <;> rcases Int.lt_or_le yn (-yn) with hsy | hsy
      all_goals
        go_enter Tryz.func92, Tryz.ntmps92
        go_wp2_with (first | (go_at_call 158; first | ((with_reducible refine (more_first (C1.out _)).mono ?_); rintro e w' ⟨rfl, t, rfl⟩) | ((with_reducible refine (more_call (C2.out _)).mono ?_); rintro e w' ⟨rfl, t, rfl⟩) | ((with_reducible refine (more_call (C3.out _)).mono ?_); rintro e w' ⟨rfl, t, rfl⟩)))
        first | refine wp_region_more2 (by kernel_rfl) (by kernel_rfl) ?_ | refine wp_region_more (by kernel_rfl) (by kernel_rfl) ?_
        repeat (first | go_big_quiet_step (fail) | quiet_step (fail))
        refine wpQuiet_nil ?_
        intro _ hw'
        obtain ⟨tq, hw''⟩ := hw'
        subst hw''
        go_wp2_with (go_at_call 161; ((with_reducible refine (more_call (CF.out _)).mono ?_); rintro e w' ⟨rfl, t2, rfl⟩))
        refine bodyPost_ret (v := .tuple #[.agg #[.int .i64 n, .int .i64 d], .bool true]) (by simp [results, Tryz.results92, go_sem]) rfl (RetE.mkY HR'.out ?_)
        repeat (first | exact HF0.out | refine blw ?_ (Nat.le_refl _) | refine alw ?_ (Nat.le_refl _) | refine stw ?_ (by omega) | refine drw ?_)
    | false =>
      have HR' : Hid (addE (sq s) ⟨xn, xd⟩ ⟨yn, yd⟩ = none) := HR.out
      clear HR
      rcases Int.lt_or_le xn (-xn) with hsx | hsx <;> rcases Int.lt_or_le yn (-yn) with hsy | hsy
      all_goals
        go_enter Tryz.func92, Tryz.ntmps92
        go_wp2_with (first | (go_at_call 158; first | ((with_reducible refine (more_first (C1.out _)).mono ?_); rintro e w' ⟨rfl, t, rfl⟩) | ((with_reducible refine (more_call (C2.out _)).mono ?_); rintro e w' ⟨rfl, t, rfl⟩) | ((with_reducible refine (more_call (C3.out _)).mono ?_); rintro e w' ⟨rfl, t, rfl⟩)))
        first | refine wp_region_more2 (by kernel_rfl) (by kernel_rfl) ?_ | refine wp_region_more (by kernel_rfl) (by kernel_rfl) ?_
        repeat (first | go_big_quiet_step (fail) | quiet_step (fail))
        refine wpQuiet_nil ?_
        intro _ hw'
        obtain ⟨tq, hw''⟩ := hw'
        subst hw''
        go_wp2_with (go_at_call 161; ((with_reducible refine (more_call (CF.out _)).mono ?_); rintro e w' ⟨rfl, t2, rfl⟩))
        refine bodyPost_ret (v := .tuple #[.agg #[.int .i64 0, .int .i64 0], .bool false]) (by simp [results, Tryz.results92, go_sem]) rfl (RetE.mkN HR'.out ?_)
        repeat (first | exact HF0.out | refine blw ?_ (Nat.le_refl _) | refine alw ?_ (Nat.le_refl _) | refine stw ?_ (by omega) | refine drw ?_)
set_option maxHeartbeats 2000000 in
set_option maxRecDepth 10000 in
theorem l09Add_ge (p c h xn yn : Int) (s xd yd : Nat) (w : World) (hs1 : 1 ≤ s) (hs6 : s ≤ 6) (hx : Val (sq s) ⟨xn, xd⟩) (hy : Val (sq s) ⟨yn, yd⟩) (hlt : (yd : Int) ≤ xd) :
    Calls Tryz.prog 92 #[.agg #[.int .i64 p, .int .i64 c, .int .i64 h, .int .i64 s], .agg #[.int .i64 xn, .int .i64 xd], .agg #[.int .i64 yn, .int .i64 yd]] w (RetE w (addE (sq s) ⟨xn, xd⟩ ⟨yn, yd⟩)) := by
  have hsw : Hid (addE (sq s) ⟨xn, xd⟩ ⟨yn, yd⟩ = addE (sq s) ⟨yn, yd⟩ ⟨xn, xd⟩) := by first | rfl | exact addE_comm _ _ _
  obtain ⟨hq1, hq36, _⟩ := sq_bd hs1 hs6
  have hxd : xd < 50 := depth_lt hq1 hx
  have hyd : yd < 50 := depth_lt hq1 hy
  have hx1 : -1000000000000000000 ≤ xn := hx.1
  have hx2 : xn ≤ 1000000000000000000 := hx.2.1
  have hy1 : -1000000000000000000 ≤ yn := hy.1
  have hy2 : yn ≤ 1000000000000000000 := hy.2.1
  have px2 : pw (sq s) xd ≤ 1000000000000000 := hx.2.2.1
  have py2 : pw (sq s) yd ≤ 1000000000000000 := hy.2.2.1
  have ph2 : pw (sq s) xd ≤ 1000000000000000 := by first | exact px2 | exact py2
  have po2 : pw (sq s) (xd - yd) ≤ 1000000000000000 := Int.le_trans (pw_mono hq1 (by omega)) ph2
  have po1 := pw_pos hq1 (xd - yd)
  have C := fun (W : World) (d : Nat) (hd : d ≤ 1000) => l09Scale_any p c h s d W hs1 hs6 hd
  have C1 : Hid (∀ W : World, Calls Tryz.prog 158 #[.agg #[.int .i64 p, .int .i64 c, .int .i64 h, .int .i64 s], .int .i64 xd] W fun e w' => e = .returned (.tuple #[.int .i64 (pw (sq s) xd), .bool true]) ∧ Below W.heap.size W w') := fun W => by
    have := C W xd (by omega); rwa [(scl_ok ph2).1, (scl_ok ph2).2] at this
  have C2 : Hid (∀ W : World, Calls Tryz.prog 158 #[.agg #[.int .i64 p, .int .i64 c, .int .i64 h, .int .i64 s], .int .i64 ((xd : Int) - yd)] W fun e w' => e = .returned (.tuple #[.int .i64 (pw (sq s) (xd - yd)), .bool true]) ∧ Below W.heap.size W w') := fun W => by
    have := C W (xd - yd) (by omega); rwa [(scl_ok po2).1, (scl_ok po2).2, show ((xd - yd : Nat) : Int) = (xd : Int) - yd by omega] at this
  have C3 : Hid (∀ W : World, Calls Tryz.prog 158 #[.agg #[.int .i64 p, .int .i64 c, .int .i64 h, .int .i64 s], .int .i64 0] W fun e w' => e = .returned (.tuple #[.int .i64 1, .bool true]) ∧ Below W.heap.size W w') := fun W => by
    have := C W 0 (by omega)
    have h1 : pw (sq s) 0 ≤ 1000000000000000 := by rw [pw_zero]; omega
    rw [(scl_ok h1).1, (scl_ok h1).2, pw_zero] at this
    exact this
  have HH : Hid (Val (sq s) ⟨xn, xd⟩) := by first | exact hx | exact hy
  have HF0 : Hid (Below w.heap.size w ((((w.alloc (.cells #[.int .i64 p, .int .i64 c, .int .i64 h, .int .i64 s] 29)).alloc (.cells #[.int .i64 xn, .int .i64 xd] 26)).alloc (.cells #[.int .i64 yn, .int .i64 yd] 26)).alloc (.cells #[.int .i64 0, .int .i64 0] 26))) := alw (alw (alw ((Below.refl _ _).alloc (Nat.le_refl _) _) (Nat.le_refl _)) (Nat.le_refl _)) (Nat.le_refl _)
  have hO1 : Hid (xd = yd → pw (sq s) (xd - yd) = 1) := fun e => by rw [e, Nat.sub_self, pw_zero]
  obtain ⟨O, hO⟩ : ∃ O, pw (sq s) (xd - yd) = O := ⟨_, rfl⟩
  rw [hO] at po2 po1 C2 hO1
  have HO := Lib.hid hO
  clear hx hy C hO
  by_cases hfar : 2000000000000000000 / O < (yn.natAbs : Int)
  · have hst : yd < xd := by
      rcases Nat.lt_or_ge yd xd with h' | h'
      · exact h'
      · have := hO1.out (by omega); rw [this] at hfar; omega
    have HR : Hid (addE (sq s) ⟨xn, xd⟩ ⟨yn, yd⟩ = none) := hsw.out.trans (addE_far2 HH.out (by show yd < xd; exact hst) hq1 (by show 2 * maxNum < yn * pw (sq s) (xd - yd) ∨ yn * pw (sq s) (xd - yd) < -(2 * maxNum); rw [HO.out]; exact far_abs po1 hfar))
    have d3 : decide (2000000000000000000 < xn) = false := decide_eq_false (by omega)
    have d4 : decide (2000000000000000000 < -xn) = false := decide_eq_false (by omega)
    clear hst
    by_cases h0 : yn < -yn
    · have g1 : 2000000000000000000 / O < -yn := by rw [show (yn.natAbs : Int) = -yn by omega] at hfar; exact hfar
      clear hfar
      rcases Int.lt_or_le xn (-xn) with hsy | hsy
      all_goals
        go_enter Tryz.func92, Tryz.ntmps92
        go_wp2_with (first | (go_at_call 158; first | ((with_reducible refine (more_first (C1.out _)).mono ?_); rintro e w' ⟨rfl, t, rfl⟩) | ((with_reducible refine (more_call (C2.out _)).mono ?_); rintro e w' ⟨rfl, t, rfl⟩) | ((with_reducible refine (more_call (C3.out _)).mono ?_); rintro e w' ⟨rfl, t, rfl⟩)))
        first | refine wp_region_more2 (by kernel_rfl) (by kernel_rfl) ?_ | refine wp_region_more (by kernel_rfl) (by kernel_rfl) ?_
        repeat (first | go_big_quiet_step (fail) | quiet_step (fail))
        refine wpQuiet_nil ?_
        intro _ hw'
        obtain ⟨tq, hw''⟩ := hw'
        subst hw''
        go_wp2_with (fail)
        refine bodyPost_ret (v := .tuple #[.agg #[.int .i64 0, .int .i64 0], .bool false]) (by simp [results, Tryz.results92, go_sem]) rfl (RetE.mkN HR.out ?_)
        exact stw (stw (blw HF0.out (Nat.le_refl _)) (by omega)) (by omega)
    · replace h0 : -yn ≤ yn := by omega
      have g1 : 2000000000000000000 / O < yn := by rw [show (yn.natAbs : Int) = yn by omega] at hfar; exact hfar
      clear hfar
      rcases Int.lt_or_le xn (-xn) with hsy | hsy
      all_goals
        go_enter Tryz.func92, Tryz.ntmps92
        go_wp2_with (first | (go_at_call 158; first | ((with_reducible refine (more_first (C1.out _)).mono ?_); rintro e w' ⟨rfl, t, rfl⟩) | ((with_reducible refine (more_call (C2.out _)).mono ?_); rintro e w' ⟨rfl, t, rfl⟩) | ((with_reducible refine (more_call (C3.out _)).mono ?_); rintro e w' ⟨rfl, t, rfl⟩)))
        first | refine wp_region_more2 (by kernel_rfl) (by kernel_rfl) ?_ | refine wp_region_more (by kernel_rfl) (by kernel_rfl) ?_
        repeat (first | go_big_quiet_step (fail) | quiet_step (fail))
        refine wpQuiet_nil ?_
        intro _ hw'
        obtain ⟨tq, hw''⟩ := hw'
        subst hw''
        go_wp2_with (fail)
        refine bodyPost_ret (v := .tuple #[.agg #[.int .i64 0, .int .i64 0], .bool false]) (by simp [results, Tryz.results92, go_sem]) rfl (RetE.mkN HR.out ?_)
        exact stw (stw (blw HF0.out (Nat.le_refl _)) (by omega)) (by omega)
  · have hnear := near_abs (m := yn) po1 (by omega)
    have hq0 : 0 ≤ 2000000000000000000 / O := Int.ediv_nonneg (by omega) (by omega)
    have d1 : decide (2000000000000000000 / O < yn) = false := decide_eq_false (by omega)
    have d2 : decide (2000000000000000000 / O < -yn) = false := decide_eq_false (by omega)
    have d3 : decide (2000000000000000000 < xn) = false := decide_eq_false (by omega)
    have d4 : decide (2000000000000000000 < -xn) = false := decide_eq_false (by omega)
    obtain ⟨m, hm⟩ : ∃ m, yn * O = m := ⟨_, rfl⟩
    rw [hm] at hnear
    obtain ⟨hn1, hn2⟩ := hnear
    obtain ⟨n, d, f, CF0, hmk⟩ := l09Fit_some p c h (xn + m) (pw (sq s) xd) s xd hs1 hs6 (by omega) (pw_pos hq1 xd) (by omega) (by omega) (by omega) (Int.dvd_refl _)
    have CF := Lib.hid CF0
    have HR : Hid (addE (sq s) ⟨xn, xd⟩ ⟨yn, yd⟩ = if f then some ⟨n, d⟩ else none) := by
      rw [Hid, hsw.out, ← hmk, addE_le (by show yd ≤ xd; omega), Int.ediv_self (by have := pw_pos hq1 xd; omega), Int.mul_one]
      show mk _ (yn * pw (sq s) (xd - yd) + xn) xd = _
      rw [HO.out, hm]
      all_goals rw [Int.add_comm]
    clear hmk CF0 hfar hq0
    cases f with
    | true =>
      have HR' : Hid (addE (sq s) ⟨xn, xd⟩ ⟨yn, yd⟩ = some ⟨n, d⟩) := HR.out
      clear HR
      rcases Int.lt_or_le xn (-xn) with hsx | hsx <;> rcases Int.lt_or_le yn (-yn) with hsy | hsy
      all_goals
        go_enter Tryz.func92, Tryz.ntmps92
        go_wp2_with (first | (go_at_call 158; first | ((with_reducible refine (more_first (C1.out _)).mono ?_); rintro e w' ⟨rfl, t, rfl⟩) | ((with_reducible refine (more_call (C2.out _)).mono ?_); rintro e w' ⟨rfl, t, rfl⟩) | ((with_reducible refine (more_call (C3.out _)).mono ?_); rintro e w' ⟨rfl, t, rfl⟩)))
        first | refine wp_region_more2 (by kernel_rfl) (by kernel_rfl) ?_ | refine wp_region_more (by kernel_rfl) (by kernel_rfl) ?_
        repeat (first | go_big_quiet_step (fail) | quiet_step (fail))
        refine wpQuiet_nil ?_
        intro _ hw'
        obtain ⟨tq, hw''⟩ := hw'
        subst hw''
        go_wp2_with (go_at_call 161; ((with_reducible refine (more_call (CF.out _)).mono ?_); rintro e w' ⟨rfl, t2, rfl⟩))
        refine bodyPost_ret (v := .tuple #[.agg #[.int .i64 n, .int .i64 d], .bool true]) (by simp [results, Tryz.results92, go_sem]) rfl (RetE.mkY HR'.out ?_)
        repeat (first | exact HF0.out | refine blw ?_ (Nat.le_refl _) | refine alw ?_ (Nat.le_refl _) | refine stw ?_ (by omega) | refine drw ?_)
    | false =>
      have HR' : Hid (addE (sq s) ⟨xn, xd⟩ ⟨yn, yd⟩ = none) := HR.out
      clear HR
      rcases Int.lt_or_le xn (-xn) with hsx | hsx <;> rcases Int.lt_or_le yn (-yn) with hsy | hsy
      all_goals
        go_enter Tryz.func92, Tryz.ntmps92
        go_wp2_with (first | (go_at_call 158; first | ((with_reducible refine (more_first (C1.out _)).mono ?_); rintro e w' ⟨rfl, t, rfl⟩) | ((with_reducible refine (more_call (C2.out _)).mono ?_); rintro e w' ⟨rfl, t, rfl⟩) | ((with_reducible refine (more_call (C3.out _)).mono ?_); rintro e w' ⟨rfl, t, rfl⟩)))
        first | refine wp_region_more2 (by kernel_rfl) (by kernel_rfl) ?_ | refine wp_region_more (by kernel_rfl) (by kernel_rfl) ?_
        repeat (first | go_big_quiet_step (fail) | quiet_step (fail))
        refine wpQuiet_nil ?_
        intro _ hw'
        obtain ⟨tq, hw''⟩ := hw'
        subst hw''
        go_wp2_with (go_at_call 161; ((with_reducible refine (more_call (CF.out _)).mono ?_); rintro e w' ⟨rfl, t2, rfl⟩))
        refine bodyPost_ret (v := .tuple #[.agg #[.int .i64 0, .int .i64 0], .bool false]) (by simp [results, Tryz.results92, go_sem]) rfl (RetE.mkN HR'.out ?_)
        repeat (first | exact HF0.out | refine blw ?_ (Nat.le_refl _) | refine alw ?_ (Nat.le_refl _) | refine stw ?_ (by omega) | refine drw ?_)
theorem l09Add_any (p c h xn yn : Int) (s xd yd : Nat) (w : World) (hs1 : 1 ≤ s) (hs6 : s ≤ 6) (hx : Val (sq s) ⟨xn, xd⟩) (hy : Val (sq s) ⟨yn, yd⟩) :
    Calls Tryz.prog 92 #[.agg #[.int .i64 p, .int .i64 c, .int .i64 h, .int .i64 s], .agg #[.int .i64 xn, .int .i64 xd], .agg #[.int .i64 yn, .int .i64 yd]] w (RetE w (addE (sq s) ⟨xn, xd⟩ ⟨yn, yd⟩)) := by
  by_cases h' : (xd : Int) < yd
  · exact l09Add_lt p c h xn yn s xd yd w hs1 hs6 hx hy h'
  · exact l09Add_ge p c h xn yn s xd yd w hs1 hs6 hx hy (by omega)
end Go.Proofs.YtlbkfhdnhalpbaaGreat

/- Contract of the program's sum of two exact numbers. There are no conditions. -/
import Derived.Test.YtlbkfhdnhalpbaaGreatN4
namespace Go.Proofs.YtlbkfhdnhalpbaaGreat
set_option linter.unusedVariables false
set_option linter.unusedSimpArgs false
open Go.RowKit Ps Ra Ex

theorem far_mul {B m : Int} (hB : 1 ≤ B) (h : 4000000000000000000 / B < (m.natAbs : Int)) : 4 * maxNum < m * B ∨ m * B < -(4 * maxNum) := by
  have h1 := (Int.ediv_lt_iff_lt_mul (by omega)).1 h
  have e : maxNum = 1000000000000000000 := rfl
  rcases Int.le_total 0 m with h2 | h2
  · left; rw [show (m.natAbs : Int) = m by omega] at h1; omega
  · right; rw [show (m.natAbs : Int) = -m by omega, Int.neg_mul] at h1; omega
theorem near_mul {B m : Int} (hB : 1 ≤ B) (h : (m.natAbs : Int) ≤ 4000000000000000000 / B) : -4000000000000000000 ≤ m * B ∧ m * B ≤ 4000000000000000000 := by
  have h1 := Int.mul_le_of_le_ediv (by omega) h
  rcases Int.le_total 0 m with h2 | h2
  · have : 0 ≤ m * B := Int.mul_nonneg h2 (by omega)
    rw [show (m.natAbs : Int) = m by omega] at h1; omega
  · have : m * B ≤ 0 := Int.mul_nonpos_of_nonpos_of_nonneg h2 (by omega)
    rw [show (m.natAbs : Int) = -m by omega, Int.neg_mul] at h1; omega


set_option maxHeartbeats 1000000 in
set_option maxRecDepth 10000 in
theorem addExact_any (p c h xn yn : Int) (s xd yd : Nat) (w : World) (hs1 : 1 ≤ s) (hs6 : s ≤ 6) (hx : Val (sq s) ⟨xn, xd⟩) (hy : Val (sq s) ⟨yn, yd⟩) :
    Calls Tryz.prog 123 #[.agg #[.int .i64 p, .int .i64 c, .int .i64 h, .int .i64 s], .agg #[.int .i64 xn, .int .i64 xd], .agg #[.int .i64 yn, .int .i64 yd]] w (RetE w (addE (sq s) ⟨xn, xd⟩ ⟨yn, yd⟩)) := by
  obtain ⟨hq1, hq36, _⟩ := sq_bd hs1 hs6
  have CB := Lib.hid fun (W : World) => baseOf_any p c h s W hs6
  have hxd : xd < 50 := depth_lt hq1 hx
  have hyd : yd < 50 := depth_lt hq1 hy
  have hx1 : -1000000000000000000 ≤ xn := hx.1
  have hx2 : xn ≤ 1000000000000000000 := hx.2.1
  have hy1 : -1000000000000000000 ≤ yn := hy.1
  have hy2 : yn ≤ 1000000000000000000 := hy.2.1
  have HX := Lib.hid hx
  have HY := Lib.hid hy
  clear hx hy
  have HF0 : ∀ a b c' d : Int, Hid (Fr w ((((w.alloc (.cells #[.int .i64 p, .int .i64 c, .int .i64 h, .int .i64 s] 29)).alloc (.cells #[.int .i64 a, .int .i64 b] 26)).alloc (.cells #[.int .i64 c', .int .i64 d] 26)).alloc (.cells #[.int .i64 0, .int .i64 0] 26)) [[.int .i64 p, .int .i64 c, .int .i64 h, .int .i64 s], [.int .i64 a, .int .i64 b], [.int .i64 c', .int .i64 d], [.int .i64 0, .int .i64 0]]) :=
    fun a b c' d => ((((Fr.start w).allocT (by simp) _ _).allocT (by simp) _ _).allocT (by simp) _ _).allocT (by simp) _ _
  by_cases hsw : (yd : Int) < xd
  · go_enter Tryz.func123, Tryz.ntmps123
    go_wp2_with (fail)
    go_loopw [20] (fun i wr => ∃ j : Nat, (j : Int) ≤ (xd : Int) - yd ∧ i = .int .i64 j ∧ -4000000000000000000 ≤ yn * pw (sq s) j ∧ yn * pw (sq s) j ≤ 4000000000000000000 ∧ Fr w wr [[.int .i64 p, .int .i64 c, .int .i64 h, .int .i64 s], [.int .i64 (yn * pw (sq s) j), .int .i64 yd], [.int .i64 xn, .int .i64 xd], [.int .i64 0, .int .i64 0]]) (fun i _ => xd - yd - (intOf i).toNat)
    case atStart => exact ⟨0, by omega, rfl, by rw [pw_zero]; omega, by rw [pw_zero]; omega, by rw [pw_zero, Int.mul_one]; exact (HF0 yn yd xn xd).out⟩
    case round =>
      obtain ⟨j, hj, rfl, hm1, hm2, hF⟩ := hrel
      have HF := Lib.hid hF
      have HS : Hid (∀ _ : Int, pw (sq s) (j + 1) = pw (sq s) j * sq s) := fun _ => rfl
      clear hF
      by_cases hlt : (j : Int) < (xd : Int) - yd
      ·
        obtain ⟨m, hm⟩ : ∃ m, yn * pw (sq s) j = m := ⟨_, rfl⟩
        have HM := Lib.hid hm
        rw [hm] at HF hm1 hm2
        clear hm
        have z0 : w.heap.size < wr.heap.size := HF.out.ltA 0 rfl (by simp)
        have c00 := HF.out.cellA (b := w.heap.size) 0 0 rfl rfl
        have f00 := HF.out.frozA (b := w.heap.size) 0 0 rfl rfl
        have c01 := HF.out.cellA (b := w.heap.size) 0 1 rfl rfl
        have f01 := HF.out.frozA (b := w.heap.size) 0 1 rfl rfl
        have c02 := HF.out.cellA (b := w.heap.size) 0 2 rfl rfl
        have f02 := HF.out.frozA (b := w.heap.size) 0 2 rfl rfl
        have c03 := HF.out.cellA (b := w.heap.size) 0 3 rfl rfl
        have f03 := HF.out.frozA (b := w.heap.size) 0 3 rfl rfl
        have z1 : w.heap.size + 1 < wr.heap.size := HF.out.ltA 1 rfl (by simp)
        have c10 := HF.out.cellA (b := w.heap.size + 1) 1 0 rfl rfl
        have f10 := HF.out.frozA (b := w.heap.size + 1) 1 0 rfl rfl
        have c11 := HF.out.cellA (b := w.heap.size + 1) 1 1 rfl rfl
        have f11 := HF.out.frozA (b := w.heap.size + 1) 1 1 rfl rfl
        have z2 : w.heap.size + 1 + 1 < wr.heap.size := HF.out.ltA 2 rfl (by simp)
        have c20 := HF.out.cellA (b := w.heap.size + 1 + 1) 2 0 rfl rfl
        have f20 := HF.out.frozA (b := w.heap.size + 1 + 1) 2 0 rfl rfl
        have c21 := HF.out.cellA (b := w.heap.size + 1 + 1) 2 1 rfl rfl
        have f21 := HF.out.frozA (b := w.heap.size + 1 + 1) 2 1 rfl rfl
        have z3 : w.heap.size + 1 + 1 + 1 < wr.heap.size := HF.out.ltA 3 rfl (by simp)
        have c30 := HF.out.cellA (b := w.heap.size + 1 + 1 + 1) 3 0 rfl rfl
        have f30 := HF.out.frozA (b := w.heap.size + 1 + 1 + 1) 3 0 rfl rfl
        have c31 := HF.out.cellA (b := w.heap.size + 1 + 1 + 1) 3 1 rfl rfl
        have f31 := HF.out.frozA (b := w.heap.size + 1 + 1 + 1) 3 1 rfl rfl
        by_cases hfar : 4000000000000000000 / sq s < (m.natAbs : Int)
        ·
          have HR : Hid (addE (sq s) ⟨xn, xd⟩ ⟨yn, yd⟩ = none) := by
            have := addE_far (B := sq s) hq1 (x := ⟨yn, yd⟩) (y := ⟨xn, xd⟩) HX.out (j := j) (by show j < xd - yd; omega) (by show 4 * maxNum < yn * pw (sq s) j * sq s ∨ yn * pw (sq s) j * sq s < -(4 * maxNum); rw [HM.out]; exact far_mul hq1 hfar)
            rw [addE_comm]; exact this
          go_wp2_with (fail)
          first | refine wp_region_more2 (by kernel_rfl) (by kernel_rfl) ?_ | refine wp_region_more (by kernel_rfl) (by kernel_rfl) ?_
          repeat (first | go_big_quiet_step (first | (go_at_call 177; exact more_same (absolute_any m _ (by omega) (by omega))) | (go_at_call 175; exact more_call (CB.out _))) | quiet_step (first | (go_at_call 177; exact more_same (absolute_any m _ (by omega) (by omega))) | (go_at_call 175; exact more_call (CB.out _))))
          refine wpQuiet_nil ?_
          intro _ hw'
          obtain ⟨tq, hw''⟩ := hw'
          subst hw''
          go_wp2_with (fail)
          refine bodyPost_ret (v := .tuple #[.agg #[.int .i64 0, .int .i64 0], .bool false]) (by simp [results, Tryz.results123, go_sem, *]) rfl (RetE.mkN HR.out ?_)
          exact stw (stw (HF.out.more _).b (by omega)) (by omega)
        ·
          have hnear := near_mul (m := m) hq1 (by omega)
          have hdq : decide (4000000000000000000 / sq s < (m.natAbs : Int)) = false := by simp; omega
          have HN := Lib.hid hnear
          obtain ⟨hn1, hn2⟩ := hnear
          clear hfar
          go_wp2_with (fail)
          first | refine wp_region_more2 (by kernel_rfl) (by kernel_rfl) ?_ | refine wp_region_more (by kernel_rfl) (by kernel_rfl) ?_
          repeat (first | go_big_quiet_step (first | (go_at_call 177; exact more_same (absolute_any m _ (by omega) (by omega))) | (go_at_call 175; exact more_call (CB.out _))) | quiet_step (first | (go_at_call 177; exact more_same (absolute_any m _ (by omega) (by omega))) | (go_at_call 175; exact more_call (CB.out _))))
          refine wpQuiet_nil ?_
          intro _ hw'
          obtain ⟨tq, hw''⟩ := hw'
          subst hw''
          go_wp2_with (fail)
          first | refine wp_region_tail_more2 6 (by kernel_rfl) (by kernel_rfl) ?_ | refine wp_region_tail_more 6 (by kernel_rfl) (by kernel_rfl) ?_
          simp only [List.take_succ_cons, List.take_zero, List.drop_succ_cons, List.drop_zero]
          repeat (first | go_big_quiet_step ((go_at_call 175; exact more_call (CB.out _))) | quiet_step ((go_at_call 175; exact more_call (CB.out _))))
          refine wpQuiet_nil ?_
          intro _ hw'
          obtain ⟨t2, hw''⟩ := hw'
          subst hw''
          go_wp2_with (fail)
          go_roundw
          case rel => exact ⟨j + 1, by omega, by go_num, by rw [HS.out 0, ← Int.mul_assoc, HM.out]; exact HN.out.1, by rw [HS.out 0, ← Int.mul_assoc, HM.out]; exact HN.out.2, by rw [HS.out 0, ← Int.mul_assoc, HM.out]; exact (HF.out.more _).set (b := w.heap.size + 1) 1 0 rfl rfl _⟩
          case measure => simp [intOf]; omega
      ·
        have hjj : j = xd - yd := by omega
        subst hjj
        obtain ⟨m, hm⟩ : ∃ m, yn * pw (sq s) (xd - yd) = m := ⟨_, rfl⟩
        have HM := Lib.hid hm
        rw [hm] at HF hm1 hm2
        clear hm
        have HR : Hid (addE (sq s) ⟨xn, xd⟩ ⟨yn, yd⟩ = mk (sq s) (m + xn) xd) := by
          have := addE_le (B := sq s) (x := ⟨yn, yd⟩) (y := ⟨xn, xd⟩) (by show yd ≤ xd; omega)
          rw [show (⟨yn, yd⟩ : E).num * pw (sq s) ((⟨xn, xd⟩ : E).depth - (⟨yn, yd⟩ : E).depth) = m from HM.out] at this
          rw [addE_comm]; exact this
        have z0 : w.heap.size < wr.heap.size := HF.out.ltA 0 rfl (by simp)
        have c00 := HF.out.cellA (b := w.heap.size) 0 0 rfl rfl
        have f00 := HF.out.frozA (b := w.heap.size) 0 0 rfl rfl
        have c01 := HF.out.cellA (b := w.heap.size) 0 1 rfl rfl
        have f01 := HF.out.frozA (b := w.heap.size) 0 1 rfl rfl
        have c02 := HF.out.cellA (b := w.heap.size) 0 2 rfl rfl
        have f02 := HF.out.frozA (b := w.heap.size) 0 2 rfl rfl
        have c03 := HF.out.cellA (b := w.heap.size) 0 3 rfl rfl
        have f03 := HF.out.frozA (b := w.heap.size) 0 3 rfl rfl
        have z1 : w.heap.size + 1 < wr.heap.size := HF.out.ltA 1 rfl (by simp)
        have c10 := HF.out.cellA (b := w.heap.size + 1) 1 0 rfl rfl
        have f10 := HF.out.frozA (b := w.heap.size + 1) 1 0 rfl rfl
        have c11 := HF.out.cellA (b := w.heap.size + 1) 1 1 rfl rfl
        have f11 := HF.out.frozA (b := w.heap.size + 1) 1 1 rfl rfl
        have z2 : w.heap.size + 1 + 1 < wr.heap.size := HF.out.ltA 2 rfl (by simp)
        have c20 := HF.out.cellA (b := w.heap.size + 1 + 1) 2 0 rfl rfl
        have f20 := HF.out.frozA (b := w.heap.size + 1 + 1) 2 0 rfl rfl
        have c21 := HF.out.cellA (b := w.heap.size + 1 + 1) 2 1 rfl rfl
        have f21 := HF.out.frozA (b := w.heap.size + 1 + 1) 2 1 rfl rfl
        have z3 : w.heap.size + 1 + 1 + 1 < wr.heap.size := HF.out.ltA 3 rfl (by simp)
        have c30 := HF.out.cellA (b := w.heap.size + 1 + 1 + 1) 3 0 rfl rfl
        have f30 := HF.out.frozA (b := w.heap.size + 1 + 1 + 1) 3 0 rfl rfl
        have c31 := HF.out.cellA (b := w.heap.size + 1 + 1 + 1) 3 1 rfl rfl
        have f31 := HF.out.frozA (b := w.heap.size + 1 + 1 + 1) 3 1 rfl rfl
        have CM := fun (W : World) => makeExact_any p c h (m + xn) s xd W hs1 hs6 (by omega) (by omega) (by omega)
        rcases hmk : mk (sq s) (m + xn) xd with _ | ⟨num, dep⟩
        ·
          rw [hmk] at CM HR
          have CM' := Lib.hid CM
          clear CM hmk
          go_wp2_with (go_at_call 165; refine (more_first (CM'.out _)).mono ?_; rintro e w' ⟨rfl, t, rfl⟩)
          refine bodyPost_ret (v := .tuple #[.agg #[.int .i64 0, .int .i64 0], .bool false]) (by simp [results, Tryz.results123, go_sem, *]) rfl (RetE.mkN HR.out ?_)
          exact stw (stw (HF.out.more _).b (by omega)) (by omega)
        ·
          rw [hmk] at CM HR
          have CM' := Lib.hid CM
          clear CM hmk
          go_wp2_with (go_at_call 165; refine (more_first (CM'.out _)).mono ?_; rintro e w' ⟨rfl, t, rfl⟩)
          refine bodyPost_ret (v := .tuple #[.agg #[.int .i64 num, .int .i64 dep], .bool true]) (by simp [results, Tryz.results123, go_sem, *]) rfl (RetE.mkY HR.out ?_)
          exact stw (stw (HF.out.more _).b (by omega)) (by omega)
  · go_enter Tryz.func123, Tryz.ntmps123
    go_wp2_with (fail)
    go_loopw [20] (fun i wr => ∃ j : Nat, (j : Int) ≤ (yd : Int) - xd ∧ i = .int .i64 j ∧ -4000000000000000000 ≤ xn * pw (sq s) j ∧ xn * pw (sq s) j ≤ 4000000000000000000 ∧ Fr w wr [[.int .i64 p, .int .i64 c, .int .i64 h, .int .i64 s], [.int .i64 (xn * pw (sq s) j), .int .i64 xd], [.int .i64 yn, .int .i64 yd], [.int .i64 0, .int .i64 0]]) (fun i _ => yd - xd - (intOf i).toNat)
    case atStart => exact ⟨0, by omega, rfl, by rw [pw_zero]; omega, by rw [pw_zero]; omega, by rw [pw_zero, Int.mul_one]; exact (HF0 xn xd yn yd).out⟩
    case round =>
      obtain ⟨j, hj, rfl, hm1, hm2, hF⟩ := hrel
      have HF := Lib.hid hF
      have HS : Hid (∀ _ : Int, pw (sq s) (j + 1) = pw (sq s) j * sq s) := fun _ => rfl
      clear hF
      by_cases hlt : (j : Int) < (yd : Int) - xd
      ·
        obtain ⟨m, hm⟩ : ∃ m, xn * pw (sq s) j = m := ⟨_, rfl⟩
        have HM := Lib.hid hm
        rw [hm] at HF hm1 hm2
        clear hm
        have z0 : w.heap.size < wr.heap.size := HF.out.ltA 0 rfl (by simp)
        have c00 := HF.out.cellA (b := w.heap.size) 0 0 rfl rfl
        have f00 := HF.out.frozA (b := w.heap.size) 0 0 rfl rfl
        have c01 := HF.out.cellA (b := w.heap.size) 0 1 rfl rfl
        have f01 := HF.out.frozA (b := w.heap.size) 0 1 rfl rfl
        have c02 := HF.out.cellA (b := w.heap.size) 0 2 rfl rfl
        have f02 := HF.out.frozA (b := w.heap.size) 0 2 rfl rfl
        have c03 := HF.out.cellA (b := w.heap.size) 0 3 rfl rfl
        have f03 := HF.out.frozA (b := w.heap.size) 0 3 rfl rfl
        have z1 : w.heap.size + 1 < wr.heap.size := HF.out.ltA 1 rfl (by simp)
        have c10 := HF.out.cellA (b := w.heap.size + 1) 1 0 rfl rfl
        have f10 := HF.out.frozA (b := w.heap.size + 1) 1 0 rfl rfl
        have c11 := HF.out.cellA (b := w.heap.size + 1) 1 1 rfl rfl
        have f11 := HF.out.frozA (b := w.heap.size + 1) 1 1 rfl rfl
        have z2 : w.heap.size + 1 + 1 < wr.heap.size := HF.out.ltA 2 rfl (by simp)
        have c20 := HF.out.cellA (b := w.heap.size + 1 + 1) 2 0 rfl rfl
        have f20 := HF.out.frozA (b := w.heap.size + 1 + 1) 2 0 rfl rfl
        have c21 := HF.out.cellA (b := w.heap.size + 1 + 1) 2 1 rfl rfl
        have f21 := HF.out.frozA (b := w.heap.size + 1 + 1) 2 1 rfl rfl
        have z3 : w.heap.size + 1 + 1 + 1 < wr.heap.size := HF.out.ltA 3 rfl (by simp)
        have c30 := HF.out.cellA (b := w.heap.size + 1 + 1 + 1) 3 0 rfl rfl
        have f30 := HF.out.frozA (b := w.heap.size + 1 + 1 + 1) 3 0 rfl rfl
        have c31 := HF.out.cellA (b := w.heap.size + 1 + 1 + 1) 3 1 rfl rfl
        have f31 := HF.out.frozA (b := w.heap.size + 1 + 1 + 1) 3 1 rfl rfl
        by_cases hfar : 4000000000000000000 / sq s < (m.natAbs : Int)
        ·
          have HR : Hid (addE (sq s) ⟨xn, xd⟩ ⟨yn, yd⟩ = none) := by
            have := addE_far (B := sq s) hq1 (x := ⟨xn, xd⟩) (y := ⟨yn, yd⟩) HY.out (j := j) (by show j < yd - xd; omega) (by show 4 * maxNum < xn * pw (sq s) j * sq s ∨ xn * pw (sq s) j * sq s < -(4 * maxNum); rw [HM.out]; exact far_mul hq1 hfar)
            exact this
          go_wp2_with (fail)
          first | refine wp_region_more2 (by kernel_rfl) (by kernel_rfl) ?_ | refine wp_region_more (by kernel_rfl) (by kernel_rfl) ?_
          repeat (first | go_big_quiet_step (first | (go_at_call 177; exact more_same (absolute_any m _ (by omega) (by omega))) | (go_at_call 175; exact more_call (CB.out _))) | quiet_step (first | (go_at_call 177; exact more_same (absolute_any m _ (by omega) (by omega))) | (go_at_call 175; exact more_call (CB.out _))))
          refine wpQuiet_nil ?_
          intro _ hw'
          obtain ⟨tq, hw''⟩ := hw'
          subst hw''
          go_wp2_with (fail)
          refine bodyPost_ret (v := .tuple #[.agg #[.int .i64 0, .int .i64 0], .bool false]) (by simp [results, Tryz.results123, go_sem, *]) rfl (RetE.mkN HR.out ?_)
          exact stw (stw (HF.out.more _).b (by omega)) (by omega)
        ·
          have hnear := near_mul (m := m) hq1 (by omega)
          have hdq : decide (4000000000000000000 / sq s < (m.natAbs : Int)) = false := by simp; omega
          have HN := Lib.hid hnear
          obtain ⟨hn1, hn2⟩ := hnear
          clear hfar
          go_wp2_with (fail)
          first | refine wp_region_more2 (by kernel_rfl) (by kernel_rfl) ?_ | refine wp_region_more (by kernel_rfl) (by kernel_rfl) ?_
          repeat (first | go_big_quiet_step (first | (go_at_call 177; exact more_same (absolute_any m _ (by omega) (by omega))) | (go_at_call 175; exact more_call (CB.out _))) | quiet_step (first | (go_at_call 177; exact more_same (absolute_any m _ (by omega) (by omega))) | (go_at_call 175; exact more_call (CB.out _))))
          refine wpQuiet_nil ?_
          intro _ hw'
          obtain ⟨tq, hw''⟩ := hw'
          subst hw''
          go_wp2_with (fail)
          first | refine wp_region_tail_more2 6 (by kernel_rfl) (by kernel_rfl) ?_ | refine wp_region_tail_more 6 (by kernel_rfl) (by kernel_rfl) ?_
          simp only [List.take_succ_cons, List.take_zero, List.drop_succ_cons, List.drop_zero]
          repeat (first | go_big_quiet_step ((go_at_call 175; exact more_call (CB.out _))) | quiet_step ((go_at_call 175; exact more_call (CB.out _))))
          refine wpQuiet_nil ?_
          intro _ hw'
          obtain ⟨t2, hw''⟩ := hw'
          subst hw''
          go_wp2_with (fail)
          go_roundw
          case rel => exact ⟨j + 1, by omega, by go_num, by rw [HS.out 0, ← Int.mul_assoc, HM.out]; exact HN.out.1, by rw [HS.out 0, ← Int.mul_assoc, HM.out]; exact HN.out.2, by rw [HS.out 0, ← Int.mul_assoc, HM.out]; exact (HF.out.more _).set (b := w.heap.size + 1) 1 0 rfl rfl _⟩
          case measure => simp [intOf]; omega
      ·
        have hjj : j = yd - xd := by omega
        subst hjj
        obtain ⟨m, hm⟩ : ∃ m, xn * pw (sq s) (yd - xd) = m := ⟨_, rfl⟩
        have HM := Lib.hid hm
        rw [hm] at HF hm1 hm2
        clear hm
        have HR : Hid (addE (sq s) ⟨xn, xd⟩ ⟨yn, yd⟩ = mk (sq s) (m + yn) yd) := by
          have := addE_le (B := sq s) (x := ⟨xn, xd⟩) (y := ⟨yn, yd⟩) (by show xd ≤ yd; omega)
          rw [show (⟨xn, xd⟩ : E).num * pw (sq s) ((⟨yn, yd⟩ : E).depth - (⟨xn, xd⟩ : E).depth) = m from HM.out] at this
          exact this
        have z0 : w.heap.size < wr.heap.size := HF.out.ltA 0 rfl (by simp)
        have c00 := HF.out.cellA (b := w.heap.size) 0 0 rfl rfl
        have f00 := HF.out.frozA (b := w.heap.size) 0 0 rfl rfl
        have c01 := HF.out.cellA (b := w.heap.size) 0 1 rfl rfl
        have f01 := HF.out.frozA (b := w.heap.size) 0 1 rfl rfl
        have c02 := HF.out.cellA (b := w.heap.size) 0 2 rfl rfl
        have f02 := HF.out.frozA (b := w.heap.size) 0 2 rfl rfl
        have c03 := HF.out.cellA (b := w.heap.size) 0 3 rfl rfl
        have f03 := HF.out.frozA (b := w.heap.size) 0 3 rfl rfl
        have z1 : w.heap.size + 1 < wr.heap.size := HF.out.ltA 1 rfl (by simp)
        have c10 := HF.out.cellA (b := w.heap.size + 1) 1 0 rfl rfl
        have f10 := HF.out.frozA (b := w.heap.size + 1) 1 0 rfl rfl
        have c11 := HF.out.cellA (b := w.heap.size + 1) 1 1 rfl rfl
        have f11 := HF.out.frozA (b := w.heap.size + 1) 1 1 rfl rfl
        have z2 : w.heap.size + 1 + 1 < wr.heap.size := HF.out.ltA 2 rfl (by simp)
        have c20 := HF.out.cellA (b := w.heap.size + 1 + 1) 2 0 rfl rfl
        have f20 := HF.out.frozA (b := w.heap.size + 1 + 1) 2 0 rfl rfl
        have c21 := HF.out.cellA (b := w.heap.size + 1 + 1) 2 1 rfl rfl
        have f21 := HF.out.frozA (b := w.heap.size + 1 + 1) 2 1 rfl rfl
        have z3 : w.heap.size + 1 + 1 + 1 < wr.heap.size := HF.out.ltA 3 rfl (by simp)
        have c30 := HF.out.cellA (b := w.heap.size + 1 + 1 + 1) 3 0 rfl rfl
        have f30 := HF.out.frozA (b := w.heap.size + 1 + 1 + 1) 3 0 rfl rfl
        have c31 := HF.out.cellA (b := w.heap.size + 1 + 1 + 1) 3 1 rfl rfl
        have f31 := HF.out.frozA (b := w.heap.size + 1 + 1 + 1) 3 1 rfl rfl
        have CM := fun (W : World) => makeExact_any p c h (m + yn) s yd W hs1 hs6 (by omega) (by omega) (by omega)
        rcases hmk : mk (sq s) (m + yn) yd with _ | ⟨num, dep⟩
        ·
          rw [hmk] at CM HR
          have CM' := Lib.hid CM
          clear CM hmk
          go_wp2_with (go_at_call 165; refine (more_first (CM'.out _)).mono ?_; rintro e w' ⟨rfl, t, rfl⟩)
          refine bodyPost_ret (v := .tuple #[.agg #[.int .i64 0, .int .i64 0], .bool false]) (by simp [results, Tryz.results123, go_sem, *]) rfl (RetE.mkN HR.out ?_)
          exact stw (stw (HF.out.more _).b (by omega)) (by omega)
        ·
          rw [hmk] at CM HR
          have CM' := Lib.hid CM
          clear CM hmk
          go_wp2_with (go_at_call 165; refine (more_first (CM'.out _)).mono ?_; rintro e w' ⟨rfl, t, rfl⟩)
          refine bodyPost_ret (v := .tuple #[.agg #[.int .i64 num, .int .i64 dep], .bool true]) (by simp [results, Tryz.results123, go_sem, *]) rfl (RetE.mkY HR.out ?_)
          exact stw (stw (HF.out.more _).b (by omega)) (by omega)
end Go.Proofs.YtlbkfhdnhalpbaaGreat

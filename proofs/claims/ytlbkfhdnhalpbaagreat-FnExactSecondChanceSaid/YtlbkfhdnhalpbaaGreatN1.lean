/- Contracts of counting: binomial coefficients, how many positions there are; the base and the scales of exact numbers. There are no conditions. -/
import Derived.Test.YtlbkfhdnhalpbaaGreatA1
import Derived.Test.YtlbkfhdnhalpbaaGreatEx4
import Derived.Test.YtlbkfhdnhalpbaaGreatFr
namespace Go.Proofs.YtlbkfhdnhalpbaaGreat
set_option linter.unusedVariables false
set_option linter.unusedSimpArgs false
open Go.RowKit Ps Ra Ex



theorem wys_bd {k m : Nat} (hk : k ≤ 25) (hm : m ≤ 15) : (wys k m : Int) ≤ 50000000000 := by
  have h1 := wys_fact 25 15
  have h2 := wys_mono hk hm
  have h3 : wys 25 15 ≤ 50000000000 := by
    apply Nat.le_of_not_lt
    intro h
    have h4 : 50000000001 * (fact 25 * fact 15) ≤ wys 25 15 * (fact 25 * fact 15) := Nat.mul_le_mul_right _ h
    rw [h1] at h4
    exact absurd h4 (by decide)
  omega

theorem choose_any (k m : Nat) (w : World) (hk : k ≤ 25) (hm : m ≤ 15) :
    Calls Tryz.prog 192 #[.int .i64 ((k : Int) + m), .int .i64 k] w fun e w' => e = .returned (.int .i64 (wys k m)) ∧ w = w' := by
  go_enter Tryz.func192, Tryz.ntmps192
  go_wp2
  go_loop [5, 6] (fun o i => ∃ j : Nat, j ≤ k ∧ i = .int .i64 ((j : Int) + 1) ∧ o = .int .i64 (wys j m)) (fun _ i => k + 1 - (intOf i).toNat)
  case atStart => exact ⟨0, by omega, rfl, rfl⟩
  case round =>
    obtain ⟨j, hj, rfl, rfl⟩ := hrel
    by_cases hlt : j < k
    · have h1 := wys_bd (show j ≤ 25 by omega) hm
      have h0 : (0 : Int) ≤ (wys j m : Int) := Int.natCast_nonneg _
      have e1 : (wys j m : Int) * ((k : Int) + m - k + (j + 1)) = ((wys j m * (m + j + 1) : Nat) : Int) := by
        rw [show (k : Int) + m - k + (j + 1) = ((m + j + 1 : Nat) : Int) by omega, ← Int.natCast_mul]
      have h2 : (wys j m : Int) * ((k : Int) + m - k + (j + 1)) ≤ 50000000000 * 41 := Int.mul_le_mul h1 (by omega) (by omega) (by omega)
      have h3 : 0 ≤ (wys j m : Int) * ((k : Int) + m - k + (j + 1)) := by rw [e1]; exact Int.natCast_nonneg _
      have E : Hid ((wys j m : Int) * ((k : Int) + m - k + (j + 1)) / ((j : Int) + 1) = (wys (j + 1) m : Int)) := by
        show _ = _
        rw [e1, ← wys_div, Int.natCast_ediv]; rfl
      clear e1
      go_wp2
      go_round
      case rel => exact ⟨j + 1, by omega, by go_num, by rw [E.out]⟩
      case measure => simp [intOf]; omega
    · obtain rfl : j = k := by omega
      go_wp2
      go_ret
      exact ⟨rfl, rfl⟩

theorem listsUpTo_any (k m : Nat) (w : World) (hk : k ≤ 25) (hm : m ≤ 15) :
    Calls Tryz.prog 174 #[.int .i64 k, .int .i64 m] w fun e w' => e = .returned (.int .i64 (wys k m)) ∧ w = w' := by
  go_enter Tryz.func174, Tryz.ntmps174
  go_wp2_with (go_at_call 192; refine (choose_any k m _ hk hm).mono ?_; rintro e w' ⟨rfl, rfl⟩)
  go_ret
  exact ⟨rfl, rfl⟩

/-- How many positions there are, -1 if there are too many. -/
def wysC (k m : Nat) : Int := if wys k m ≤ 1000000 then (wys k m : Int) else -1
theorem wysC_ok {k m : Nat} (h : wys k m ≤ 1000000) : wysC k m = (wys k m : Int) := if_pos h
theorem wysC_no {k m : Nat} (h : ¬ wys k m ≤ 1000000) : wysC k m = -1 := if_neg h

theorem l10Ways_any (k m : Nat) (w : World) (hk : k ≤ 25) (hm : m ≤ 15) :
    Calls Tryz.prog 97 #[.int .i64 m, .int .i64 k] w fun e w' => e = .returned (.int .i64 (wysC k m)) ∧ w = w' := by
  go_enter Tryz.func97, Tryz.ntmps97
  go_wp2
  go_loop [5, 6] (fun o i => ∃ j : Nat, j ≤ k ∧ i = .int .i64 ((j : Int) + 1) ∧ o = .int .i64 (wys j m) ∧ (wys j m : Int) ≤ 1000000) (fun _ i => k + 1 - (intOf i).toNat)
  case atStart => exact ⟨0, by omega, rfl, rfl, by rw [wys_zero]; omega⟩
  case round =>
    obtain ⟨j, hj, rfl, rfl, h1⟩ := hrel
    by_cases hlt : j < k
    · have h0 : (0 : Int) ≤ (wys j m : Int) := Int.natCast_nonneg _
      have e1 : (wys j m : Int) * ((m : Int) + (j + 1)) = ((wys j m * (m + j + 1) : Nat) : Int) := by
        rw [show (m : Int) + (j + 1) = ((m + j + 1 : Nat) : Int) by omega, ← Int.natCast_mul]
      have h2 : (wys j m : Int) * ((m : Int) + (j + 1)) ≤ 1000000 * 41 := Int.mul_le_mul h1 (by omega) (by omega) (by omega)
      have h3 : 0 ≤ (wys j m : Int) * ((m : Int) + (j + 1)) := by rw [e1]; exact Int.natCast_nonneg _
      have e2 : (wys j m : Int) * ((m : Int) + (j + 1)) / ((j : Int) + 1) = (wys (j + 1) m : Int) := by
        rw [e1, ← wys_div, Int.natCast_ediv]; rfl
      have E := Lib.hid e2
      have hmono := wys_mono (show j + 1 ≤ k by omega) (Nat.le_refl m)
      clear e1
      by_cases hbig : (wys (j + 1) m : Int) ≤ 1000000
      · have hb : (wys j m : Int) * ((m : Int) + (j + 1)) / ((j : Int) + 1) ≤ 1000000 := by rw [e2]; exact hbig
        clear e2
        go_wp2
        go_round
        case rel => exact ⟨j + 1, by omega, by go_num, by rw [E.out], hbig⟩
        case measure => simp [intOf]; omega
      · have hb : 1000000 < (wys j m : Int) * ((m : Int) + (j + 1)) / ((j : Int) + 1) := by rw [e2]; omega
        have hF := Lib.hid (wysC_no (k := k) (m := m) (by omega))
        clear e2
        go_wp2
        go_ret
        exact ⟨by rw [hF.out]; rfl, rfl⟩
    · obtain rfl : j = k := by omega
      have hF := Lib.hid (wysC_ok (k := j) (m := m) (by omega))
      go_wp2
      go_ret
      exact ⟨by rw [hF.out]; rfl, rfl⟩

theorem BearoffCount_any (p s : Int) (c h : Nat) (w : World) (hv : isVar p c h s = true) :
    Calls Tryz.prog 118 #[.agg #[.int .i64 p, .int .i64 c, .int .i64 h, .int .i64 s]] w fun e w' => e = .returned (.int .i64 (wysC h c)) ∧ Below w.heap.size w w' := by
  have HB : Hid (Below w.heap.size w (w.alloc (.cells #[.int .i64 p, .int .i64 c, .int .i64 h, .int .i64 s] 29))) := (Below.refl _ _).alloc (Nat.le_refl _) _
  obtain ⟨hp0, hp24, hc0, hc15, hh1, hhp, _⟩ := isVar_yes hv
  have hh : h ≤ 25 := by omega
  have hc : c ≤ 15 := by omega
  have hb := wys_bd hh hc
  by_cases hbig : (wys h c : Int) ≤ 1000000
  · have HF := Lib.hid (wysC_ok (k := h) (m := c) (by omega))
    go_enter Tryz.func118, Tryz.ntmps118
    go_wp2_with (first | (go_at_call 98; refine (more_first (IsVariant_any _ _ _ _ _)).mono ?_; rintro e w' ⟨rfl, t, rfl⟩) | (go_at_call 174; refine (listsUpTo_any h c _ hh hc).mono ?_; rintro e w' ⟨rfl, rfl⟩))
    go_ret
    exact ⟨by rw [HF.out]; rfl, HB.out.trans ((below_more _ _).mono HB.out.size)⟩
  · have HF := Lib.hid (wysC_no (k := h) (m := c) (by omega))
    go_enter Tryz.func118, Tryz.ntmps118
    go_wp2_with (first | (go_at_call 98; refine (more_first (IsVariant_any _ _ _ _ _)).mono ?_; rintro e w' ⟨rfl, t, rfl⟩) | (go_at_call 174; refine (listsUpTo_any h c _ hh hc).mono ?_; rintro e w' ⟨rfl, rfl⟩))
    go_ret
    exact ⟨by rw [HF.out]; rfl, HB.out.trans ((below_more _ _).mono HB.out.size)⟩
theorem sBearoffCount_any (p s : Int) (c h : Nat) (w : World) (hv : isVar p c h s = true) :
    Calls Tryz.prog 38 #[.agg #[.int .i64 p, .int .i64 c, .int .i64 h, .int .i64 s]] w fun e w' => e = .returned (.int .i64 (wysC h c)) ∧ Below w.heap.size w w' := by
  have HB : Hid (Below w.heap.size w (w.alloc (.cells #[.int .i64 p, .int .i64 c, .int .i64 h, .int .i64 s] 29))) := (Below.refl _ _).alloc (Nat.le_refl _) _
  obtain ⟨hp0, hp24, hc0, hc15, hh1, hhp, _⟩ := isVar_yes hv
  have hh : h ≤ 25 := by omega
  have hc : c ≤ 15 := by omega
  have hb := wys_bd hh hc
  by_cases hbig : (wys h c : Int) ≤ 1000000
  · have HF := Lib.hid (wysC_ok (k := h) (m := c) (by omega))
    go_enter Tryz.func38, Tryz.ntmps38
    go_wp2_with (first | (go_at_call 72; refine (more_first (sIsVariant_any _ _ _ _ _)).mono ?_; rintro e w' ⟨rfl, t, rfl⟩) | (go_at_call 97; refine (l10Ways_any h c _ hh hc).mono ?_; rintro e w' ⟨rfl, rfl⟩))
    go_ret
    exact ⟨by rw [HF.out]; rfl, HB.out.trans ((below_more _ _).mono HB.out.size)⟩
  · have HF := Lib.hid (wysC_no (k := h) (m := c) (by omega))
    go_enter Tryz.func38, Tryz.ntmps38
    go_wp2_with (first | (go_at_call 72; refine (more_first (sIsVariant_any _ _ _ _ _)).mono ?_; rintro e w' ⟨rfl, t, rfl⟩) | (go_at_call 97; refine (l10Ways_any h c _ hh hc).mono ?_; rintro e w' ⟨rfl, rfl⟩))
    go_ret
    exact ⟨by rw [HF.out]; rfl, HB.out.trans ((below_more _ _).mono HB.out.size)⟩

/-! ### the base and scales -/
theorem baseOf_any (p c h : Int) (s : Nat) (w : World) (hs : s ≤ 6) :
    Calls Tryz.prog 175 #[.agg #[.int .i64 p, .int .i64 c, .int .i64 h, .int .i64 s]] w fun e w' => e = .returned (.int .i64 (sq s)) ∧ Below w.heap.size w w' := by
  have h1 : 0 ≤ (s : Int) * s := by rw [← Int.natCast_mul]; exact Int.natCast_nonneg _
  have h2 : (s : Int) * s ≤ 6 * 6 := Int.mul_le_mul (by omega) (by omega) (by omega) (by omega)
  go_enter Tryz.func175, Tryz.ntmps175
  go_wp2
  go_ret
  exact ⟨rfl, (Below.refl _ _).alloc (Nat.le_refl _) _⟩
theorem l09Base_any (p c h : Int) (s : Nat) (w : World) (hs : s ≤ 6) :
    Calls Tryz.prog 173 #[.agg #[.int .i64 p, .int .i64 c, .int .i64 h, .int .i64 s]] w fun e w' => e = .returned (.int .i64 (sq s)) ∧ Below w.heap.size w w' := by
  have h1 : 0 ≤ (s : Int) * s := by rw [← Int.natCast_mul]; exact Int.natCast_nonneg _
  have h2 : (s : Int) * s ≤ 6 * 6 := Int.mul_le_mul (by omega) (by omega) (by omega) (by omega)
  go_enter Tryz.func173, Tryz.ntmps173
  go_wp2
  go_ret
  exact ⟨rfl, (Below.refl _ _).alloc (Nat.le_refl _) _⟩
end Go.Proofs.YtlbkfhdnhalpbaaGreat

/- Contracts of the program's multiple of an exact number, and of comparing two. There are no conditions. -/
import Derived.Test.YtlbkfhdnhalpbaaGreatN5
import Derived.Test.YtlbkfhdnhalpbaaGreatShelf
namespace Go.Proofs.YtlbkfhdnhalpbaaGreat
set_option linter.unusedVariables false
set_option linter.unusedSimpArgs false
open Go.RowKit Ps Ra Ex

theorem Div64_low (lo y : Int) (w : World) (h0 : 0 ≤ lo) (h1 : lo < 10000000000000000000) (hy : 1 ≤ y) (hy2 : y ≤ 1000) :
    Calls Tryz.prog 178 #[.int .u64 0, .int .u64 lo, .int .u64 y] w fun e w' => e = .returned (.tuple #[.int .u64 (lo / y), .int .u64 (lo % y)]) ∧ Below w.heap.size w w' := by
  have b1 : (y == 0) = false := by simp; omega
  have b2 : decide (y ≤ 0) = false := by simp; omega
  go_enter Tryz.func178, Tryz.ntmps178
  go_wp2
  go_quiet (fail)
  go_wp2
  go_ret2
  exact ⟨rfl, below_drewN' (Below.refl _ _) _⟩

theorem Mul64_low (x k : Nat) (w : World) (h : (x : Int) * k ≤ 9000000000000000000) (hx : x ≤ 9000000000000000000) (hk : k ≤ 9000000000000000000) :
    Calls Tryz.prog 176 #[.int .u64 x, .int .u64 k] w fun e w' => e = .returned (.tuple #[.int .u64 0, .int .u64 ((x : Int) * k)]) ∧ w = w' := by
  refine (Tryz.bits_Mul64 x k (by omega) (by omega) w).mono fun e w' ⟨he, hw⟩ => ⟨?_, hw.symm⟩
  rw [he]
  have e1 : x * k < 18446744073709551616 := by have : ((x * k : Nat) : Int) ≤ 9000000000000000000 := by rw [Int.natCast_mul]; exact h
                                               omega
  rw [Nat.div_eq_of_lt e1, Nat.mod_eq_of_lt e1, Int.natCast_mul]; rfl


set_option maxHeartbeats 2000000 in
set_option maxRecDepth 10000 in
theorem scaleExact_any (p c h xn : Int) (s d k : Nat) (w : World) (hs1 : 1 ≤ s) (hs6 : s ≤ 6) (hx : Val (sq s) ⟨xn, d⟩) (hk1 : 1 ≤ k) (hk9 : k ≤ 9) :
    Calls Tryz.prog 122 #[.agg #[.int .i64 p, .int .i64 c, .int .i64 h, .int .i64 s], .agg #[.int .i64 xn, .int .i64 d], .int .i64 k] w (RetE w (sclE (sq s) ⟨xn, d⟩ k)) := by
  obtain ⟨hq1, hq36, _⟩ := sq_bd hs1 hs6
  have CB := Lib.hid fun (W : World) => baseOf_any p c h s W hs6
  have hd50 : d < 50 := depth_lt hq1 hx
  have hx1 : -1000000000000000000 ≤ xn := hx.1
  have hx2 : xn ≤ 1000000000000000000 := hx.2.1
  have hV : (xn.natAbs : Int) * k ≤ 9000000000000000000 := by
    have := Int.mul_le_mul (show (xn.natAbs : Int) ≤ 1000000000000000000 by omega) (show (k : Int) ≤ 9 by omega) (by omega) (by omega)
    omega
  have hV0 : 0 ≤ (xn.natAbs : Int) * k := Int.mul_nonneg (by omega) (by omega)
  have CM0 := fun (W : World) => Mul64_low xn.natAbs k W hV (by omega) (by omega)
  have H0 : Hid (sclE (sq s) ⟨xn, d⟩ k = mk (sq s) (sgP xn k * ((xn.natAbs : Int) * k)) d) := by
    have := sgP_mul xn k
    unfold Hid sclE
    rw [show (k : Int).natAbs = k by omega] at this
    show mk _ (xn * k) d = _
    rw [this]
  obtain ⟨V, hVV⟩ : ∃ V, (xn.natAbs : Int) * k = V := ⟨_, rfl⟩
  rw [hVV] at CM0 hV hV0 H0
  have CM : Hid (∀ W : World, Calls Tryz.prog 176 #[.int .u64 (xn.natAbs : Int), .int .u64 ((k : Int).natAbs : Int)] W fun e w' => e = .returned (.tuple #[.int .u64 0, .int .u64 V]) ∧ W = w') := by
    intro W; rw [show (((k : Int).natAbs : Nat) : Int) = (k : Int) by omega]; exact CM0 W
  have habk : (((k : Int).natAbs : Nat) : Int) ≤ 9 := by omega
  clear CM0 hVV hx
  have HF0 : Hid (Fr w (((w.alloc (.cells #[.int .i64 p, .int .i64 c, .int .i64 h, .int .i64 s] 29)).alloc (.cells #[.int .i64 xn, .int .i64 d] 26)).alloc (.cells #[.int .i64 0, .int .i64 0] 26)) [[.int .i64 p, .int .i64 c, .int .i64 h, .int .i64 s], [.int .i64 xn, .int .i64 d], [.int .i64 0, .int .i64 0]]) :=
    (((Fr.start w).allocT (by simp) _ _).allocT (by simp) _ _).allocT (by simp) _ _
  go_enter Tryz.func122, Tryz.ntmps122
  go_wp2_with (first | (go_at_call 175; refine (more_first (CB.out _)).mono ?_; rintro e w' ⟨rfl, t, rfl⟩) | (go_at_call 177; first | (refine (absolute_any xn _ (by omega) (by omega)).mono ?_; rintro e w' ⟨rfl, rfl⟩) | (refine (absolute_any (k : Int) _ (by omega) (by omega)).mono ?_; rintro e w' ⟨rfl, rfl⟩)) | (go_at_call 176; refine (CM.out _).mono ?_; rintro e w' ⟨rfl, rfl⟩))
  go_loopw [9, 10, 11] (fun vh vl vd wr => ∃ (j : Nat) (u : Int), j ≤ d ∧ vd = .int .i64 j ∧ vl = .int .u64 u ∧ vh = .int .u64 0 ∧ 0 ≤ u ∧ u ≤ 9000000000000000000 ∧ Hid (sclE (sq s) ⟨xn, d⟩ k = mk (sq s) (sgP xn k * u) j) ∧ Fr w wr [[.int .i64 p, .int .i64 c, .int .i64 h, .int .i64 s], [.int .i64 xn, .int .i64 d], [.int .i64 0, .int .i64 0]]) (fun _ _ vd _ => (intOf vd).toNat)
  case atStart => exact ⟨d, V, Nat.le_refl _, rfl, rfl, rfl, hV0, hV, H0, HF0.out.more _⟩
  case round =>
    obtain ⟨j, u, hj, rfl, rfl, rfl, hu0, hu1, HS, hF⟩ := hrel
    have HF := Lib.hid hF
    clear hF
    have z0 : w.heap.size < wr.heap.size := HF.out.ltA 0 rfl (by simp)
    have c00 := HF.out.cellA (b := w.heap.size) 0 0 rfl rfl
    have f00 := HF.out.frozA (b := w.heap.size) 0 0 rfl rfl
    have c01 := HF.out.cellA (b := w.heap.size) 0 1 rfl rfl
    have f01 := HF.out.frozA (b := w.heap.size) 0 1 rfl rfl
    have c02 := HF.out.cellA (b := w.heap.size) 0 2 rfl rfl
    have f02 := HF.out.frozA (b := w.heap.size) 0 2 rfl rfl
    have c03 := HF.out.cellA (b := w.heap.size) 0 3 rfl rfl
    have f03 := HF.out.frozA (b := w.heap.size) 0 3 rfl rfl
    have z1 : w.heap.size + 1 < wr.heap.size := HF.out.ltA 1 rfl (by simp)
    have c10 := HF.out.cellA (b := w.heap.size + 1) 1 0 rfl rfl
    have f10 := HF.out.frozA (b := w.heap.size + 1) 1 0 rfl rfl
    have c11 := HF.out.cellA (b := w.heap.size + 1) 1 1 rfl rfl
    have f11 := HF.out.frozA (b := w.heap.size + 1) 1 1 rfl rfl
    have z2 : w.heap.size + 1 + 1 < wr.heap.size := HF.out.ltA 2 rfl (by simp)
    have c20 := HF.out.cellA (b := w.heap.size + 1 + 1) 2 0 rfl rfl
    have f20 := HF.out.frozA (b := w.heap.size + 1 + 1) 2 0 rfl rfl
    have c21 := HF.out.cellA (b := w.heap.size + 1 + 1) 2 1 rfl rfl
    have f21 := HF.out.frozA (b := w.heap.size + 1 + 1) 2 1 rfl rfl
    by_cases hj0 : j = 0
    · have hj2 : ¬ 0 < (j : Int) := by omega
      have hj3 : decide (0 < (j : Int)) = false := by simp; omega
      have HJ := Lib.hid hj0
      clear hj0
      by_cases hbig : 1000000000000000000 < u
      ·
        have HR : Hid (sclE (sq s) ⟨xn, d⟩ k = none) := by
          rw [Hid, HS.out]
          refine mk_far (.inl HJ.out) ?_
          have e : maxNum = 1000000000000000000 := rfl
          rcases sgP_one xn k with h' | h' <;> rw [h'] <;> omega
        go_wp2_with (go_at_call 178; refine (more_first (Div64_low u (sq s) _ hu0 (by omega) hq1 (by omega))).mono ?_; rintro e w' ⟨rfl, t, rfl⟩)
        refine bodyPost_ret (v := .tuple #[.agg #[.int .i64 0, .int .i64 0], .bool false]) (by simp [results, Tryz.results122, go_sem, c20, c21, z2, f20, f21]) rfl (RetE.mkN HR.out ?_)
        first | exact stw (stw HF.out.b (by omega)) (by omega) | exact stw (stw (HF.out.more _).b (by omega)) (by omega)
      ·
        have hdb : decide (1000000000000000000 < u) = false := by simp; omega
        by_cases hneg : xn < 0
        ·
          have hk0 : decide ((k : Int) < 0) = false := decide_eq_false (by omega)
          have hn0 : decide (xn < 0) = true := decide_eq_true (by omega)
          have hsg : Hid (sclE (sq s) ⟨xn, d⟩ k = mk (sq s) (-u) j) := by
            have e := HS.out
            rw [show sgP xn k = -1 by unfold sgP; rw [if_pos (by omega)], Int.neg_mul, Int.one_mul] at e
            exact e
          have CE := fun (W : World) => makeExact_any p c h (-u) s j W hs1 hs6 (by omega) (by omega) (by omega)
          rcases hmk : mk (sq s) (-u) j with _ | ⟨num, dep⟩
          ·
            have HR := Lib.hid (hsg.out.trans hmk)
            have CE' : Hid (∀ W : World, Calls Tryz.prog 165 #[.agg #[.int .i64 p, .int .i64 c, .int .i64 h, .int .i64 s], .int .i64 (-u), .int .i64 j] W fun e w' => e = .returned (.tuple #[.agg #[.int .i64 0, .int .i64 0], .bool false]) ∧ Below W.heap.size W w') := fun W => by
              have := CE W; rw [hmk] at this; exact this
            clear CE hmk
            go_wp2_with (first | (go_at_call 178; refine (more_first (Div64_low u (sq s) _ hu0 (by omega) hq1 (by omega))).mono ?_; rintro e w' ⟨rfl, t, rfl⟩) | (go_at_call 165; ((with_reducible refine (more_first (CE'.out _)).mono ?_); rintro e w' ⟨rfl, t2, rfl⟩)))
            refine bodyPost_ret (v := .tuple #[.agg #[.int .i64 0, .int .i64 0], .bool false]) (by simp [results, Tryz.results122, go_sem, c20, c21, z2, f20, f21]) rfl (RetE.mkN HR.out ?_)
            exact stw (stw (HF.out.more _).b (by omega)) (by omega)
          ·
            have HR := Lib.hid (hsg.out.trans hmk)
            have CE' : Hid (∀ W : World, Calls Tryz.prog 165 #[.agg #[.int .i64 p, .int .i64 c, .int .i64 h, .int .i64 s], .int .i64 (-u), .int .i64 j] W fun e w' => e = .returned (.tuple #[.agg #[.int .i64 num, .int .i64 dep], .bool true]) ∧ Below W.heap.size W w') := fun W => by
              have := CE W; rw [hmk] at this; exact this
            clear CE hmk
            go_wp2_with (first | (go_at_call 178; refine (more_first (Div64_low u (sq s) _ hu0 (by omega) hq1 (by omega))).mono ?_; rintro e w' ⟨rfl, t, rfl⟩) | (go_at_call 165; ((with_reducible refine (more_first (CE'.out _)).mono ?_); rintro e w' ⟨rfl, t2, rfl⟩)))
            refine bodyPost_ret (v := .tuple #[.agg #[.int .i64 num, .int .i64 dep], .bool true]) (by simp [results, Tryz.results122, go_sem, c20, c21, z2, f20, f21]) rfl (RetE.mkY HR.out ?_)
            exact stw (stw (HF.out.more _).b (by omega)) (by omega)
        ·
          have hk0 : decide ((k : Int) < 0) = false := decide_eq_false (by omega)
          have hn0 : decide (xn < 0) = false := decide_eq_false (by omega)
          have hsg : Hid (sclE (sq s) ⟨xn, d⟩ k = mk (sq s) u j) := by
            have e := HS.out
            rw [show sgP xn k = 1 by unfold sgP; rw [if_neg (by omega)], Int.one_mul] at e
            exact e
          have CE := fun (W : World) => makeExact_any p c h u s j W hs1 hs6 (by omega) (by omega) (by omega)
          rcases hmk : mk (sq s) (u) j with _ | ⟨num, dep⟩
          ·
            have HR := Lib.hid (hsg.out.trans hmk)
            have CE' : Hid (∀ W : World, Calls Tryz.prog 165 #[.agg #[.int .i64 p, .int .i64 c, .int .i64 h, .int .i64 s], .int .i64 (u), .int .i64 j] W fun e w' => e = .returned (.tuple #[.agg #[.int .i64 0, .int .i64 0], .bool false]) ∧ Below W.heap.size W w') := fun W => by
              have := CE W; rw [hmk] at this; exact this
            clear CE hmk
            go_wp2_with (first | (go_at_call 178; refine (more_first (Div64_low u (sq s) _ hu0 (by omega) hq1 (by omega))).mono ?_; rintro e w' ⟨rfl, t, rfl⟩) | (go_at_call 165; ((with_reducible refine (more_first (CE'.out _)).mono ?_); rintro e w' ⟨rfl, t2, rfl⟩)))
            refine bodyPost_ret (v := .tuple #[.agg #[.int .i64 0, .int .i64 0], .bool false]) (by simp [results, Tryz.results122, go_sem, c20, c21, z2, f20, f21]) rfl (RetE.mkN HR.out ?_)
            exact stw (stw (HF.out.more _).b (by omega)) (by omega)
          ·
            have HR := Lib.hid (hsg.out.trans hmk)
            have CE' : Hid (∀ W : World, Calls Tryz.prog 165 #[.agg #[.int .i64 p, .int .i64 c, .int .i64 h, .int .i64 s], .int .i64 (u), .int .i64 j] W fun e w' => e = .returned (.tuple #[.agg #[.int .i64 num, .int .i64 dep], .bool true]) ∧ Below W.heap.size W w') := fun W => by
              have := CE W; rw [hmk] at this; exact this
            clear CE hmk
            go_wp2_with (first | (go_at_call 178; refine (more_first (Div64_low u (sq s) _ hu0 (by omega) hq1 (by omega))).mono ?_; rintro e w' ⟨rfl, t, rfl⟩) | (go_at_call 165; ((with_reducible refine (more_first (CE'.out _)).mono ?_); rintro e w' ⟨rfl, t2, rfl⟩)))
            refine bodyPost_ret (v := .tuple #[.agg #[.int .i64 num, .int .i64 dep], .bool true]) (by simp [results, Tryz.results122, go_sem, c20, c21, z2, f20, f21]) rfl (RetE.mkY HR.out ?_)
            exact stw (stw (HF.out.more _).b (by omega)) (by omega)
    · have hj1 : 0 < (j : Int) := by omega
      have hjn : 1 ≤ j := by omega
      have hjN : 0 < j := by omega
      clear hj0
      by_cases hdiv : sq s ∣ u
      · have hm0 : ((u % sq s : Int) != 0) = false := by simp [Int.emod_eq_zero_of_dvd hdiv]
        have h' : Hid (sclE (sq s) ⟨xn, d⟩ k = mk (sq s) (sgP xn k * (u / sq s)) (j - 1)) := by
          have e := HS.out
          rw [show j = (j - 1) + 1 by omega, mk_down (sgP_one xn k) hdiv] at e
          exact e
        have q0 : 0 ≤ u / sq s := Int.ediv_nonneg hu0 (by omega)
        have q1 : u / sq s ≤ 9000000000000000000 := Int.le_trans (Int.ediv_le_self _ hu0) hu1
        clear hdiv
        go_wp2_with (go_at_call 178; refine (more_first (Div64_low u (sq s) _ hu0 (by omega) hq1 (by omega))).mono ?_; rintro e w' ⟨rfl, t, rfl⟩)
        go_roundw
        case rel => exact ⟨j - 1, u / sq s, by omega, by go_num, rfl, by simp, q0, q1, h', HF.out.more _⟩
        case measure => simp [intOf]; omega
      · have hm0 : ((u % sq s : Int) != 0) = true := by simp; intro h'; exact hdiv (Int.dvd_of_emod_eq_zero h')
        have hq0 : 0 ≤ u % sq s := Int.emod_nonneg _ (by omega)
        have hnd : Hid (¬ sq s ∣ sgP xn k * u) := fun h' => hdiv ((sg_dvd (sgP_one xn k)).1 h')
        clear hdiv
        by_cases hbig : 1000000000000000000 < u
        ·
          have HR : Hid (sclE (sq s) ⟨xn, d⟩ k = none) := by
            rw [Hid, HS.out]
            refine mk_far (.inr hnd.out) ?_
            have e : maxNum = 1000000000000000000 := rfl
            rcases sgP_one xn k with h' | h' <;> rw [h'] <;> omega
          go_wp2_with (go_at_call 178; refine (more_first (Div64_low u (sq s) _ hu0 (by omega) hq1 (by omega))).mono ?_; rintro e w' ⟨rfl, t, rfl⟩)
          refine bodyPost_ret (v := .tuple #[.agg #[.int .i64 0, .int .i64 0], .bool false]) (by simp [results, Tryz.results122, go_sem, c20, c21, z2, f20, f21]) rfl (RetE.mkN HR.out ?_)
          first | exact stw (stw HF.out.b (by omega)) (by omega) | exact stw (stw (HF.out.more _).b (by omega)) (by omega)
        ·
          have hdb : decide (1000000000000000000 < u) = false := by simp; omega
          by_cases hneg : xn < 0
          ·
            have hk0 : decide ((k : Int) < 0) = false := decide_eq_false (by omega)
            have hn0 : decide (xn < 0) = true := decide_eq_true (by omega)
            have hsg : Hid (sclE (sq s) ⟨xn, d⟩ k = mk (sq s) (-u) j) := by
              have e := HS.out
              rw [show sgP xn k = -1 by unfold sgP; rw [if_pos (by omega)], Int.neg_mul, Int.one_mul] at e
              exact e
            have CE := fun (W : World) => makeExact_any p c h (-u) s j W hs1 hs6 (by omega) (by omega) (by omega)
            rcases hmk : mk (sq s) (-u) j with _ | ⟨num, dep⟩
            ·
              have HR := Lib.hid (hsg.out.trans hmk)
              have CE' : Hid (∀ W : World, Calls Tryz.prog 165 #[.agg #[.int .i64 p, .int .i64 c, .int .i64 h, .int .i64 s], .int .i64 (-u), .int .i64 j] W fun e w' => e = .returned (.tuple #[.agg #[.int .i64 0, .int .i64 0], .bool false]) ∧ Below W.heap.size W w') := fun W => by
                have := CE W; rw [hmk] at this; exact this
              clear CE hmk
              go_wp2_with (first | (go_at_call 178; refine (more_first (Div64_low u (sq s) _ hu0 (by omega) hq1 (by omega))).mono ?_; rintro e w' ⟨rfl, t, rfl⟩) | (go_at_call 165; ((with_reducible refine (more_call (CE'.out _)).mono ?_); rintro e w' ⟨rfl, t2, rfl⟩)))
              refine bodyPost_ret (v := .tuple #[.agg #[.int .i64 0, .int .i64 0], .bool false]) (by simp [results, Tryz.results122, go_sem, c20, c21, z2, f20, f21]) rfl (RetE.mkN HR.out ?_)
              exact stw (stw (HF.out.more _).b (by omega)) (by omega)
            ·
              have HR := Lib.hid (hsg.out.trans hmk)
              have CE' : Hid (∀ W : World, Calls Tryz.prog 165 #[.agg #[.int .i64 p, .int .i64 c, .int .i64 h, .int .i64 s], .int .i64 (-u), .int .i64 j] W fun e w' => e = .returned (.tuple #[.agg #[.int .i64 num, .int .i64 dep], .bool true]) ∧ Below W.heap.size W w') := fun W => by
                have := CE W; rw [hmk] at this; exact this
              clear CE hmk
              go_wp2_with (first | (go_at_call 178; refine (more_first (Div64_low u (sq s) _ hu0 (by omega) hq1 (by omega))).mono ?_; rintro e w' ⟨rfl, t, rfl⟩) | (go_at_call 165; ((with_reducible refine (more_call (CE'.out _)).mono ?_); rintro e w' ⟨rfl, t2, rfl⟩)))
              refine bodyPost_ret (v := .tuple #[.agg #[.int .i64 num, .int .i64 dep], .bool true]) (by simp [results, Tryz.results122, go_sem, c20, c21, z2, f20, f21]) rfl (RetE.mkY HR.out ?_)
              exact stw (stw (HF.out.more _).b (by omega)) (by omega)
          ·
            have hk0 : decide ((k : Int) < 0) = false := decide_eq_false (by omega)
            have hn0 : decide (xn < 0) = false := decide_eq_false (by omega)
            have hsg : Hid (sclE (sq s) ⟨xn, d⟩ k = mk (sq s) u j) := by
              have e := HS.out
              rw [show sgP xn k = 1 by unfold sgP; rw [if_neg (by omega)], Int.one_mul] at e
              exact e
            have CE := fun (W : World) => makeExact_any p c h u s j W hs1 hs6 (by omega) (by omega) (by omega)
            rcases hmk : mk (sq s) (u) j with _ | ⟨num, dep⟩
            ·
              have HR := Lib.hid (hsg.out.trans hmk)
              have CE' : Hid (∀ W : World, Calls Tryz.prog 165 #[.agg #[.int .i64 p, .int .i64 c, .int .i64 h, .int .i64 s], .int .i64 (u), .int .i64 j] W fun e w' => e = .returned (.tuple #[.agg #[.int .i64 0, .int .i64 0], .bool false]) ∧ Below W.heap.size W w') := fun W => by
                have := CE W; rw [hmk] at this; exact this
              clear CE hmk
              go_wp2_with (first | (go_at_call 178; refine (more_first (Div64_low u (sq s) _ hu0 (by omega) hq1 (by omega))).mono ?_; rintro e w' ⟨rfl, t, rfl⟩) | (go_at_call 165; ((with_reducible refine (more_call (CE'.out _)).mono ?_); rintro e w' ⟨rfl, t2, rfl⟩)))
              refine bodyPost_ret (v := .tuple #[.agg #[.int .i64 0, .int .i64 0], .bool false]) (by simp [results, Tryz.results122, go_sem, c20, c21, z2, f20, f21]) rfl (RetE.mkN HR.out ?_)
              exact stw (stw (HF.out.more _).b (by omega)) (by omega)
            ·
              have HR := Lib.hid (hsg.out.trans hmk)
              have CE' : Hid (∀ W : World, Calls Tryz.prog 165 #[.agg #[.int .i64 p, .int .i64 c, .int .i64 h, .int .i64 s], .int .i64 (u), .int .i64 j] W fun e w' => e = .returned (.tuple #[.agg #[.int .i64 num, .int .i64 dep], .bool true]) ∧ Below W.heap.size W w') := fun W => by
                have := CE W; rw [hmk] at this; exact this
              clear CE hmk
              go_wp2_with (first | (go_at_call 178; refine (more_first (Div64_low u (sq s) _ hu0 (by omega) hq1 (by omega))).mono ?_; rintro e w' ⟨rfl, t, rfl⟩) | (go_at_call 165; ((with_reducible refine (more_call (CE'.out _)).mono ?_); rintro e w' ⟨rfl, t2, rfl⟩)))
              refine bodyPost_ret (v := .tuple #[.agg #[.int .i64 num, .int .i64 dep], .bool true]) (by simp [results, Tryz.results122, go_sem, c20, c21, z2, f20, f21]) rfl (RetE.mkY HR.out ?_)
              exact stw (stw (HF.out.more _).b (by omega)) (by omega)
end Go.Proofs.YtlbkfhdnhalpbaaGreat

/- Contract of the program's normal form of a number over a power of the base. There are no conditions. -/
import Derived.Test.YtlbkfhdnhalpbaaGreatN3
import Derived.Test.YtlbkfhdnhalpbaaGreatMem
namespace Go.Proofs.YtlbkfhdnhalpbaaGreat
set_option linter.unusedVariables false
set_option linter.unusedSimpArgs false
open Go.RowKit Ps Ra Ex


/-- A call hands back an exact number, if there is one. -/
def RetE (w : World) (r : Option E) (e : Ending) (w' : World) : Prop := e = .returned (.tuple #[.agg #[.int .i64 (r.getD ⟨0, 0⟩).num, .int .i64 ((r.getD ⟨0, 0⟩).depth : Int)], .bool r.isSome]) ∧ Below w.heap.size w w'
theorem RetE.yes {w w' : World} {x : E} {e : Ending} (h : RetE w (some x) e w') : e = .returned (.tuple #[.agg #[.int .i64 x.num, .int .i64 (x.depth : Int)], .bool true]) ∧ Below w.heap.size w w' := h
theorem RetE.no {w w' : World} {e : Ending} (h : RetE w none e w') : e = .returned (.tuple #[.agg #[.int .i64 0, .int .i64 0], .bool false]) ∧ Below w.heap.size w w' := h
theorem RetE.mkY {w w' : World} {r : Option E} {m : Int} {d : Nat} (hr : r = some ⟨m, d⟩) (hb : Below w.heap.size w w') : RetE w r (.returned (.tuple #[.agg #[.int .i64 m, .int .i64 (d : Int)], .bool true])) w' := by subst hr; exact ⟨rfl, hb⟩
theorem RetE.mkN {w w' : World} {r : Option E} (hr : r = none) (hb : Below w.heap.size w w') : RetE w r (.returned (.tuple #[.agg #[.int .i64 0, .int .i64 0], .bool false])) w' := by subst hr; exact ⟨rfl, hb⟩



set_option maxHeartbeats 1000000 in
set_option maxRecDepth 10000 in
theorem makeExact_any (p c h n : Int) (s d : Nat) (w : World) (hs1 : 1 ≤ s) (hs6 : s ≤ 6) (hd : d ≤ 1000) (hn1 : -9000000000000000000 ≤ n) (hn2 : n ≤ 9000000000000000000) :
    Calls Tryz.prog 165 #[.agg #[.int .i64 p, .int .i64 c, .int .i64 h, .int .i64 s], .int .i64 n, .int .i64 d] w (RetE w (mk (sq s) n d)) := by
  have HB : Hid (Below w.heap.size w ((w.alloc (.cells #[.int .i64 p, .int .i64 c, .int .i64 h, .int .i64 s] 29)).alloc (.cells #[.int .i64 0, .int .i64 0] 26))) := ((Below.refl _ _).alloc (Nat.le_refl _) _).alloc (by simp) _
  obtain ⟨hq1, hq36, hq4⟩ := sq_bd hs1 hs6
  have CB := Lib.hid fun (W : World) => baseOf_any p c h s W hs6
  have HQ4 := Lib.hid hq4
  by_cases hone : sq s = 1
  · have b1 : (sq s == 1) = true := by simp [hone]
    have H0 : Hid (mk (sq s) n d = mk (sq s) n 0) := by rw [hone]; exact mk_one n d
    clear hone hq4
    go_enter Tryz.func165, Tryz.ntmps165
    go_wp2_with (first | (go_at_call 175; refine (more_first (CB.out _)).mono ?_; rintro e w' ⟨rfl, t, rfl⟩))
    go_loopw [1, 2] (fun vn vd wr => ∃ (k : Nat) (m : Int), k ≤ d ∧ vn = .int .i64 m ∧ vd = .int .i64 k ∧ -9000000000000000000 ≤ m ∧ m ≤ 9000000000000000000 ∧ Hid (mk (sq s) n d = mk (sq s) m k) ∧ Hid (sq s = 1 → k = 0) ∧ Below (w.heap.size + 2) ((w.alloc (.cells #[.int .i64 p, .int .i64 c, .int .i64 h, .int .i64 s] 29)).alloc (.cells #[.int .i64 0, .int .i64 0] 26)) wr) (fun _ vd _ => (intOf vd).toNat)
    case atStart => exact ⟨0, n, by omega, rfl, rfl, hn1, hn2, H0, fun _ => rfl, (below_more _ _).mono (by simp)⟩
    case round =>
      have hq4 := HQ4.out
      obtain ⟨k, m, hk, rfl, rfl, hm1, hm2, hst, h1k, hb⟩ := hrel
      have HB0 : Hid (Below w.heap.size w wr) := HB.out.trans (hb.mono (by omega))
      have hz : w.heap.size + 1 < wr.heap.size := by have := hb.size; simp at this; omega
      have hz0 : w.heap.size < wr.heap.size := by omega
      have c0 : wr.cell? ⟨w.heap.size, 0, none⟩ = some (.int .i64 p) := by rw [hb.cell (by simp)]; simp [go_sem]
      have c1 : wr.cell? ⟨w.heap.size, 1, none⟩ = some (.int .i64 c) := by rw [hb.cell (by simp)]; simp [go_sem]
      have c2 : wr.cell? ⟨w.heap.size, 2, none⟩ = some (.int .i64 h) := by rw [hb.cell (by simp)]; simp [go_sem]
      have c3 : wr.cell? ⟨w.heap.size, 3, none⟩ = some (.int .i64 s) := by rw [hb.cell (by simp)]; simp [go_sem]
      have r0 : wr.cell? ⟨w.heap.size + 1, 0, none⟩ = some (.int .i64 0) := by rw [hb.cell (by simp)]; simp [go_sem]
      have r1 : wr.cell? ⟨w.heap.size + 1, 1, none⟩ = some (.int .i64 0) := by rw [hb.cell (by simp)]; simp [go_sem]
      have f0 : wr.frozen? ⟨w.heap.size + 1, 0, none⟩ = false := by rw [hb.frozen (by simp)]; simp [go_sem]
      have f1 : wr.frozen? ⟨w.heap.size + 1, 1, none⟩ = false := by rw [hb.frozen (by simp)]; simp [go_sem]
      have HBk := Lib.hid hb
      clear hb
      by_cases hk0 : k = 0
      ·
        have HS : Hid (mk (sq s) n d = if valB (sq s) m k then some ⟨m, k⟩ else none) := (hst.out).trans (mk_strip (by rw [hk0]; rfl))
        have g0 : ¬ 0 < (k : Int) := by omega
        have g0' : decide (0 < (k : Int)) = false := by simp; omega
        clear hk0
        have CI := Lib.hid fun (W : World) => isExact_any p c h m s k W hs1 hs6 (by omega)
        go_wp2_with (first | (go_at_call 175; refine (more_first (CB.out _)).mono ?_; rintro e w' ⟨rfl, t, rfl⟩))
        obtain ⟨W1, hW1⟩ : ∃ W1, W1 = wr := ⟨_, rfl⟩
        try rw [← hW1]
        have HB1 : Hid (Below w.heap.size w W1) := by
          rw [hW1]
          repeat (first | exact HB0.out | exact HB.out | refine blw ?_ (Nat.le_refl _) | refine alw ?_ (Nat.le_refl _) | refine stw ?_ (by omega) | refine drw ?_)
        have z1 : w.heap.size + 1 < W1.heap.size := by rw [hW1]; exact hz
        have y0 : W1.cell? ⟨w.heap.size + 1, 0, none⟩ = some (.int .i64 0) := by rw [hW1]; assumption
        have y1 : W1.cell? ⟨w.heap.size + 1, 1, none⟩ = some (.int .i64 0) := by rw [hW1]; assumption
        have y2 : W1.frozen? ⟨w.heap.size + 1, 0, none⟩ = false := by rw [hW1]; assumption
        have y3 : W1.frozen? ⟨w.heap.size + 1, 1, none⟩ = false := by rw [hW1]; assumption
        clear hW1 c0 c1 c2 c3 r0 r1 f0 f1
        refine (CI.out _).mono ?_
        rintro e w2 ⟨rfl, hb2⟩
        have r0 : w2.cell? ⟨w.heap.size + 1, 0, none⟩ = some (.int .i64 0) := keep_cell ((cell_alloc_lt _ _ _ z1).trans y0) hb2
        have r1 : w2.cell? ⟨w.heap.size + 1, 1, none⟩ = some (.int .i64 0) := keep_cell ((cell_alloc_lt _ _ _ z1).trans y1) hb2
        have f0 : w2.frozen? ⟨w.heap.size + 1, 0, none⟩ = false := keep_froz ((frozen_alloc_lt _ _ _ z1).trans y2) ((cell_alloc_lt _ _ _ z1).trans y0) hb2
        have f1 : w2.frozen? ⟨w.heap.size + 1, 1, none⟩ = false := keep_froz ((frozen_alloc_lt _ _ _ z1).trans y3) ((cell_alloc_lt _ _ _ z1).trans y1) hb2
        have x0 : w2.cell? ⟨W1.heap.size, 0, none⟩ = some (.int .i64 m) := keep_cell (by simp [go_sem]) hb2
        have x1 : w2.cell? ⟨W1.heap.size, 1, none⟩ = some (.int .i64 k) := keep_cell (by simp [go_sem]) hb2
        replace HB1 := Lib.hid ((HB1.out.alloc HB1.out.size _).trans (hb2.mono (by have := HB1.out.size; simp; omega)))
        clear hb2 y0 y1 y2 y3
        by_cases hval : valB (sq s) m k = true
        ·
          have HR := Lib.hid ((HS.out).trans (if_pos hval))
          go_wp2_with (fail)
          refine bodyPost_ret (v := .tuple #[.agg #[.int .i64 m, .int .i64 (k : Int)], .bool true]) (by simp [results, Tryz.results165, go_sem, r0, r1]) rfl (RetE.mkY HR.out ?_)
          exact stw (stw HB1.out (by omega)) (by omega)
        ·
          have HR := Lib.hid ((HS.out).trans (if_neg hval))
          replace hval : valB (sq s) m k = false := by simpa using hval
          go_wp2_with (fail)
          refine bodyPost_ret (v := .tuple #[.agg #[.int .i64 0, .int .i64 0], .bool false]) (by simp [results, Tryz.results165, go_sem, r0, r1]) rfl (RetE.mkN HR.out ?_)
          exact stw (stw HB1.out (by omega)) (by omega)
      ·
        have g0 : 0 < (k : Int) := by omega
        have g00 : 1 ≤ k := by omega
        have hq : 4 ≤ sq s := by
          rcases hq4 with h' | h'
          · exact absurd (h1k.out h') hk0
          · exact h'
        clear hk0
        by_cases hdiv : sq s ∣ m
        ·
          have b3 : (m.tmod (sq s) == 0) = true := by simp [tmod_zero.2 hdiv]
          have e4 : m.tdiv (sq s) = m / sq s := tdiv_dvd hdiv
          have hst' : Hid (mk (sq s) n d = mk (sq s) (m.tdiv (sq s)) (k - 1)) := by
            have e : mk (sq s) m k = mk (sq s) (m / sq s) (k - 1) := by
              unfold mk
              rw [show k = (k - 1) + 1 by omega, strip_go hdiv]; rfl
            rw [e4]; exact (hst.out).trans e
          have q1 : -9000000000000000000 ≤ m.tdiv (sq s) := by
            obtain ⟨u, hu⟩ := hdiv
            rw [e4, hu, Int.mul_ediv_cancel_left _ (by omega)]
            have : u ≤ 0 → sq s * u ≤ u := fun hu0 => by have := Int.mul_le_mul_of_nonpos_right hq1 hu0; omega
            omega
          have q2 : m.tdiv (sq s) ≤ 9000000000000000000 := by
            obtain ⟨u, hu⟩ := hdiv
            rw [e4, hu, Int.mul_ediv_cancel_left _ (by omega)]
            have : 0 ≤ u → u ≤ sq s * u := fun hu0 => by have := Int.mul_le_mul_of_nonneg_right hq1 hu0; omega
            omega
          have h1k' : Hid (sq s = 1 → k - 1 = 0) := fun h' => by omega
          clear e4 hdiv hq4
          go_wp2_with (first | (go_at_call 175; refine (more_first (CB.out _)).mono ?_; rintro e w' ⟨rfl, t, rfl⟩))
          go_roundw
          case rel => exact ⟨k - 1, m.tdiv (sq s), by omega, by go_num, by go_num, q1, q2, hst', h1k', blw (blw HBk.out (by simp)) (by simp)⟩
          case measure => simp [intOf]; omega
        ·
          have b3 : (m.tmod (sq s) == 0) = false := by simp [tmod_zero, hdiv]
          have HS : Hid (mk (sq s) n d = if valB (sq s) m k then some ⟨m, k⟩ else none) := (hst.out).trans (mk_strip (by rw [show k = (k - 1) + 1 by omega, strip_stop hdiv]))
          clear hdiv hq4
          have CI := Lib.hid fun (W : World) => isExact_any p c h m s k W hs1 hs6 (by omega)
          go_wp2_with (first | (go_at_call 175; refine (more_first (CB.out _)).mono ?_; rintro e w' ⟨rfl, t, rfl⟩))
          obtain ⟨W1, hW1⟩ : ∃ W1, W1 = more wr t := ⟨_, rfl⟩
          try rw [← hW1]
          have HB1 : Hid (Below w.heap.size w W1) := by
            rw [hW1]
            repeat (first | exact HB0.out | exact HB.out | refine blw ?_ (Nat.le_refl _) | refine alw ?_ (Nat.le_refl _) | refine stw ?_ (by omega) | refine drw ?_)
          have z1 : w.heap.size + 1 < W1.heap.size := by rw [hW1]; have := size_more wr t; omega
          have y0 : W1.cell? ⟨w.heap.size + 1, 0, none⟩ = some (.int .i64 0) := by rw [hW1]; simp [go_sem, *]
          have y1 : W1.cell? ⟨w.heap.size + 1, 1, none⟩ = some (.int .i64 0) := by rw [hW1]; simp [go_sem, *]
          have y2 : W1.frozen? ⟨w.heap.size + 1, 0, none⟩ = false := by rw [hW1]; simp [go_sem, *]
          have y3 : W1.frozen? ⟨w.heap.size + 1, 1, none⟩ = false := by rw [hW1]; simp [go_sem, *]
          clear hW1 c0 c1 c2 c3 r0 r1 f0 f1
          refine (CI.out _).mono ?_
          rintro e w2 ⟨rfl, hb2⟩
          have r0 : w2.cell? ⟨w.heap.size + 1, 0, none⟩ = some (.int .i64 0) := keep_cell ((cell_alloc_lt _ _ _ z1).trans y0) hb2
          have r1 : w2.cell? ⟨w.heap.size + 1, 1, none⟩ = some (.int .i64 0) := keep_cell ((cell_alloc_lt _ _ _ z1).trans y1) hb2
          have f0 : w2.frozen? ⟨w.heap.size + 1, 0, none⟩ = false := keep_froz ((frozen_alloc_lt _ _ _ z1).trans y2) ((cell_alloc_lt _ _ _ z1).trans y0) hb2
          have f1 : w2.frozen? ⟨w.heap.size + 1, 1, none⟩ = false := keep_froz ((frozen_alloc_lt _ _ _ z1).trans y3) ((cell_alloc_lt _ _ _ z1).trans y1) hb2
          have x0 : w2.cell? ⟨W1.heap.size, 0, none⟩ = some (.int .i64 m) := keep_cell (by simp [go_sem]) hb2
          have x1 : w2.cell? ⟨W1.heap.size, 1, none⟩ = some (.int .i64 k) := keep_cell (by simp [go_sem]) hb2
          replace HB1 := Lib.hid ((HB1.out.alloc HB1.out.size _).trans (hb2.mono (by have := HB1.out.size; simp; omega)))
          clear hb2 y0 y1 y2 y3
          by_cases hval : valB (sq s) m k = true
          ·
            have HR := Lib.hid ((HS.out).trans (if_pos hval))
            go_wp2_with (fail)
            refine bodyPost_ret (v := .tuple #[.agg #[.int .i64 m, .int .i64 (k : Int)], .bool true]) (by simp [results, Tryz.results165, go_sem, r0, r1]) rfl (RetE.mkY HR.out ?_)
            exact stw (stw HB1.out (by omega)) (by omega)
          ·
            have HR := Lib.hid ((HS.out).trans (if_neg hval))
            replace hval : valB (sq s) m k = false := by simpa using hval
            go_wp2_with (fail)
            refine bodyPost_ret (v := .tuple #[.agg #[.int .i64 0, .int .i64 0], .bool false]) (by simp [results, Tryz.results165, go_sem, r0, r1]) rfl (RetE.mkN HR.out ?_)
            exact stw (stw HB1.out (by omega)) (by omega)
  · have b1 : (sq s == 1) = false := by simp [hone]
    have H1 : Hid (sq s = 1 → d = 0) := fun h' => absurd h' hone
    clear hone hq4
    go_enter Tryz.func165, Tryz.ntmps165
    go_wp2_with (first | (go_at_call 175; refine (more_first (CB.out _)).mono ?_; rintro e w' ⟨rfl, t, rfl⟩))
    go_loopw [1, 2] (fun vn vd wr => ∃ (k : Nat) (m : Int), k ≤ d ∧ vn = .int .i64 m ∧ vd = .int .i64 k ∧ -9000000000000000000 ≤ m ∧ m ≤ 9000000000000000000 ∧ Hid (mk (sq s) n d = mk (sq s) m k) ∧ Hid (sq s = 1 → k = 0) ∧ Below (w.heap.size + 2) ((w.alloc (.cells #[.int .i64 p, .int .i64 c, .int .i64 h, .int .i64 s] 29)).alloc (.cells #[.int .i64 0, .int .i64 0] 26)) wr) (fun _ vd _ => (intOf vd).toNat)
    case atStart => exact ⟨d, n, Nat.le_refl _, rfl, rfl, hn1, hn2, rfl, H1, (below_more _ _).mono (by simp)⟩
    case round =>
      have hq4 := HQ4.out
      obtain ⟨k, m, hk, rfl, rfl, hm1, hm2, hst, h1k, hb⟩ := hrel
      have HB0 : Hid (Below w.heap.size w wr) := HB.out.trans (hb.mono (by omega))
      have hz : w.heap.size + 1 < wr.heap.size := by have := hb.size; simp at this; omega
      have hz0 : w.heap.size < wr.heap.size := by omega
      have c0 : wr.cell? ⟨w.heap.size, 0, none⟩ = some (.int .i64 p) := by rw [hb.cell (by simp)]; simp [go_sem]
      have c1 : wr.cell? ⟨w.heap.size, 1, none⟩ = some (.int .i64 c) := by rw [hb.cell (by simp)]; simp [go_sem]
      have c2 : wr.cell? ⟨w.heap.size, 2, none⟩ = some (.int .i64 h) := by rw [hb.cell (by simp)]; simp [go_sem]
      have c3 : wr.cell? ⟨w.heap.size, 3, none⟩ = some (.int .i64 s) := by rw [hb.cell (by simp)]; simp [go_sem]
      have r0 : wr.cell? ⟨w.heap.size + 1, 0, none⟩ = some (.int .i64 0) := by rw [hb.cell (by simp)]; simp [go_sem]
      have r1 : wr.cell? ⟨w.heap.size + 1, 1, none⟩ = some (.int .i64 0) := by rw [hb.cell (by simp)]; simp [go_sem]
      have f0 : wr.frozen? ⟨w.heap.size + 1, 0, none⟩ = false := by rw [hb.frozen (by simp)]; simp [go_sem]
      have f1 : wr.frozen? ⟨w.heap.size + 1, 1, none⟩ = false := by rw [hb.frozen (by simp)]; simp [go_sem]
      have HBk := Lib.hid hb
      clear hb
      by_cases hk0 : k = 0
      ·
        have HS : Hid (mk (sq s) n d = if valB (sq s) m k then some ⟨m, k⟩ else none) := (hst.out).trans (mk_strip (by rw [hk0]; rfl))
        have g0 : ¬ 0 < (k : Int) := by omega
        have g0' : decide (0 < (k : Int)) = false := by simp; omega
        clear hk0
        have CI := Lib.hid fun (W : World) => isExact_any p c h m s k W hs1 hs6 (by omega)
        go_wp2_with (first | (go_at_call 175; refine (more_first (CB.out _)).mono ?_; rintro e w' ⟨rfl, t, rfl⟩))
        obtain ⟨W1, hW1⟩ : ∃ W1, W1 = wr := ⟨_, rfl⟩
        try rw [← hW1]
        have HB1 : Hid (Below w.heap.size w W1) := by
          rw [hW1]
          repeat (first | exact HB0.out | exact HB.out | refine blw ?_ (Nat.le_refl _) | refine alw ?_ (Nat.le_refl _) | refine stw ?_ (by omega) | refine drw ?_)
        have z1 : w.heap.size + 1 < W1.heap.size := by rw [hW1]; exact hz
        have y0 : W1.cell? ⟨w.heap.size + 1, 0, none⟩ = some (.int .i64 0) := by rw [hW1]; assumption
        have y1 : W1.cell? ⟨w.heap.size + 1, 1, none⟩ = some (.int .i64 0) := by rw [hW1]; assumption
        have y2 : W1.frozen? ⟨w.heap.size + 1, 0, none⟩ = false := by rw [hW1]; assumption
        have y3 : W1.frozen? ⟨w.heap.size + 1, 1, none⟩ = false := by rw [hW1]; assumption
        clear hW1 c0 c1 c2 c3 r0 r1 f0 f1
        refine (CI.out _).mono ?_
        rintro e w2 ⟨rfl, hb2⟩
        have r0 : w2.cell? ⟨w.heap.size + 1, 0, none⟩ = some (.int .i64 0) := keep_cell ((cell_alloc_lt _ _ _ z1).trans y0) hb2
        have r1 : w2.cell? ⟨w.heap.size + 1, 1, none⟩ = some (.int .i64 0) := keep_cell ((cell_alloc_lt _ _ _ z1).trans y1) hb2
        have f0 : w2.frozen? ⟨w.heap.size + 1, 0, none⟩ = false := keep_froz ((frozen_alloc_lt _ _ _ z1).trans y2) ((cell_alloc_lt _ _ _ z1).trans y0) hb2
        have f1 : w2.frozen? ⟨w.heap.size + 1, 1, none⟩ = false := keep_froz ((frozen_alloc_lt _ _ _ z1).trans y3) ((cell_alloc_lt _ _ _ z1).trans y1) hb2
        have x0 : w2.cell? ⟨W1.heap.size, 0, none⟩ = some (.int .i64 m) := keep_cell (by simp [go_sem]) hb2
        have x1 : w2.cell? ⟨W1.heap.size, 1, none⟩ = some (.int .i64 k) := keep_cell (by simp [go_sem]) hb2
        replace HB1 := Lib.hid ((HB1.out.alloc HB1.out.size _).trans (hb2.mono (by have := HB1.out.size; simp; omega)))
        clear hb2 y0 y1 y2 y3
        by_cases hval : valB (sq s) m k = true
        ·
          have HR := Lib.hid ((HS.out).trans (if_pos hval))
          go_wp2_with (fail)
          refine bodyPost_ret (v := .tuple #[.agg #[.int .i64 m, .int .i64 (k : Int)], .bool true]) (by simp [results, Tryz.results165, go_sem, r0, r1]) rfl (RetE.mkY HR.out ?_)
          exact stw (stw HB1.out (by omega)) (by omega)
        ·
          have HR := Lib.hid ((HS.out).trans (if_neg hval))
          replace hval : valB (sq s) m k = false := by simpa using hval
          go_wp2_with (fail)
          refine bodyPost_ret (v := .tuple #[.agg #[.int .i64 0, .int .i64 0], .bool false]) (by simp [results, Tryz.results165, go_sem, r0, r1]) rfl (RetE.mkN HR.out ?_)
          exact stw (stw HB1.out (by omega)) (by omega)
      ·
        have g0 : 0 < (k : Int) := by omega
        have g00 : 1 ≤ k := by omega
        have hq : 4 ≤ sq s := by
          rcases hq4 with h' | h'
          · exact absurd (h1k.out h') hk0
          · exact h'
        clear hk0
        by_cases hdiv : sq s ∣ m
        ·
          have b3 : (m.tmod (sq s) == 0) = true := by simp [tmod_zero.2 hdiv]
          have e4 : m.tdiv (sq s) = m / sq s := tdiv_dvd hdiv
          have hst' : Hid (mk (sq s) n d = mk (sq s) (m.tdiv (sq s)) (k - 1)) := by
            have e : mk (sq s) m k = mk (sq s) (m / sq s) (k - 1) := by
              unfold mk
              rw [show k = (k - 1) + 1 by omega, strip_go hdiv]; rfl
            rw [e4]; exact (hst.out).trans e
          have q1 : -9000000000000000000 ≤ m.tdiv (sq s) := by
            obtain ⟨u, hu⟩ := hdiv
            rw [e4, hu, Int.mul_ediv_cancel_left _ (by omega)]
            have : u ≤ 0 → sq s * u ≤ u := fun hu0 => by have := Int.mul_le_mul_of_nonpos_right hq1 hu0; omega
            omega
          have q2 : m.tdiv (sq s) ≤ 9000000000000000000 := by
            obtain ⟨u, hu⟩ := hdiv
            rw [e4, hu, Int.mul_ediv_cancel_left _ (by omega)]
            have : 0 ≤ u → u ≤ sq s * u := fun hu0 => by have := Int.mul_le_mul_of_nonneg_right hq1 hu0; omega
            omega
          have h1k' : Hid (sq s = 1 → k - 1 = 0) := fun h' => by omega
          clear e4 hdiv hq4
          go_wp2_with (first | (go_at_call 175; refine (more_first (CB.out _)).mono ?_; rintro e w' ⟨rfl, t, rfl⟩))
          go_roundw
          case rel => exact ⟨k - 1, m.tdiv (sq s), by omega, by go_num, by go_num, q1, q2, hst', h1k', blw (blw HBk.out (by simp)) (by simp)⟩
          case measure => simp [intOf]; omega
        ·
          have b3 : (m.tmod (sq s) == 0) = false := by simp [tmod_zero, hdiv]
          have HS : Hid (mk (sq s) n d = if valB (sq s) m k then some ⟨m, k⟩ else none) := (hst.out).trans (mk_strip (by rw [show k = (k - 1) + 1 by omega, strip_stop hdiv]))
          clear hdiv hq4
          have CI := Lib.hid fun (W : World) => isExact_any p c h m s k W hs1 hs6 (by omega)
          go_wp2_with (first | (go_at_call 175; refine (more_first (CB.out _)).mono ?_; rintro e w' ⟨rfl, t, rfl⟩))
          obtain ⟨W1, hW1⟩ : ∃ W1, W1 = more wr t := ⟨_, rfl⟩
          try rw [← hW1]
          have HB1 : Hid (Below w.heap.size w W1) := by
            rw [hW1]
            repeat (first | exact HB0.out | exact HB.out | refine blw ?_ (Nat.le_refl _) | refine alw ?_ (Nat.le_refl _) | refine stw ?_ (by omega) | refine drw ?_)
          have z1 : w.heap.size + 1 < W1.heap.size := by rw [hW1]; have := size_more wr t; omega
          have y0 : W1.cell? ⟨w.heap.size + 1, 0, none⟩ = some (.int .i64 0) := by rw [hW1]; simp [go_sem, *]
          have y1 : W1.cell? ⟨w.heap.size + 1, 1, none⟩ = some (.int .i64 0) := by rw [hW1]; simp [go_sem, *]
          have y2 : W1.frozen? ⟨w.heap.size + 1, 0, none⟩ = false := by rw [hW1]; simp [go_sem, *]
          have y3 : W1.frozen? ⟨w.heap.size + 1, 1, none⟩ = false := by rw [hW1]; simp [go_sem, *]
          clear hW1 c0 c1 c2 c3 r0 r1 f0 f1
          refine (CI.out _).mono ?_
          rintro e w2 ⟨rfl, hb2⟩
          have r0 : w2.cell? ⟨w.heap.size + 1, 0, none⟩ = some (.int .i64 0) := keep_cell ((cell_alloc_lt _ _ _ z1).trans y0) hb2
          have r1 : w2.cell? ⟨w.heap.size + 1, 1, none⟩ = some (.int .i64 0) := keep_cell ((cell_alloc_lt _ _ _ z1).trans y1) hb2
          have f0 : w2.frozen? ⟨w.heap.size + 1, 0, none⟩ = false := keep_froz ((frozen_alloc_lt _ _ _ z1).trans y2) ((cell_alloc_lt _ _ _ z1).trans y0) hb2
          have f1 : w2.frozen? ⟨w.heap.size + 1, 1, none⟩ = false := keep_froz ((frozen_alloc_lt _ _ _ z1).trans y3) ((cell_alloc_lt _ _ _ z1).trans y1) hb2
          have x0 : w2.cell? ⟨W1.heap.size, 0, none⟩ = some (.int .i64 m) := keep_cell (by simp [go_sem]) hb2
          have x1 : w2.cell? ⟨W1.heap.size, 1, none⟩ = some (.int .i64 k) := keep_cell (by simp [go_sem]) hb2
          replace HB1 := Lib.hid ((HB1.out.alloc HB1.out.size _).trans (hb2.mono (by have := HB1.out.size; simp; omega)))
          clear hb2 y0 y1 y2 y3
          by_cases hval : valB (sq s) m k = true
          ·
            have HR := Lib.hid ((HS.out).trans (if_pos hval))
            go_wp2_with (fail)
            refine bodyPost_ret (v := .tuple #[.agg #[.int .i64 m, .int .i64 (k : Int)], .bool true]) (by simp [results, Tryz.results165, go_sem, r0, r1]) rfl (RetE.mkY HR.out ?_)
            exact stw (stw HB1.out (by omega)) (by omega)
          ·
            have HR := Lib.hid ((HS.out).trans (if_neg hval))
            replace hval : valB (sq s) m k = false := by simpa using hval
            go_wp2_with (fail)
            refine bodyPost_ret (v := .tuple #[.agg #[.int .i64 0, .int .i64 0], .bool false]) (by simp [results, Tryz.results165, go_sem, r0, r1]) rfl (RetE.mkN HR.out ?_)
            exact stw (stw HB1.out (by omega)) (by omega)
end Go.Proofs.YtlbkfhdnhalpbaaGreat

/- Contract of the reference's multiple of an exact number. There are no conditions. -/
import Derived.Test.YtlbkfhdnhalpbaaGreatN8
import Derived.Test.YtlbkfhdnhalpbaaGreatQA
namespace Go.Proofs.YtlbkfhdnhalpbaaGreat
set_option linter.unusedVariables false
set_option linter.unusedSimpArgs false
open Go.RowKit Ps Ra Ex

theorem abs_le_bd {a b m : Int} (h1 : -m ≤ a) (h2 : a ≤ m) (hb : 1 ≤ b) : -m ≤ a / b ∧ a / b ≤ m := by
  constructor
  · apply Int.le_ediv_of_mul_le (by omega)
    have h0 : 0 ≤ m := by omega
    have : m * 1 ≤ m * b := Int.mul_le_mul_of_nonneg_left hb h0
    rw [Int.neg_mul]; omega
  · rcases Int.le_total 0 a with h | h
    · exact Int.le_trans (Int.ediv_le_self _ h) h2
    · have h3 : a / b ≤ 0 := by
        have := Int.ediv_le_ediv (show 0 < b by omega) h
        simpa using this
      omega


set_option maxHeartbeats 2000000 in
set_option maxRecDepth 10000 in
theorem l09Mul_any (p c h xn : Int) (s d k : Nat) (w : World) (hs1 : 1 ≤ s) (hs6 : s ≤ 6) (hx : Val (sq s) ⟨xn, d⟩) (hk1 : 1 ≤ k) (hk9 : k ≤ 9000) :
    Calls Tryz.prog 91 #[.agg #[.int .i64 p, .int .i64 c, .int .i64 h, .int .i64 s], .agg #[.int .i64 xn, .int .i64 d], .int .i64 k] w (RetE w (sclE (sq s) ⟨xn, d⟩ k)) := by
  obtain ⟨hq1, hq36, _⟩ := sq_bd hs1 hs6
  have hd50 : d < 50 := depth_lt hq1 hx
  have hx1 : -1000000000000000000 ≤ xn := hx.1
  have hx2 : xn ≤ 1000000000000000000 := hx.2.1
  have hp2 : pw (sq s) d ≤ 1000000000000000 := hx.2.2.1
  have hp1 := pw_pos hq1 d
  obtain ⟨m1, m2, m3, m4, m5, m6, m7⟩ := mul_reduce (n := xn) (k := (k : Int)) (d := d) hq1
  have C := fun (W : World) => l09Scale_any p c h s d W hs1 hs6 (by omega)
  rw [(scl_ok hp2).1, (scl_ok hp2).2] at C
  have CS := Lib.hid C
  have G1 := Lib.hid fun (W : World) => l09Gcd_any (k : Int) (pw (sq s) d) W (by omega) (by omega) (by omega) (by omega)
  have hDk : (Int.gcd (k : Int) (pw (sq s) d) : Int) ∣ k := Int.gcd_dvd_left _ _
  have hDs : (Int.gcd (k : Int) (pw (sq s) d) : Int) ∣ pw (sq s) d := Int.gcd_dvd_right _ _
  have hDk9 : (Int.gcd (k : Int) (pw (sq s) d) : Int) ≤ k := Int.le_of_dvd (by omega) hDk
  have hkD : 1 ≤ (k : Int) / (Int.gcd (k : Int) (pw (sq s) d) : Int) := Int.le_ediv_of_mul_le (by omega) (by omega)
  have hkD2 : (k : Int) / (Int.gcd (k : Int) (pw (sq s) d) : Int) ≤ k := Int.ediv_le_self _ (by omega)
  generalize (Int.gcd (k : Int) (pw (sq s) d) : Int) = D at *
  have hsD : pw (sq s) d / D ≤ pw (sq s) d := Int.ediv_le_self _ (by omega)
  generalize hSD : pw (sq s) d / D = SD at *
  have G2 := Lib.hid fun (W : World) => l09Gcd_any xn SD W (by omega) (by omega) (by omega) (by omega)
  have hgx : (Int.gcd xn SD : Int) ∣ xn := Int.gcd_dvd_left _ _
  have hgs : (Int.gcd xn SD : Int) ≤ SD := Int.le_of_dvd (by omega) (Int.gcd_dvd_right _ _)
  generalize (Int.gcd xn SD : Int) = g at *
  have hxg : xn.tdiv g = xn / g := tdiv_dvd hgx
  obtain ⟨q1, q2⟩ := abs_le_bd hx1 hx2 m3
  have hqs : SD / g ≤ SD := Int.ediv_le_self _ (by omega)
  generalize hK : (k : Int) / D = K at *
  generalize xn / g = X at *
  generalize hQ : SD / g = Q at *
  have q3 : -9000000000000000000 ≤ X ∧ X ≤ 9000000000000000000 := by omega
  have HFr : Hid (Fr w (((w.alloc (.cells #[.int .i64 p, .int .i64 c, .int .i64 h, .int .i64 s] 29)).alloc (.cells #[.int .i64 xn, .int .i64 d] 26)).alloc (.cells #[.int .i64 0, .int .i64 0] 26)) [[.int .i64 p, .int .i64 c, .int .i64 h, .int .i64 s], [.int .i64 xn, .int .i64 d], [.int .i64 0, .int .i64 0]]) := (((Fr.start w).allocT (by simp) _ _).allocT (by simp) _ _).allocT (by simp) _ _
  have HF0 : Hid (Below w.heap.size w (((w.alloc (.cells #[.int .i64 p, .int .i64 c, .int .i64 h, .int .i64 s] 29)).alloc (.cells #[.int .i64 xn, .int .i64 d] 26)).alloc (.cells #[.int .i64 0, .int .i64 0] 26))) := alw (alw ((Below.refl _ _).alloc (Nat.le_refl _) _) (Nat.le_refl _)) (Nat.le_refl _)
  clear hx C hDk hDs hgx
  by_cases hok : prodOk X K = true
  · have CT := Lib.hid fun (W : World) => l09Times_ok X K W q3.1 q3.2 hkD (by omega) hok
    obtain ⟨hk3, hk4⟩ := of_decide_eq_true hok
    rw [maxNum_val] at hk3 hk4
    obtain ⟨n, dd, f, CF0, hmk⟩ := l09Fit_some p c h (X * K) Q s d hs1 hs6 (by omega) m4 (by omega) (by omega) (by omega) m5
    have CF := Lib.hid CF0
    rw [m7] at hmk
    have HR : Hid (sclE (sq s) ⟨xn, d⟩ k = if f then some ⟨n, dd⟩ else none) := hmk
    clear hmk CF0 hok m6 m7
    cases f with
    | true =>
      have HR' : Hid (sclE (sq s) ⟨xn, d⟩ k = some ⟨n, dd⟩) := HR.out
      clear HR
      rcases (show D = 1 ∨ 1 < D by omega) with rfl | h1D
      ·
        rw [Int.ediv_one] at hSD hK
        subst hSD hK
        go_enter Tryz.func91, Tryz.ntmps91
        go_wp2_with (first | (go_at_call 158; ((with_reducible refine (more_first (CS.out _)).mono ?_); rintro e w' ⟨rfl, t, rfl⟩)) | (go_at_call 159; ((with_reducible refine (G1.out _).mono ?_); rintro e w' ⟨rfl, rfl⟩)))
        first | refine wp_region_more2 (by kernel_rfl) (by kernel_rfl) ?_ | refine wp_region_more (by kernel_rfl) (by kernel_rfl) ?_
        repeat (first | go_big_quiet_step (first | (go_at_call 159; exact more_same (G2.out _)) | (go_at_call 160; exact more_same (CT.out _))) | quiet_step (first | (go_at_call 159; exact more_same (G2.out _)) | (go_at_call 160; exact more_same (CT.out _))))
        refine wpQuiet_nil ?_
        intro _ hw'
        obtain ⟨tq, hw''⟩ := hw'
        subst hw''
        go_wp2_with (fail)
        generalize hW : more _ tq = W
        have HF : Hid (Fr w W [[.int .i64 p, .int .i64 c, .int .i64 h, .int .i64 s], [.int .i64 xn, .int .i64 d], [.int .i64 0, .int .i64 0]]) := by rw [← hW]; exact HFr.out.more _
        clear hW
        refine wp_region_blk 16 15 13 _ _ (.cells #[.int .i64 0, .int .i64 0] 26) (by kernel_rfl) (by kernel_rfl) rfl rfl rfl (fun _ _ => by kernel_rfl) rfl (pure_extract _ _ _ _ rfl rfl) (fun _ _ _ _ h => h) (by kernel_rfl) ?_
        apply Exists.intro
        refine ⟨fun X hX => ?_, fun t1 t2 => ?_⟩
        ·
          have HX : Hid (Fr w X [[.int .i64 p, .int .i64 c, .int .i64 h, .int .i64 s], [.int .i64 xn, .int .i64 d], [.int .i64 0, .int .i64 0]]) := by obtain ⟨t0, rfl⟩ := hX; exact HF.out.more t0
          clear hX
          have z0 : w.heap.size < X.heap.size := HX.out.ltA 0 rfl (by simp)
          have c00 := HX.out.cellA (b := w.heap.size) 0 0 rfl rfl
          have f00 := HX.out.frozA (b := w.heap.size) 0 0 rfl rfl
          have c01 := HX.out.cellA (b := w.heap.size) 0 1 rfl rfl
          have f01 := HX.out.frozA (b := w.heap.size) 0 1 rfl rfl
          have c02 := HX.out.cellA (b := w.heap.size) 0 2 rfl rfl
          have f02 := HX.out.frozA (b := w.heap.size) 0 2 rfl rfl
          have c03 := HX.out.cellA (b := w.heap.size) 0 3 rfl rfl
          have f03 := HX.out.frozA (b := w.heap.size) 0 3 rfl rfl
          have z1 : w.heap.size + 1 < X.heap.size := HX.out.ltA 1 rfl (by simp)
          have c10 := HX.out.cellA (b := w.heap.size + 1) 1 0 rfl rfl
          have f10 := HX.out.frozA (b := w.heap.size + 1) 1 0 rfl rfl
          have c11 := HX.out.cellA (b := w.heap.size + 1) 1 1 rfl rfl
          have f11 := HX.out.frozA (b := w.heap.size + 1) 1 1 rfl rfl
          have z2 : w.heap.size + 1 + 1 < X.heap.size := HX.out.ltA 2 rfl (by simp)
          have c20 := HX.out.cellA (b := w.heap.size + 1 + 1) 2 0 rfl rfl
          have f20 := HX.out.frozA (b := w.heap.size + 1 + 1) 2 0 rfl rfl
          have c21 := HX.out.cellA (b := w.heap.size + 1 + 1) 2 1 rfl rfl
          have f21 := HX.out.frozA (b := w.heap.size + 1 + 1) 2 1 rfl rfl
          simp only [List.take_succ_cons, List.take_zero]
          repeat (first | go_big_quiet_step (first | (go_at_call 159; exact more_same (G2.out _)) | (go_at_call 161; exact more_call (CF.out _))) | quiet_step (first | (go_at_call 159; exact more_same (G2.out _)) | (go_at_call 161; exact more_call (CF.out _))))
          exact wpQuiet_nil rfl
        simp only [List.drop_succ_cons, List.drop_zero, Act.put]
        have HU : Hid (Fr w (more ((more W t1).alloc (.cells #[.int .i64 0, .int .i64 0] 26)) t2) [[.int .i64 p, .int .i64 c, .int .i64 h, .int .i64 s], [.int .i64 xn, .int .i64 d], [.int .i64 0, .int .i64 0]]) := ((HF.out.more t1).alloc _).more t2
        have x0 := blk_cell W t1 t2 #[.int .i64 0, .int .i64 0] 26 0 rfl
        have x1 := blk_cell W t1 t2 #[.int .i64 0, .int .i64 0] 26 1 rfl
        have x0' := blk_froz W t1 t2 #[.int .i64 0, .int .i64 0] 26 0
        have x1' := blk_froz W t1 t2 #[.int .i64 0, .int .i64 0] 26 1
        have xz := blk_lt W t1 t2 (.cells #[.int .i64 0, .int .i64 0] 26)
        have xb := (HF.out.more t1).z
        simp only [List.length_cons, List.length_nil] at xb
        generalize more ((more W t1).alloc (.cells #[.int .i64 0, .int .i64 0] 26)) t2 = U at *
        generalize (more W t1).heap.size = bb at *
        have z0 : w.heap.size < U.heap.size := HU.out.ltA 0 rfl (by simp)
        have c00 := HU.out.cellA (b := w.heap.size) 0 0 rfl rfl
        have f00 := HU.out.frozA (b := w.heap.size) 0 0 rfl rfl
        have c01 := HU.out.cellA (b := w.heap.size) 0 1 rfl rfl
        have f01 := HU.out.frozA (b := w.heap.size) 0 1 rfl rfl
        have c02 := HU.out.cellA (b := w.heap.size) 0 2 rfl rfl
        have f02 := HU.out.frozA (b := w.heap.size) 0 2 rfl rfl
        have c03 := HU.out.cellA (b := w.heap.size) 0 3 rfl rfl
        have f03 := HU.out.frozA (b := w.heap.size) 0 3 rfl rfl
        have z1 : w.heap.size + 1 < U.heap.size := HU.out.ltA 1 rfl (by simp)
        have c10 := HU.out.cellA (b := w.heap.size + 1) 1 0 rfl rfl
        have f10 := HU.out.frozA (b := w.heap.size + 1) 1 0 rfl rfl
        have c11 := HU.out.cellA (b := w.heap.size + 1) 1 1 rfl rfl
        have f11 := HU.out.frozA (b := w.heap.size + 1) 1 1 rfl rfl
        have z2 : w.heap.size + 1 + 1 < U.heap.size := HU.out.ltA 2 rfl (by simp)
        have c20 := HU.out.cellA (b := w.heap.size + 1 + 1) 2 0 rfl rfl
        have f20 := HU.out.frozA (b := w.heap.size + 1 + 1) 2 0 rfl rfl
        have c21 := HU.out.cellA (b := w.heap.size + 1 + 1) 2 1 rfl rfl
        have f21 := HU.out.frozA (b := w.heap.size + 1 + 1) 2 1 rfl rfl
        go_wp2_with (fail)
        refine bodyPost_ret (v := .tuple #[.agg #[.int .i64 n, .int .i64 dd], .bool true]) (by simp [results, Tryz.results91, go_sem, c20, c21, z2, f20, f21, x0, x1, x0', x1', xz]) rfl (RetE.mkY HR'.out ?_)
        repeat (first | exact HU.out.b | refine stw ?_ (by omega))
      ·
        go_enter Tryz.func91, Tryz.ntmps91
        go_wp2_with (first | (go_at_call 158; ((with_reducible refine (more_first (CS.out _)).mono ?_); rintro e w' ⟨rfl, t, rfl⟩)) | (go_at_call 159; ((with_reducible refine (G1.out _).mono ?_); rintro e w' ⟨rfl, rfl⟩)))
        first | refine wp_region_more2 (by kernel_rfl) (by kernel_rfl) ?_ | refine wp_region_more (by kernel_rfl) (by kernel_rfl) ?_
        repeat (first | go_big_quiet_step (first | (go_at_call 159; exact more_same (G2.out _)) | (go_at_call 160; exact more_same (CT.out _))) | quiet_step (first | (go_at_call 159; exact more_same (G2.out _)) | (go_at_call 160; exact more_same (CT.out _))))
        refine wpQuiet_nil ?_
        intro _ hw'
        obtain ⟨tq, hw''⟩ := hw'
        subst hw''
        go_wp2_with (fail)
        generalize hW : more _ tq = W
        have HF : Hid (Fr w W [[.int .i64 p, .int .i64 c, .int .i64 h, .int .i64 s], [.int .i64 xn, .int .i64 d], [.int .i64 0, .int .i64 0]]) := by rw [← hW]; exact HFr.out.more _
        clear hW
        refine wp_region_blk 16 15 13 _ _ (.cells #[.int .i64 0, .int .i64 0] 26) (by kernel_rfl) (by kernel_rfl) rfl rfl rfl (fun _ _ => by kernel_rfl) rfl (pure_extract _ _ _ _ rfl rfl) (fun _ _ _ _ h => h) (by kernel_rfl) ?_
        apply Exists.intro
        refine ⟨fun X hX => ?_, fun t1 t2 => ?_⟩
        ·
          have HX : Hid (Fr w X [[.int .i64 p, .int .i64 c, .int .i64 h, .int .i64 s], [.int .i64 xn, .int .i64 d], [.int .i64 0, .int .i64 0]]) := by obtain ⟨t0, rfl⟩ := hX; exact HF.out.more t0
          clear hX
          have z0 : w.heap.size < X.heap.size := HX.out.ltA 0 rfl (by simp)
          have c00 := HX.out.cellA (b := w.heap.size) 0 0 rfl rfl
          have f00 := HX.out.frozA (b := w.heap.size) 0 0 rfl rfl
          have c01 := HX.out.cellA (b := w.heap.size) 0 1 rfl rfl
          have f01 := HX.out.frozA (b := w.heap.size) 0 1 rfl rfl
          have c02 := HX.out.cellA (b := w.heap.size) 0 2 rfl rfl
          have f02 := HX.out.frozA (b := w.heap.size) 0 2 rfl rfl
          have c03 := HX.out.cellA (b := w.heap.size) 0 3 rfl rfl
          have f03 := HX.out.frozA (b := w.heap.size) 0 3 rfl rfl
          have z1 : w.heap.size + 1 < X.heap.size := HX.out.ltA 1 rfl (by simp)
          have c10 := HX.out.cellA (b := w.heap.size + 1) 1 0 rfl rfl
          have f10 := HX.out.frozA (b := w.heap.size + 1) 1 0 rfl rfl
          have c11 := HX.out.cellA (b := w.heap.size + 1) 1 1 rfl rfl
          have f11 := HX.out.frozA (b := w.heap.size + 1) 1 1 rfl rfl
          have z2 : w.heap.size + 1 + 1 < X.heap.size := HX.out.ltA 2 rfl (by simp)
          have c20 := HX.out.cellA (b := w.heap.size + 1 + 1) 2 0 rfl rfl
          have f20 := HX.out.frozA (b := w.heap.size + 1 + 1) 2 0 rfl rfl
          have c21 := HX.out.cellA (b := w.heap.size + 1 + 1) 2 1 rfl rfl
          have f21 := HX.out.frozA (b := w.heap.size + 1 + 1) 2 1 rfl rfl
          simp only [List.take_succ_cons, List.take_zero]
          repeat (first | go_big_quiet_step (first | (go_at_call 159; exact more_same (G2.out _)) | (go_at_call 161; exact more_call (CF.out _))) | quiet_step (first | (go_at_call 159; exact more_same (G2.out _)) | (go_at_call 161; exact more_call (CF.out _))))
          exact wpQuiet_nil rfl
        simp only [List.drop_succ_cons, List.drop_zero, Act.put]
        have HU : Hid (Fr w (more ((more W t1).alloc (.cells #[.int .i64 0, .int .i64 0] 26)) t2) [[.int .i64 p, .int .i64 c, .int .i64 h, .int .i64 s], [.int .i64 xn, .int .i64 d], [.int .i64 0, .int .i64 0]]) := ((HF.out.more t1).alloc _).more t2
        have x0 := blk_cell W t1 t2 #[.int .i64 0, .int .i64 0] 26 0 rfl
        have x1 := blk_cell W t1 t2 #[.int .i64 0, .int .i64 0] 26 1 rfl
        have x0' := blk_froz W t1 t2 #[.int .i64 0, .int .i64 0] 26 0
        have x1' := blk_froz W t1 t2 #[.int .i64 0, .int .i64 0] 26 1
        have xz := blk_lt W t1 t2 (.cells #[.int .i64 0, .int .i64 0] 26)
        have xb := (HF.out.more t1).z
        simp only [List.length_cons, List.length_nil] at xb
        generalize more ((more W t1).alloc (.cells #[.int .i64 0, .int .i64 0] 26)) t2 = U at *
        generalize (more W t1).heap.size = bb at *
        have z0 : w.heap.size < U.heap.size := HU.out.ltA 0 rfl (by simp)
        have c00 := HU.out.cellA (b := w.heap.size) 0 0 rfl rfl
        have f00 := HU.out.frozA (b := w.heap.size) 0 0 rfl rfl
        have c01 := HU.out.cellA (b := w.heap.size) 0 1 rfl rfl
        have f01 := HU.out.frozA (b := w.heap.size) 0 1 rfl rfl
        have c02 := HU.out.cellA (b := w.heap.size) 0 2 rfl rfl
        have f02 := HU.out.frozA (b := w.heap.size) 0 2 rfl rfl
        have c03 := HU.out.cellA (b := w.heap.size) 0 3 rfl rfl
        have f03 := HU.out.frozA (b := w.heap.size) 0 3 rfl rfl
        have z1 : w.heap.size + 1 < U.heap.size := HU.out.ltA 1 rfl (by simp)
        have c10 := HU.out.cellA (b := w.heap.size + 1) 1 0 rfl rfl
        have f10 := HU.out.frozA (b := w.heap.size + 1) 1 0 rfl rfl
        have c11 := HU.out.cellA (b := w.heap.size + 1) 1 1 rfl rfl
        have f11 := HU.out.frozA (b := w.heap.size + 1) 1 1 rfl rfl
        have z2 : w.heap.size + 1 + 1 < U.heap.size := HU.out.ltA 2 rfl (by simp)
        have c20 := HU.out.cellA (b := w.heap.size + 1 + 1) 2 0 rfl rfl
        have f20 := HU.out.frozA (b := w.heap.size + 1 + 1) 2 0 rfl rfl
        have c21 := HU.out.cellA (b := w.heap.size + 1 + 1) 2 1 rfl rfl
        have f21 := HU.out.frozA (b := w.heap.size + 1 + 1) 2 1 rfl rfl
        go_wp2_with (fail)
        refine bodyPost_ret (v := .tuple #[.agg #[.int .i64 n, .int .i64 dd], .bool true]) (by simp [results, Tryz.results91, go_sem, c20, c21, z2, f20, f21, x0, x1, x0', x1', xz]) rfl (RetE.mkY HR'.out ?_)
        repeat (first | exact HU.out.b | refine stw ?_ (by omega))
    | false =>
      have HR' : Hid (sclE (sq s) ⟨xn, d⟩ k = none) := HR.out
      clear HR
      rcases (show D = 1 ∨ 1 < D by omega) with rfl | h1D
      ·
        rw [Int.ediv_one] at hSD hK
        subst hSD hK
        go_enter Tryz.func91, Tryz.ntmps91
        go_wp2_with (first | (go_at_call 158; ((with_reducible refine (more_first (CS.out _)).mono ?_); rintro e w' ⟨rfl, t, rfl⟩)) | (go_at_call 159; ((with_reducible refine (G1.out _).mono ?_); rintro e w' ⟨rfl, rfl⟩)))
        first | refine wp_region_more2 (by kernel_rfl) (by kernel_rfl) ?_ | refine wp_region_more (by kernel_rfl) (by kernel_rfl) ?_
        repeat (first | go_big_quiet_step (first | (go_at_call 159; exact more_same (G2.out _)) | (go_at_call 160; exact more_same (CT.out _))) | quiet_step (first | (go_at_call 159; exact more_same (G2.out _)) | (go_at_call 160; exact more_same (CT.out _))))
        refine wpQuiet_nil ?_
        intro _ hw'
        obtain ⟨tq, hw''⟩ := hw'
        subst hw''
        go_wp2_with (fail)
        generalize hW : more _ tq = W
        have HF : Hid (Fr w W [[.int .i64 p, .int .i64 c, .int .i64 h, .int .i64 s], [.int .i64 xn, .int .i64 d], [.int .i64 0, .int .i64 0]]) := by rw [← hW]; exact HFr.out.more _
        clear hW
        refine wp_region_blk 16 15 13 _ _ (.cells #[.int .i64 0, .int .i64 0] 26) (by kernel_rfl) (by kernel_rfl) rfl rfl rfl (fun _ _ => by kernel_rfl) rfl (pure_extract _ _ _ _ rfl rfl) (fun _ _ _ _ h => h) (by kernel_rfl) ?_
        apply Exists.intro
        refine ⟨fun X hX => ?_, fun t1 t2 => ?_⟩
        ·
          have HX : Hid (Fr w X [[.int .i64 p, .int .i64 c, .int .i64 h, .int .i64 s], [.int .i64 xn, .int .i64 d], [.int .i64 0, .int .i64 0]]) := by obtain ⟨t0, rfl⟩ := hX; exact HF.out.more t0
          clear hX
          have z0 : w.heap.size < X.heap.size := HX.out.ltA 0 rfl (by simp)
          have c00 := HX.out.cellA (b := w.heap.size) 0 0 rfl rfl
          have f00 := HX.out.frozA (b := w.heap.size) 0 0 rfl rfl
          have c01 := HX.out.cellA (b := w.heap.size) 0 1 rfl rfl
          have f01 := HX.out.frozA (b := w.heap.size) 0 1 rfl rfl
          have c02 := HX.out.cellA (b := w.heap.size) 0 2 rfl rfl
          have f02 := HX.out.frozA (b := w.heap.size) 0 2 rfl rfl
          have c03 := HX.out.cellA (b := w.heap.size) 0 3 rfl rfl
          have f03 := HX.out.frozA (b := w.heap.size) 0 3 rfl rfl
          have z1 : w.heap.size + 1 < X.heap.size := HX.out.ltA 1 rfl (by simp)
          have c10 := HX.out.cellA (b := w.heap.size + 1) 1 0 rfl rfl
          have f10 := HX.out.frozA (b := w.heap.size + 1) 1 0 rfl rfl
          have c11 := HX.out.cellA (b := w.heap.size + 1) 1 1 rfl rfl
          have f11 := HX.out.frozA (b := w.heap.size + 1) 1 1 rfl rfl
          have z2 : w.heap.size + 1 + 1 < X.heap.size := HX.out.ltA 2 rfl (by simp)
          have c20 := HX.out.cellA (b := w.heap.size + 1 + 1) 2 0 rfl rfl
          have f20 := HX.out.frozA (b := w.heap.size + 1 + 1) 2 0 rfl rfl
          have c21 := HX.out.cellA (b := w.heap.size + 1 + 1) 2 1 rfl rfl
          have f21 := HX.out.frozA (b := w.heap.size + 1 + 1) 2 1 rfl rfl
          simp only [List.take_succ_cons, List.take_zero]
          repeat (first | go_big_quiet_step (first | (go_at_call 159; exact more_same (G2.out _)) | (go_at_call 161; exact more_call (CF.out _))) | quiet_step (first | (go_at_call 159; exact more_same (G2.out _)) | (go_at_call 161; exact more_call (CF.out _))))
          exact wpQuiet_nil rfl
        simp only [List.drop_succ_cons, List.drop_zero, Act.put]
        have HU : Hid (Fr w (more ((more W t1).alloc (.cells #[.int .i64 0, .int .i64 0] 26)) t2) [[.int .i64 p, .int .i64 c, .int .i64 h, .int .i64 s], [.int .i64 xn, .int .i64 d], [.int .i64 0, .int .i64 0]]) := ((HF.out.more t1).alloc _).more t2
        have x0 := blk_cell W t1 t2 #[.int .i64 0, .int .i64 0] 26 0 rfl
        have x1 := blk_cell W t1 t2 #[.int .i64 0, .int .i64 0] 26 1 rfl
        have x0' := blk_froz W t1 t2 #[.int .i64 0, .int .i64 0] 26 0
        have x1' := blk_froz W t1 t2 #[.int .i64 0, .int .i64 0] 26 1
        have xz := blk_lt W t1 t2 (.cells #[.int .i64 0, .int .i64 0] 26)
        have xb := (HF.out.more t1).z
        simp only [List.length_cons, List.length_nil] at xb
        generalize more ((more W t1).alloc (.cells #[.int .i64 0, .int .i64 0] 26)) t2 = U at *
        generalize (more W t1).heap.size = bb at *
        have z0 : w.heap.size < U.heap.size := HU.out.ltA 0 rfl (by simp)
        have c00 := HU.out.cellA (b := w.heap.size) 0 0 rfl rfl
        have f00 := HU.out.frozA (b := w.heap.size) 0 0 rfl rfl
        have c01 := HU.out.cellA (b := w.heap.size) 0 1 rfl rfl
        have f01 := HU.out.frozA (b := w.heap.size) 0 1 rfl rfl
        have c02 := HU.out.cellA (b := w.heap.size) 0 2 rfl rfl
        have f02 := HU.out.frozA (b := w.heap.size) 0 2 rfl rfl
        have c03 := HU.out.cellA (b := w.heap.size) 0 3 rfl rfl
        have f03 := HU.out.frozA (b := w.heap.size) 0 3 rfl rfl
        have z1 : w.heap.size + 1 < U.heap.size := HU.out.ltA 1 rfl (by simp)
        have c10 := HU.out.cellA (b := w.heap.size + 1) 1 0 rfl rfl
        have f10 := HU.out.frozA (b := w.heap.size + 1) 1 0 rfl rfl
        have c11 := HU.out.cellA (b := w.heap.size + 1) 1 1 rfl rfl
        have f11 := HU.out.frozA (b := w.heap.size + 1) 1 1 rfl rfl
        have z2 : w.heap.size + 1 + 1 < U.heap.size := HU.out.ltA 2 rfl (by simp)
        have c20 := HU.out.cellA (b := w.heap.size + 1 + 1) 2 0 rfl rfl
        have f20 := HU.out.frozA (b := w.heap.size + 1 + 1) 2 0 rfl rfl
        have c21 := HU.out.cellA (b := w.heap.size + 1 + 1) 2 1 rfl rfl
        have f21 := HU.out.frozA (b := w.heap.size + 1 + 1) 2 1 rfl rfl
        go_wp2_with (fail)
        refine bodyPost_ret (v := .tuple #[.agg #[.int .i64 0, .int .i64 0], .bool false]) (by simp [results, Tryz.results91, go_sem, c20, c21, z2, f20, f21, x0, x1, x0', x1', xz]) rfl (RetE.mkN HR'.out ?_)
        repeat (first | exact HU.out.b | refine stw ?_ (by omega))
      ·
        go_enter Tryz.func91, Tryz.ntmps91
        go_wp2_with (first | (go_at_call 158; ((with_reducible refine (more_first (CS.out _)).mono ?_); rintro e w' ⟨rfl, t, rfl⟩)) | (go_at_call 159; ((with_reducible refine (G1.out _).mono ?_); rintro e w' ⟨rfl, rfl⟩)))
        first | refine wp_region_more2 (by kernel_rfl) (by kernel_rfl) ?_ | refine wp_region_more (by kernel_rfl) (by kernel_rfl) ?_
        repeat (first | go_big_quiet_step (first | (go_at_call 159; exact more_same (G2.out _)) | (go_at_call 160; exact more_same (CT.out _))) | quiet_step (first | (go_at_call 159; exact more_same (G2.out _)) | (go_at_call 160; exact more_same (CT.out _))))
        refine wpQuiet_nil ?_
        intro _ hw'
        obtain ⟨tq, hw''⟩ := hw'
        subst hw''
        go_wp2_with (fail)
        generalize hW : more _ tq = W
        have HF : Hid (Fr w W [[.int .i64 p, .int .i64 c, .int .i64 h, .int .i64 s], [.int .i64 xn, .int .i64 d], [.int .i64 0, .int .i64 0]]) := by rw [← hW]; exact HFr.out.more _
        clear hW
        refine wp_region_blk 16 15 13 _ _ (.cells #[.int .i64 0, .int .i64 0] 26) (by kernel_rfl) (by kernel_rfl) rfl rfl rfl (fun _ _ => by kernel_rfl) rfl (pure_extract _ _ _ _ rfl rfl) (fun _ _ _ _ h => h) (by kernel_rfl) ?_
        apply Exists.intro
        refine ⟨fun X hX => ?_, fun t1 t2 => ?_⟩
        ·
          have HX : Hid (Fr w X [[.int .i64 p, .int .i64 c, .int .i64 h, .int .i64 s], [.int .i64 xn, .int .i64 d], [.int .i64 0, .int .i64 0]]) := by obtain ⟨t0, rfl⟩ := hX; exact HF.out.more t0
          clear hX
          have z0 : w.heap.size < X.heap.size := HX.out.ltA 0 rfl (by simp)
          have c00 := HX.out.cellA (b := w.heap.size) 0 0 rfl rfl
          have f00 := HX.out.frozA (b := w.heap.size) 0 0 rfl rfl
          have c01 := HX.out.cellA (b := w.heap.size) 0 1 rfl rfl
          have f01 := HX.out.frozA (b := w.heap.size) 0 1 rfl rfl
          have c02 := HX.out.cellA (b := w.heap.size) 0 2 rfl rfl
          have f02 := HX.out.frozA (b := w.heap.size) 0 2 rfl rfl
          have c03 := HX.out.cellA (b := w.heap.size) 0 3 rfl rfl
          have f03 := HX.out.frozA (b := w.heap.size) 0 3 rfl rfl
          have z1 : w.heap.size + 1 < X.heap.size := HX.out.ltA 1 rfl (by simp)
          have c10 := HX.out.cellA (b := w.heap.size + 1) 1 0 rfl rfl
          have f10 := HX.out.frozA (b := w.heap.size + 1) 1 0 rfl rfl
          have c11 := HX.out.cellA (b := w.heap.size + 1) 1 1 rfl rfl
          have f11 := HX.out.frozA (b := w.heap.size + 1) 1 1 rfl rfl
          have z2 : w.heap.size + 1 + 1 < X.heap.size := HX.out.ltA 2 rfl (by simp)
          have c20 := HX.out.cellA (b := w.heap.size + 1 + 1) 2 0 rfl rfl
          have f20 := HX.out.frozA (b := w.heap.size + 1 + 1) 2 0 rfl rfl
          have c21 := HX.out.cellA (b := w.heap.size + 1 + 1) 2 1 rfl rfl
          have f21 := HX.out.frozA (b := w.heap.size + 1 + 1) 2 1 rfl rfl
          simp only [List.take_succ_cons, List.take_zero]
          repeat (first | go_big_quiet_step (first | (go_at_call 159; exact more_same (G2.out _)) | (go_at_call 161; exact more_call (CF.out _))) | quiet_step (first | (go_at_call 159; exact more_same (G2.out _)) | (go_at_call 161; exact more_call (CF.out _))))
          exact wpQuiet_nil rfl
        simp only [List.drop_succ_cons, List.drop_zero, Act.put]
        have HU : Hid (Fr w (more ((more W t1).alloc (.cells #[.int .i64 0, .int .i64 0] 26)) t2) [[.int .i64 p, .int .i64 c, .int .i64 h, .int .i64 s], [.int .i64 xn, .int .i64 d], [.int .i64 0, .int .i64 0]]) := ((HF.out.more t1).alloc _).more t2
        have x0 := blk_cell W t1 t2 #[.int .i64 0, .int .i64 0] 26 0 rfl
        have x1 := blk_cell W t1 t2 #[.int .i64 0, .int .i64 0] 26 1 rfl
        have x0' := blk_froz W t1 t2 #[.int .i64 0, .int .i64 0] 26 0
        have x1' := blk_froz W t1 t2 #[.int .i64 0, .int .i64 0] 26 1
        have xz := blk_lt W t1 t2 (.cells #[.int .i64 0, .int .i64 0] 26)
        have xb := (HF.out.more t1).z
        simp only [List.length_cons, List.length_nil] at xb
        generalize more ((more W t1).alloc (.cells #[.int .i64 0, .int .i64 0] 26)) t2 = U at *
        generalize (more W t1).heap.size = bb at *
        have z0 : w.heap.size < U.heap.size := HU.out.ltA 0 rfl (by simp)
        have c00 := HU.out.cellA (b := w.heap.size) 0 0 rfl rfl
        have f00 := HU.out.frozA (b := w.heap.size) 0 0 rfl rfl
        have c01 := HU.out.cellA (b := w.heap.size) 0 1 rfl rfl
        have f01 := HU.out.frozA (b := w.heap.size) 0 1 rfl rfl
        have c02 := HU.out.cellA (b := w.heap.size) 0 2 rfl rfl
        have f02 := HU.out.frozA (b := w.heap.size) 0 2 rfl rfl
        have c03 := HU.out.cellA (b := w.heap.size) 0 3 rfl rfl
        have f03 := HU.out.frozA (b := w.heap.size) 0 3 rfl rfl
        have z1 : w.heap.size + 1 < U.heap.size := HU.out.ltA 1 rfl (by simp)
        have c10 := HU.out.cellA (b := w.heap.size + 1) 1 0 rfl rfl
        have f10 := HU.out.frozA (b := w.heap.size + 1) 1 0 rfl rfl
        have c11 := HU.out.cellA (b := w.heap.size + 1) 1 1 rfl rfl
        have f11 := HU.out.frozA (b := w.heap.size + 1) 1 1 rfl rfl
        have z2 : w.heap.size + 1 + 1 < U.heap.size := HU.out.ltA 2 rfl (by simp)
        have c20 := HU.out.cellA (b := w.heap.size + 1 + 1) 2 0 rfl rfl
        have f20 := HU.out.frozA (b := w.heap.size + 1 + 1) 2 0 rfl rfl
        have c21 := HU.out.cellA (b := w.heap.size + 1 + 1) 2 1 rfl rfl
        have f21 := HU.out.frozA (b := w.heap.size + 1 + 1) 2 1 rfl rfl
        go_wp2_with (fail)
        refine bodyPost_ret (v := .tuple #[.agg #[.int .i64 0, .int .i64 0], .bool false]) (by simp [results, Tryz.results91, go_sem, c20, c21, z2, f20, f21, x0, x1, x0', x1', xz]) rfl (RetE.mkN HR'.out ?_)
        repeat (first | exact HU.out.b | refine stw ?_ (by omega))
  · have hno : prodOk X K = false := by simpa using hok
    have CT := Lib.hid fun (W : World) => l09Times_no X K W q3.1 q3.2 hkD (by omega) hno
    have HR : Hid (sclE (sq s) ⟨xn, d⟩ k = none) := by
      have := fit_far (B := sq s) (p := X * K) (q := Q) (D := d) hq1 m4 m6 m5 (by have := of_decide_eq_false hno; omega)
      unfold fitE at this
      rw [m7] at this
      exact this
    clear hok hno m7
    rcases (show D = 1 ∨ 1 < D by omega) with rfl | h1D
    ·
      rw [Int.ediv_one] at hSD hK
      subst hSD hK
      go_enter Tryz.func91, Tryz.ntmps91
      go_wp2_with (first | (go_at_call 158; ((with_reducible refine (more_first (CS.out _)).mono ?_); rintro e w' ⟨rfl, t, rfl⟩)) | (go_at_call 159; ((with_reducible refine (G1.out _).mono ?_); rintro e w' ⟨rfl, rfl⟩)))
      first | refine wp_region_more2 (by kernel_rfl) (by kernel_rfl) ?_ | refine wp_region_more (by kernel_rfl) (by kernel_rfl) ?_
      repeat (first | go_big_quiet_step (first | (go_at_call 159; exact more_same (G2.out _)) | (go_at_call 160; exact more_same (CT.out _))) | quiet_step (first | (go_at_call 159; exact more_same (G2.out _)) | (go_at_call 160; exact more_same (CT.out _))))
      refine wpQuiet_nil ?_
      intro _ hw'
      obtain ⟨tq, hw''⟩ := hw'
      subst hw''
      go_wp2_with (fail)
      refine bodyPost_ret (v := .tuple #[.agg #[.int .i64 0, .int .i64 0], .bool false]) (by simp [results, Tryz.results91, go_sem]) rfl (RetE.mkN HR.out ?_)
      repeat (first | exact HF0.out | refine blw ?_ (Nat.le_refl _) | refine alw ?_ (Nat.le_refl _) | refine stw ?_ (by omega) | refine drw ?_)
    ·
      go_enter Tryz.func91, Tryz.ntmps91
      go_wp2_with (first | (go_at_call 158; ((with_reducible refine (more_first (CS.out _)).mono ?_); rintro e w' ⟨rfl, t, rfl⟩)) | (go_at_call 159; ((with_reducible refine (G1.out _).mono ?_); rintro e w' ⟨rfl, rfl⟩)))
      first | refine wp_region_more2 (by kernel_rfl) (by kernel_rfl) ?_ | refine wp_region_more (by kernel_rfl) (by kernel_rfl) ?_
      repeat (first | go_big_quiet_step (first | (go_at_call 159; exact more_same (G2.out _)) | (go_at_call 160; exact more_same (CT.out _))) | quiet_step (first | (go_at_call 159; exact more_same (G2.out _)) | (go_at_call 160; exact more_same (CT.out _))))
      refine wpQuiet_nil ?_
      intro _ hw'
      obtain ⟨tq, hw''⟩ := hw'
      subst hw''
      go_wp2_with (fail)
      refine bodyPost_ret (v := .tuple #[.agg #[.int .i64 0, .int .i64 0], .bool false]) (by simp [results, Tryz.results91, go_sem]) rfl (RetE.mkN HR.out ?_)
      repeat (first | exact HF0.out | refine blw ?_ (Nat.le_refl _) | refine alw ?_ (Nat.le_refl _) | refine stw ?_ (by omega) | refine drw ?_)
end Go.Proofs.YtlbkfhdnhalpbaaGreat

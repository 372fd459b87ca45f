/- Contracts of one minus a number, the program's and the reference's. There are no conditions. -/
import Derived.Test.YtlbkfhdnhalpbaaGreatN14
namespace Go.Proofs.YtlbkfhdnhalpbaaGreat
set_option linter.unusedVariables false
set_option linter.unusedSimpArgs false
open Go.RowKit Ps Ra Ex

theorem l11One_any (w : World) : Calls Tryz.prog 133 #[] w fun e w' => e = .returned (.agg #[.int .i64 1, .int .i64 0]) ∧ Below w.heap.size w w' := by
  go_enter Tryz.func133, Tryz.ntmps133
  go_wp2
  refine bodyPost_ret (v := .agg #[.int .i64 1, .int .i64 0]) (by simp [results, Tryz.results133, go_sem]) rfl ⟨rfl, ?_⟩
  exact (Below.refl _ _).alloc (Nat.le_refl _) _


set_option maxRecDepth 10000 in
theorem oneMinus_any (p c h xn : Int) (s xd : Nat) (w : World) (hs1 : 1 ≤ s) (hs6 : s ≤ 6) (hx : Val (sq s) ⟨xn, xd⟩) :
    Calls Tryz.prog 62 #[.agg #[.int .i64 p, .int .i64 c, .int .i64 h, .int .i64 s], .agg #[.int .i64 xn, .int .i64 xd]] w (RetE w (oneM (sq s) ⟨xn, xd⟩)) := by
  obtain ⟨hq1, hq36, _⟩ := sq_bd hs1 hs6
  have hx1 : -1000000000000000000 ≤ xn := hx.1
  have hx2 : xn ≤ 1000000000000000000 := hx.2.1
  have hd50 : xd < 50 := depth_lt hq1 hx
  have HF : Hid (Fr w (((w.alloc (.cells #[.int .i64 p, .int .i64 c, .int .i64 h, .int .i64 s] 29)).alloc (.cells #[.int .i64 xn, .int .i64 xd] 26)).alloc (.cells #[.int .i64 0, .int .i64 0] 26)) [[.int .i64 p, .int .i64 c, .int .i64 h, .int .i64 s], [.int .i64 xn, .int .i64 xd], [.int .i64 0, .int .i64 0]]) :=
    (((Fr.start w).allocT (by simp) _ _).allocT (by simp) _ _).allocT (by simp) _ _
  rcases hm : oneM (sq s) ⟨xn, xd⟩ with _ | ⟨m, d⟩
  · have AD : Hid (∀ W : World, Calls Tryz.prog 123 #[.agg #[.int .i64 p, .int .i64 c, .int .i64 h, .int .i64 s], .agg #[.int .i64 1, .int .i64 0], .agg #[.int .i64 (-xn), .int .i64 xd]] W fun e w' => e = .returned (.tuple #[.agg #[.int .i64 0, .int .i64 0], .bool false]) ∧ Below W.heap.size W w') := fun W => by
      have := addExact_any p c h 1 (-xn) s 0 xd W hs1 hs6 one_val (neg_val hx); rw [show addE (sq s) ⟨1, 0⟩ ⟨-xn, xd⟩ = oneM (sq s) ⟨xn, xd⟩ from rfl, hm] at this; exact this
    clear hx
    go_enter Tryz.func62, Tryz.ntmps62
    go_wp2_with (fail)
    refine (more_first (AD.out _)).mono ?_
    rintro e w' ⟨rfl, t, rfl⟩
    have HZ := Lib.hid (HF.out.more t)
    generalize more (((w.alloc (.cells #[.int .i64 p, .int .i64 c, .int .i64 h, .int .i64 s] 29)).alloc (.cells #[.int .i64 xn, .int .i64 xd] 26)).alloc (.cells #[.int .i64 0, .int .i64 0] 26)) t = Z at *
    have z0 : w.heap.size < Z.heap.size := HZ.out.ltA 0 rfl (by simp)
    have c00 := HZ.out.cellA (b := w.heap.size) 0 0 rfl rfl
    have f00 := HZ.out.frozA (b := w.heap.size) 0 0 rfl rfl
    have c01 := HZ.out.cellA (b := w.heap.size) 0 1 rfl rfl
    have f01 := HZ.out.frozA (b := w.heap.size) 0 1 rfl rfl
    have c02 := HZ.out.cellA (b := w.heap.size) 0 2 rfl rfl
    have f02 := HZ.out.frozA (b := w.heap.size) 0 2 rfl rfl
    have c03 := HZ.out.cellA (b := w.heap.size) 0 3 rfl rfl
    have f03 := HZ.out.frozA (b := w.heap.size) 0 3 rfl rfl
    have z1 : w.heap.size + 1 < Z.heap.size := HZ.out.ltA 1 rfl (by simp)
    have c10 := HZ.out.cellA (b := w.heap.size + 1) 1 0 rfl rfl
    have f10 := HZ.out.frozA (b := w.heap.size + 1) 1 0 rfl rfl
    have c11 := HZ.out.cellA (b := w.heap.size + 1) 1 1 rfl rfl
    have f11 := HZ.out.frozA (b := w.heap.size + 1) 1 1 rfl rfl
    have z2 : w.heap.size + 1 + 1 < Z.heap.size := HZ.out.ltA 2 rfl (by simp)
    have c20 := HZ.out.cellA (b := w.heap.size + 1 + 1) 2 0 rfl rfl
    have f20 := HZ.out.frozA (b := w.heap.size + 1 + 1) 2 0 rfl rfl
    have c21 := HZ.out.cellA (b := w.heap.size + 1 + 1) 2 1 rfl rfl
    have f21 := HZ.out.frozA (b := w.heap.size + 1 + 1) 2 1 rfl rfl
    go_wp2_with (fail)
    refine bodyPost_ret (v := .tuple #[.agg #[.int .i64 0, .int .i64 0], .bool false]) (by simp [results, Tryz.results62, go_sem, c20, c21, z2, f20, f21]) rfl (RetE.mkN rfl ?_)
    repeat (first | exact HZ.out.b | refine stw ?_ (by omega))
  · have AD : Hid (∀ W : World, Calls Tryz.prog 123 #[.agg #[.int .i64 p, .int .i64 c, .int .i64 h, .int .i64 s], .agg #[.int .i64 1, .int .i64 0], .agg #[.int .i64 (-xn), .int .i64 xd]] W fun e w' => e = .returned (.tuple #[.agg #[.int .i64 m, .int .i64 d], .bool true]) ∧ Below W.heap.size W w') := fun W => by
      have := addExact_any p c h 1 (-xn) s 0 xd W hs1 hs6 one_val (neg_val hx); rw [show addE (sq s) ⟨1, 0⟩ ⟨-xn, xd⟩ = oneM (sq s) ⟨xn, xd⟩ from rfl, hm] at this; exact this
    clear hx
    go_enter Tryz.func62, Tryz.ntmps62
    go_wp2_with (fail)
    refine (more_first (AD.out _)).mono ?_
    rintro e w' ⟨rfl, t, rfl⟩
    have HZ := Lib.hid (HF.out.more t)
    generalize more (((w.alloc (.cells #[.int .i64 p, .int .i64 c, .int .i64 h, .int .i64 s] 29)).alloc (.cells #[.int .i64 xn, .int .i64 xd] 26)).alloc (.cells #[.int .i64 0, .int .i64 0] 26)) t = Z at *
    have z0 : w.heap.size < Z.heap.size := HZ.out.ltA 0 rfl (by simp)
    have c00 := HZ.out.cellA (b := w.heap.size) 0 0 rfl rfl
    have f00 := HZ.out.frozA (b := w.heap.size) 0 0 rfl rfl
    have c01 := HZ.out.cellA (b := w.heap.size) 0 1 rfl rfl
    have f01 := HZ.out.frozA (b := w.heap.size) 0 1 rfl rfl
    have c02 := HZ.out.cellA (b := w.heap.size) 0 2 rfl rfl
    have f02 := HZ.out.frozA (b := w.heap.size) 0 2 rfl rfl
    have c03 := HZ.out.cellA (b := w.heap.size) 0 3 rfl rfl
    have f03 := HZ.out.frozA (b := w.heap.size) 0 3 rfl rfl
    have z1 : w.heap.size + 1 < Z.heap.size := HZ.out.ltA 1 rfl (by simp)
    have c10 := HZ.out.cellA (b := w.heap.size + 1) 1 0 rfl rfl
    have f10 := HZ.out.frozA (b := w.heap.size + 1) 1 0 rfl rfl
    have c11 := HZ.out.cellA (b := w.heap.size + 1) 1 1 rfl rfl
    have f11 := HZ.out.frozA (b := w.heap.size + 1) 1 1 rfl rfl
    have z2 : w.heap.size + 1 + 1 < Z.heap.size := HZ.out.ltA 2 rfl (by simp)
    have c20 := HZ.out.cellA (b := w.heap.size + 1 + 1) 2 0 rfl rfl
    have f20 := HZ.out.frozA (b := w.heap.size + 1 + 1) 2 0 rfl rfl
    have c21 := HZ.out.cellA (b := w.heap.size + 1 + 1) 2 1 rfl rfl
    have f21 := HZ.out.frozA (b := w.heap.size + 1 + 1) 2 1 rfl rfl
    go_wp2_with (fail)
    refine bodyPost_ret (v := .tuple #[.agg #[.int .i64 m, .int .i64 d], .bool true]) (by simp [results, Tryz.results62, go_sem, c20, c21, z2, f20, f21]) rfl (RetE.mkY rfl ?_)
    repeat (first | exact HZ.out.b | refine stw ?_ (by omega))

set_option maxRecDepth 10000 in
theorem l12Minus_any (p c h xn : Int) (s xd : Nat) (w : World) (hs1 : 1 ≤ s) (hs6 : s ≤ 6) (hx : Val (sq s) ⟨xn, xd⟩) :
    Calls Tryz.prog 61 #[.agg #[.int .i64 p, .int .i64 c, .int .i64 h, .int .i64 s], .agg #[.int .i64 xn, .int .i64 xd]] w (RetE w (oneM (sq s) ⟨xn, xd⟩)) := by
  obtain ⟨hq1, hq36, _⟩ := sq_bd hs1 hs6
  have hx1 : -1000000000000000000 ≤ xn := hx.1
  have hx2 : xn ≤ 1000000000000000000 := hx.2.1
  have hd50 : xd < 50 := depth_lt hq1 hx
  have HF : Hid (Fr w (((w.alloc (.cells #[.int .i64 p, .int .i64 c, .int .i64 h, .int .i64 s] 29)).alloc (.cells #[.int .i64 xn, .int .i64 xd] 26)).alloc (.cells #[.int .i64 0, .int .i64 0] 26)) [[.int .i64 p, .int .i64 c, .int .i64 h, .int .i64 s], [.int .i64 xn, .int .i64 xd], [.int .i64 0, .int .i64 0]]) :=
    (((Fr.start w).allocT (by simp) _ _).allocT (by simp) _ _).allocT (by simp) _ _
  rcases hm : oneM (sq s) ⟨xn, xd⟩ with _ | ⟨m, d⟩
  · have AD : Hid (∀ W : World, Calls Tryz.prog 92 #[.agg #[.int .i64 p, .int .i64 c, .int .i64 h, .int .i64 s], .agg #[.int .i64 1, .int .i64 0], .agg #[.int .i64 (-xn), .int .i64 xd]] W fun e w' => e = .returned (.tuple #[.agg #[.int .i64 0, .int .i64 0], .bool false]) ∧ Below W.heap.size W w') := fun W => by
      have := l09Add_any p c h 1 (-xn) s 0 xd W hs1 hs6 one_val (neg_val hx); rw [show addE (sq s) ⟨1, 0⟩ ⟨-xn, xd⟩ = oneM (sq s) ⟨xn, xd⟩ from rfl, hm] at this; exact this
    clear hx
    go_enter Tryz.func61, Tryz.ntmps61
    go_wp2_with (fail)
    first | refine wp_region_tail_more2 11 (by kernel_rfl) (by kernel_rfl) ?_ | refine wp_region_tail_more 11 (by kernel_rfl) (by kernel_rfl) ?_
    simp only [List.take_succ_cons, List.take_zero, List.drop_succ_cons, List.drop_zero]
    repeat (first | go_big_quiet_step (first | (go_at_call 92; exact more_call (AD.out _)) | (go_at_call 133; exact more_call (l11One_any _))) | quiet_step (first | (go_at_call 92; exact more_call (AD.out _)) | (go_at_call 133; exact more_call (l11One_any _))))
    refine wpQuiet_nil ?_
    intro _ hw'
    obtain ⟨t, hw''⟩ := hw'
    subst hw''
    have HZ := Lib.hid (HF.out.more t)
    generalize more (((w.alloc (.cells #[.int .i64 p, .int .i64 c, .int .i64 h, .int .i64 s] 29)).alloc (.cells #[.int .i64 xn, .int .i64 xd] 26)).alloc (.cells #[.int .i64 0, .int .i64 0] 26)) t = Z at *
    have z0 : w.heap.size < Z.heap.size := HZ.out.ltA 0 rfl (by simp)
    have c00 := HZ.out.cellA (b := w.heap.size) 0 0 rfl rfl
    have f00 := HZ.out.frozA (b := w.heap.size) 0 0 rfl rfl
    have c01 := HZ.out.cellA (b := w.heap.size) 0 1 rfl rfl
    have f01 := HZ.out.frozA (b := w.heap.size) 0 1 rfl rfl
    have c02 := HZ.out.cellA (b := w.heap.size) 0 2 rfl rfl
    have f02 := HZ.out.frozA (b := w.heap.size) 0 2 rfl rfl
    have c03 := HZ.out.cellA (b := w.heap.size) 0 3 rfl rfl
    have f03 := HZ.out.frozA (b := w.heap.size) 0 3 rfl rfl
    have z1 : w.heap.size + 1 < Z.heap.size := HZ.out.ltA 1 rfl (by simp)
    have c10 := HZ.out.cellA (b := w.heap.size + 1) 1 0 rfl rfl
    have f10 := HZ.out.frozA (b := w.heap.size + 1) 1 0 rfl rfl
    have c11 := HZ.out.cellA (b := w.heap.size + 1) 1 1 rfl rfl
    have f11 := HZ.out.frozA (b := w.heap.size + 1) 1 1 rfl rfl
    have z2 : w.heap.size + 1 + 1 < Z.heap.size := HZ.out.ltA 2 rfl (by simp)
    have c20 := HZ.out.cellA (b := w.heap.size + 1 + 1) 2 0 rfl rfl
    have f20 := HZ.out.frozA (b := w.heap.size + 1 + 1) 2 0 rfl rfl
    have c21 := HZ.out.cellA (b := w.heap.size + 1 + 1) 2 1 rfl rfl
    have f21 := HZ.out.frozA (b := w.heap.size + 1 + 1) 2 1 rfl rfl
    go_wp2_with (fail)
    refine bodyPost_ret (v := .tuple #[.agg #[.int .i64 0, .int .i64 0], .bool false]) (by simp [results, Tryz.results61, go_sem, c20, c21, z2, f20, f21]) rfl (RetE.mkN rfl ?_)
    repeat (first | exact HZ.out.b | refine stw ?_ (by omega))
  · have AD : Hid (∀ W : World, Calls Tryz.prog 92 #[.agg #[.int .i64 p, .int .i64 c, .int .i64 h, .int .i64 s], .agg #[.int .i64 1, .int .i64 0], .agg #[.int .i64 (-xn), .int .i64 xd]] W fun e w' => e = .returned (.tuple #[.agg #[.int .i64 m, .int .i64 d], .bool true]) ∧ Below W.heap.size W w') := fun W => by
      have := l09Add_any p c h 1 (-xn) s 0 xd W hs1 hs6 one_val (neg_val hx); rw [show addE (sq s) ⟨1, 0⟩ ⟨-xn, xd⟩ = oneM (sq s) ⟨xn, xd⟩ from rfl, hm] at this; exact this
    clear hx
    go_enter Tryz.func61, Tryz.ntmps61
    go_wp2_with (fail)
    first | refine wp_region_tail_more2 11 (by kernel_rfl) (by kernel_rfl) ?_ | refine wp_region_tail_more 11 (by kernel_rfl) (by kernel_rfl) ?_
    simp only [List.take_succ_cons, List.take_zero, List.drop_succ_cons, List.drop_zero]
    repeat (first | go_big_quiet_step (first | (go_at_call 92; exact more_call (AD.out _)) | (go_at_call 133; exact more_call (l11One_any _))) | quiet_step (first | (go_at_call 92; exact more_call (AD.out _)) | (go_at_call 133; exact more_call (l11One_any _))))
    refine wpQuiet_nil ?_
    intro _ hw'
    obtain ⟨t, hw''⟩ := hw'
    subst hw''
    have HZ := Lib.hid (HF.out.more t)
    generalize more (((w.alloc (.cells #[.int .i64 p, .int .i64 c, .int .i64 h, .int .i64 s] 29)).alloc (.cells #[.int .i64 xn, .int .i64 xd] 26)).alloc (.cells #[.int .i64 0, .int .i64 0] 26)) t = Z at *
    have z0 : w.heap.size < Z.heap.size := HZ.out.ltA 0 rfl (by simp)
    have c00 := HZ.out.cellA (b := w.heap.size) 0 0 rfl rfl
    have f00 := HZ.out.frozA (b := w.heap.size) 0 0 rfl rfl
    have c01 := HZ.out.cellA (b := w.heap.size) 0 1 rfl rfl
    have f01 := HZ.out.frozA (b := w.heap.size) 0 1 rfl rfl
    have c02 := HZ.out.cellA (b := w.heap.size) 0 2 rfl rfl
    have f02 := HZ.out.frozA (b := w.heap.size) 0 2 rfl rfl
    have c03 := HZ.out.cellA (b := w.heap.size) 0 3 rfl rfl
    have f03 := HZ.out.frozA (b := w.heap.size) 0 3 rfl rfl
    have z1 : w.heap.size + 1 < Z.heap.size := HZ.out.ltA 1 rfl (by simp)
    have c10 := HZ.out.cellA (b := w.heap.size + 1) 1 0 rfl rfl
    have f10 := HZ.out.frozA (b := w.heap.size + 1) 1 0 rfl rfl
    have c11 := HZ.out.cellA (b := w.heap.size + 1) 1 1 rfl rfl
    have f11 := HZ.out.frozA (b := w.heap.size + 1) 1 1 rfl rfl
    have z2 : w.heap.size + 1 + 1 < Z.heap.size := HZ.out.ltA 2 rfl (by simp)
    have c20 := HZ.out.cellA (b := w.heap.size + 1 + 1) 2 0 rfl rfl
    have f20 := HZ.out.frozA (b := w.heap.size + 1 + 1) 2 0 rfl rfl
    have c21 := HZ.out.cellA (b := w.heap.size + 1 + 1) 2 1 rfl rfl
    have f21 := HZ.out.frozA (b := w.heap.size + 1 + 1) 2 1 rfl rfl
    go_wp2_with (fail)
    refine bodyPost_ret (v := .tuple #[.agg #[.int .i64 m, .int .i64 d], .bool true]) (by simp [results, Tryz.results61, go_sem, c20, c21, z2, f20, f21]) rfl (RetE.mkY rfl ?_)
    repeat (first | exact HZ.out.b | refine stw ?_ (by omega))
end Go.Proofs.YtlbkfhdnhalpbaaGreat

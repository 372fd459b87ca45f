/- Contract of the program's difference of two numbers. There are no conditions. -/
import Derived.Test.YtlbkfhdnhalpbaaGreatN53
namespace Go.Proofs.YtlbkfhdnhalpbaaGreat
set_option linter.unusedVariables false
set_option linter.unusedSimpArgs false
open Go.RowKit Ps Ra Ex

/-- The difference of two numbers. -/
def minE (B : Int) (x y : E) : Option E := addE B x (negE y)
set_option maxRecDepth 10000 in
theorem minusExact_any (p c h xn yn : Int) (s xd yd : Nat) (w : World) (hs1 : 1 ≤ s) (hs6 : s ≤ 6) (hx : Val (sq s) ⟨xn, xd⟩) (hy : Val (sq s) ⟨yn, yd⟩) :
    Calls Tryz.prog 119 #[.agg #[.int .i64 p, .int .i64 c, .int .i64 h, .int .i64 s], .agg #[.int .i64 xn, .int .i64 xd], .agg #[.int .i64 yn, .int .i64 yd]] w (RetE w (minE (sq s) ⟨xn, xd⟩ ⟨yn, yd⟩)) := by
  have hy1 : -1000000000000000000 ≤ yn := hy.1
  have hy2 : yn ≤ 1000000000000000000 := hy.2.1
  rcases hm : minE (sq s) ⟨xn, xd⟩ ⟨yn, yd⟩ with _ | ⟨m, d⟩
  · have AD : Hid (∀ W : World, Calls Tryz.prog 123 #[.agg #[.int .i64 p, .int .i64 c, .int .i64 h, .int .i64 s], .agg #[.int .i64 xn, .int .i64 xd], .agg #[.int .i64 (-yn), .int .i64 yd]] W fun e w' => e = .returned (.tuple #[.agg #[.int .i64 0, .int .i64 0], .bool false]) ∧ Below W.heap.size W w') := fun W => by
      have := addExact_any p c h xn (-yn) s xd yd W hs1 hs6 hx (neg_val hy); rw [show addE (sq s) ⟨xn, xd⟩ ⟨-yn, yd⟩ = minE (sq s) ⟨xn, xd⟩ ⟨yn, yd⟩ from rfl, hm] at this; exact this
    have HF : Hid (Fr w ((((w.alloc (.cells #[.int .i64 p, .int .i64 c, .int .i64 h, .int .i64 s] 29)).alloc (.cells #[.int .i64 xn, .int .i64 xd] 26)).alloc (.cells #[.int .i64 yn, .int .i64 yd] 26)).alloc (.cells #[.int .i64 0, .int .i64 0] 26)) [[.int .i64 p, .int .i64 c, .int .i64 h, .int .i64 s], [.int .i64 xn, .int .i64 xd], [.int .i64 yn, .int .i64 yd], [.int .i64 0, .int .i64 0]]) :=
      ((((Fr.start w).allocT (by simp) _ _).allocT (by simp) _ _).allocT (by simp) _ _).allocT (by simp) _ _
    clear hx hy hm
    go_enter Tryz.func119, Tryz.ntmps119
    go_wp2_with (fail)
    refine (more_first (AD.out _)).mono ?_
    rintro e w' ⟨rfl, t, rfl⟩
    have HZ := Lib.hid (HF.out.more t)
    generalize more ((((w.alloc (.cells #[.int .i64 p, .int .i64 c, .int .i64 h, .int .i64 s] 29)).alloc (.cells #[.int .i64 xn, .int .i64 xd] 26)).alloc (.cells #[.int .i64 yn, .int .i64 yd] 26)).alloc (.cells #[.int .i64 0, .int .i64 0] 26)) t = Z at *
    have z0 : w.heap.size < Z.heap.size := HZ.out.ltA 0 rfl (by simp)
    have c00 := HZ.out.cellA (b := w.heap.size) 0 0 rfl rfl
    have f00 := HZ.out.frozA (b := w.heap.size) 0 0 rfl rfl
    have c01 := HZ.out.cellA (b := w.heap.size) 0 1 rfl rfl
    have f01 := HZ.out.frozA (b := w.heap.size) 0 1 rfl rfl
    have c02 := HZ.out.cellA (b := w.heap.size) 0 2 rfl rfl
    have f02 := HZ.out.frozA (b := w.heap.size) 0 2 rfl rfl
    have c03 := HZ.out.cellA (b := w.heap.size) 0 3 rfl rfl
    have f03 := HZ.out.frozA (b := w.heap.size) 0 3 rfl rfl
    have z1 : w.heap.size + 1 < Z.heap.size := HZ.out.ltA 1 rfl (by simp)
    have c10 := HZ.out.cellA (b := w.heap.size + 1) 1 0 rfl rfl
    have f10 := HZ.out.frozA (b := w.heap.size + 1) 1 0 rfl rfl
    have c11 := HZ.out.cellA (b := w.heap.size + 1) 1 1 rfl rfl
    have f11 := HZ.out.frozA (b := w.heap.size + 1) 1 1 rfl rfl
    have z2 : w.heap.size + 1 + 1 < Z.heap.size := HZ.out.ltA 2 rfl (by simp)
    have c20 := HZ.out.cellA (b := w.heap.size + 1 + 1) 2 0 rfl rfl
    have f20 := HZ.out.frozA (b := w.heap.size + 1 + 1) 2 0 rfl rfl
    have c21 := HZ.out.cellA (b := w.heap.size + 1 + 1) 2 1 rfl rfl
    have f21 := HZ.out.frozA (b := w.heap.size + 1 + 1) 2 1 rfl rfl
    have z3 : w.heap.size + 1 + 1 + 1 < Z.heap.size := HZ.out.ltA 3 rfl (by simp)
    have c30 := HZ.out.cellA (b := w.heap.size + 1 + 1 + 1) 3 0 rfl rfl
    have f30 := HZ.out.frozA (b := w.heap.size + 1 + 1 + 1) 3 0 rfl rfl
    have c31 := HZ.out.cellA (b := w.heap.size + 1 + 1 + 1) 3 1 rfl rfl
    have f31 := HZ.out.frozA (b := w.heap.size + 1 + 1 + 1) 3 1 rfl rfl
    go_wp2_with (fail)
    refine bodyPost_ret (v := .tuple #[.agg #[.int .i64 0, .int .i64 0], .bool false]) (by simp [results, Tryz.results119, go_sem, c30, c31, z3, f30, f31]) rfl (RetE.mkN rfl ?_)
    repeat (first | exact HZ.out.b | refine stw ?_ (by omega))
  · have AD : Hid (∀ W : World, Calls Tryz.prog 123 #[.agg #[.int .i64 p, .int .i64 c, .int .i64 h, .int .i64 s], .agg #[.int .i64 xn, .int .i64 xd], .agg #[.int .i64 (-yn), .int .i64 yd]] W fun e w' => e = .returned (.tuple #[.agg #[.int .i64 m, .int .i64 d], .bool true]) ∧ Below W.heap.size W w') := fun W => by
      have := addExact_any p c h xn (-yn) s xd yd W hs1 hs6 hx (neg_val hy); rw [show addE (sq s) ⟨xn, xd⟩ ⟨-yn, yd⟩ = minE (sq s) ⟨xn, xd⟩ ⟨yn, yd⟩ from rfl, hm] at this; exact this
    have HF : Hid (Fr w ((((w.alloc (.cells #[.int .i64 p, .int .i64 c, .int .i64 h, .int .i64 s] 29)).alloc (.cells #[.int .i64 xn, .int .i64 xd] 26)).alloc (.cells #[.int .i64 yn, .int .i64 yd] 26)).alloc (.cells #[.int .i64 0, .int .i64 0] 26)) [[.int .i64 p, .int .i64 c, .int .i64 h, .int .i64 s], [.int .i64 xn, .int .i64 xd], [.int .i64 yn, .int .i64 yd], [.int .i64 0, .int .i64 0]]) :=
      ((((Fr.start w).allocT (by simp) _ _).allocT (by simp) _ _).allocT (by simp) _ _).allocT (by simp) _ _
    clear hx hy hm
    go_enter Tryz.func119, Tryz.ntmps119
    go_wp2_with (fail)
    refine (more_first (AD.out _)).mono ?_
    rintro e w' ⟨rfl, t, rfl⟩
    have HZ := Lib.hid (HF.out.more t)
    generalize more ((((w.alloc (.cells #[.int .i64 p, .int .i64 c, .int .i64 h, .int .i64 s] 29)).alloc (.cells #[.int .i64 xn, .int .i64 xd] 26)).alloc (.cells #[.int .i64 yn, .int .i64 yd] 26)).alloc (.cells #[.int .i64 0, .int .i64 0] 26)) t = Z at *
    have z0 : w.heap.size < Z.heap.size := HZ.out.ltA 0 rfl (by simp)
    have c00 := HZ.out.cellA (b := w.heap.size) 0 0 rfl rfl
    have f00 := HZ.out.frozA (b := w.heap.size) 0 0 rfl rfl
    have c01 := HZ.out.cellA (b := w.heap.size) 0 1 rfl rfl
    have f01 := HZ.out.frozA (b := w.heap.size) 0 1 rfl rfl
    have c02 := HZ.out.cellA (b := w.heap.size) 0 2 rfl rfl
    have f02 := HZ.out.frozA (b := w.heap.size) 0 2 rfl rfl
    have c03 := HZ.out.cellA (b := w.heap.size) 0 3 rfl rfl
    have f03 := HZ.out.frozA (b := w.heap.size) 0 3 rfl rfl
    have z1 : w.heap.size + 1 < Z.heap.size := HZ.out.ltA 1 rfl (by simp)
    have c10 := HZ.out.cellA (b := w.heap.size + 1) 1 0 rfl rfl
    have f10 := HZ.out.frozA (b := w.heap.size + 1) 1 0 rfl rfl
    have c11 := HZ.out.cellA (b := w.heap.size + 1) 1 1 rfl rfl
    have f11 := HZ.out.frozA (b := w.heap.size + 1) 1 1 rfl rfl
    have z2 : w.heap.size + 1 + 1 < Z.heap.size := HZ.out.ltA 2 rfl (by simp)
    have c20 := HZ.out.cellA (b := w.heap.size + 1 + 1) 2 0 rfl rfl
    have f20 := HZ.out.frozA (b := w.heap.size + 1 + 1) 2 0 rfl rfl
    have c21 := HZ.out.cellA (b := w.heap.size + 1 + 1) 2 1 rfl rfl
    have f21 := HZ.out.frozA (b := w.heap.size + 1 + 1) 2 1 rfl rfl
    have z3 : w.heap.size + 1 + 1 + 1 < Z.heap.size := HZ.out.ltA 3 rfl (by simp)
    have c30 := HZ.out.cellA (b := w.heap.size + 1 + 1 + 1) 3 0 rfl rfl
    have f30 := HZ.out.frozA (b := w.heap.size + 1 + 1 + 1) 3 0 rfl rfl
    have c31 := HZ.out.cellA (b := w.heap.size + 1 + 1 + 1) 3 1 rfl rfl
    have f31 := HZ.out.frozA (b := w.heap.size + 1 + 1 + 1) 3 1 rfl rfl
    go_wp2_with (fail)
    refine bodyPost_ret (v := .tuple #[.agg #[.int .i64 m, .int .i64 d], .bool true]) (by simp [results, Tryz.results119, go_sem, c30, c31, z3, f30, f31]) rfl (RetE.mkY rfl ?_)
    repeat (first | exact HZ.out.b | refine stw ?_ (by omega))
end Go.Proofs.YtlbkfhdnhalpbaaGreat

/- Contract of the program's difference of two numbers. There are no conditions. -/
import Derived.Test.YtlbkfhdnhalpbaaGreatN53
namespace Go.Proofs.YtlbkfhdnhalpbaaGreat
set_option linter.unusedVariables false
set_option linter.unusedSimpArgs false
open Go.RowKit Ps Ra Ex

/-- The difference of two numbers. -/
def minE (B : Int) (x y : E) : Option E := addE B x (negE y)
set_option maxRecDepth 10000 in
theorem minusExact_any (p c h xn yn : Int) (s xd yd : Nat) (w : World) (hs1 : 1 ≤ s) (hs6 : s ≤ 6) (hx : Val (sq s) ⟨xn, xd⟩) (hy : Val (sq s) ⟨yn, yd⟩) :
    Calls Tryz.prog 119 #[.agg #[.int .i64 p, .int .i64 c, .int .i64 h, .int .i64 s], .agg #[.int .i64 xn, .int .i64 xd], .agg #[.int .i64 yn, .int .i64 yd]] w (RetE w (minE (sq s) ⟨xn, xd⟩ ⟨yn, yd⟩)) := by
  have hy1 : -1000000000000000000 ≤ yn := hy.1
  have hy2 : yn ≤ 1000000000000000000 := hy.2.1
  rcases hm : minE (sq s) ⟨xn, xd⟩ ⟨yn, yd⟩ with _ | ⟨m, d⟩
  · have AD : Hid (∀ W : World, Calls Tryz.prog 123 #[.agg #[.int .i64 p, .int .i64 c, .int .i64 h, .int .i64 s], .agg #[.int .i64 xn, .int .i64 xd], .agg #[.int .i64 (-yn), .int .i64 yd]] W fun e w' => e = .returned (.tuple #[.agg #[.int .i64 0, .int .i64 0], .bool false]) ∧ Below W.heap.size W w') := fun W => by
      have := addExact_any p c h xn (-yn) s xd yd W hs1 hs6 hx (neg_val hy); rw [show addE (sq s) ⟨xn, xd⟩ ⟨-yn, yd⟩ = minE (sq s) ⟨xn, xd⟩ ⟨yn, yd⟩ from rfl, hm] at this; exact this
    have HF : Hid (Fr w ((((w.alloc (.cells #[.int .i64 p, .int .i64 c, .int .i64 h, .int .i64 s] 29)).alloc (.cells #[.int .i64 xn, .int .i64 xd] 26)).alloc (.cells #[.int .i64 yn, .int .i64 yd] 26)).alloc (.cells #[.int .i64 0, .int .i64 0] 26)) [[.int .i64 p, .int .i64 c, .int .i64 h, .int .i64 s], [.int .i64 xn, .int .i64 xd], [.int .i64 yn, .int .i64 yd], [.int .i64 0, .int .i64 0]]) :=
      ((((Fr.start w).allocT (by simp) _ _).allocT (by simp) _ _).allocT (by simp) _ _).allocT (by simp) _ _
    clear hx hy hm
    go_enter Tryz.func119, Tryz.ntmps119
    go_wp2_with (fail)
    refine (more_first (AD.out _)).mono ?_
    rintro e w' ⟨rfl, t, rfl⟩
    have HZ := Lib.hid (HF.out.more t)
    generalize more ((((w.alloc (.cells #[.int .i64 p, .int .i64 c, .int .i64 h, .int .i64 s] 29)).alloc (.cells #[.int .i64 xn, .int .i64 xd] 26)).alloc (.cells #[.int .i64 yn, .int .i64 yd] 26)).alloc (.cells #[.int .i64 0, .int .i64 0] 26)) t = Z at *
    have z0 := HZ.out.l0 (by simp)
    have c00 := HZ.out.c0 0 rfl
    have f00 := HZ.out.f0 0 rfl
    have c01 := HZ.out.c0 1 rfl
    have f01 := HZ.out.f0 1 rfl
    have c02 := HZ.out.c0 2 rfl
    have f02 := HZ.out.f0 2 rfl
    have c03 := HZ.out.c0 3 rfl
    have f03 := HZ.out.f0 3 rfl
    have z1 := HZ.out.l1 (by simp)
    have c10 := HZ.out.c1 0 rfl
    have f10 := HZ.out.f1 0 rfl
    have c11 := HZ.out.c1 1 rfl
    have f11 := HZ.out.f1 1 rfl
    have z2 := HZ.out.l2 (by simp)
    have c20 := HZ.out.c2 0 rfl
    have f20 := HZ.out.f2 0 rfl
    have c21 := HZ.out.c2 1 rfl
    have f21 := HZ.out.f2 1 rfl
    have z3 := HZ.out.l3 (by simp)
    have c30 := HZ.out.c3 0 rfl
    have f30 := HZ.out.f3 0 rfl
    have c31 := HZ.out.c3 1 rfl
    have f31 := HZ.out.f3 1 rfl
    go_wp2_with (fail)
    refine bodyPost_ret (v := .tuple #[.agg #[.int .i64 0, .int .i64 0], .bool false]) (by simp [results, Tryz.results119, go_sem, c30, c31, z3, f30, f31]) rfl (RetE.mkN rfl ?_)
    repeat (first | exact HZ.out.b | refine stw ?_ (by omega))
  · have AD : Hid (∀ W : World, Calls Tryz.prog 123 #[.agg #[.int .i64 p, .int .i64 c, .int .i64 h, .int .i64 s], .agg #[.int .i64 xn, .int .i64 xd], .agg #[.int .i64 (-yn), .int .i64 yd]] W fun e w' => e = .returned (.tuple #[.agg #[.int .i64 m, .int .i64 d], .bool true]) ∧ Below W.heap.size W w') := fun W => by
      have := addExact_any p c h xn (-yn) s xd yd W hs1 hs6 hx (neg_val hy); rw [show addE (sq s) ⟨xn, xd⟩ ⟨-yn, yd⟩ = minE (sq s) ⟨xn, xd⟩ ⟨yn, yd⟩ from rfl, hm] at this; exact this
    have HF : Hid (Fr w ((((w.alloc (.cells #[.int .i64 p, .int .i64 c, .int .i64 h, .int .i64 s] 29)).alloc (.cells #[.int .i64 xn, .int .i64 xd] 26)).alloc (.cells #[.int .i64 yn, .int .i64 yd] 26)).alloc (.cells #[.int .i64 0, .int .i64 0] 26)) [[.int .i64 p, .int .i64 c, .int .i64 h, .int .i64 s], [.int .i64 xn, .int .i64 xd], [.int .i64 yn, .int .i64 yd], [.int .i64 0, .int .i64 0]]) :=
      ((((Fr.start w).allocT (by simp) _ _).allocT (by simp) _ _).allocT (by simp) _ _).allocT (by simp) _ _
    clear hx hy hm
    go_enter Tryz.func119, Tryz.ntmps119
    go_wp2_with (fail)
    refine (more_first (AD.out _)).mono ?_
    rintro e w' ⟨rfl, t, rfl⟩
    have HZ := Lib.hid (HF.out.more t)
    generalize more ((((w.alloc (.cells #[.int .i64 p, .int .i64 c, .int .i64 h, .int .i64 s] 29)).alloc (.cells #[.int .i64 xn, .int .i64 xd] 26)).alloc (.cells #[.int .i64 yn, .int .i64 yd] 26)).alloc (.cells #[.int .i64 0, .int .i64 0] 26)) t = Z at *
    have z0 := HZ.out.l0 (by simp)
    have c00 := HZ.out.c0 0 rfl
    have f00 := HZ.out.f0 0 rfl
    have c01 := HZ.out.c0 1 rfl
    have f01 := HZ.out.f0 1 rfl
    have c02 := HZ.out.c0 2 rfl
    have f02 := HZ.out.f0 2 rfl
    have c03 := HZ.out.c0 3 rfl
    have f03 := HZ.out.f0 3 rfl
    have z1 := HZ.out.l1 (by simp)
    have c10 := HZ.out.c1 0 rfl
    have f10 := HZ.out.f1 0 rfl
    have c11 := HZ.out.c1 1 rfl
    have f11 := HZ.out.f1 1 rfl
    have z2 := HZ.out.l2 (by simp)
    have c20 := HZ.out.c2 0 rfl
    have f20 := HZ.out.f2 0 rfl
    have c21 := HZ.out.c2 1 rfl
    have f21 := HZ.out.f2 1 rfl
    have z3 := HZ.out.l3 (by simp)
    have c30 := HZ.out.c3 0 rfl
    have f30 := HZ.out.f3 0 rfl
    have c31 := HZ.out.c3 1 rfl
    have f31 := HZ.out.f3 1 rfl
    go_wp2_with (fail)
    refine bodyPost_ret (v := .tuple #[.agg #[.int .i64 m, .int .i64 d], .bool true]) (by simp [results, Tryz.results119, go_sem, c30, c31, z3, f30, f31]) rfl (RetE.mkY rfl ?_)
    repeat (first | exact HZ.out.b | refine stw ?_ (by omega))
end Go.Proofs.YtlbkfhdnhalpbaaGreat

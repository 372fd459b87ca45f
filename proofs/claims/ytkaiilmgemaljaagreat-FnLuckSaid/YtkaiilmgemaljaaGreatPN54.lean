/- Contract of the program's difference of two numbers. There are no conditions. -/
import Derived.Test.YtkaiilmgemaljaaGreatPN52
namespace Go.Proofs.YtkaiilmgemaljaaGreat
set_option linter.unusedVariables false
set_option linter.unusedSimpArgs false
open Go.RowKit Ps Ra Ex

def minE (B : Int) (x y : E) : Option E := addE B x (negE y)
set_option maxRecDepth 10000 in
theorem minusExact_any (p c h xn yn : Int) (s xd yd : Nat) (w : World) (hs1 : 1 ≤ s) (hs6 : s ≤ 6) (hx : Val (sq s) ⟨xn, xd⟩) (hy : Val (sq s) ⟨yn, yd⟩) :
   Calls Tryz.prog 85 #[.agg #[.int .i64 p, .int .i64 c, .int .i64 h, .int .i64 s], .agg #[.int .i64 xn, .int .i64 xd], .agg #[.int .i64 yn, .int .i64 yd]] w (RetE w (minE (sq s) ⟨xn, xd⟩ ⟨yn, yd⟩)) := by
 have hy1 : -1000000000000000000 ≤ yn := hy.1; have hy2 : yn ≤ 1000000000000000000 := hy.2.1
 rcases hm : minE (sq s) ⟨xn, xd⟩ ⟨yn, yd⟩ with _ | ⟨m, d⟩
 · have AD : Hid (∀ W : World, Calls Tryz.prog 130 #[.agg #[.int .i64 p, .int .i64 c, .int .i64 h, .int .i64 s], .agg #[.int .i64 xn, .int .i64 xd], .agg #[.int .i64 (-yn), .int .i64 yd]] W fun e w' => e = .returned (.tuple #[.agg #[.int .i64 0, .int .i64 0], .bool false]) ∧ Below W.heap.size W w') := fun W => by
     have := addExact_any p c h xn (-yn) s xd yd W hs1 hs6 hx (neg_val hy); rw [show addE (sq s) ⟨xn, xd⟩ ⟨-yn, yd⟩ = minE (sq s) ⟨xn, xd⟩ ⟨yn, yd⟩ from rfl, hm] at this; exact this
   have HF : Hid (Fr w ((((w.alloc (.cells #[.int .i64 p, .int .i64 c, .int .i64 h, .int .i64 s] 25)).alloc (.cells #[.int .i64 xn, .int .i64 xd] 35)).alloc (.cells #[.int .i64 yn, .int .i64 yd] 35)).alloc (.cells #[.int .i64 0, .int .i64 0] 35)) [[.int .i64 p, .int .i64 c, .int .i64 h, .int .i64 s], [.int .i64 xn, .int .i64 xd], [.int .i64 yn, .int .i64 yd], [.int .i64 0, .int .i64 0]]) :=
     ((((Fr.start w).allocT (by simp) _ _).allocT (by simp) _ _).allocT (by simp) _ _).allocT (by simp) _ _
   clear hx hy hm
   go_enter Tryz.func85, Tryz.ntmps85
   go_wp2_with (fail)
   refine (more_first (AD.out _)).mono ?_
   rintro e w' ⟨rfl, t, rfl⟩
   have HZ := Lib.hid (HF.out.more t); generalize more ((((w.alloc (.cells #[.int .i64 p, .int .i64 c, .int .i64 h, .int .i64 s] 25)).alloc (.cells #[.int .i64 xn, .int .i64 xd] 35)).alloc (.cells #[.int .i64 yn, .int .i64 yd] 35)).alloc (.cells #[.int .i64 0, .int .i64 0] 35)) t = Z at *; obtain ⟨z0, c00, f00, c01, f01, c02, f02, c03, f03, z1, c10, f10, c11, f11, z2, c20, f20, c21, f21, z3, c30, f30, c31, f31⟩ := HZ.out.xf0
   go_wp2_with (fail)
   refine bodyPost_ret (v := .tuple #[.agg #[.int .i64 0, .int .i64 0], .bool false]) (by simp [results, Tryz.results85, go_sem, c30, c31, z3, f30, f31]) rfl (RetE.mkN rfl ?_)
   repeat (first | exact HZ.out.b | refine stw ?_ (by omega))
 · have AD : Hid (∀ W : World, Calls Tryz.prog 130 #[.agg #[.int .i64 p, .int .i64 c, .int .i64 h, .int .i64 s], .agg #[.int .i64 xn, .int .i64 xd], .agg #[.int .i64 (-yn), .int .i64 yd]] W fun e w' => e = .returned (.tuple #[.agg #[.int .i64 m, .int .i64 d], .bool true]) ∧ Below W.heap.size W w') := fun W => by
     have := addExact_any p c h xn (-yn) s xd yd W hs1 hs6 hx (neg_val hy); rw [show addE (sq s) ⟨xn, xd⟩ ⟨-yn, yd⟩ = minE (sq s) ⟨xn, xd⟩ ⟨yn, yd⟩ from rfl, hm] at this; exact this
   have HF : Hid (Fr w ((((w.alloc (.cells #[.int .i64 p, .int .i64 c, .int .i64 h, .int .i64 s] 25)).alloc (.cells #[.int .i64 xn, .int .i64 xd] 35)).alloc (.cells #[.int .i64 yn, .int .i64 yd] 35)).alloc (.cells #[.int .i64 0, .int .i64 0] 35)) [[.int .i64 p, .int .i64 c, .int .i64 h, .int .i64 s], [.int .i64 xn, .int .i64 xd], [.int .i64 yn, .int .i64 yd], [.int .i64 0, .int .i64 0]]) :=
     ((((Fr.start w).allocT (by simp) _ _).allocT (by simp) _ _).allocT (by simp) _ _).allocT (by simp) _ _
   clear hx hy hm
   go_enter Tryz.func85, Tryz.ntmps85
   go_wp2_with (fail)
   refine (more_first (AD.out _)).mono ?_
   rintro e w' ⟨rfl, t, rfl⟩
   have HZ := Lib.hid (HF.out.more t); generalize more ((((w.alloc (.cells #[.int .i64 p, .int .i64 c, .int .i64 h, .int .i64 s] 25)).alloc (.cells #[.int .i64 xn, .int .i64 xd] 35)).alloc (.cells #[.int .i64 yn, .int .i64 yd] 35)).alloc (.cells #[.int .i64 0, .int .i64 0] 35)) t = Z at *; obtain ⟨z0, c00, f00, c01, f01, c02, f02, c03, f03, z1, c10, f10, c11, f11, z2, c20, f20, c21, f21, z3, c30, f30, c31, f31⟩ := HZ.out.xf0
   go_wp2_with (fail)
   refine bodyPost_ret (v := .tuple #[.agg #[.int .i64 m, .int .i64 d], .bool true]) (by simp [results, Tryz.results85, go_sem, c30, c31, z3, f30, f31]) rfl (RetE.mkY rfl ?_)
   repeat (first | exact HZ.out.b | refine stw ?_ (by omega))
end Go.Proofs.YtkaiilmgemaljaaGreat

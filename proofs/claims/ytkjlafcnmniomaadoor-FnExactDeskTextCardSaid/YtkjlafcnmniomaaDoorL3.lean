/- Contracts of holding desks against each other, and of marking a desk without a past. There are no conditions. -/
import Derived.Test.YtkjlafcnmniomaaDoorL2
namespace Go.Proofs.YtkjlafcnmniomaaDoor
set_option linter.unusedVariables false
set_option linter.unusedSimpArgs false
open Go.RowKit

set_option maxHeartbeats 600000 in
set_option maxRecDepth 100000 in
theorem eqDesk_yes (p c h s ra rb seed : Int) (A1 A2 A3 B1 B2 B3 : Option Addr) (n1 c1 n2 c2 n3 c3 d1 d2 d3 : Nat) (xs ys : List Int) (w : World) (h1 : SL w A1 n1 xs) (h2 : SL w A2 n2 ys) (k1 : SL w B1 n1 xs) (k2 : SL w B2 n2 ys) (hn1 : n1 ≤ 2000000) (hn2 : n2 ≤ 2000000)
    (hp : ∀ W, Below w.heap.size w W → Calls Tryd.prog 30 #[.slice A3 n3 c3, .slice B3 n3 d3] W fun e w' => e = .returned (.bool true) ∧ Below W.heap.size W w') :
    Calls Tryd.prog 8 #[.agg #[.int .i64 p, .int .i64 c, .int .i64 h, .int .i64 s, .slice A1 n1 c1, .slice A2 n2 c2, .int .i64 ra, .int .i64 rb, .int .i64 seed, .slice A3 n3 c3], .agg #[.int .i64 p, .int .i64 c, .int .i64 h, .int .i64 s, .slice B1 n1 d1, .slice B2 n2 d2, .int .i64 ra, .int .i64 rb, .int .i64 seed, .slice B3 n3 d3]] w
      fun e w' => e = .returned (.bool true) ∧ Below w.heap.size w w' := by
  have HB : Hid (Below w.heap.size w ((w.alloc (.cells #[.int .i64 p, .int .i64 c, .int .i64 h, .int .i64 s, .slice A1 n1 c1, .slice A2 n2 c2, .int .i64 ra, .int .i64 rb, .int .i64 seed, .slice A3 n3 c3] 39)).alloc (.cells #[.int .i64 p, .int .i64 c, .int .i64 h, .int .i64 s, .slice B1 n1 d1, .slice B2 n2 d2, .int .i64 ra, .int .i64 rb, .int .i64 seed, .slice B3 n3 d3] 39))) := ((Below.refl _ _).alloc (Nat.le_refl _) _).alloc (by simp) _
  have C1 := Lib.hid fun t => eqBoard_yes A1 A2 B1 B2 n1 c1 n2 c2 d1 d2 xs ys (more _ t) ((h1.below HB.out).more t) ((h2.below HB.out).more t) ((k1.below HB.out).more t) ((k2.below HB.out).more t) hn1 hn2
  have C2 := Lib.hid fun t => hp (more _ t) (HB.out.trans ((below_more _ t).mono HB.out.size))
  clear h1 h2 k1 k2 hp
  go_enter Tryd.func8, Tryd.ntmps8
  go_wp2_with (first | (go_at_call 27; refine (more_first (eqVariant_yes _ _ _ _ _)).mono ?_; rintro e w' ⟨rfl, t, rfl⟩) | (go_at_call 28; refine (more_call (C1.out _)).mono ?_; rintro e w' ⟨rfl, t, rfl⟩) | (go_at_call 29; refine (more_call (eqRoll_yes _ _ _)).mono ?_; rintro e w' ⟨rfl, t, rfl⟩) | (go_at_call 30; refine (more_call (C2.out _)).mono ?_; rintro e w' ⟨rfl, t, rfl⟩))
  go_ret
  exact ⟨rfl, HB.out.trans ((below_more _ _).mono HB.out.size)⟩

end Go.Proofs.YtkjlafcnmniomaaDoor

/- The statement FnExactSolvedChance, the law's walk. There are no conditions. -/
import Derived.Test.YtchaenamdpikpaaGreatN84
import Derived.Test.YtchaenamdpikpaaGreatZv
import Derived.Test.YtchaenamdpikpaaGreatZl
namespace Go.Proofs.YtchaenamdpikpaaGreat
set_option linter.unusedVariables false
set_option linter.unusedSimpArgs false
open Go.RowKit Ps Ra Ex

/-- A copy of a board. -/
def CpB (xs ys : List Int) : RP := fun v W => ∃ X1 k1 X2 k2, v = .agg #[.slice X1 xs.length k1, .slice X2 ys.length k2] ∧ SL W X1 xs.length xs ∧ xs.length ≤ k1 ∧ SL W X2 ys.length ys ∧ ys.length ≤ k2
theorem stb_cpb (xs ys : List Int) : Stb (CpB xs ys) := fun _ _ _ ⟨X1, k1, X2, k2, h1, h2, h3, h4, h5⟩ hb => ⟨X1, k1, X2, k2, h1, h2.below hb, h3, h4.below hb, h5⟩
def dsSolvedChance5 : Nat → Nat
  | 0 => 17
  | 1 => 18
  | 2 => 19
  | 3 => 20
  | 4 => 21
  | 5 => 16
  | 6 => 22
  | 7 => 23
  | 8 => 6
  | _ => 0
def dsSolvedChance7 : Nat → Nat
  | 0 => 27
  | 1 => 28
  | 2 => 29
  | 3 => 30
  | 4 => 26
  | 5 => 31
  | 6 => 32
  | 7 => 9
  | _ => 0
def dsSolvedChance10 : Nat → Nat
  | 0 => 42
  | 1 => 43
  | 2 => 44
  | 3 => 45
  | _ => 0
set_option maxRecDepth 100000 in
set_option maxHeartbeats 4000000 in
theorem solvedChance_law (p c h s : Int) (A1 A2 : Option Addr) (n1 a1 n2 a2 : Nat) (xs ys : List Int) (w : World) (hx : SL w A1 n1 xs) (hy : SL w A2 n2 ys) (hm1 : n1 ≤ maxLen) (hm2 : n2 ≤ maxLen) :
    Calls Tryz.prog 4 #[.agg #[.int .i64 p, .int .i64 c, .int .i64 h, .int .i64 s], .agg #[.slice A1 n1 a1, .slice A2 n2 a2]] w fun e w' => e = .returned (.bool true) ∧ Below w.heap.size w w' := by
  have hV0 : Bel w ((w.alloc (.cells #[.int .i64 p, .int .i64 c, .int .i64 h, .int .i64 s] 34)).alloc (.cells #[.slice A1 n1 a1, .slice A2 n2 a2] 36)) := (Bel.trans (Bel.alloc _ _) (Bel.alloc _ _))
  have C0 : Cel ((w.alloc (.cells #[.int .i64 p, .int .i64 c, .int .i64 h, .int .i64 s] 34)).alloc (.cells #[.slice A1 n1 a1, .slice A2 n2 a2] 36)) (w.heap.size) [.int .i64 p, .int .i64 c, .int .i64 h, .int .i64 s] := (Cel.new' _ _ _ (by simp)).alloc _
  have C1 : Cel ((w.alloc (.cells #[.int .i64 p, .int .i64 c, .int .i64 h, .int .i64 s] 34)).alloc (.cells #[.slice A1 n1 a1, .slice A2 n2 a2] 36)) (w.heap.size + 1) [.slice A1 n1 a1, .slice A2 n2 a2] := Cel.new' _ _ _ (by simp)
  have Sxs := Lib.hid (hx.below hV0)
  have Sys := Lib.hid (hy.below hV0)
  have Lx := Lib.hid hx.1
  have Ly := Lib.hid hy.1
  clear hx hy
  have HB := Lib.hid hV0
  clear hV0
  replace C0 := Lib.hid C0
  replace C1 := Lib.hid C1
  obtain ⟨r, hr⟩ : ∃ r, r = solR p c h s xs ys := ⟨_, rfl⟩
  obtain ⟨r1, r2, r3⟩ := r
  have CZ := Lib.hid fun (W : World) => szBoard_any A1 A2 n1 a1 n2 a2 1048576 W (by unfold maxLen at hm1; omega) (by unfold maxLen at hm2; omega) (by omega) (by omega)
  go_enter Tryz.func4, Tryz.ntmps4
  go_wp2_with (fail)
  generalize ((w.alloc (.cells #[.int .i64 p, .int .i64 c, .int .i64 h, .int .i64 s] 34)).alloc (.cells #[.slice A1 n1 a1, .slice A2 n2 a2] 36)) = V at *
  refine (CZ.out _).mono ?_
  rintro e V1 ⟨r, rfl, hr1, hr2, hr3, hb⟩
  clear CZ
  replace C0 := Lib.hid (C0.out.below hb)
  replace C1 := Lib.hid (C1.out.below hb)
  replace Sxs := Lib.hid (Sxs.out.below hb)
  replace Sys := Lib.hid (Sys.out.below hb)
  replace HB := Lib.hid (Bel.trans HB.out hb)
  clear hb
  by_cases hneg : r < 0
  · go_wp2_with (fail)
    go_ret
    exact ⟨rfl, HB.out⟩
  have hsz := hr3 (by omega)
  have hn1' : n1 ≤ 2000000 := by omega
  have hn2' : n2 ≤ 2000000 := by omega
  have ox : xs.length ≤ 2000000 := by rw [Lx.out]; exact hn1'
  have oy : ys.length ≤ 2000000 := by rw [Ly.out]; exact hn2'
  clear hr1 hr2 hr3 hsz
  have CS : Hid (∀ (W : World) (X1 X2 : Option Addr) (k1 k2 : Nat), SL W X1 xs.length xs → SL W X2 ys.length ys → xs.length ≤ k1 → ys.length ≤ k2 → Calls Tryz.prog 12 #[.agg #[.int .i64 p, .int .i64 c, .int .i64 h, .int .i64 s], .agg #[.slice X1 xs.length k1, .slice X2 ys.length k2]] W fun e w' => e = .returned (.tuple #[.agg #[.int .i64 r1, .int .i64 r2], .int .i64 r3]) ∧ Below W.heap.size W w') := fun W X1 X2 k1 k2 s1 s2 l1 l2 => by
    have := sSolvedChance_any p c h s X1 X2 _ k1 _ k2 xs ys W s1 s2 l1 l2 ox oy; rw [← hr] at this; exact this
  have CI : Hid (∀ (W : World) (X1 X2 : Option Addr) (k1 k2 : Nat), SL W X1 xs.length xs → SL W X2 ys.length ys → xs.length ≤ k1 → ys.length ≤ k2 → Calls Tryz.prog 15 #[.agg #[.int .i64 p, .int .i64 c, .int .i64 h, .int .i64 s], .agg #[.slice X1 xs.length k1, .slice X2 ys.length k2]] W fun e w' => e = .returned (.tuple #[.agg #[.int .i64 r1, .int .i64 r2], .int .i64 r3]) ∧ Below W.heap.size W w') := fun W X1 X2 k1 k2 s1 s2 l1 l2 => by
    have := SolvedChance_any p c h s X1 X2 _ k1 _ k2 xs ys W s1 s2 l1 l2 ox oy; rw [← hr] at this; exact this
  clear hr
  go_wp2_with (fail)
  refine wp_region_early 9 (fun i => i == 7) dsSolvedChance5 Bel (fun _ => True) (GL [Eqv (.agg #[.int .i64 p, .int .i64 c, .int .i64 h, .int .i64 s]), Eqv (.agg #[.int .i64 p, .int .i64 c, .int .i64 h, .int .i64 s]), Eqv (.agg #[.slice A1 n1 a1, .slice A2 n2 a2]), CpB xs ys, Eqv (.tuple #[.agg #[.int .i64 r1, .int .i64 r2], .int .i64 r3]), Eqv (.tuple #[.agg #[.int .i64 r1, .int .i64 r2], .int .i64 r3]), Eqv (.agg #[.int .i64 r1, .int .i64 r2]), Eqv (.int .i64 r3), Alc V1.heap.size [.int .i64 0, .int .i64 0]]) (by kernel_rfl) (by kernel_rfl) (fun _ _ _ _ _ h => h) (fun _ _ _ h1 h2 => Bel.trans h1 h2) Bel.rfl' (GL.stab (by repeat (first | exact AllStb.nil | refine AllStb.cons (by first | exact stb_eq _ | exact stb_cpy _ | exact stb_alc _ _ | exact stb_cpb _ _) ?_))) (Bel.drew _) trivial ?_ ?_ ?_
  · intro i o hi hX ho a' W hW hIW hfar hdep
    have e2 : a'.tmps.getD 2 undef = .pointer (some ⟨w.heap.size, 0, none⟩) := (hfar 2 (by decide)).trans rfl
    have e3 : a'.tmps.getD 3 undef = .pointer (some ⟨w.heap.size + 1, 0, none⟩) := (hfar 3 (by decide)).trans rfl
    have dep : ∀ j, j < 9 → Region.waitsFor .any _ i j = true → GL [Eqv (.agg #[.int .i64 p, .int .i64 c, .int .i64 h, .int .i64 s]), Eqv (.agg #[.int .i64 p, .int .i64 c, .int .i64 h, .int .i64 s]), Eqv (.agg #[.slice A1 n1 a1, .slice A2 n2 a2]), CpB xs ys, Eqv (.tuple #[.agg #[.int .i64 r1, .int .i64 r2], .int .i64 r3]), Eqv (.tuple #[.agg #[.int .i64 r1, .int .i64 r2], .int .i64 r3]), Eqv (.agg #[.int .i64 r1, .int .i64 r2]), Eqv (.int .i64 r3), Alc V1.heap.size [.int .i64 0, .int .i64 0]] j (a'.tmps.getD (dsSolvedChance5 j) undef) W := hdep
    have hi8 : i = 7 := by simpa using hX
    clear hfar hdep hX hi
    subst hi8
    simp at ho
    subst ho
    · have d1 : a'.tmps.getD 16 undef = .tuple #[.agg #[.int .i64 r1, .int .i64 r2], .int .i64 r3] := dep 5 (by omega) (by kernel_rfl)
      exact ⟨.int .i64 r3, fun W' => by simp only [execOp, Act.eval, d1]; go_simp, rfl⟩
  · intro i o hi hX ho a' W hW hIW hfar hdep
    have e2 : a'.tmps.getD 2 undef = .pointer (some ⟨w.heap.size, 0, none⟩) := (hfar 2 (by decide)).trans rfl
    have e3 : a'.tmps.getD 3 undef = .pointer (some ⟨w.heap.size + 1, 0, none⟩) := (hfar 3 (by decide)).trans rfl
    have dep : ∀ j, j < 9 → Region.waitsFor .any _ i j = true → GL [Eqv (.agg #[.int .i64 p, .int .i64 c, .int .i64 h, .int .i64 s]), Eqv (.agg #[.int .i64 p, .int .i64 c, .int .i64 h, .int .i64 s]), Eqv (.agg #[.slice A1 n1 a1, .slice A2 n2 a2]), CpB xs ys, Eqv (.tuple #[.agg #[.int .i64 r1, .int .i64 r2], .int .i64 r3]), Eqv (.tuple #[.agg #[.int .i64 r1, .int .i64 r2], .int .i64 r3]), Eqv (.agg #[.int .i64 r1, .int .i64 r2]), Eqv (.int .i64 r3), Alc V1.heap.size [.int .i64 0, .int .i64 0]] j (a'.tmps.getD (dsSolvedChance5 j) undef) W := hdep
    have hi8 : i = 0 ∨ i = 1 ∨ i = 2 ∨ i = 3 ∨ i = 4 ∨ i = 5 ∨ i = 6 ∨ i = 8 := by simp at hX; omega
    clear hfar hdep hX hi
    rcases hi8 with rfl | rfl | rfl | rfl | rfl | rfl | rfl | rfl
    all_goals (simp at ho; subst ho)
    · have zz := C0.out.below hW
      have z0 := zz.cell 0 _ rfl
      have z1 := zz.cell 1 _ rfl
      have z2 := zz.cell 2 _ rfl
      have z3 := zz.cell 3 _ rfl
      exact .inl ⟨.agg #[.int .i64 p, .int .i64 c, .int .i64 h, .int .i64 s], W, by simp only [execOp, Act.eval, e2]; go_simp, Bel.rfl' _, trivial, rfl⟩
    · have d1 : a'.tmps.getD 17 undef = .agg #[.int .i64 p, .int .i64 c, .int .i64 h, .int .i64 s] := dep 0 (by omega) (by kernel_rfl)
      refine .inr ⟨13, #[.agg #[.int .i64 p, .int .i64 c, .int .i64 h, .int .i64 s]], by simp only [execOp, Act.eval, d1]; go_simp, ?_⟩
      refine (toVariant_any _ _ _ _ _).mono ?_
      rintro e W' ⟨rfl, hb'⟩
      exact ⟨_, rfl, hb', trivial, rfl⟩
    · have zz := C1.out.below hW
      have z0 := zz.cell 0 _ rfl
      have z1 := zz.cell 1 _ rfl
      exact .inl ⟨.agg #[.slice A1 n1 a1, .slice A2 n2 a2], W, by simp only [execOp, Act.eval, e3]; go_simp, Bel.rfl' _, trivial, rfl⟩
    · have d1 : a'.tmps.getD 19 undef = .agg #[.slice A1 n1 a1, .slice A2 n2 a2] := dep 2 (by omega) (by kernel_rfl)
      refine .inr ⟨14, #[.agg #[.slice A1 n1 a1, .slice A2 n2 a2]], by simp only [execOp, Act.eval, d1]; go_simp, ?_⟩
      refine (toBoard_any _ _ _ _ _ _ _ _ _ (Sxs.out.below hW) (Sys.out.below hW) hn1' hn2').mono ?_
      rintro e W' ⟨X1, k1, X2, k2, rfl, ho1, ho2, _, hb'⟩
      exact ⟨_, rfl, hb', trivial, X1, k1, X2, k2, rfl, (ho1.sl rfl).1, (ho1.sl rfl).2, (ho2.sl rfl).1, (ho2.sl rfl).2⟩
    · have d18 : a'.tmps.getD 18 undef = .agg #[.int .i64 p, .int .i64 c, .int .i64 h, .int .i64 s] := dep 1 (by omega) (by kernel_rfl)
      obtain ⟨X1, k1, X2, k2, d20, s1, l1, s2, l2⟩ : CpB xs ys (a'.tmps.getD 20 undef) W := dep 3 (by omega) (by kernel_rfl)
      refine .inr ⟨12, #[.agg #[.int .i64 p, .int .i64 c, .int .i64 h, .int .i64 s], .agg #[.slice X1 xs.length k1, .slice X2 ys.length k2]], by simp only [execOp, Act.eval, d18, d20]; go_simp, ?_⟩
      refine (CS.out W X1 X2 k1 k2 s1 s2 l1 l2).mono ?_
      rintro e W' ⟨rfl, hb'⟩
      exact ⟨_, rfl, hb', trivial, rfl⟩
    · have d1 : a'.tmps.getD 21 undef = .tuple #[.agg #[.int .i64 r1, .int .i64 r2], .int .i64 r3] := dep 4 (by omega) (by kernel_rfl)
      exact .inl ⟨.tuple #[.agg #[.int .i64 r1, .int .i64 r2], .int .i64 r3], W, by simp only [execOp, Act.eval, d1]; go_simp, Bel.rfl' _, trivial, rfl⟩
    · have d1 : a'.tmps.getD 16 undef = .tuple #[.agg #[.int .i64 r1, .int .i64 r2], .int .i64 r3] := dep 5 (by omega) (by kernel_rfl)
      exact .inl ⟨.agg #[.int .i64 r1, .int .i64 r2], W, by simp only [execOp, Act.eval, d1]; go_simp, Bel.rfl' _, trivial, rfl⟩
    · exact .inl ⟨.pointer (some ⟨W.heap.size, 0, none⟩), W.alloc (.cells #[.int .i64 0, .int .i64 0] 30), by kernel_rfl, Bel.alloc _ _, trivial, alc_new _ _ _ (Below.size hW)⟩
  intro v V2 hW hIW hg
  have g0 : v 0 = .agg #[.int .i64 p, .int .i64 c, .int .i64 h, .int .i64 s] := hg 0 (by omega)
  have g1 : v 1 = .agg #[.int .i64 p, .int .i64 c, .int .i64 h, .int .i64 s] := hg 1 (by omega)
  have g2 : v 2 = .agg #[.slice A1 n1 a1, .slice A2 n2 a2] := hg 2 (by omega)
  obtain ⟨_, _, _, _, g3, _, _, _, _⟩ : CpB xs ys (v 3) V2 := hg 3 (by omega)
  have g4 : v 4 = .tuple #[.agg #[.int .i64 r1, .int .i64 r2], .int .i64 r3] := hg 4 (by omega)
  have g5 : v 5 = .tuple #[.agg #[.int .i64 r1, .int .i64 r2], .int .i64 r3] := hg 5 (by omega)
  have g6 : v 6 = .agg #[.int .i64 r1, .int .i64 r2] := hg 6 (by omega)
  have g7 : v 7 = .int .i64 r3 := hg 7 (by omega)
  obtain ⟨gs0, g8, glgs0, Ags0⟩ : Alc V1.heap.size [.int .i64 0, .int .i64 0] (v 8) V2 := hg 8 (by omega)
  simp only [List.drop_succ_cons, List.drop_zero, putV, dsSolvedChance5, g0, g1, g2, g3, g4, g5, g6, g7, g8, Act.put]
  clear g0 g1 g2 g3 g4 g5 g6 g7 g8 hg hIW
  replace hW := Lib.hid hW
  have ygs0_0 := Ags0.cell 0 _ rfl
  have xgs0_0 := Ags0.froz 0 _ rfl
  have ygs0_1 := Ags0.cell 1 _ rfl
  have xgs0_1 := Ags0.froz 1 _ rfl
  have ylgs0 := Ags0.lt
  replace Ags0 := Lib.hid Ags0
  have qC1 := C1.out.below hW.out
  have cC1_0 := qC1.cell 0 _ rfl
  have cC1_1 := qC1.cell 1 _ rfl
  have zC1 := qC1.lt
  have nC1gs0 : w.heap.size + 1 < gs0 := by have := C1.out.lt; omega
  go_wp2_with (fail)
  obtain ⟨V3, hV⟩ : ∃ V, V = ((V2.setCell ⟨gs0, 0, none⟩ (.int .i64 r1)).setCell ⟨gs0, 1, none⟩ (.int .i64 r2)) := ⟨_, rfl⟩
  rw [← hV]
  have hb : Below V1.heap.size V1 V3 := by rw [hV]; exact (Below.setCell (p := ⟨gs0, 1, none⟩) (Below.setCell (p := ⟨gs0, 0, none⟩) hW.out glgs0 _) glgs0 _)
  have Ggs0 : Hid (Cel V3 gs0 [.int .i64 r1, .int .i64 r2]) := by rw [hV]; exact ((Ags0.out.st (by simp)).st (by simp))
  clear cC1_0 cC1_1 zC1 qC1 nC1gs0
  clear hV hW Ags0 ylgs0 ygs0_0 xgs0_0 ygs0_1 xgs0_1
  replace C0 := Lib.hid (C0.out.below hb)
  replace C1 := Lib.hid (C1.out.below hb)
  replace Sxs := Lib.hid (Sxs.out.below hb)
  replace Sys := Lib.hid (Sys.out.below hb)
  replace HB := Lib.hid (Bel.trans HB.out hb)
  clear hb
  refine (toBoard_any _ _ _ _ _ _ _ _ _ Sxs.out Sys.out hn1' hn2').mono ?_
  rintro e V4 ⟨Y1, y1, Y2, y2, rfl, ho1, ho2, _, hb⟩
  have T1 := Lib.hid (ho1.sl rfl).1
  have T1k := Lib.hid (ho1.sl rfl).2
  have T2 := Lib.hid (ho2.sl rfl).1
  have T2k := Lib.hid (ho2.sl rfl).2
  clear ho1 ho2
  replace C0 := Lib.hid (C0.out.below hb)
  replace C1 := Lib.hid (C1.out.below hb)
  replace Ggs0 := Lib.hid (Ggs0.out.below hb)
  replace Sxs := Lib.hid (Sxs.out.below hb)
  replace Sys := Lib.hid (Sys.out.below hb)
  replace HB := Lib.hid (Bel.trans HB.out hb)
  clear hb
  go_wp2_with (fail)
  obtain ⟨V5, hV⟩ : ∃ V, V = V4.alloc (.cells #[.slice Y1 xs.length y1, .slice Y2 ys.length y2] 40) := ⟨_, rfl⟩
  rw [← hV]
  have hb : Below V4.heap.size V4 V5 := by rw [hV]; exact Bel.alloc _ _
  have CX : Hid (Cel V5 V4.heap.size [.slice Y1 xs.length y1, .slice Y2 ys.length y2]) := by rw [hV]; exact Cel.new' _ _ _ rfl
  clear hV
  replace C0 := Lib.hid (C0.out.below hb)
  replace C1 := Lib.hid (C1.out.below hb)
  replace Ggs0 := Lib.hid (Ggs0.out.below hb)
  replace Sxs := Lib.hid (Sxs.out.below hb)
  replace Sys := Lib.hid (Sys.out.below hb)
  replace T1 := Lib.hid (T1.out.below hb)
  replace T2 := Lib.hid (T2.out.below hb)
  replace HB := Lib.hid (Bel.trans HB.out hb)
  clear hb
  have nr3 : (r3 != r3) = false := by simp
  refine wp_region_early 8 (fun i => i == 6) dsSolvedChance7 Bel (fun _ => True) (GL [Eqv (.agg #[.int .i64 p, .int .i64 c, .int .i64 h, .int .i64 s]), Eqv (.agg #[.int .i64 p, .int .i64 c, .int .i64 h, .int .i64 s]), Eqv (.agg #[.slice Y1 xs.length y1, .slice Y2 ys.length y2]), Eqv (.tuple #[.agg #[.int .i64 r1, .int .i64 r2], .int .i64 r3]), Eqv (.tuple #[.agg #[.int .i64 r1, .int .i64 r2], .int .i64 r3]), Eqv (.agg #[.int .i64 r1, .int .i64 r2]), Eqv (.int .i64 r3), Alc V5.heap.size [.int .i64 0, .int .i64 0]]) (by kernel_rfl) (by kernel_rfl) (fun _ _ _ _ _ h => h) (fun _ _ _ h1 h2 => Bel.trans h1 h2) Bel.rfl' (GL.stab (by repeat (first | exact AllStb.nil | refine AllStb.cons (by first | exact stb_eq _ | exact stb_cpy _ | exact stb_alc _ _) ?_))) (Bel.drew _) trivial ?_ ?_ ?_
  · intro i o hi hX ho a' W hW hIW hfar hdep
    have e2 : a'.tmps.getD 2 undef = .pointer (some ⟨w.heap.size, 0, none⟩) := (hfar 2 (by decide)).trans rfl
    have e8 : a'.tmps.getD 8 undef = .pointer (some ⟨V4.heap.size, 0, none⟩) := (hfar 8 (by decide)).trans rfl
    have dep : ∀ j, j < 8 → Region.waitsFor .any _ i j = true → GL [Eqv (.agg #[.int .i64 p, .int .i64 c, .int .i64 h, .int .i64 s]), Eqv (.agg #[.int .i64 p, .int .i64 c, .int .i64 h, .int .i64 s]), Eqv (.agg #[.slice Y1 xs.length y1, .slice Y2 ys.length y2]), Eqv (.tuple #[.agg #[.int .i64 r1, .int .i64 r2], .int .i64 r3]), Eqv (.tuple #[.agg #[.int .i64 r1, .int .i64 r2], .int .i64 r3]), Eqv (.agg #[.int .i64 r1, .int .i64 r2]), Eqv (.int .i64 r3), Alc V5.heap.size [.int .i64 0, .int .i64 0]] j (a'.tmps.getD (dsSolvedChance7 j) undef) W := hdep
    have hi8 : i = 6 := by simpa using hX
    clear hfar hdep hX hi
    subst hi8
    simp at ho
    subst ho
    · have d1 : a'.tmps.getD 26 undef = .tuple #[.agg #[.int .i64 r1, .int .i64 r2], .int .i64 r3] := dep 4 (by omega) (by kernel_rfl)
      exact ⟨.int .i64 r3, fun W' => by simp only [execOp, Act.eval, d1]; go_simp, rfl⟩
  · intro i o hi hX ho a' W hW hIW hfar hdep
    have e2 : a'.tmps.getD 2 undef = .pointer (some ⟨w.heap.size, 0, none⟩) := (hfar 2 (by decide)).trans rfl
    have e8 : a'.tmps.getD 8 undef = .pointer (some ⟨V4.heap.size, 0, none⟩) := (hfar 8 (by decide)).trans rfl
    have dep : ∀ j, j < 8 → Region.waitsFor .any _ i j = true → GL [Eqv (.agg #[.int .i64 p, .int .i64 c, .int .i64 h, .int .i64 s]), Eqv (.agg #[.int .i64 p, .int .i64 c, .int .i64 h, .int .i64 s]), Eqv (.agg #[.slice Y1 xs.length y1, .slice Y2 ys.length y2]), Eqv (.tuple #[.agg #[.int .i64 r1, .int .i64 r2], .int .i64 r3]), Eqv (.tuple #[.agg #[.int .i64 r1, .int .i64 r2], .int .i64 r3]), Eqv (.agg #[.int .i64 r1, .int .i64 r2]), Eqv (.int .i64 r3), Alc V5.heap.size [.int .i64 0, .int .i64 0]] j (a'.tmps.getD (dsSolvedChance7 j) undef) W := hdep
    have hi8 : i = 0 ∨ i = 1 ∨ i = 2 ∨ i = 3 ∨ i = 4 ∨ i = 5 ∨ i = 7 := by simp at hX; omega
    clear hfar hdep hX hi
    rcases hi8 with rfl | rfl | rfl | rfl | rfl | rfl | rfl
    all_goals (simp at ho; subst ho)
    · have zz := C0.out.below hW
      have z0 := zz.cell 0 _ rfl
      have z1 := zz.cell 1 _ rfl
      have z2 := zz.cell 2 _ rfl
      have z3 := zz.cell 3 _ rfl
      exact .inl ⟨.agg #[.int .i64 p, .int .i64 c, .int .i64 h, .int .i64 s], W, by simp only [execOp, Act.eval, e2]; go_simp, Bel.rfl' _, trivial, rfl⟩
    · have d1 : a'.tmps.getD 27 undef = .agg #[.int .i64 p, .int .i64 c, .int .i64 h, .int .i64 s] := dep 0 (by omega) (by kernel_rfl)
      refine .inr ⟨13, #[.agg #[.int .i64 p, .int .i64 c, .int .i64 h, .int .i64 s]], by simp only [execOp, Act.eval, d1]; go_simp, ?_⟩
      refine (toVariant_any _ _ _ _ _).mono ?_
      rintro e W' ⟨rfl, hb'⟩
      exact ⟨_, rfl, hb', trivial, rfl⟩
    · have zz := CX.out.below hW
      have z0 := zz.cell 0 _ rfl
      have z1 := zz.cell 1 _ rfl
      exact .inl ⟨.agg #[.slice Y1 xs.length y1, .slice Y2 ys.length y2], W, by simp only [execOp, Act.eval, e8]; go_simp, Bel.rfl' _, trivial, rfl⟩
    · have d28 : a'.tmps.getD 28 undef = .agg #[.int .i64 p, .int .i64 c, .int .i64 h, .int .i64 s] := dep 1 (by omega) (by kernel_rfl)
      have d29 : a'.tmps.getD 29 undef = .agg #[.slice Y1 xs.length y1, .slice Y2 ys.length y2] := dep 2 (by omega) (by kernel_rfl)
      refine .inr ⟨15, #[.agg #[.int .i64 p, .int .i64 c, .int .i64 h, .int .i64 s], .agg #[.slice Y1 xs.length y1, .slice Y2 ys.length y2]], by simp only [execOp, Act.eval, d28, d29]; go_simp, ?_⟩
      refine (CI.out W _ _ _ _ (T1.out.below hW) (T2.out.below hW) T1k.out T2k.out).mono ?_
      rintro e W' ⟨rfl, hb'⟩
      exact ⟨_, rfl, hb', trivial, rfl⟩
    · have d1 : a'.tmps.getD 30 undef = .tuple #[.agg #[.int .i64 r1, .int .i64 r2], .int .i64 r3] := dep 3 (by omega) (by kernel_rfl)
      exact .inl ⟨.tuple #[.agg #[.int .i64 r1, .int .i64 r2], .int .i64 r3], W, by simp only [execOp, Act.eval, d1]; go_simp, Bel.rfl' _, trivial, rfl⟩
    · have d1 : a'.tmps.getD 26 undef = .tuple #[.agg #[.int .i64 r1, .int .i64 r2], .int .i64 r3] := dep 4 (by omega) (by kernel_rfl)
      exact .inl ⟨.agg #[.int .i64 r1, .int .i64 r2], W, by simp only [execOp, Act.eval, d1]; go_simp, Bel.rfl' _, trivial, rfl⟩
    · exact .inl ⟨.pointer (some ⟨W.heap.size, 0, none⟩), W.alloc (.cells #[.int .i64 0, .int .i64 0] 30), by kernel_rfl, Bel.alloc _ _, trivial, alc_new _ _ _ (Below.size hW)⟩
  intro v V6 hW hIW hg
  have g0 : v 0 = .agg #[.int .i64 p, .int .i64 c, .int .i64 h, .int .i64 s] := hg 0 (by omega)
  have g1 : v 1 = .agg #[.int .i64 p, .int .i64 c, .int .i64 h, .int .i64 s] := hg 1 (by omega)
  have g2 : v 2 = .agg #[.slice Y1 xs.length y1, .slice Y2 ys.length y2] := hg 2 (by omega)
  have g3 : v 3 = .tuple #[.agg #[.int .i64 r1, .int .i64 r2], .int .i64 r3] := hg 3 (by omega)
  have g4 : v 4 = .tuple #[.agg #[.int .i64 r1, .int .i64 r2], .int .i64 r3] := hg 4 (by omega)
  have g5 : v 5 = .agg #[.int .i64 r1, .int .i64 r2] := hg 5 (by omega)
  have g6 : v 6 = .int .i64 r3 := hg 6 (by omega)
  obtain ⟨gi0, g7, glgi0, Agi0⟩ : Alc V5.heap.size [.int .i64 0, .int .i64 0] (v 7) V6 := hg 7 (by omega)
  simp only [List.drop_succ_cons, List.drop_zero, putV, dsSolvedChance7, g0, g1, g2, g3, g4, g5, g6, g7, Act.put]
  clear g0 g1 g2 g3 g4 g5 g6 g7 hg hIW
  replace hW := Lib.hid hW
  have ygi0_0 := Agi0.cell 0 _ rfl
  have xgi0_0 := Agi0.froz 0 _ rfl
  have ygi0_1 := Agi0.cell 1 _ rfl
  have xgi0_1 := Agi0.froz 1 _ rfl
  have ylgi0 := Agi0.lt
  replace Agi0 := Lib.hid Agi0
  have qGgs0 := Ggs0.out.below hW.out
  have cGgs0_0 := qGgs0.cell 0 _ rfl
  have cGgs0_1 := qGgs0.cell 1 _ rfl
  have zGgs0 := qGgs0.lt
  have nGgs0gi0 : gs0 < gi0 := by have := Ggs0.out.lt; omega
  go_wp2_with (fail)
  obtain ⟨V7, hV⟩ : ∃ V, V = ((V6.setCell ⟨gi0, 0, none⟩ (.int .i64 r1)).setCell ⟨gi0, 1, none⟩ (.int .i64 r2)) := ⟨_, rfl⟩
  rw [← hV]
  have hb : Below V5.heap.size V5 V7 := by rw [hV]; exact (Below.setCell (p := ⟨gi0, 1, none⟩) (Below.setCell (p := ⟨gi0, 0, none⟩) hW.out glgi0 _) glgi0 _)
  have Ggi0 : Hid (Cel V7 gi0 [.int .i64 r1, .int .i64 r2]) := by rw [hV]; exact ((Agi0.out.st (by simp)).st (by simp))
  clear cGgs0_0 cGgs0_1 zGgs0 qGgs0 nGgs0gi0
  clear hV hW Agi0 ylgi0 ygi0_0 xgi0_0 ygi0_1 xgi0_1
  replace C0 := Lib.hid (C0.out.below hb)
  replace C1 := Lib.hid (C1.out.below hb)
  replace Ggs0 := Lib.hid (Ggs0.out.below hb)
  replace CX := Lib.hid (CX.out.below hb)
  replace Sxs := Lib.hid (Sxs.out.below hb)
  replace Sys := Lib.hid (Sys.out.below hb)
  replace T1 := Lib.hid (T1.out.below hb)
  replace T2 := Lib.hid (T2.out.below hb)
  replace HB := Lib.hid (Bel.trans HB.out hb)
  clear hb
  refine (eqExact_yes _ _ _).mono ?_
  rintro e V8 ⟨rfl, hb⟩
  replace C0 := Lib.hid (C0.out.below hb)
  replace C1 := Lib.hid (C1.out.below hb)
  replace Ggs0 := Lib.hid (Ggs0.out.below hb)
  replace CX := Lib.hid (CX.out.below hb)
  replace Ggi0 := Lib.hid (Ggi0.out.below hb)
  replace Sxs := Lib.hid (Sxs.out.below hb)
  replace Sys := Lib.hid (Sys.out.below hb)
  replace T1 := Lib.hid (T1.out.below hb)
  replace T2 := Lib.hid (T2.out.below hb)
  replace HB := Lib.hid (Bel.trans HB.out hb)
  clear hb
  have cGgs0_0 := Ggs0.out.cell 0 _ rfl
  have cGgs0_1 := Ggs0.out.cell 1 _ rfl
  have zGgs0 := Ggs0.out.lt
  have cGgi0_0 := Ggi0.out.cell 0 _ rfl
  have cGgi0_1 := Ggi0.out.cell 1 _ rfl
  have zGgi0 := Ggi0.out.lt
  go_wp2_with (fail)
  refine wp_region_early 4 (fun _ => false) dsSolvedChance10 Bel (fun _ => True) (GL [Eqv (.agg #[.slice Y1 xs.length y1, .slice Y2 ys.length y2]), Eqv (.agg #[.slice A1 n1 a1, .slice A2 n2 a2]), CpB xs ys, Eqv (.bool true)]) (by kernel_rfl) (by kernel_rfl) (fun _ _ _ _ _ h => h) (fun _ _ _ h1 h2 => Bel.trans h1 h2) Bel.rfl' (GL.stab (by repeat (first | exact AllStb.nil | refine AllStb.cons (by first | exact stb_eq _ | exact stb_cpb _ _) ?_))) (Bel.drew _) trivial ?_ ?_ ?_
  · intro i o hi hX ho a' W hW hIW hfar hdep
    exact absurd hX (by simp)
  · intro i o hi hX ho a' W hW hIW hfar hdep
    have e1 : a'.tmps.getD 8 undef = .pointer (some ⟨V4.heap.size, 0, none⟩) := (hfar 8 (by decide)).trans rfl
    have e2 : a'.tmps.getD 3 undef = .pointer (some ⟨w.heap.size + 1, 0, none⟩) := (hfar 3 (by decide)).trans rfl
    have dep : ∀ j, j < 4 → Region.waitsFor .any _ i j = true → GL [Eqv (.agg #[.slice Y1 xs.length y1, .slice Y2 ys.length y2]), Eqv (.agg #[.slice A1 n1 a1, .slice A2 n2 a2]), CpB xs ys, Eqv (.bool true)] j (a'.tmps.getD (dsSolvedChance10 j) undef) W := hdep
    have hi8 : i = 0 ∨ i = 1 ∨ i = 2 ∨ i = 3 := by omega
    clear hfar hdep hX hi
    rcases hi8 with rfl | rfl | rfl | rfl
    all_goals (simp at ho; subst ho)
    · have zz := CX.out.below hW
      have z0 := zz.cell 0 _ rfl
      have z1 := zz.cell 1 _ rfl
      exact .inl ⟨.agg #[.slice Y1 xs.length y1, .slice Y2 ys.length y2], W, by simp only [execOp, Act.eval, e1]; go_simp, Bel.rfl' _, trivial, rfl⟩
    · have zz := C1.out.below hW
      have z0 := zz.cell 0 _ rfl
      have z1 := zz.cell 1 _ rfl
      exact .inl ⟨.agg #[.slice A1 n1 a1, .slice A2 n2 a2], W, by simp only [execOp, Act.eval, e2]; go_simp, Bel.rfl' _, trivial, rfl⟩
    · have d1 : a'.tmps.getD 43 undef = .agg #[.slice A1 n1 a1, .slice A2 n2 a2] := dep 1 (by omega) (by kernel_rfl)
      refine .inr ⟨14, #[.agg #[.slice A1 n1 a1, .slice A2 n2 a2]], by simp only [execOp, Act.eval, d1]; go_simp, ?_⟩
      refine (toBoard_any _ _ _ _ _ _ _ _ _ (Sxs.out.below hW) (Sys.out.below hW) hn1' hn2').mono ?_
      rintro e W' ⟨X1, k1, X2, k2, rfl, ho1, ho2, _, hb'⟩
      exact ⟨_, rfl, hb', trivial, X1, k1, X2, k2, rfl, (ho1.sl rfl).1, (ho1.sl rfl).2, (ho2.sl rfl).1, (ho2.sl rfl).2⟩
    · have d1 : a'.tmps.getD 42 undef = .agg #[.slice Y1 xs.length y1, .slice Y2 ys.length y2] := dep 0 (by omega) (by kernel_rfl)
      obtain ⟨X1, k1, X2, k2, d2, s1, l1, s2, l2⟩ : CpB xs ys (a'.tmps.getD 44 undef) W := dep 2 (by omega) (by kernel_rfl)
      refine .inr ⟨17, #[.agg #[.slice Y1 xs.length y1, .slice Y2 ys.length y2], .agg #[.slice X1 xs.length k1, .slice X2 ys.length k2]], by simp only [execOp, Act.eval, d1, d2]; go_simp, ?_⟩
      refine (eqBoard_yes _ _ _ _ _ _ _ _ _ _ _ _ _ (T1.out.below hW) (T2.out.below hW) s1 s2 ox oy).mono ?_
      rintro e W' ⟨rfl, hb'⟩
      exact ⟨_, rfl, hb', trivial, rfl⟩
  intro v W hW hIW hg
  have g0 : v 0 = .agg #[.slice Y1 xs.length y1, .slice Y2 ys.length y2] := hg 0 (by omega)
  have g1 : v 1 = .agg #[.slice A1 n1 a1, .slice A2 n2 a2] := hg 1 (by omega)
  obtain ⟨_, _, _, _, g2, _, _, _, _⟩ : CpB xs ys (v 2) W := hg 2 (by omega)
  have g3 : v 3 = .bool true := hg 3 (by omega)
  simp only [List.drop_succ_cons, List.drop_zero, putV, dsSolvedChance10, g0, g1, g2, g3, Act.put]
  clear g0 g1 g2 g3 hg hIW
  have HB2 : Hid (Below w.heap.size w W) := Bel.trans HB.out hW
  clear hW
  go_wp2_with (fail)
  go_ret
  exact ⟨rfl, HB2.out⟩
end Go.Proofs.YtchaenamdpikpaaGreat

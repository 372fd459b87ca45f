/- The statement FnExactRaceLoss, the law's walk. There are no conditions. -/
import Derived.Test.YtlbkfhdnhalpbaaGreatN74
import Derived.Test.YtlbkfhdnhalpbaaGreatZv
import Derived.Test.YtlbkfhdnhalpbaaGreatZl
namespace Go.Proofs.YtlbkfhdnhalpbaaGreat
set_option linter.unusedVariables false
set_option linter.unusedSimpArgs false
open Go.RowKit Ps Ra Ex

def dsRaceLoss7 : Nat → Nat
  | 0 => 28
  | 1 => 29
  | 2 => 30
  | 3 => 31
  | 4 => 32
  | 5 => 33
  | 6 => 34
  | 7 => 35
  | 8 => 36
  | 9 => 37
  | 10 => 38
  | 11 => 27
  | 12 => 39
  | 13 => 40
  | 14 => 11
  | _ => 0
def dsRaceLoss11 : Nat → Nat
  | 0 => 48
  | 1 => 49
  | 2 => 50
  | 3 => 51
  | 4 => 52
  | 5 => 53
  | 6 => 54
  | 7 => 55
  | 8 => 47
  | 9 => 56
  | 10 => 57
  | 11 => 16
  | _ => 0
set_option maxRecDepth 100000 in
set_option maxHeartbeats 4000000 in
theorem raceLoss_law (p c h s ra rb : Int) (A B D : Option Addr) (n m l ca cb cd : Nat) (own other res : List Int) (w : World) (hown : SL w A n own) (hother : SL w B m other) (hres : SL w D l res) :
    Calls Tryz.prog 10 #[.agg #[.int .i64 p, .int .i64 c, .int .i64 h, .int .i64 s], .slice A n ca, .slice B m cb, .agg #[.int .i64 ra, .int .i64 rb], .slice D l cd] w fun e w' => e = .returned (.bool true) ∧ Below w.heap.size w w' := by
  have hV0 : Bel w ((w.alloc (.cells #[.int .i64 p, .int .i64 c, .int .i64 h, .int .i64 s] 23)).alloc (.cells #[.int .i64 ra, .int .i64 rb] 36)) := (Bel.trans (Bel.alloc _ _) (Bel.alloc _ _))
  have C0 : Cel ((w.alloc (.cells #[.int .i64 p, .int .i64 c, .int .i64 h, .int .i64 s] 23)).alloc (.cells #[.int .i64 ra, .int .i64 rb] 36)) (w.heap.size) [.int .i64 p, .int .i64 c, .int .i64 h, .int .i64 s] := (Cel.new' _ _ _ (by simp)).alloc _
  have C1 : Cel ((w.alloc (.cells #[.int .i64 p, .int .i64 c, .int .i64 h, .int .i64 s] 23)).alloc (.cells #[.int .i64 ra, .int .i64 rb] 36)) (w.heap.size + 1) [.int .i64 ra, .int .i64 rb] := Cel.new' _ _ _ (by simp)
  have Sown := hown.below hV0
  have Lown := Lib.hid hown.1
  clear hown
  have Sother := hother.below hV0
  have Lother := Lib.hid hother.1
  clear hother
  have Sres := hres.below hV0
  have Lres := Lib.hid hres.1
  clear hres
  have HB := Lib.hid hV0
  clear hV0
  replace C0 := Lib.hid C0
  replace C1 := Lib.hid C1
  replace Sown := Lib.hid Sown
  replace Sother := Lib.hid Sother
  replace Sres := Lib.hid Sres
  by_cases hn : (1048576 : Int) < (n : Int)
  · go_enter Tryz.func10, Tryz.ntmps10
    go_wp2
    go_ret
    exact ⟨rfl, HB.out⟩
  by_cases hm : (1048576 : Int) < (m : Int)
  · go_enter Tryz.func10, Tryz.ntmps10
    go_wp2
    go_ret
    exact ⟨rfl, HB.out⟩
  by_cases hl : (1048576 : Int) < (l : Int)
  · go_enter Tryz.func10, Tryz.ntmps10
    go_wp2
    go_ret
    exact ⟨rfl, HB.out⟩
  have hn' : n ≤ 2000000 := by omega
  have oown : own.length ≤ 2000000 := by rw [Lown.out]; exact hn'
  have hm' : m ≤ 2000000 := by omega
  have oother : other.length ≤ 2000000 := by rw [Lother.out]; exact hm'
  have hl' : l ≤ 2000000 := by omega
  have ores : res.length ≤ 2000000 := by rw [Lres.out]; exact hl'
  obtain ⟨r, hr⟩ : ∃ r, r = lossR p c h s ra rb own other res := ⟨_, rfl⟩
  obtain ⟨r1, r2, r3⟩ := r
  have CS : Hid (∀ (W : World) (X1 X2 X3 : Option Addr) (k1 k2 k3 : Nat), SL W X1 own.length own → SL W X2 other.length other → SL W X3 res.length res → own.length ≤ k1 → other.length ≤ k2 → res.length ≤ k3 → Calls Tryz.prog 56 #[.agg #[.int .i64 p, .int .i64 c, .int .i64 h, .int .i64 s], .slice X1 own.length k1, .slice X2 other.length k2, .agg #[.int .i64 ra, .int .i64 rb], .slice X3 res.length k3] W fun e w' => e = .returned (.tuple #[.agg #[.int .i64 r1, .int .i64 r2], .int .i64 r3]) ∧ Below W.heap.size W w') := fun W X1 X2 X3 k1 k2 k3 s1 s2 s3 l1 l2 l3 => by
    have := sRaceLoss_any p c h s ra rb X1 X2 X3 _ _ _ k1 k2 k3 own other res W s1 s2 s3 l1 l2 l3; rw [← hr] at this; exact this
  have CI : Hid (∀ (W : World) (X1 X2 X3 : Option Addr) (k1 k2 k3 : Nat), SL W X1 own.length own → SL W X2 other.length other → SL W X3 res.length res → own.length ≤ k1 → other.length ≤ k2 → res.length ≤ k3 → Calls Tryz.prog 57 #[.agg #[.int .i64 p, .int .i64 c, .int .i64 h, .int .i64 s], .slice X1 own.length k1, .slice X2 other.length k2, .agg #[.int .i64 ra, .int .i64 rb], .slice X3 res.length k3] W fun e w' => e = .returned (.tuple #[.agg #[.int .i64 r1, .int .i64 r2], .int .i64 r3]) ∧ Below W.heap.size W w') := fun W X1 X2 X3 k1 k2 k3 s1 s2 s3 l1 l2 l3 => by
    have := RaceLoss_any p c h s ra rb X1 X2 X3 _ _ _ k1 k2 k3 own other res W s1 s2 s3 l1 l2 l3; rw [← hr] at this; exact this
  clear hr
  go_enter Tryz.func10, Tryz.ntmps10
  go_wp2_with (fail)
  generalize ((w.alloc (.cells #[.int .i64 p, .int .i64 c, .int .i64 h, .int .i64 s] 23)).alloc (.cells #[.int .i64 ra, .int .i64 rb] 36)) = V at *
  refine wp_region_early 15 (fun i => i == 13) dsRaceLoss7 Bel (fun _ => True) (GL [Eqv (.agg #[.int .i64 p, .int .i64 c, .int .i64 h, .int .i64 s]), Eqv (.agg #[.int .i64 p, .int .i64 c, .int .i64 h, .int .i64 s]), Eqv (.slice A n ca), Cpy own, Eqv (.slice B m cb), Cpy other, Eqv (.agg #[.int .i64 ra, .int .i64 rb]), Eqv (.agg #[.int .i64 ra, .int .i64 rb]), Eqv (.slice D l cd), Cpy res, Eqv (.tuple #[.agg #[.int .i64 r1, .int .i64 r2], .int .i64 r3]), Eqv (.tuple #[.agg #[.int .i64 r1, .int .i64 r2], .int .i64 r3]), Eqv (.agg #[.int .i64 r1, .int .i64 r2]), Eqv (.int .i64 r3), Alc V.heap.size [.int .i64 0, .int .i64 0]]) (by kernel_rfl) (by kernel_rfl) (fun _ _ _ _ _ h => h) (fun _ _ _ h1 h2 => Bel.trans h1 h2) Bel.rfl' (GL.stab (by repeat (first | exact AllStb.nil | refine AllStb.cons (by first | exact stb_eq _ | exact stb_cpy _ | exact stb_alc _ _) ?_))) (Bel.drew _) trivial ?_ ?_ ?_
  · intro i o hi hX ho a' W hW hIW hfar hdep
    have e1 : a'.tmps.getD 1 undef = .slice A n ca := (hfar 1 (by decide)).trans rfl
    have e2 : a'.tmps.getD 2 undef = .slice B m cb := (hfar 2 (by decide)).trans rfl
    have e4 : a'.tmps.getD 4 undef = .slice D l cd := (hfar 4 (by decide)).trans rfl
    have e5 : a'.tmps.getD 5 undef = .pointer (some ⟨w.heap.size, 0, none⟩) := (hfar 5 (by decide)).trans rfl
    have e8 : a'.tmps.getD 8 undef = .pointer (some ⟨w.heap.size + 1, 0, none⟩) := (hfar 8 (by decide)).trans rfl
    have dep : ∀ j, j < 15 → Region.waitsFor .any _ i j = true → GL [Eqv (.agg #[.int .i64 p, .int .i64 c, .int .i64 h, .int .i64 s]), Eqv (.agg #[.int .i64 p, .int .i64 c, .int .i64 h, .int .i64 s]), Eqv (.slice A n ca), Cpy own, Eqv (.slice B m cb), Cpy other, Eqv (.agg #[.int .i64 ra, .int .i64 rb]), Eqv (.agg #[.int .i64 ra, .int .i64 rb]), Eqv (.slice D l cd), Cpy res, Eqv (.tuple #[.agg #[.int .i64 r1, .int .i64 r2], .int .i64 r3]), Eqv (.tuple #[.agg #[.int .i64 r1, .int .i64 r2], .int .i64 r3]), Eqv (.agg #[.int .i64 r1, .int .i64 r2]), Eqv (.int .i64 r3), Alc V.heap.size [.int .i64 0, .int .i64 0]] j (a'.tmps.getD (dsRaceLoss7 j) undef) W := hdep
    have hi8 : i = 13 := by simpa using hX
    clear hfar hdep hX hi
    subst hi8
    simp at ho
    subst ho
    · have d1 : a'.tmps.getD 27 undef = .tuple #[.agg #[.int .i64 r1, .int .i64 r2], .int .i64 r3] := dep 11 (by omega) (by kernel_rfl)
      exact ⟨.int .i64 r3, fun W' => by simp only [execOp, Act.eval, d1]; go_simp, rfl⟩
  · intro i o hi hX ho a' W hW hIW hfar hdep
    have e1 : a'.tmps.getD 1 undef = .slice A n ca := (hfar 1 (by decide)).trans rfl
    have e2 : a'.tmps.getD 2 undef = .slice B m cb := (hfar 2 (by decide)).trans rfl
    have e4 : a'.tmps.getD 4 undef = .slice D l cd := (hfar 4 (by decide)).trans rfl
    have e5 : a'.tmps.getD 5 undef = .pointer (some ⟨w.heap.size, 0, none⟩) := (hfar 5 (by decide)).trans rfl
    have e8 : a'.tmps.getD 8 undef = .pointer (some ⟨w.heap.size + 1, 0, none⟩) := (hfar 8 (by decide)).trans rfl
    have dep : ∀ j, j < 15 → Region.waitsFor .any _ i j = true → GL [Eqv (.agg #[.int .i64 p, .int .i64 c, .int .i64 h, .int .i64 s]), Eqv (.agg #[.int .i64 p, .int .i64 c, .int .i64 h, .int .i64 s]), Eqv (.slice A n ca), Cpy own, Eqv (.slice B m cb), Cpy other, Eqv (.agg #[.int .i64 ra, .int .i64 rb]), Eqv (.agg #[.int .i64 ra, .int .i64 rb]), Eqv (.slice D l cd), Cpy res, Eqv (.tuple #[.agg #[.int .i64 r1, .int .i64 r2], .int .i64 r3]), Eqv (.tuple #[.agg #[.int .i64 r1, .int .i64 r2], .int .i64 r3]), Eqv (.agg #[.int .i64 r1, .int .i64 r2]), Eqv (.int .i64 r3), Alc V.heap.size [.int .i64 0, .int .i64 0]] j (a'.tmps.getD (dsRaceLoss7 j) undef) W := hdep
    have hi8 : i = 0 ∨ i = 1 ∨ i = 2 ∨ i = 3 ∨ i = 4 ∨ i = 5 ∨ i = 6 ∨ i = 7 ∨ i = 8 ∨ i = 9 ∨ i = 10 ∨ i = 11 ∨ i = 12 ∨ i = 14 := by simp at hX; omega
    clear hfar hdep hX hi
    rcases hi8 with rfl | rfl | rfl | rfl | rfl | rfl | rfl | rfl | rfl | rfl | rfl | rfl | rfl | rfl
    all_goals (simp at ho; subst ho)
    · have zz := C0.out.below hW
      have z0 := zz.cell 0 _ rfl
      have z1 := zz.cell 1 _ rfl
      have z2 := zz.cell 2 _ rfl
      have z3 := zz.cell 3 _ rfl
      exact .inl ⟨.agg #[.int .i64 p, .int .i64 c, .int .i64 h, .int .i64 s], W, by simp only [execOp, Act.eval, e5]; go_simp, Bel.rfl' _, trivial, rfl⟩
    · have d1 : a'.tmps.getD 28 undef = .agg #[.int .i64 p, .int .i64 c, .int .i64 h, .int .i64 s] := dep 0 (by omega) (by kernel_rfl)
      refine .inr ⟨12, #[.agg #[.int .i64 p, .int .i64 c, .int .i64 h, .int .i64 s]], by simp only [execOp, Act.eval, d1]; go_simp, ?_⟩
      refine (toVariant_any _ _ _ _ _).mono ?_
      rintro e W' ⟨rfl, hb'⟩
      exact ⟨_, rfl, hb', trivial, rfl⟩
    · exact .inl ⟨.slice A n ca, W, by simp only [execOp, Act.eval, e1]; go_simp, Bel.rfl' _, trivial, rfl⟩
    · have d1 : a'.tmps.getD 30 undef = .slice A n ca := dep 2 (by omega) (by kernel_rfl)
      refine .inr ⟨13, #[.slice A n ca], by simp only [execOp, Act.eval, d1]; go_simp, ?_⟩
      refine (toInt64S_any _ _ _ _ _ (Sown.out.below hW) hn').mono ?_
      rintro e W' ⟨X1, k1, rfl, ho1, hb'⟩
      exact ⟨_, rfl, hb', trivial, X1, k1, rfl, (ho1.sl rfl).1, (ho1.sl rfl).2⟩
    · exact .inl ⟨.slice B m cb, W, by simp only [execOp, Act.eval, e2]; go_simp, Bel.rfl' _, trivial, rfl⟩
    · have d1 : a'.tmps.getD 32 undef = .slice B m cb := dep 4 (by omega) (by kernel_rfl)
      refine .inr ⟨13, #[.slice B m cb], by simp only [execOp, Act.eval, d1]; go_simp, ?_⟩
      refine (toInt64S_any _ _ _ _ _ (Sother.out.below hW) hm').mono ?_
      rintro e W' ⟨X1, k1, rfl, ho1, hb'⟩
      exact ⟨_, rfl, hb', trivial, X1, k1, rfl, (ho1.sl rfl).1, (ho1.sl rfl).2⟩
    · have zz := C1.out.below hW
      have z0 := zz.cell 0 _ rfl
      have z1 := zz.cell 1 _ rfl
      exact .inl ⟨.agg #[.int .i64 ra, .int .i64 rb], W, by simp only [execOp, Act.eval, e8]; go_simp, Bel.rfl' _, trivial, rfl⟩
    · have d1 : a'.tmps.getD 34 undef = .agg #[.int .i64 ra, .int .i64 rb] := dep 6 (by omega) (by kernel_rfl)
      refine .inr ⟨18, #[.agg #[.int .i64 ra, .int .i64 rb]], by simp only [execOp, Act.eval, d1]; go_simp, ?_⟩
      refine (toRoll_any _ _ _).mono ?_
      rintro e W' ⟨rfl, hb'⟩
      exact ⟨_, rfl, hb', trivial, rfl⟩
    · exact .inl ⟨.slice D l cd, W, by simp only [execOp, Act.eval, e4]; go_simp, Bel.rfl' _, trivial, rfl⟩
    · have d1 : a'.tmps.getD 36 undef = .slice D l cd := dep 8 (by omega) (by kernel_rfl)
      refine .inr ⟨13, #[.slice D l cd], by simp only [execOp, Act.eval, d1]; go_simp, ?_⟩
      refine (toInt64S_any _ _ _ _ _ (Sres.out.below hW) hl').mono ?_
      rintro e W' ⟨X1, k1, rfl, ho1, hb'⟩
      exact ⟨_, rfl, hb', trivial, X1, k1, rfl, (ho1.sl rfl).1, (ho1.sl rfl).2⟩
    · have d29 : a'.tmps.getD 29 undef = .agg #[.int .i64 p, .int .i64 c, .int .i64 h, .int .i64 s] := dep 1 (by omega) (by kernel_rfl)
      obtain ⟨X1, k1, d31, s1, l1⟩ : Cpy own (a'.tmps.getD 31 undef) W := dep 3 (by omega) (by kernel_rfl)
      obtain ⟨X2, k2, d33, s2, l2⟩ : Cpy other (a'.tmps.getD 33 undef) W := dep 5 (by omega) (by kernel_rfl)
      have d35 : a'.tmps.getD 35 undef = .agg #[.int .i64 ra, .int .i64 rb] := dep 7 (by omega) (by kernel_rfl)
      obtain ⟨X3, k3, d37, s3, l3⟩ : Cpy res (a'.tmps.getD 37 undef) W := dep 9 (by omega) (by kernel_rfl)
      refine .inr ⟨56, #[.agg #[.int .i64 p, .int .i64 c, .int .i64 h, .int .i64 s], .slice X1 own.length k1, .slice X2 other.length k2, .agg #[.int .i64 ra, .int .i64 rb], .slice X3 res.length k3], by simp only [execOp, Act.eval, d29, d31, d33, d35, d37]; go_simp, ?_⟩
      refine (CS.out W X1 X2 X3 k1 k2 k3 s1 s2 s3 l1 l2 l3).mono ?_
      rintro e W' ⟨rfl, hb'⟩
      exact ⟨_, rfl, hb', trivial, rfl⟩
    · have d1 : a'.tmps.getD 38 undef = .tuple #[.agg #[.int .i64 r1, .int .i64 r2], .int .i64 r3] := dep 10 (by omega) (by kernel_rfl)
      exact .inl ⟨.tuple #[.agg #[.int .i64 r1, .int .i64 r2], .int .i64 r3], W, by simp only [execOp, Act.eval, d1]; go_simp, Bel.rfl' _, trivial, rfl⟩
    · have d1 : a'.tmps.getD 27 undef = .tuple #[.agg #[.int .i64 r1, .int .i64 r2], .int .i64 r3] := dep 11 (by omega) (by kernel_rfl)
      exact .inl ⟨.agg #[.int .i64 r1, .int .i64 r2], W, by simp only [execOp, Act.eval, d1]; go_simp, Bel.rfl' _, trivial, rfl⟩
    · exact .inl ⟨.pointer (some ⟨W.heap.size, 0, none⟩), W.alloc (.cells #[.int .i64 0, .int .i64 0] 26), by kernel_rfl, Bel.alloc _ _, trivial, alc_new _ _ _ (Below.size hW)⟩
  intro v V1 hW hIW hg
  have g0 : v 0 = .agg #[.int .i64 p, .int .i64 c, .int .i64 h, .int .i64 s] := hg 0 (by omega)
  have g1 : v 1 = .agg #[.int .i64 p, .int .i64 c, .int .i64 h, .int .i64 s] := hg 1 (by omega)
  have g2 : v 2 = .slice A n ca := hg 2 (by omega)
  obtain ⟨_, _, g3, _, _⟩ : Cpy own (v 3) V1 := hg 3 (by omega)
  have g4 : v 4 = .slice B m cb := hg 4 (by omega)
  obtain ⟨_, _, g5, _, _⟩ : Cpy other (v 5) V1 := hg 5 (by omega)
  have g6 : v 6 = .agg #[.int .i64 ra, .int .i64 rb] := hg 6 (by omega)
  have g7 : v 7 = .agg #[.int .i64 ra, .int .i64 rb] := hg 7 (by omega)
  have g8 : v 8 = .slice D l cd := hg 8 (by omega)
  obtain ⟨_, _, g9, _, _⟩ : Cpy res (v 9) V1 := hg 9 (by omega)
  have g10 : v 10 = .tuple #[.agg #[.int .i64 r1, .int .i64 r2], .int .i64 r3] := hg 10 (by omega)
  have g11 : v 11 = .tuple #[.agg #[.int .i64 r1, .int .i64 r2], .int .i64 r3] := hg 11 (by omega)
  have g12 : v 12 = .agg #[.int .i64 r1, .int .i64 r2] := hg 12 (by omega)
  have g13 : v 13 = .int .i64 r3 := hg 13 (by omega)
  obtain ⟨gs0, g14, glgs0, Ags0⟩ : Alc V.heap.size [.int .i64 0, .int .i64 0] (v 14) V1 := hg 14 (by omega)
  simp only [List.drop_succ_cons, List.drop_zero, putV, dsRaceLoss7, g0, g1, g2, g3, g4, g5, g6, g7, g8, g9, g10, g11, g12, g13, g14, Act.put]
  clear g0 g1 g2 g3 g4 g5 g6 g7 g8 g9 g10 g11 g12 g13 g14 hg hIW
  replace hW := Lib.hid hW
  have ygs0_0 := Ags0.cell 0 _ rfl
  have xgs0_0 := Ags0.froz 0 _ rfl
  have ygs0_1 := Ags0.cell 1 _ rfl
  have xgs0_1 := Ags0.froz 1 _ rfl
  have ylgs0 := Ags0.lt
  replace Ags0 := Lib.hid Ags0
  go_wp2_with (fail)
  obtain ⟨V2, hV⟩ : ∃ V, V = ((V1.setCell ⟨gs0, 0, none⟩ (.int .i64 r1)).setCell ⟨gs0, 1, none⟩ (.int .i64 r2)) := ⟨_, rfl⟩
  rw [← hV]
  have hb : Below V.heap.size V V2 := by rw [hV]; exact (Below.setCell (p := ⟨gs0, 1, none⟩) (Below.setCell (p := ⟨gs0, 0, none⟩) hW.out glgs0 _) glgs0 _)
  have Ggs0 : Hid (Cel V2 gs0 [.int .i64 r1, .int .i64 r2]) := by rw [hV]; exact ((Ags0.out.st (by simp)).st (by simp))
  clear hV hW Ags0 ylgs0 ygs0_0 xgs0_0 ygs0_1 xgs0_1
  replace C0 := Lib.hid (C0.out.below hb)
  replace C1 := Lib.hid (C1.out.below hb)
  replace Sown := Lib.hid (Sown.out.below hb)
  replace Sother := Lib.hid (Sother.out.below hb)
  replace Sres := Lib.hid (Sres.out.below hb)
  replace HB := Lib.hid (Bel.trans HB.out hb)
  clear hb
  refine (toInt64S_any _ _ _ _ _ Sown.out hn').mono ?_
  rintro e V3 ⟨Y1, y1, rfl, ho, hb⟩
  have T1 := Lib.hid (ho.sl rfl).1
  have T1k := Lib.hid (ho.sl rfl).2
  clear ho
  replace C0 := Lib.hid (C0.out.below hb)
  replace C1 := Lib.hid (C1.out.below hb)
  replace Ggs0 := Lib.hid (Ggs0.out.below hb)
  replace Sown := Lib.hid (Sown.out.below hb)
  replace Sother := Lib.hid (Sother.out.below hb)
  replace Sres := Lib.hid (Sres.out.below hb)
  replace HB := Lib.hid (Bel.trans HB.out hb)
  clear hb
  go_wp2_with (fail)
  refine (toInt64S_any _ _ _ _ _ Sother.out hm').mono ?_
  rintro e V4 ⟨Y2, y2, rfl, ho, hb⟩
  have T2 := Lib.hid (ho.sl rfl).1
  have T2k := Lib.hid (ho.sl rfl).2
  clear ho
  replace C0 := Lib.hid (C0.out.below hb)
  replace C1 := Lib.hid (C1.out.below hb)
  replace Ggs0 := Lib.hid (Ggs0.out.below hb)
  replace Sown := Lib.hid (Sown.out.below hb)
  replace Sother := Lib.hid (Sother.out.below hb)
  replace Sres := Lib.hid (Sres.out.below hb)
  replace T1 := Lib.hid (T1.out.below hb)
  replace HB := Lib.hid (Bel.trans HB.out hb)
  clear hb
  go_wp2_with (fail)
  refine (toInt64S_any _ _ _ _ _ Sres.out hl').mono ?_
  rintro e V5 ⟨Y3, y3, rfl, ho, hb⟩
  have T3 := Lib.hid (ho.sl rfl).1
  have T3k := Lib.hid (ho.sl rfl).2
  clear ho
  replace C0 := Lib.hid (C0.out.below hb)
  replace C1 := Lib.hid (C1.out.below hb)
  replace Ggs0 := Lib.hid (Ggs0.out.below hb)
  replace Sown := Lib.hid (Sown.out.below hb)
  replace Sother := Lib.hid (Sother.out.below hb)
  replace Sres := Lib.hid (Sres.out.below hb)
  replace T1 := Lib.hid (T1.out.below hb)
  replace T2 := Lib.hid (T2.out.below hb)
  replace HB := Lib.hid (Bel.trans HB.out hb)
  clear hb
  go_wp2_with (fail)
  refine wp_region_early 12 (fun i => i == 10) dsRaceLoss11 Bel (fun _ => True) (GL [Eqv (.agg #[.int .i64 p, .int .i64 c, .int .i64 h, .int .i64 s]), Eqv (.agg #[.int .i64 p, .int .i64 c, .int .i64 h, .int .i64 s]), Eqv (.slice Y1 own.length y1), Eqv (.slice Y2 other.length y2), Eqv (.agg #[.int .i64 ra, .int .i64 rb]), Eqv (.agg #[.int .i64 ra, .int .i64 rb]), Eqv (.slice Y3 res.length y3), Eqv (.tuple #[.agg #[.int .i64 r1, .int .i64 r2], .int .i64 r3]), Eqv (.tuple #[.agg #[.int .i64 r1, .int .i64 r2], .int .i64 r3]), Eqv (.agg #[.int .i64 r1, .int .i64 r2]), Eqv (.int .i64 r3), Alc V5.heap.size [.int .i64 0, .int .i64 0]]) (by kernel_rfl) (by kernel_rfl) (fun _ _ _ _ _ h => h) (fun _ _ _ h1 h2 => Bel.trans h1 h2) Bel.rfl' (GL.stab (by repeat (first | exact AllStb.nil | refine AllStb.cons (by first | exact stb_eq _ | exact stb_cpy _ | exact stb_alc _ _) ?_))) (Bel.drew _) trivial ?_ ?_ ?_
  · intro i o hi hX ho a' W hW hIW hfar hdep
    have e5 : a'.tmps.getD 5 undef = .pointer (some ⟨w.heap.size, 0, none⟩) := (hfar 5 (by decide)).trans rfl
    have e8 : a'.tmps.getD 8 undef = .pointer (some ⟨w.heap.size + 1, 0, none⟩) := (hfar 8 (by decide)).trans rfl
    have e13 : a'.tmps.getD 13 undef = .slice Y1 own.length y1 := (hfar 13 (by decide)).trans rfl
    have e14 : a'.tmps.getD 14 undef = .slice Y2 other.length y2 := (hfar 14 (by decide)).trans rfl
    have e15 : a'.tmps.getD 15 undef = .slice Y3 res.length y3 := (hfar 15 (by decide)).trans rfl
    have dep : ∀ j, j < 12 → Region.waitsFor .any _ i j = true → GL [Eqv (.agg #[.int .i64 p, .int .i64 c, .int .i64 h, .int .i64 s]), Eqv (.agg #[.int .i64 p, .int .i64 c, .int .i64 h, .int .i64 s]), Eqv (.slice Y1 own.length y1), Eqv (.slice Y2 other.length y2), Eqv (.agg #[.int .i64 ra, .int .i64 rb]), Eqv (.agg #[.int .i64 ra, .int .i64 rb]), Eqv (.slice Y3 res.length y3), Eqv (.tuple #[.agg #[.int .i64 r1, .int .i64 r2], .int .i64 r3]), Eqv (.tuple #[.agg #[.int .i64 r1, .int .i64 r2], .int .i64 r3]), Eqv (.agg #[.int .i64 r1, .int .i64 r2]), Eqv (.int .i64 r3), Alc V5.heap.size [.int .i64 0, .int .i64 0]] j (a'.tmps.getD (dsRaceLoss11 j) undef) W := hdep
    have hi8 : i = 10 := by simpa using hX
    clear hfar hdep hX hi
    subst hi8
    simp at ho
    subst ho
    · have d1 : a'.tmps.getD 47 undef = .tuple #[.agg #[.int .i64 r1, .int .i64 r2], .int .i64 r3] := dep 8 (by omega) (by kernel_rfl)
      exact ⟨.int .i64 r3, fun W' => by simp only [execOp, Act.eval, d1]; go_simp, rfl⟩
  · intro i o hi hX ho a' W hW hIW hfar hdep
    have e5 : a'.tmps.getD 5 undef = .pointer (some ⟨w.heap.size, 0, none⟩) := (hfar 5 (by decide)).trans rfl
    have e8 : a'.tmps.getD 8 undef = .pointer (some ⟨w.heap.size + 1, 0, none⟩) := (hfar 8 (by decide)).trans rfl
    have e13 : a'.tmps.getD 13 undef = .slice Y1 own.length y1 := (hfar 13 (by decide)).trans rfl
    have e14 : a'.tmps.getD 14 undef = .slice Y2 other.length y2 := (hfar 14 (by decide)).trans rfl
    have e15 : a'.tmps.getD 15 undef = .slice Y3 res.length y3 := (hfar 15 (by decide)).trans rfl
    have dep : ∀ j, j < 12 → Region.waitsFor .any _ i j = true → GL [Eqv (.agg #[.int .i64 p, .int .i64 c, .int .i64 h, .int .i64 s]), Eqv (.agg #[.int .i64 p, .int .i64 c, .int .i64 h, .int .i64 s]), Eqv (.slice Y1 own.length y1), Eqv (.slice Y2 other.length y2), Eqv (.agg #[.int .i64 ra, .int .i64 rb]), Eqv (.agg #[.int .i64 ra, .int .i64 rb]), Eqv (.slice Y3 res.length y3), Eqv (.tuple #[.agg #[.int .i64 r1, .int .i64 r2], .int .i64 r3]), Eqv (.tuple #[.agg #[.int .i64 r1, .int .i64 r2], .int .i64 r3]), Eqv (.agg #[.int .i64 r1, .int .i64 r2]), Eqv (.int .i64 r3), Alc V5.heap.size [.int .i64 0, .int .i64 0]] j (a'.tmps.getD (dsRaceLoss11 j) undef) W := hdep
    have hi8 : i = 0 ∨ i = 1 ∨ i = 2 ∨ i = 3 ∨ i = 4 ∨ i = 5 ∨ i = 6 ∨ i = 7 ∨ i = 8 ∨ i = 9 ∨ i = 11 := by simp at hX; omega
    clear hfar hdep hX hi
    rcases hi8 with rfl | rfl | rfl | rfl | rfl | rfl | rfl | rfl | rfl | rfl | rfl
    all_goals (simp at ho; subst ho)
    · have zz := C0.out.below hW
      have z0 := zz.cell 0 _ rfl
      have z1 := zz.cell 1 _ rfl
      have z2 := zz.cell 2 _ rfl
      have z3 := zz.cell 3 _ rfl
      exact .inl ⟨.agg #[.int .i64 p, .int .i64 c, .int .i64 h, .int .i64 s], W, by simp only [execOp, Act.eval, e5]; go_simp, Bel.rfl' _, trivial, rfl⟩
    · have d1 : a'.tmps.getD 48 undef = .agg #[.int .i64 p, .int .i64 c, .int .i64 h, .int .i64 s] := dep 0 (by omega) (by kernel_rfl)
      refine .inr ⟨12, #[.agg #[.int .i64 p, .int .i64 c, .int .i64 h, .int .i64 s]], by simp only [execOp, Act.eval, d1]; go_simp, ?_⟩
      refine (toVariant_any _ _ _ _ _).mono ?_
      rintro e W' ⟨rfl, hb'⟩
      exact ⟨_, rfl, hb', trivial, rfl⟩
    · exact .inl ⟨.slice Y1 own.length y1, W, by simp only [execOp, Act.eval, e13]; go_simp, Bel.rfl' _, trivial, rfl⟩
    · exact .inl ⟨.slice Y2 other.length y2, W, by simp only [execOp, Act.eval, e14]; go_simp, Bel.rfl' _, trivial, rfl⟩
    · have zz := C1.out.below hW
      have z0 := zz.cell 0 _ rfl
      have z1 := zz.cell 1 _ rfl
      exact .inl ⟨.agg #[.int .i64 ra, .int .i64 rb], W, by simp only [execOp, Act.eval, e8]; go_simp, Bel.rfl' _, trivial, rfl⟩
    · have d1 : a'.tmps.getD 52 undef = .agg #[.int .i64 ra, .int .i64 rb] := dep 4 (by omega) (by kernel_rfl)
      refine .inr ⟨18, #[.agg #[.int .i64 ra, .int .i64 rb]], by simp only [execOp, Act.eval, d1]; go_simp, ?_⟩
      refine (toRoll_any _ _ _).mono ?_
      rintro e W' ⟨rfl, hb'⟩
      exact ⟨_, rfl, hb', trivial, rfl⟩
    · exact .inl ⟨.slice Y3 res.length y3, W, by simp only [execOp, Act.eval, e15]; go_simp, Bel.rfl' _, trivial, rfl⟩
    · have d49 : a'.tmps.getD 49 undef = .agg #[.int .i64 p, .int .i64 c, .int .i64 h, .int .i64 s] := dep 1 (by omega) (by kernel_rfl)
      have d50 : a'.tmps.getD 50 undef = .slice Y1 own.length y1 := dep 2 (by omega) (by kernel_rfl)
      have d51 : a'.tmps.getD 51 undef = .slice Y2 other.length y2 := dep 3 (by omega) (by kernel_rfl)
      have d53 : a'.tmps.getD 53 undef = .agg #[.int .i64 ra, .int .i64 rb] := dep 5 (by omega) (by kernel_rfl)
      have d54 : a'.tmps.getD 54 undef = .slice Y3 res.length y3 := dep 6 (by omega) (by kernel_rfl)
      refine .inr ⟨57, #[.agg #[.int .i64 p, .int .i64 c, .int .i64 h, .int .i64 s], .slice Y1 own.length y1, .slice Y2 other.length y2, .agg #[.int .i64 ra, .int .i64 rb], .slice Y3 res.length y3], by simp only [execOp, Act.eval, d49, d50, d51, d53, d54]; go_simp, ?_⟩
      refine (CI.out W _ _ _ _ _ _ (T1.out.below hW) (T2.out.below hW) (T3.out.below hW) T1k.out T2k.out T3k.out).mono ?_
      rintro e W' ⟨rfl, hb'⟩
      exact ⟨_, rfl, hb', trivial, rfl⟩
    · have d1 : a'.tmps.getD 55 undef = .tuple #[.agg #[.int .i64 r1, .int .i64 r2], .int .i64 r3] := dep 7 (by omega) (by kernel_rfl)
      exact .inl ⟨.tuple #[.agg #[.int .i64 r1, .int .i64 r2], .int .i64 r3], W, by simp only [execOp, Act.eval, d1]; go_simp, Bel.rfl' _, trivial, rfl⟩
    · have d1 : a'.tmps.getD 47 undef = .tuple #[.agg #[.int .i64 r1, .int .i64 r2], .int .i64 r3] := dep 8 (by omega) (by kernel_rfl)
      exact .inl ⟨.agg #[.int .i64 r1, .int .i64 r2], W, by simp only [execOp, Act.eval, d1]; go_simp, Bel.rfl' _, trivial, rfl⟩
    · exact .inl ⟨.pointer (some ⟨W.heap.size, 0, none⟩), W.alloc (.cells #[.int .i64 0, .int .i64 0] 26), by kernel_rfl, Bel.alloc _ _, trivial, alc_new _ _ _ (Below.size hW)⟩
  intro v V6 hW hIW hg
  have g0 : v 0 = .agg #[.int .i64 p, .int .i64 c, .int .i64 h, .int .i64 s] := hg 0 (by omega)
  have g1 : v 1 = .agg #[.int .i64 p, .int .i64 c, .int .i64 h, .int .i64 s] := hg 1 (by omega)
  have g2 : v 2 = .slice Y1 own.length y1 := hg 2 (by omega)
  have g3 : v 3 = .slice Y2 other.length y2 := hg 3 (by omega)
  have g4 : v 4 = .agg #[.int .i64 ra, .int .i64 rb] := hg 4 (by omega)
  have g5 : v 5 = .agg #[.int .i64 ra, .int .i64 rb] := hg 5 (by omega)
  have g6 : v 6 = .slice Y3 res.length y3 := hg 6 (by omega)
  have g7 : v 7 = .tuple #[.agg #[.int .i64 r1, .int .i64 r2], .int .i64 r3] := hg 7 (by omega)
  have g8 : v 8 = .tuple #[.agg #[.int .i64 r1, .int .i64 r2], .int .i64 r3] := hg 8 (by omega)
  have g9 : v 9 = .agg #[.int .i64 r1, .int .i64 r2] := hg 9 (by omega)
  have g10 : v 10 = .int .i64 r3 := hg 10 (by omega)
  obtain ⟨gi0, g11, glgi0, Agi0⟩ : Alc V5.heap.size [.int .i64 0, .int .i64 0] (v 11) V6 := hg 11 (by omega)
  simp only [List.drop_succ_cons, List.drop_zero, putV, dsRaceLoss11, g0, g1, g2, g3, g4, g5, g6, g7, g8, g9, g10, g11, Act.put]
  clear g0 g1 g2 g3 g4 g5 g6 g7 g8 g9 g10 g11 hg hIW
  replace hW := Lib.hid hW
  have ygi0_0 := Agi0.cell 0 _ rfl
  have xgi0_0 := Agi0.froz 0 _ rfl
  have ygi0_1 := Agi0.cell 1 _ rfl
  have xgi0_1 := Agi0.froz 1 _ rfl
  have ylgi0 := Agi0.lt
  replace Agi0 := Lib.hid Agi0
  have qGgs0 := Ggs0.out.below hW.out
  have cGgs0_0 := qGgs0.cell 0 _ rfl
  have cGgs0_1 := qGgs0.cell 1 _ rfl
  have zGgs0 := qGgs0.lt
  have nGgs0gi0 : gs0 < gi0 := by have := Ggs0.out.lt; omega
  go_wp2_with (fail)
  obtain ⟨V7, hV⟩ : ∃ V, V = ((V6.setCell ⟨gi0, 0, none⟩ (.int .i64 r1)).setCell ⟨gi0, 1, none⟩ (.int .i64 r2)) := ⟨_, rfl⟩
  rw [← hV]
  have hb : Below V5.heap.size V5 V7 := by rw [hV]; exact (Below.setCell (p := ⟨gi0, 1, none⟩) (Below.setCell (p := ⟨gi0, 0, none⟩) hW.out glgi0 _) glgi0 _)
  have Ggi0 : Hid (Cel V7 gi0 [.int .i64 r1, .int .i64 r2]) := by rw [hV]; exact ((Agi0.out.st (by simp)).st (by simp))
  clear cGgs0_0 cGgs0_1 zGgs0 qGgs0 nGgs0gi0
  clear hV hW Agi0 ylgi0 ygi0_0 xgi0_0 ygi0_1 xgi0_1
  replace C0 := Lib.hid (C0.out.below hb)
  replace C1 := Lib.hid (C1.out.below hb)
  replace Ggs0 := Lib.hid (Ggs0.out.below hb)
  replace Sown := Lib.hid (Sown.out.below hb)
  replace Sother := Lib.hid (Sother.out.below hb)
  replace Sres := Lib.hid (Sres.out.below hb)
  replace T1 := Lib.hid (T1.out.below hb)
  replace T2 := Lib.hid (T2.out.below hb)
  replace T3 := Lib.hid (T3.out.below hb)
  replace HB := Lib.hid (Bel.trans HB.out hb)
  clear hb
  have nr3 : (r3 != r3) = false := by simp
  refine (eqExact_yes _ _ _).mono ?_
  rintro e V8 ⟨rfl, hb⟩
  replace C0 := Lib.hid (C0.out.below hb)
  replace C1 := Lib.hid (C1.out.below hb)
  replace Ggs0 := Lib.hid (Ggs0.out.below hb)
  replace Ggi0 := Lib.hid (Ggi0.out.below hb)
  replace Sown := Lib.hid (Sown.out.below hb)
  replace Sother := Lib.hid (Sother.out.below hb)
  replace Sres := Lib.hid (Sres.out.below hb)
  replace T1 := Lib.hid (T1.out.below hb)
  replace T2 := Lib.hid (T2.out.below hb)
  replace T3 := Lib.hid (T3.out.below hb)
  replace HB := Lib.hid (Bel.trans HB.out hb)
  clear hb
  have cGgs0_0 := Ggs0.out.cell 0 _ rfl
  have cGgs0_1 := Ggs0.out.cell 1 _ rfl
  have zGgs0 := Ggs0.out.lt
  have cGgi0_0 := Ggi0.out.cell 0 _ rfl
  have cGgi0_1 := Ggi0.out.cell 1 _ rfl
  have zGgi0 := Ggi0.out.lt
  go_wp2_with (fail)
  refine (toInt64S_any _ _ _ _ _ Sown.out hn').mono ?_
  rintro e V9 ⟨Z1, u1, rfl, ho, hb⟩
  have U := Lib.hid (ho.sl rfl).1
  clear ho
  replace C0 := Lib.hid (C0.out.below hb)
  replace C1 := Lib.hid (C1.out.below hb)
  replace Ggs0 := Lib.hid (Ggs0.out.below hb)
  replace Ggi0 := Lib.hid (Ggi0.out.below hb)
  replace Sown := Lib.hid (Sown.out.below hb)
  replace Sother := Lib.hid (Sother.out.below hb)
  replace Sres := Lib.hid (Sres.out.below hb)
  replace T1 := Lib.hid (T1.out.below hb)
  replace T2 := Lib.hid (T2.out.below hb)
  replace T3 := Lib.hid (T3.out.below hb)
  replace HB := Lib.hid (Bel.trans HB.out hb)
  clear hb
  go_wp2_with (fail)
  refine (eqInt64S_yes _ _ _ _ _ _ _ T1.out U.out oown).mono ?_
  rintro e V10 ⟨rfl, hb⟩
  replace C0 := Lib.hid (C0.out.below hb)
  replace C1 := Lib.hid (C1.out.below hb)
  replace Ggs0 := Lib.hid (Ggs0.out.below hb)
  replace Ggi0 := Lib.hid (Ggi0.out.below hb)
  replace Sown := Lib.hid (Sown.out.below hb)
  replace Sother := Lib.hid (Sother.out.below hb)
  replace Sres := Lib.hid (Sres.out.below hb)
  replace T1 := Lib.hid (T1.out.below hb)
  replace T2 := Lib.hid (T2.out.below hb)
  replace T3 := Lib.hid (T3.out.below hb)
  replace U := Lib.hid (U.out.below hb)
  replace HB := Lib.hid (Bel.trans HB.out hb)
  clear hb
  clear U
  go_wp2_with (fail)
  refine (toInt64S_any _ _ _ _ _ Sother.out hm').mono ?_
  rintro e V11 ⟨Z2, u2, rfl, ho, hb⟩
  have U := Lib.hid (ho.sl rfl).1
  clear ho
  replace C0 := Lib.hid (C0.out.below hb)
  replace C1 := Lib.hid (C1.out.below hb)
  replace Ggs0 := Lib.hid (Ggs0.out.below hb)
  replace Ggi0 := Lib.hid (Ggi0.out.below hb)
  replace Sown := Lib.hid (Sown.out.below hb)
  replace Sother := Lib.hid (Sother.out.below hb)
  replace Sres := Lib.hid (Sres.out.below hb)
  replace T1 := Lib.hid (T1.out.below hb)
  replace T2 := Lib.hid (T2.out.below hb)
  replace T3 := Lib.hid (T3.out.below hb)
  replace HB := Lib.hid (Bel.trans HB.out hb)
  clear hb
  go_wp2_with (fail)
  refine (eqInt64S_yes _ _ _ _ _ _ _ T2.out U.out oother).mono ?_
  rintro e V12 ⟨rfl, hb⟩
  replace C0 := Lib.hid (C0.out.below hb)
  replace C1 := Lib.hid (C1.out.below hb)
  replace Ggs0 := Lib.hid (Ggs0.out.below hb)
  replace Ggi0 := Lib.hid (Ggi0.out.below hb)
  replace Sown := Lib.hid (Sown.out.below hb)
  replace Sother := Lib.hid (Sother.out.below hb)
  replace Sres := Lib.hid (Sres.out.below hb)
  replace T1 := Lib.hid (T1.out.below hb)
  replace T2 := Lib.hid (T2.out.below hb)
  replace T3 := Lib.hid (T3.out.below hb)
  replace U := Lib.hid (U.out.below hb)
  replace HB := Lib.hid (Bel.trans HB.out hb)
  clear hb
  clear U
  go_wp2_with (fail)
  refine (toInt64S_any _ _ _ _ _ Sres.out hl').mono ?_
  rintro e V13 ⟨Z3, u3, rfl, ho, hb⟩
  have U := Lib.hid (ho.sl rfl).1
  clear ho
  replace C0 := Lib.hid (C0.out.below hb)
  replace C1 := Lib.hid (C1.out.below hb)
  replace Ggs0 := Lib.hid (Ggs0.out.below hb)
  replace Ggi0 := Lib.hid (Ggi0.out.below hb)
  replace Sown := Lib.hid (Sown.out.below hb)
  replace Sother := Lib.hid (Sother.out.below hb)
  replace Sres := Lib.hid (Sres.out.below hb)
  replace T1 := Lib.hid (T1.out.below hb)
  replace T2 := Lib.hid (T2.out.below hb)
  replace T3 := Lib.hid (T3.out.below hb)
  replace HB := Lib.hid (Bel.trans HB.out hb)
  clear hb
  go_wp2_with (fail)
  refine (eqInt64S_yes _ _ _ _ _ _ _ T3.out U.out ores).mono ?_
  rintro e V14 ⟨rfl, hb⟩
  replace C0 := Lib.hid (C0.out.below hb)
  replace C1 := Lib.hid (C1.out.below hb)
  replace Ggs0 := Lib.hid (Ggs0.out.below hb)
  replace Ggi0 := Lib.hid (Ggi0.out.below hb)
  replace Sown := Lib.hid (Sown.out.below hb)
  replace Sother := Lib.hid (Sother.out.below hb)
  replace Sres := Lib.hid (Sres.out.below hb)
  replace T1 := Lib.hid (T1.out.below hb)
  replace T2 := Lib.hid (T2.out.below hb)
  replace T3 := Lib.hid (T3.out.below hb)
  replace U := Lib.hid (U.out.below hb)
  replace HB := Lib.hid (Bel.trans HB.out hb)
  clear hb
  clear U
  go_wp2_with (fail)
  go_ret
  exact ⟨rfl, HB.out⟩
end Go.Proofs.YtlbkfhdnhalpbaaGreat

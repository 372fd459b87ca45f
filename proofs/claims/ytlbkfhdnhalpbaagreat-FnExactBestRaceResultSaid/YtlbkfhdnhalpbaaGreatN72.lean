/- The statement FnExactBestRaceResult, the law's walk. There are no conditions. -/
import Derived.Test.YtlbkfhdnhalpbaaGreatN75
import Derived.Test.YtlbkfhdnhalpbaaGreatL6
import Derived.Test.YtlbkfhdnhalpbaaGreatZl
namespace Go.Proofs.YtlbkfhdnhalpbaaGreat
set_option linter.unusedVariables false
set_option linter.unusedSimpArgs false
open Go.RowKit Ps Ra Ex

def dsBestRaceResult5 : Nat → Nat
  | 0 => 27
  | 1 => 28
  | 2 => 29
  | 3 => 30
  | 4 => 31
  | 5 => 32
  | 6 => 33
  | 7 => 34
  | 8 => 35
  | 9 => 26
  | 10 => 36
  | 11 => 37
  | _ => 0
def dsBestRaceResult8 : Nat → Nat
  | 0 => 43
  | 1 => 44
  | 2 => 45
  | 3 => 46
  | 4 => 47
  | 5 => 48
  | 6 => 49
  | 7 => 42
  | 8 => 50
  | 9 => 51
  | _ => 0
def dsBestRaceResult28 : Nat → Nat
  | 0 => 102
  | 1 => 103
  | 2 => 104
  | 3 => 105
  | 4 => 106
  | 5 => 107
  | 6 => 108
  | 7 => 109
  | 8 => 110
  | 9 => 101
  | 10 => 111
  | 11 => 112
  | _ => 0
set_option maxRecDepth 100000 in
set_option maxHeartbeats 8000000 in
theorem bestRaceResult_law (p c h s ra rb : Int) (A B : Option Addr) (n m ca cb : Nat) (own other : List Int) (w : World) (hown : SL w A n own) (hother : SL w B m other) :
    Calls Tryz.prog 4 #[.agg #[.int .i64 p, .int .i64 c, .int .i64 h, .int .i64 s], .slice A n ca, .slice B m cb, .agg #[.int .i64 ra, .int .i64 rb]] w fun e w' => e = .returned (.bool true) ∧ Below w.heap.size w w' := by
  have hV0 : Bel w ((w.alloc (.cells #[.int .i64 p, .int .i64 c, .int .i64 h, .int .i64 s] 23)).alloc (.cells #[.int .i64 ra, .int .i64 rb] 36)) := (Bel.trans (Bel.alloc _ _) (Bel.alloc _ _))
  have C0 : Cel ((w.alloc (.cells #[.int .i64 p, .int .i64 c, .int .i64 h, .int .i64 s] 23)).alloc (.cells #[.int .i64 ra, .int .i64 rb] 36)) (w.heap.size) [.int .i64 p, .int .i64 c, .int .i64 h, .int .i64 s] := (Cel.new' _ _ _ (by simp)).alloc _
  have C1 : Cel ((w.alloc (.cells #[.int .i64 p, .int .i64 c, .int .i64 h, .int .i64 s] 23)).alloc (.cells #[.int .i64 ra, .int .i64 rb] 36)) (w.heap.size + 1) [.int .i64 ra, .int .i64 rb] := Cel.new' _ _ _ (by simp)
  have Sown := hown.below hV0
  have Lown := Lib.hid hown.1
  have Aown := Lib.hid hown
  clear hown
  have Sother := hother.below hV0
  have Lother := Lib.hid hother.1
  have Aother := Lib.hid hother
  clear hother
  have HB := Lib.hid hV0
  clear hV0
  replace C0 := Lib.hid C0
  replace C1 := Lib.hid C1
  replace Sown := Lib.hid Sown
  replace Sother := Lib.hid Sother
  by_cases hn : (1048576 : Int) < (n : Int)
  · go_enter Tryz.func4, Tryz.ntmps4
    go_wp2
    go_ret
    exact ⟨rfl, HB.out⟩
  by_cases hm : (1048576 : Int) < (m : Int)
  · go_enter Tryz.func4, Tryz.ntmps4
    go_wp2
    go_ret
    exact ⟨rfl, HB.out⟩
  have hn' : n ≤ 2000000 := by omega
  have oown : own.length ≤ 2000000 := by rw [Lown.out]; exact hn'
  have hm' : m ≤ 2000000 := by omega
  have oother : other.length ≤ 2000000 := by rw [Lother.out]; exact hm'
  obtain ⟨r, hr⟩ : ∃ r, r = bstR p c h s ra rb own other := ⟨_, rfl⟩
  have hlen := bstR_len p c h s ra rb own other
  rw [← hr] at hlen
  obtain ⟨xs, r3⟩ := r
  replace hlen : xs.length ≤ 1000000 := hlen
  have CS : Hid (∀ (W : World) (X1 : Option Addr) (k1 : Nat) (X2 : Option Addr) (k2 : Nat), SL W X1 own.length own → SL W X2 other.length other → own.length ≤ k1 → other.length ≤ k2 → Calls Tryz.prog 17 #[.agg #[.int .i64 p, .int .i64 c, .int .i64 h, .int .i64 s], .slice X1 own.length k1, .slice X2 other.length k2, .agg #[.int .i64 ra, .int .i64 rb]] W fun e w' => ∃ v b, e = .returned (.tuple #[v, .int .i64 r3]) ∧ W.heap.size ≤ b ∧ SQO w' b (v) xs ∧ Below W.heap.size W w') := fun W X1 k1 X2 k2 s1 s2 l1 l2 => by
    have := sBestRaceResult_any p c h s ra rb X1 X2 _ _ k1 k2 own other W s1 s2 l1 l2; rw [← hr] at this; exact this
  have CI : Hid (∀ (W : World) (X1 : Option Addr) (k1 : Nat) (X2 : Option Addr) (k2 : Nat), SL W X1 own.length own → SL W X2 other.length other → own.length ≤ k1 → other.length ≤ k2 → Calls Tryz.prog 19 #[.agg #[.int .i64 p, .int .i64 c, .int .i64 h, .int .i64 s], .slice X1 own.length k1, .slice X2 other.length k2, .agg #[.int .i64 ra, .int .i64 rb]] W fun e w' => ∃ v b, e = .returned (.tuple #[v, .int .i64 r3]) ∧ W.heap.size ≤ b ∧ OwnS w' b 2 (v) xs ∧ Below W.heap.size W w') := fun W X1 k1 X2 k2 s1 s2 l1 l2 => by
    have := BestRaceResult_any p c h s ra rb X1 X2 _ _ k1 k2 own other W s1 s2 l1 l2; rw [← hr] at this; exact this
  clear hr
  go_enter Tryz.func4, Tryz.ntmps4
  go_wp2_with (fail)
  generalize ((w.alloc (.cells #[.int .i64 p, .int .i64 c, .int .i64 h, .int .i64 s] 23)).alloc (.cells #[.int .i64 ra, .int .i64 rb] 36)) = V at *
  have zV0 := C0.out.lt
  have zV1 := C1.out.lt
  refine wp_region_early 12 (fun i => i == 11) dsBestRaceResult5 Bel (fun _ => True) (GL [Eqv (.agg #[.int .i64 p, .int .i64 c, .int .i64 h, .int .i64 s]), Eqv (.agg #[.int .i64 p, .int .i64 c, .int .i64 h, .int .i64 s]), Eqv (.slice A n ca), Cpy own, Eqv (.slice B m cb), Cpy other, Eqv (.agg #[.int .i64 ra, .int .i64 rb]), Eqv (.agg #[.int .i64 ra, .int .i64 rb]), RowT (fun W b v => SQO W b (v) xs) V.heap.size [.int .i64 r3], RowT (fun W b v => SQO W b (v) xs) V.heap.size [.int .i64 r3], RowE (fun W b v => SQO W b (v) xs) V.heap.size, Eqv (.int .i64 r3)]) (by kernel_rfl) (by kernel_rfl) (fun _ _ _ _ _ h => h) (fun _ _ _ h1 h2 => Bel.trans h1 h2) Bel.rfl' (GL.stab (by repeat (first | exact AllStb.nil | refine AllStb.cons (by first | exact stb_eq _ | exact stb_cpy _ | exact stb_rowT stO_Q | exact stb_rowE stO_Q) ?_))) (Bel.drew _) trivial ?_ ?_ ?_
  · intro i o hi hX ho a' W hW hIW hfar hdep
    have e1 : a'.tmps.getD 1 undef = .slice A n ca := (hfar 1 (by decide)).trans rfl
    have e2 : a'.tmps.getD 2 undef = .slice B m cb := (hfar 2 (by decide)).trans rfl
    have e4 : a'.tmps.getD 4 undef = .pointer (some ⟨w.heap.size, 0, none⟩) := (hfar 4 (by decide)).trans rfl
    have e7 : a'.tmps.getD 7 undef = .pointer (some ⟨w.heap.size + 1, 0, none⟩) := (hfar 7 (by decide)).trans rfl
    have dep : ∀ j, j < 12 → Region.waitsFor .any _ i j = true → GL [Eqv (.agg #[.int .i64 p, .int .i64 c, .int .i64 h, .int .i64 s]), Eqv (.agg #[.int .i64 p, .int .i64 c, .int .i64 h, .int .i64 s]), Eqv (.slice A n ca), Cpy own, Eqv (.slice B m cb), Cpy other, Eqv (.agg #[.int .i64 ra, .int .i64 rb]), Eqv (.agg #[.int .i64 ra, .int .i64 rb]), RowT (fun W b v => SQO W b (v) xs) V.heap.size [.int .i64 r3], RowT (fun W b v => SQO W b (v) xs) V.heap.size [.int .i64 r3], RowE (fun W b v => SQO W b (v) xs) V.heap.size, Eqv (.int .i64 r3)] j (a'.tmps.getD (dsBestRaceResult5 j) undef) W := hdep
    have hi8 : i = 11 := by simpa using hX
    clear hfar hdep hX hi
    subst hi8
    simp at ho
    subst ho
    · obtain ⟨u, bs, d1, h1, h2⟩ : RowT (fun W b v => SQO W b (v) xs) V.heap.size [.int .i64 r3] (a'.tmps.getD 26 undef) W := dep 9 (by omega) (by kernel_rfl)
      replace d1 : a'.tmps.getD 26 undef = .tuple #[u, .int .i64 r3] := d1
      exact ⟨.int .i64 r3, fun W' => by simp only [execOp, Act.eval, d1]; go_simp, rfl⟩
  · intro i o hi hX ho a' W hW hIW hfar hdep
    have e1 : a'.tmps.getD 1 undef = .slice A n ca := (hfar 1 (by decide)).trans rfl
    have e2 : a'.tmps.getD 2 undef = .slice B m cb := (hfar 2 (by decide)).trans rfl
    have e4 : a'.tmps.getD 4 undef = .pointer (some ⟨w.heap.size, 0, none⟩) := (hfar 4 (by decide)).trans rfl
    have e7 : a'.tmps.getD 7 undef = .pointer (some ⟨w.heap.size + 1, 0, none⟩) := (hfar 7 (by decide)).trans rfl
    have dep : ∀ j, j < 12 → Region.waitsFor .any _ i j = true → GL [Eqv (.agg #[.int .i64 p, .int .i64 c, .int .i64 h, .int .i64 s]), Eqv (.agg #[.int .i64 p, .int .i64 c, .int .i64 h, .int .i64 s]), Eqv (.slice A n ca), Cpy own, Eqv (.slice B m cb), Cpy other, Eqv (.agg #[.int .i64 ra, .int .i64 rb]), Eqv (.agg #[.int .i64 ra, .int .i64 rb]), RowT (fun W b v => SQO W b (v) xs) V.heap.size [.int .i64 r3], RowT (fun W b v => SQO W b (v) xs) V.heap.size [.int .i64 r3], RowE (fun W b v => SQO W b (v) xs) V.heap.size, Eqv (.int .i64 r3)] j (a'.tmps.getD (dsBestRaceResult5 j) undef) W := hdep
    have hi8 : i = 0 ∨ i = 1 ∨ i = 2 ∨ i = 3 ∨ i = 4 ∨ i = 5 ∨ i = 6 ∨ i = 7 ∨ i = 8 ∨ i = 9 ∨ i = 10 := by simp at hX; omega
    clear hfar hdep hX hi
    rcases hi8 with rfl | rfl | rfl | rfl | rfl | rfl | rfl | rfl | rfl | rfl | rfl
    all_goals (simp at ho; subst ho)
    · have zz := C0.out.below hW
      have z0 := zz.cell 0 _ rfl
      have z1 := zz.cell 1 _ rfl
      have z2 := zz.cell 2 _ rfl
      have z3 := zz.cell 3 _ rfl
      exact .inl ⟨.agg #[.int .i64 p, .int .i64 c, .int .i64 h, .int .i64 s], W, by simp only [execOp, Act.eval, e4]; go_simp, Bel.rfl' _, trivial, rfl⟩
    · have d1 : a'.tmps.getD 27 undef = .agg #[.int .i64 p, .int .i64 c, .int .i64 h, .int .i64 s] := dep 0 (by omega) (by kernel_rfl)
      refine .inr ⟨12, #[.agg #[.int .i64 p, .int .i64 c, .int .i64 h, .int .i64 s]], by simp only [execOp, Act.eval, d1]; go_simp, ?_⟩
      refine (toVariant_any _ _ _ _ _).mono ?_
      rintro e W' ⟨rfl, hb'⟩
      exact ⟨_, rfl, hb', trivial, rfl⟩
    · exact .inl ⟨.slice A n ca, W, by simp only [execOp, Act.eval, e1]; go_simp, Bel.rfl' _, trivial, rfl⟩
    · have d1 : a'.tmps.getD 29 undef = .slice A n ca := dep 2 (by omega) (by kernel_rfl)
      refine .inr ⟨13, #[.slice A n ca], by simp only [execOp, Act.eval, d1]; go_simp, ?_⟩
      refine (toInt64S_any _ _ _ _ _ (Sown.out.below hW) hn').mono ?_
      rintro e W' ⟨X1, k1, rfl, ho1, hb'⟩
      exact ⟨_, rfl, hb', trivial, X1, k1, rfl, (ho1.sl rfl).1, (ho1.sl rfl).2⟩
    · exact .inl ⟨.slice B m cb, W, by simp only [execOp, Act.eval, e2]; go_simp, Bel.rfl' _, trivial, rfl⟩
    · have d1 : a'.tmps.getD 31 undef = .slice B m cb := dep 4 (by omega) (by kernel_rfl)
      refine .inr ⟨13, #[.slice B m cb], by simp only [execOp, Act.eval, d1]; go_simp, ?_⟩
      refine (toInt64S_any _ _ _ _ _ (Sother.out.below hW) hm').mono ?_
      rintro e W' ⟨X1, k1, rfl, ho1, hb'⟩
      exact ⟨_, rfl, hb', trivial, X1, k1, rfl, (ho1.sl rfl).1, (ho1.sl rfl).2⟩
    · have zz := C1.out.below hW
      have z0 := zz.cell 0 _ rfl
      have z1 := zz.cell 1 _ rfl
      exact .inl ⟨.agg #[.int .i64 ra, .int .i64 rb], W, by simp only [execOp, Act.eval, e7]; go_simp, Bel.rfl' _, trivial, rfl⟩
    · have d1 : a'.tmps.getD 33 undef = .agg #[.int .i64 ra, .int .i64 rb] := dep 6 (by omega) (by kernel_rfl)
      refine .inr ⟨18, #[.agg #[.int .i64 ra, .int .i64 rb]], by simp only [execOp, Act.eval, d1]; go_simp, ?_⟩
      refine (toRoll_any _ _ _).mono ?_
      rintro e W' ⟨rfl, hb'⟩
      exact ⟨_, rfl, hb', trivial, rfl⟩
    · have d28 : a'.tmps.getD 28 undef = .agg #[.int .i64 p, .int .i64 c, .int .i64 h, .int .i64 s] := dep 1 (by omega) (by kernel_rfl)
      obtain ⟨X1, k1, d30, s1, l1⟩ : Cpy own (a'.tmps.getD 30 undef) W := dep 3 (by omega) (by kernel_rfl)
      obtain ⟨X2, k2, d32, s2, l2⟩ : Cpy other (a'.tmps.getD 32 undef) W := dep 5 (by omega) (by kernel_rfl)
      have d34 : a'.tmps.getD 34 undef = .agg #[.int .i64 ra, .int .i64 rb] := dep 7 (by omega) (by kernel_rfl)
      refine .inr ⟨17, #[.agg #[.int .i64 p, .int .i64 c, .int .i64 h, .int .i64 s], .slice X1 own.length k1, .slice X2 other.length k2, .agg #[.int .i64 ra, .int .i64 rb]], by simp only [execOp, Act.eval, d28, d30, d32, d34]; go_simp, ?_⟩
      refine (CS.out W X1 k1 X2 k2 s1 s2 l1 l2).mono ?_
      rintro e W' ⟨u, bs, rfl, hbs, ho, hb'⟩
      exact ⟨_, rfl, hb', trivial, u, bs, rfl, Nat.le_trans (Below.size hW) hbs, ho⟩
    · obtain ⟨u, bs, d1, h1, h2⟩ : RowT (fun W b v => SQO W b (v) xs) V.heap.size [.int .i64 r3] (a'.tmps.getD 35 undef) W := dep 8 (by omega) (by kernel_rfl)
      replace d1 : a'.tmps.getD 35 undef = .tuple #[u, .int .i64 r3] := d1
      exact .inl ⟨.tuple #[u, .int .i64 r3], W, by simp only [execOp, Act.eval, d1]; go_simp, Bel.rfl' _, trivial, u, bs, rfl, h1, h2⟩
    · obtain ⟨u, bs, d1, h1, h2⟩ : RowT (fun W b v => SQO W b (v) xs) V.heap.size [.int .i64 r3] (a'.tmps.getD 26 undef) W := dep 9 (by omega) (by kernel_rfl)
      replace d1 : a'.tmps.getD 26 undef = .tuple #[u, .int .i64 r3] := d1
      exact .inl ⟨u, W, by simp only [execOp, Act.eval, d1]; go_simp, Bel.rfl' _, trivial, bs, h1, h2⟩
  intro v V1 hW hIW hg
  have g0 : v 0 = .agg #[.int .i64 p, .int .i64 c, .int .i64 h, .int .i64 s] := hg 0 (by omega)
  have g1 : v 1 = .agg #[.int .i64 p, .int .i64 c, .int .i64 h, .int .i64 s] := hg 1 (by omega)
  have g2 : v 2 = .slice A n ca := hg 2 (by omega)
  obtain ⟨_, _, g3, _, _⟩ : Cpy own (v 3) V1 := hg 3 (by omega)
  have g4 : v 4 = .slice B m cb := hg 4 (by omega)
  obtain ⟨_, _, g5, _, _⟩ : Cpy other (v 5) V1 := hg 5 (by omega)
  have g6 : v 6 = .agg #[.int .i64 ra, .int .i64 rb] := hg 6 (by omega)
  have g7 : v 7 = .agg #[.int .i64 ra, .int .i64 rb] := hg 7 (by omega)
  obtain ⟨_, _, g8, _, _⟩ : RowT (fun W b v => SQO W b (v) xs) V.heap.size [.int .i64 r3] (v 8) V1 := hg 8 (by omega)
  obtain ⟨_, _, g9, _, _⟩ : RowT (fun W b v => SQO W b (v) xs) V.heap.size [.int .i64 r3] (v 9) V1 := hg 9 (by omega)
  obtain ⟨bs, hbs, ho⟩ : RowE (fun W b v => SQO W b (v) xs) V.heap.size (v 10) V1 := hg 10 (by omega)
  obtain ⟨Gw, cw, g10, hoq, -⟩ := ho
  have g11 : v 11 = .int .i64 r3 := hg 11 (by omega)
  simp only [List.drop_succ_cons, List.drop_zero, putV, dsBestRaceResult5, g0, g1, g2, g3, g4, g5, g6, g7, g8, g9, g10, g11, Act.put]
  clear g0 g1 g2 g3 g4 g5 g6 g7 g8 g9 g10 g11 hg hIW
  have hb := hW.out
  have hbw : V.heap.size ≤ bs := hbs
  clear hW hbs
  have uV1 := Below.size (show Below V.heap.size V V1 from hb)
  replace C0 := Lib.hid (C0.out.below hb)
  replace C1 := Lib.hid (C1.out.below hb)
  replace Sown := Lib.hid (Sown.out.below hb)
  replace Sother := Lib.hid (Sother.out.below hb)
  replace HB := Lib.hid (Bel.trans HB.out hb)
  clear hb
  have Hw := Lib.hid (hoq.set (S' := fun k => k < bs ∨ V1.heap.size ≤ k) fun k hk => hk)
  clear hoq
  have bw := hbw
  clear hbw
  have cC0_0 := C0.out.cell 0 _ rfl
  have cC0_1 := C0.out.cell 1 _ rfl
  have cC0_2 := C0.out.cell 2 _ rfl
  have cC0_3 := C0.out.cell 3 _ rfl
  have cC1_0 := C1.out.cell 0 _ rfl
  have cC1_1 := C1.out.cell 1 _ rfl
  have zC0 := C0.out.lt
  have zC1 := C1.out.lt
  go_wp2_with (fail)
  refine (toInt64S_any _ _ _ _ _ Sown.out hn').mono ?_
  rintro e V2 ⟨Y1, y1, rfl, ho, hb⟩
  clear cC0_0 cC0_1 cC0_2 cC0_3 zC0 cC1_0 cC1_1 zC1
  replace Hw := Lib.hid (Hw.out.below hb)
  have uV2 := Below.size (show Below V1.heap.size V1 V2 from hb)
  replace C0 := Lib.hid (C0.out.below hb)
  replace C1 := Lib.hid (C1.out.below hb)
  replace Sown := Lib.hid (Sown.out.below hb)
  replace Sother := Lib.hid (Sother.out.below hb)
  replace HB := Lib.hid (Bel.trans HB.out hb)
  clear hb
  have H1k := Lib.hid (ho.sl rfl).2
  have UH1 : Hid (∀ k, (.slice Y1 own.length y1 : Value).ownBlock = some k → k < V2.heap.size) := fun k hk => (ho.lt k hk).2
  have H1 := Lib.hid ho
  clear ho
  have cC0_0 := C0.out.cell 0 _ rfl
  have cC0_1 := C0.out.cell 1 _ rfl
  have cC0_2 := C0.out.cell 2 _ rfl
  have cC0_3 := C0.out.cell 3 _ rfl
  have cC1_0 := C1.out.cell 0 _ rfl
  have cC1_1 := C1.out.cell 1 _ rfl
  have zC0 := C0.out.lt
  have zC1 := C1.out.lt
  go_wp2_with (fail)
  refine (toInt64S_any _ _ _ _ _ Sother.out hm').mono ?_
  rintro e V3 ⟨Y2, y2, rfl, ho, hb⟩
  clear cC0_0 cC0_1 cC0_2 cC0_3 zC0 cC1_0 cC1_1 zC1
  replace Hw := Lib.hid (Hw.out.below hb)
  replace H1 := Lib.hid (H1.out.below hb)
  have uV3 := Below.size (show Below V2.heap.size V2 V3 from hb)
  replace C0 := Lib.hid (C0.out.below hb)
  replace C1 := Lib.hid (C1.out.below hb)
  replace Sown := Lib.hid (Sown.out.below hb)
  replace Sother := Lib.hid (Sother.out.below hb)
  replace HB := Lib.hid (Bel.trans HB.out hb)
  clear hb
  have H2k := Lib.hid (ho.sl rfl).2
  have UH2 : Hid (∀ k, (.slice Y2 other.length y2 : Value).ownBlock = some k → k < V3.heap.size) := fun k hk => (ho.lt k hk).2
  have H2 := Lib.hid ho
  clear ho
  have cC0_0 := C0.out.cell 0 _ rfl
  have cC0_1 := C0.out.cell 1 _ rfl
  have cC0_2 := C0.out.cell 2 _ rfl
  have cC0_3 := C0.out.cell 3 _ rfl
  have cC1_0 := C1.out.cell 0 _ rfl
  have cC1_1 := C1.out.cell 1 _ rfl
  have zC0 := C0.out.lt
  have zC1 := C1.out.lt
  go_wp2_with (fail)
  clear cC0_0 cC0_1 cC0_2 cC0_3 zC0 cC1_0 cC1_1 zC1
  refine wp_region_early 10 (fun i => i == 9) dsBestRaceResult8 Bel (fun _ => True) (GL [Eqv (.agg #[.int .i64 p, .int .i64 c, .int .i64 h, .int .i64 s]), Eqv (.agg #[.int .i64 p, .int .i64 c, .int .i64 h, .int .i64 s]), Eqv (.slice Y1 own.length y1), Eqv (.slice Y2 other.length y2), Eqv (.agg #[.int .i64 ra, .int .i64 rb]), Eqv (.agg #[.int .i64 ra, .int .i64 rb]), RowT (fun W b v => OwnS W b 2 (v) xs) V3.heap.size [.int .i64 r3], RowT (fun W b v => OwnS W b 2 (v) xs) V3.heap.size [.int .i64 r3], RowE (fun W b v => OwnS W b 2 (v) xs) V3.heap.size, Eqv (.int .i64 r3)]) (by kernel_rfl) (by kernel_rfl) (fun _ _ _ _ _ h => h) (fun _ _ _ h1 h2 => Bel.trans h1 h2) Bel.rfl' (GL.stab (by repeat (first | exact AllStb.nil | refine AllStb.cons (by first | exact stb_eq _ | exact stb_cpy _ | exact stb_rowT stO_I | exact stb_rowE stO_I) ?_))) (Bel.drew _) trivial ?_ ?_ ?_
  · intro i o hi hX ho a' W hW hIW hfar hdep
    have e4 : a'.tmps.getD 4 undef = .pointer (some ⟨w.heap.size, 0, none⟩) := (hfar 4 (by decide)).trans rfl
    have e7 : a'.tmps.getD 7 undef = .pointer (some ⟨w.heap.size + 1, 0, none⟩) := (hfar 7 (by decide)).trans rfl
    have e11 : a'.tmps.getD 11 undef = .slice Y1 own.length y1 := (hfar 11 (by decide)).trans rfl
    have e12 : a'.tmps.getD 12 undef = .slice Y2 other.length y2 := (hfar 12 (by decide)).trans rfl
    have dep : ∀ j, j < 10 → Region.waitsFor .any _ i j = true → GL [Eqv (.agg #[.int .i64 p, .int .i64 c, .int .i64 h, .int .i64 s]), Eqv (.agg #[.int .i64 p, .int .i64 c, .int .i64 h, .int .i64 s]), Eqv (.slice Y1 own.length y1), Eqv (.slice Y2 other.length y2), Eqv (.agg #[.int .i64 ra, .int .i64 rb]), Eqv (.agg #[.int .i64 ra, .int .i64 rb]), RowT (fun W b v => OwnS W b 2 (v) xs) V3.heap.size [.int .i64 r3], RowT (fun W b v => OwnS W b 2 (v) xs) V3.heap.size [.int .i64 r3], RowE (fun W b v => OwnS W b 2 (v) xs) V3.heap.size, Eqv (.int .i64 r3)] j (a'.tmps.getD (dsBestRaceResult8 j) undef) W := hdep
    have hi8 : i = 9 := by simpa using hX
    clear hfar hdep hX hi
    subst hi8
    simp at ho
    subst ho
    · obtain ⟨u, bs, d1, h1, h2⟩ : RowT (fun W b v => OwnS W b 2 (v) xs) V3.heap.size [.int .i64 r3] (a'.tmps.getD 42 undef) W := dep 7 (by omega) (by kernel_rfl)
      replace d1 : a'.tmps.getD 42 undef = .tuple #[u, .int .i64 r3] := d1
      exact ⟨.int .i64 r3, fun W' => by simp only [execOp, Act.eval, d1]; go_simp, rfl⟩
  · intro i o hi hX ho a' W hW hIW hfar hdep
    have e4 : a'.tmps.getD 4 undef = .pointer (some ⟨w.heap.size, 0, none⟩) := (hfar 4 (by decide)).trans rfl
    have e7 : a'.tmps.getD 7 undef = .pointer (some ⟨w.heap.size + 1, 0, none⟩) := (hfar 7 (by decide)).trans rfl
    have e11 : a'.tmps.getD 11 undef = .slice Y1 own.length y1 := (hfar 11 (by decide)).trans rfl
    have e12 : a'.tmps.getD 12 undef = .slice Y2 other.length y2 := (hfar 12 (by decide)).trans rfl
    have dep : ∀ j, j < 10 → Region.waitsFor .any _ i j = true → GL [Eqv (.agg #[.int .i64 p, .int .i64 c, .int .i64 h, .int .i64 s]), Eqv (.agg #[.int .i64 p, .int .i64 c, .int .i64 h, .int .i64 s]), Eqv (.slice Y1 own.length y1), Eqv (.slice Y2 other.length y2), Eqv (.agg #[.int .i64 ra, .int .i64 rb]), Eqv (.agg #[.int .i64 ra, .int .i64 rb]), RowT (fun W b v => OwnS W b 2 (v) xs) V3.heap.size [.int .i64 r3], RowT (fun W b v => OwnS W b 2 (v) xs) V3.heap.size [.int .i64 r3], RowE (fun W b v => OwnS W b 2 (v) xs) V3.heap.size, Eqv (.int .i64 r3)] j (a'.tmps.getD (dsBestRaceResult8 j) undef) W := hdep
    have hi8 : i = 0 ∨ i = 1 ∨ i = 2 ∨ i = 3 ∨ i = 4 ∨ i = 5 ∨ i = 6 ∨ i = 7 ∨ i = 8 := by simp at hX; omega
    clear hfar hdep hX hi
    rcases hi8 with rfl | rfl | rfl | rfl | rfl | rfl | rfl | rfl | rfl
    all_goals (simp at ho; subst ho)
    · have zz := C0.out.below hW
      have z0 := zz.cell 0 _ rfl
      have z1 := zz.cell 1 _ rfl
      have z2 := zz.cell 2 _ rfl
      have z3 := zz.cell 3 _ rfl
      exact .inl ⟨.agg #[.int .i64 p, .int .i64 c, .int .i64 h, .int .i64 s], W, by simp only [execOp, Act.eval, e4]; go_simp, Bel.rfl' _, trivial, rfl⟩
    · have d1 : a'.tmps.getD 43 undef = .agg #[.int .i64 p, .int .i64 c, .int .i64 h, .int .i64 s] := dep 0 (by omega) (by kernel_rfl)
      refine .inr ⟨12, #[.agg #[.int .i64 p, .int .i64 c, .int .i64 h, .int .i64 s]], by simp only [execOp, Act.eval, d1]; go_simp, ?_⟩
      refine (toVariant_any _ _ _ _ _).mono ?_
      rintro e W' ⟨rfl, hb'⟩
      exact ⟨_, rfl, hb', trivial, rfl⟩
    · exact .inl ⟨.slice Y1 own.length y1, W, by simp only [execOp, Act.eval, e11]; go_simp, Bel.rfl' _, trivial, rfl⟩
    · exact .inl ⟨.slice Y2 other.length y2, W, by simp only [execOp, Act.eval, e12]; go_simp, Bel.rfl' _, trivial, rfl⟩
    · have zz := C1.out.below hW
      have z0 := zz.cell 0 _ rfl
      have z1 := zz.cell 1 _ rfl
      exact .inl ⟨.agg #[.int .i64 ra, .int .i64 rb], W, by simp only [execOp, Act.eval, e7]; go_simp, Bel.rfl' _, trivial, rfl⟩
    · have d1 : a'.tmps.getD 47 undef = .agg #[.int .i64 ra, .int .i64 rb] := dep 4 (by omega) (by kernel_rfl)
      refine .inr ⟨18, #[.agg #[.int .i64 ra, .int .i64 rb]], by simp only [execOp, Act.eval, d1]; go_simp, ?_⟩
      refine (toRoll_any _ _ _).mono ?_
      rintro e W' ⟨rfl, hb'⟩
      exact ⟨_, rfl, hb', trivial, rfl⟩
    · have d44 : a'.tmps.getD 44 undef = .agg #[.int .i64 p, .int .i64 c, .int .i64 h, .int .i64 s] := dep 1 (by omega) (by kernel_rfl)
      have d45 : a'.tmps.getD 45 undef = .slice Y1 own.length y1 := dep 2 (by omega) (by kernel_rfl)
      have d46 : a'.tmps.getD 46 undef = .slice Y2 other.length y2 := dep 3 (by omega) (by kernel_rfl)
      have d48 : a'.tmps.getD 48 undef = .agg #[.int .i64 ra, .int .i64 rb] := dep 5 (by omega) (by kernel_rfl)
      refine .inr ⟨19, #[.agg #[.int .i64 p, .int .i64 c, .int .i64 h, .int .i64 s], .slice Y1 own.length y1, .slice Y2 other.length y2, .agg #[.int .i64 ra, .int .i64 rb]], by simp only [execOp, Act.eval, d44, d45, d46, d48]; go_simp, ?_⟩
      refine (CI.out W _ _ _ _ ((H1.out.sl rfl).1.below hW) ((H2.out.sl rfl).1.below hW) H1k.out H2k.out).mono ?_
      rintro e W' ⟨u, bs, rfl, hbs, ho, hb'⟩
      exact ⟨_, rfl, hb', trivial, u, bs, rfl, Nat.le_trans (Below.size hW) hbs, ho⟩
    · obtain ⟨u, bs, d1, h1, h2⟩ : RowT (fun W b v => OwnS W b 2 (v) xs) V3.heap.size [.int .i64 r3] (a'.tmps.getD 49 undef) W := dep 6 (by omega) (by kernel_rfl)
      replace d1 : a'.tmps.getD 49 undef = .tuple #[u, .int .i64 r3] := d1
      exact .inl ⟨.tuple #[u, .int .i64 r3], W, by simp only [execOp, Act.eval, d1]; go_simp, Bel.rfl' _, trivial, u, bs, rfl, h1, h2⟩
    · obtain ⟨u, bs, d1, h1, h2⟩ : RowT (fun W b v => OwnS W b 2 (v) xs) V3.heap.size [.int .i64 r3] (a'.tmps.getD 42 undef) W := dep 7 (by omega) (by kernel_rfl)
      replace d1 : a'.tmps.getD 42 undef = .tuple #[u, .int .i64 r3] := d1
      exact .inl ⟨u, W, by simp only [execOp, Act.eval, d1]; go_simp, Bel.rfl' _, trivial, bs, h1, h2⟩
  intro v V4 hW hIW hg
  have g0 : v 0 = .agg #[.int .i64 p, .int .i64 c, .int .i64 h, .int .i64 s] := hg 0 (by omega)
  have g1 : v 1 = .agg #[.int .i64 p, .int .i64 c, .int .i64 h, .int .i64 s] := hg 1 (by omega)
  have g2 : v 2 = .slice Y1 own.length y1 := hg 2 (by omega)
  have g3 : v 3 = .slice Y2 other.length y2 := hg 3 (by omega)
  have g4 : v 4 = .agg #[.int .i64 ra, .int .i64 rb] := hg 4 (by omega)
  have g5 : v 5 = .agg #[.int .i64 ra, .int .i64 rb] := hg 5 (by omega)
  obtain ⟨_, _, g6, _, _⟩ : RowT (fun W b v => OwnS W b 2 (v) xs) V3.heap.size [.int .i64 r3] (v 6) V4 := hg 6 (by omega)
  obtain ⟨_, _, g7, _, _⟩ : RowT (fun W b v => OwnS W b 2 (v) xs) V3.heap.size [.int .i64 r3] (v 7) V4 := hg 7 (by omega)
  obtain ⟨bs, hbs, ho⟩ : RowE (fun W b v => OwnS W b 2 (v) xs) V3.heap.size (v 8) V4 := hg 8 (by omega)
  obtain ⟨Gg, cg, g8, -, -⟩ := ho.read
  rw [g8] at ho
  have g9 : v 9 = .int .i64 r3 := hg 9 (by omega)
  simp only [List.drop_succ_cons, List.drop_zero, putV, dsBestRaceResult8, g0, g1, g2, g3, g4, g5, g6, g7, g8, g9, Act.put]
  clear g0 g1 g2 g3 g4 g5 g6 g7 g8 g9 hg hIW
  have hb := hW.out
  have hbw : V3.heap.size ≤ bs := hbs
  clear hW hbs
  replace Hw := Lib.hid (Hw.out.below hb)
  replace H1 := Lib.hid (H1.out.below hb)
  replace H2 := Lib.hid (H2.out.below hb)
  have uV4 := Below.size (show Below V3.heap.size V3 V4 from hb)
  replace C0 := Lib.hid (C0.out.below hb)
  replace C1 := Lib.hid (C1.out.below hb)
  replace Sown := Lib.hid (Sown.out.below hb)
  replace Sother := Lib.hid (Sother.out.below hb)
  replace HB := Lib.hid (Bel.trans HB.out hb)
  clear hb
  have UHg : Hid (∀ k, (.slice Gg xs.length cg : Value).ownBlock = some k → k < V4.heap.size) := fun k hk => (ho.lt k hk).2
  have Hg := Lib.hid ho
  clear ho
  have bg := hbw
  clear hbw
  have nr3 : (r3 != r3) = false := by simp
  go_wp2_with (fail)
  refine (eqInt64S_yes _ _ _ _ _ _ _ (Hg.out.sl rfl).1 Hw.out.1 (by omega)).mono ?_
  rintro e V5 ⟨rfl, hb⟩
  replace Hw := Lib.hid (Hw.out.below hb)
  replace H1 := Lib.hid (H1.out.below hb)
  replace H2 := Lib.hid (H2.out.below hb)
  replace Hg := Lib.hid (Hg.out.below hb)
  have uV5 := Below.size (show Below V4.heap.size V4 V5 from hb)
  replace C0 := Lib.hid (C0.out.below hb)
  replace C1 := Lib.hid (C1.out.below hb)
  replace Sown := Lib.hid (Sown.out.below hb)
  replace Sother := Lib.hid (Sother.out.below hb)
  replace HB := Lib.hid (Bel.trans HB.out hb)
  clear hb
  go_wp2_with (fail)
  refine (toInt64S_any _ _ _ _ _ Sown.out hn').mono ?_
  rintro e V6 ⟨Z1, u1, rfl, ho, hb⟩
  have U := Lib.hid (ho.sl rfl).1
  clear ho
  replace Hw := Lib.hid (Hw.out.below hb)
  replace H1 := Lib.hid (H1.out.below hb)
  replace H2 := Lib.hid (H2.out.below hb)
  replace Hg := Lib.hid (Hg.out.below hb)
  have uV6 := Below.size (show Below V5.heap.size V5 V6 from hb)
  replace C0 := Lib.hid (C0.out.below hb)
  replace C1 := Lib.hid (C1.out.below hb)
  replace Sown := Lib.hid (Sown.out.below hb)
  replace Sother := Lib.hid (Sother.out.below hb)
  replace HB := Lib.hid (Bel.trans HB.out hb)
  clear hb
  go_wp2_with (fail)
  refine (eqInt64S_yes _ _ _ _ _ _ _ (H1.out.sl rfl).1 U.out oown).mono ?_
  rintro e V7 ⟨rfl, hb⟩
  replace Hw := Lib.hid (Hw.out.below hb)
  replace H1 := Lib.hid (H1.out.below hb)
  replace H2 := Lib.hid (H2.out.below hb)
  replace Hg := Lib.hid (Hg.out.below hb)
  have uV7 := Below.size (show Below V6.heap.size V6 V7 from hb)
  replace C0 := Lib.hid (C0.out.below hb)
  replace C1 := Lib.hid (C1.out.below hb)
  replace Sown := Lib.hid (Sown.out.below hb)
  replace Sother := Lib.hid (Sother.out.below hb)
  replace U := Lib.hid (U.out.below hb)
  replace HB := Lib.hid (Bel.trans HB.out hb)
  clear hb
  clear U
  go_wp2_with (fail)
  refine (toInt64S_any _ _ _ _ _ Sother.out hm').mono ?_
  rintro e V8 ⟨Z2, u2, rfl, ho, hb⟩
  have U := Lib.hid (ho.sl rfl).1
  clear ho
  replace Hw := Lib.hid (Hw.out.below hb)
  replace H1 := Lib.hid (H1.out.below hb)
  replace H2 := Lib.hid (H2.out.below hb)
  replace Hg := Lib.hid (Hg.out.below hb)
  have uV8 := Below.size (show Below V7.heap.size V7 V8 from hb)
  replace C0 := Lib.hid (C0.out.below hb)
  replace C1 := Lib.hid (C1.out.below hb)
  replace Sown := Lib.hid (Sown.out.below hb)
  replace Sother := Lib.hid (Sother.out.below hb)
  replace HB := Lib.hid (Bel.trans HB.out hb)
  clear hb
  go_wp2_with (fail)
  refine (eqInt64S_yes _ _ _ _ _ _ _ (H2.out.sl rfl).1 U.out oother).mono ?_
  rintro e V9 ⟨rfl, hb⟩
  replace Hw := Lib.hid (Hw.out.below hb)
  replace H1 := Lib.hid (H1.out.below hb)
  replace H2 := Lib.hid (H2.out.below hb)
  replace Hg := Lib.hid (Hg.out.below hb)
  have uV9 := Below.size (show Below V8.heap.size V8 V9 from hb)
  replace C0 := Lib.hid (C0.out.below hb)
  replace C1 := Lib.hid (C1.out.below hb)
  replace Sown := Lib.hid (Sown.out.below hb)
  replace Sother := Lib.hid (Sother.out.below hb)
  replace U := Lib.hid (U.out.below hb)
  replace HB := Lib.hid (Bel.trans HB.out hb)
  clear hb
  clear U
  clear Sown
  clear Sother
  go_wp2_with (fail)
  have M := markInt64S_any Y1 own.length y1 _ _ own (1) V9 H1.out oown (by omega)
  obtain ⟨K1, hK1⟩ : ∃ K : Int, ((1 + own.length : Nat) : Int) = K := ⟨_, rfl⟩
  have hKp1 : 0 ≤ K1 := by omega
  have hKn1 : ¬ K1 < 0 := by omega
  rw [hK1] at M
  refine M.mono ?_
  rintro e V10 ⟨rfl, -, hg⟩
  clear M
  have hf := Frm.of_grown hg
  clear hg
  have LB := fun j hj => (H1.out.lt j hj).1
  replace C0 := Lib.hid (C0.out.frm hf (fun h => by have := LB _ h.symm; omega))
  replace C1 := Lib.hid (C1.out.frm hf (fun h => by have := LB _ h.symm; omega))
  replace Hw := Lib.hid (Hw.out.frm (hf.mono fun j h => .inr (by have := LB _ h.symm; omega)))
  replace H2 := Lib.hid (hf.own H2.out (fun j hj h => by have := UH1.out _ h.symm; have := (H2.out.lt j hj).1; omega))
  replace Hg := Lib.hid (hf.own Hg.out (fun j hj h => by have := UH1.out _ h.symm; have := (Hg.out.lt j hj).1; omega))
  replace HB := Lib.hid (show Bel w V10 from frm_lo HB.out hf (fun j h => by have := LB _ h.symm; omega))
  have uV10 := (hf).size
  clear LB
  clear hf H1 UH1
  go_wp2_with (fail)
  have M := markInt64S_any Y2 other.length y2 _ _ other (1 + own.length) V10 H2.out oother (by omega)
  obtain ⟨K2, hK2⟩ : ∃ K : Int, ((1 + own.length + other.length : Nat) : Int) = K := ⟨_, rfl⟩
  have hKp2 : 0 ≤ K2 := by omega
  have hKn2 : ¬ K2 < 0 := by omega
  rw [hK1, hK2] at M
  have HK2 := Lib.hid hK2
  clear hK2
  refine M.mono ?_
  rintro e V11 ⟨rfl, -, hg⟩
  clear M
  have hf := Frm.of_grown hg
  clear hg
  have HK1 := Lib.hid hK1
  clear hK1
  have LB := fun j hj => (H2.out.lt j hj).1
  replace C0 := Lib.hid (C0.out.frm hf (fun h => by have := LB _ h.symm; omega))
  replace C1 := Lib.hid (C1.out.frm hf (fun h => by have := LB _ h.symm; omega))
  replace Hw := Lib.hid (Hw.out.frm (hf.mono fun j h => .inr (by have := LB _ h.symm; omega)))
  replace Hg := Lib.hid (hf.own Hg.out (fun j hj h => by have := UH2.out _ h.symm; have := (Hg.out.lt j hj).1; omega))
  replace HB := Lib.hid (show Bel w V11 from frm_lo HB.out hf (fun j h => by have := LB _ h.symm; omega))
  have uV11 := (hf).size
  clear LB
  clear hf H2 UH2
  go_wp2_with (fail)
  refine (eqInt64S_yes _ _ _ _ _ _ _ (Hg.out.sl rfl).1 Hw.out.1 (by omega)).mono ?_
  rintro e V12 ⟨rfl, hb⟩
  replace Hw := Lib.hid (Hw.out.below hb)
  replace Hg := Lib.hid (Hg.out.below hb)
  have uV12 := Below.size (show Below V11.heap.size V11 V12 from hb)
  replace C0 := Lib.hid (C0.out.below hb)
  replace C1 := Lib.hid (C1.out.below hb)
  replace HB := Lib.hid (Bel.trans HB.out hb)
  clear hb
  go_wp2_with (fail)
  have M := markInt64S_any Gg xs.length cg _ _ xs 1 V12 Hg.out (by omega) (by omega)
  obtain ⟨KM, hKM⟩ : ∃ K : Int, ((1 + xs.length : Nat) : Int) = K := ⟨_, rfl⟩
  have hMp : 0 ≤ KM := by omega
  have hMn : ¬ KM < 0 := by omega
  have hMM : (KM != KM) = false := by simp
  rw [hKM] at M
  have HKM := Lib.hid hKM
  clear hKM
  refine M.mono ?_
  rintro e V13 ⟨rfl, ho, hg⟩
  clear M
  have hf := Frm.of_grown hg
  clear hg
  have LB := fun j hj => (Hg.out.lt j hj).1
  replace C0 := Lib.hid (C0.out.frm hf (fun h => by have := LB _ h.symm; omega))
  replace C1 := Lib.hid (C1.out.frm hf (fun h => by have := LB _ h.symm; omega))
  replace Hw := Lib.hid (Hw.out.frm (hf.mono fun j h => .inr (by have := LB _ h.symm; omega)))
  replace HB := Lib.hid (show Bel w V13 from frm_lo HB.out hf (fun j h => by have := LB _ h.symm; omega))
  have uV13 := (hf).size
  clear LB
  replace Hg := Lib.hid ho
  clear ho hf
  go_wp2_with (fail)
  have M := heldInt64S_yes Gg xs.length cg 1 V13 (Hg.out.sl rfl).1 (by omega) (by omega)
  rw [HKM.out] at M
  refine M.mono ?_
  rintro e W' ⟨rfl, rfl⟩
  clear M
  have Sown := Lib.hid (Aown.out.below HB.out)
  have Sother := Lib.hid (Aother.out.below HB.out)
  have cC0_0 := C0.out.cell 0 _ rfl
  have cC0_1 := C0.out.cell 1 _ rfl
  have cC0_2 := C0.out.cell 2 _ rfl
  have cC0_3 := C0.out.cell 3 _ rfl
  have cC1_0 := C1.out.cell 0 _ rfl
  have cC1_1 := C1.out.cell 1 _ rfl
  have zC0 := C0.out.lt
  have zC1 := C1.out.lt
  go_wp2_with (fail)
  clear cC0_0 cC0_1 cC0_2 cC0_3 zC0 cC1_0 cC1_1 zC1
  refine wp_region_early 12 (fun i => i == 11) dsBestRaceResult28 Bel (fun _ => True) (GL [Eqv (.agg #[.int .i64 p, .int .i64 c, .int .i64 h, .int .i64 s]), Eqv (.agg #[.int .i64 p, .int .i64 c, .int .i64 h, .int .i64 s]), Eqv (.slice A n ca), Cpy own, Eqv (.slice B m cb), Cpy other, Eqv (.agg #[.int .i64 ra, .int .i64 rb]), Eqv (.agg #[.int .i64 ra, .int .i64 rb]), RowT (fun W b v => OwnS W b 2 (v) xs) V13.heap.size [.int .i64 r3], RowT (fun W b v => OwnS W b 2 (v) xs) V13.heap.size [.int .i64 r3], RowE (fun W b v => OwnS W b 2 (v) xs) V13.heap.size, Eqv (.int .i64 r3)]) (by kernel_rfl) (by kernel_rfl) (fun _ _ _ _ _ h => h) (fun _ _ _ h1 h2 => Bel.trans h1 h2) Bel.rfl' (GL.stab (by repeat (first | exact AllStb.nil | refine AllStb.cons (by first | exact stb_eq _ | exact stb_cpy _ | exact stb_rowT stO_I | exact stb_rowE stO_I) ?_))) (Bel.drew _) trivial ?_ ?_ ?_
  · intro i o hi hX ho a' W hW hIW hfar hdep
    have e1 : a'.tmps.getD 1 undef = .slice A n ca := (hfar 1 (by decide)).trans rfl
    have e2 : a'.tmps.getD 2 undef = .slice B m cb := (hfar 2 (by decide)).trans rfl
    have e4 : a'.tmps.getD 4 undef = .pointer (some ⟨w.heap.size, 0, none⟩) := (hfar 4 (by decide)).trans rfl
    have e7 : a'.tmps.getD 7 undef = .pointer (some ⟨w.heap.size + 1, 0, none⟩) := (hfar 7 (by decide)).trans rfl
    have dep : ∀ j, j < 12 → Region.waitsFor .any _ i j = true → GL [Eqv (.agg #[.int .i64 p, .int .i64 c, .int .i64 h, .int .i64 s]), Eqv (.agg #[.int .i64 p, .int .i64 c, .int .i64 h, .int .i64 s]), Eqv (.slice A n ca), Cpy own, Eqv (.slice B m cb), Cpy other, Eqv (.agg #[.int .i64 ra, .int .i64 rb]), Eqv (.agg #[.int .i64 ra, .int .i64 rb]), RowT (fun W b v => OwnS W b 2 (v) xs) V13.heap.size [.int .i64 r3], RowT (fun W b v => OwnS W b 2 (v) xs) V13.heap.size [.int .i64 r3], RowE (fun W b v => OwnS W b 2 (v) xs) V13.heap.size, Eqv (.int .i64 r3)] j (a'.tmps.getD (dsBestRaceResult28 j) undef) W := hdep
    have hi8 : i = 11 := by simpa using hX
    clear hfar hdep hX hi
    subst hi8
    simp at ho
    subst ho
    · obtain ⟨u, bs, d1, h1, h2⟩ : RowT (fun W b v => OwnS W b 2 (v) xs) V13.heap.size [.int .i64 r3] (a'.tmps.getD 101 undef) W := dep 9 (by omega) (by kernel_rfl)
      replace d1 : a'.tmps.getD 101 undef = .tuple #[u, .int .i64 r3] := d1
      exact ⟨.int .i64 r3, fun W' => by simp only [execOp, Act.eval, d1]; go_simp, rfl⟩
  · intro i o hi hX ho a' W hW hIW hfar hdep
    have e1 : a'.tmps.getD 1 undef = .slice A n ca := (hfar 1 (by decide)).trans rfl
    have e2 : a'.tmps.getD 2 undef = .slice B m cb := (hfar 2 (by decide)).trans rfl
    have e4 : a'.tmps.getD 4 undef = .pointer (some ⟨w.heap.size, 0, none⟩) := (hfar 4 (by decide)).trans rfl
    have e7 : a'.tmps.getD 7 undef = .pointer (some ⟨w.heap.size + 1, 0, none⟩) := (hfar 7 (by decide)).trans rfl
    have dep : ∀ j, j < 12 → Region.waitsFor .any _ i j = true → GL [Eqv (.agg #[.int .i64 p, .int .i64 c, .int .i64 h, .int .i64 s]), Eqv (.agg #[.int .i64 p, .int .i64 c, .int .i64 h, .int .i64 s]), Eqv (.slice A n ca), Cpy own, Eqv (.slice B m cb), Cpy other, Eqv (.agg #[.int .i64 ra, .int .i64 rb]), Eqv (.agg #[.int .i64 ra, .int .i64 rb]), RowT (fun W b v => OwnS W b 2 (v) xs) V13.heap.size [.int .i64 r3], RowT (fun W b v => OwnS W b 2 (v) xs) V13.heap.size [.int .i64 r3], RowE (fun W b v => OwnS W b 2 (v) xs) V13.heap.size, Eqv (.int .i64 r3)] j (a'.tmps.getD (dsBestRaceResult28 j) undef) W := hdep
    have hi8 : i = 0 ∨ i = 1 ∨ i = 2 ∨ i = 3 ∨ i = 4 ∨ i = 5 ∨ i = 6 ∨ i = 7 ∨ i = 8 ∨ i = 9 ∨ i = 10 := by simp at hX; omega
    clear hfar hdep hX hi
    rcases hi8 with rfl | rfl | rfl | rfl | rfl | rfl | rfl | rfl | rfl | rfl | rfl
    all_goals (simp at ho; subst ho)
    · have zz := C0.out.below hW
      have z0 := zz.cell 0 _ rfl
      have z1 := zz.cell 1 _ rfl
      have z2 := zz.cell 2 _ rfl
      have z3 := zz.cell 3 _ rfl
      exact .inl ⟨.agg #[.int .i64 p, .int .i64 c, .int .i64 h, .int .i64 s], W, by simp only [execOp, Act.eval, e4]; go_simp, Bel.rfl' _, trivial, rfl⟩
    · have d1 : a'.tmps.getD 102 undef = .agg #[.int .i64 p, .int .i64 c, .int .i64 h, .int .i64 s] := dep 0 (by omega) (by kernel_rfl)
      refine .inr ⟨12, #[.agg #[.int .i64 p, .int .i64 c, .int .i64 h, .int .i64 s]], by simp only [execOp, Act.eval, d1]; go_simp, ?_⟩
      refine (toVariant_any _ _ _ _ _).mono ?_
      rintro e W' ⟨rfl, hb'⟩
      exact ⟨_, rfl, hb', trivial, rfl⟩
    · exact .inl ⟨.slice A n ca, W, by simp only [execOp, Act.eval, e1]; go_simp, Bel.rfl' _, trivial, rfl⟩
    · have d1 : a'.tmps.getD 104 undef = .slice A n ca := dep 2 (by omega) (by kernel_rfl)
      refine .inr ⟨13, #[.slice A n ca], by simp only [execOp, Act.eval, d1]; go_simp, ?_⟩
      refine (toInt64S_any _ _ _ _ _ (Sown.out.below hW) hn').mono ?_
      rintro e W' ⟨X1, k1, rfl, ho1, hb'⟩
      exact ⟨_, rfl, hb', trivial, X1, k1, rfl, (ho1.sl rfl).1, (ho1.sl rfl).2⟩
    · exact .inl ⟨.slice B m cb, W, by simp only [execOp, Act.eval, e2]; go_simp, Bel.rfl' _, trivial, rfl⟩
    · have d1 : a'.tmps.getD 106 undef = .slice B m cb := dep 4 (by omega) (by kernel_rfl)
      refine .inr ⟨13, #[.slice B m cb], by simp only [execOp, Act.eval, d1]; go_simp, ?_⟩
      refine (toInt64S_any _ _ _ _ _ (Sother.out.below hW) hm').mono ?_
      rintro e W' ⟨X1, k1, rfl, ho1, hb'⟩
      exact ⟨_, rfl, hb', trivial, X1, k1, rfl, (ho1.sl rfl).1, (ho1.sl rfl).2⟩
    · have zz := C1.out.below hW
      have z0 := zz.cell 0 _ rfl
      have z1 := zz.cell 1 _ rfl
      exact .inl ⟨.agg #[.int .i64 ra, .int .i64 rb], W, by simp only [execOp, Act.eval, e7]; go_simp, Bel.rfl' _, trivial, rfl⟩
    · have d1 : a'.tmps.getD 108 undef = .agg #[.int .i64 ra, .int .i64 rb] := dep 6 (by omega) (by kernel_rfl)
      refine .inr ⟨18, #[.agg #[.int .i64 ra, .int .i64 rb]], by simp only [execOp, Act.eval, d1]; go_simp, ?_⟩
      refine (toRoll_any _ _ _).mono ?_
      rintro e W' ⟨rfl, hb'⟩
      exact ⟨_, rfl, hb', trivial, rfl⟩
    · have d103 : a'.tmps.getD 103 undef = .agg #[.int .i64 p, .int .i64 c, .int .i64 h, .int .i64 s] := dep 1 (by omega) (by kernel_rfl)
      obtain ⟨X1, k1, d105, s1, l1⟩ : Cpy own (a'.tmps.getD 105 undef) W := dep 3 (by omega) (by kernel_rfl)
      obtain ⟨X2, k2, d107, s2, l2⟩ : Cpy other (a'.tmps.getD 107 undef) W := dep 5 (by omega) (by kernel_rfl)
      have d109 : a'.tmps.getD 109 undef = .agg #[.int .i64 ra, .int .i64 rb] := dep 7 (by omega) (by kernel_rfl)
      refine .inr ⟨19, #[.agg #[.int .i64 p, .int .i64 c, .int .i64 h, .int .i64 s], .slice X1 own.length k1, .slice X2 other.length k2, .agg #[.int .i64 ra, .int .i64 rb]], by simp only [execOp, Act.eval, d103, d105, d107, d109]; go_simp, ?_⟩
      refine (CI.out W X1 k1 X2 k2 s1 s2 l1 l2).mono ?_
      rintro e W' ⟨u, bs, rfl, hbs, ho, hb'⟩
      exact ⟨_, rfl, hb', trivial, u, bs, rfl, Nat.le_trans (Below.size hW) hbs, ho⟩
    · obtain ⟨u, bs, d1, h1, h2⟩ : RowT (fun W b v => OwnS W b 2 (v) xs) V13.heap.size [.int .i64 r3] (a'.tmps.getD 110 undef) W := dep 8 (by omega) (by kernel_rfl)
      replace d1 : a'.tmps.getD 110 undef = .tuple #[u, .int .i64 r3] := d1
      exact .inl ⟨.tuple #[u, .int .i64 r3], W, by simp only [execOp, Act.eval, d1]; go_simp, Bel.rfl' _, trivial, u, bs, rfl, h1, h2⟩
    · obtain ⟨u, bs, d1, h1, h2⟩ : RowT (fun W b v => OwnS W b 2 (v) xs) V13.heap.size [.int .i64 r3] (a'.tmps.getD 101 undef) W := dep 9 (by omega) (by kernel_rfl)
      replace d1 : a'.tmps.getD 101 undef = .tuple #[u, .int .i64 r3] := d1
      exact .inl ⟨u, W, by simp only [execOp, Act.eval, d1]; go_simp, Bel.rfl' _, trivial, bs, h1, h2⟩
  intro v V14 hW hIW hg
  have g0 : v 0 = .agg #[.int .i64 p, .int .i64 c, .int .i64 h, .int .i64 s] := hg 0 (by omega)
  have g1 : v 1 = .agg #[.int .i64 p, .int .i64 c, .int .i64 h, .int .i64 s] := hg 1 (by omega)
  have g2 : v 2 = .slice A n ca := hg 2 (by omega)
  obtain ⟨_, _, g3, _, _⟩ : Cpy own (v 3) V14 := hg 3 (by omega)
  have g4 : v 4 = .slice B m cb := hg 4 (by omega)
  obtain ⟨_, _, g5, _, _⟩ : Cpy other (v 5) V14 := hg 5 (by omega)
  have g6 : v 6 = .agg #[.int .i64 ra, .int .i64 rb] := hg 6 (by omega)
  have g7 : v 7 = .agg #[.int .i64 ra, .int .i64 rb] := hg 7 (by omega)
  obtain ⟨_, _, g8, _, _⟩ : RowT (fun W b v => OwnS W b 2 (v) xs) V13.heap.size [.int .i64 r3] (v 8) V14 := hg 8 (by omega)
  obtain ⟨_, _, g9, _, _⟩ : RowT (fun W b v => OwnS W b 2 (v) xs) V13.heap.size [.int .i64 r3] (v 9) V14 := hg 9 (by omega)
  obtain ⟨bs, hbs, ho⟩ : RowE (fun W b v => OwnS W b 2 (v) xs) V13.heap.size (v 10) V14 := hg 10 (by omega)
  obtain ⟨Gh, ch, g10, -, -⟩ := ho.read
  rw [g10] at ho
  have g11 : v 11 = .int .i64 r3 := hg 11 (by omega)
  simp only [List.drop_succ_cons, List.drop_zero, putV, dsBestRaceResult28, g0, g1, g2, g3, g4, g5, g6, g7, g8, g9, g10, g11, Act.put]
  clear g0 g1 g2 g3 g4 g5 g6 g7 g8 g9 g10 g11 hg hIW
  have hb := hW.out
  have hbw : V13.heap.size ≤ bs := hbs
  clear hW hbs
  replace Hw := Lib.hid (Hw.out.below hb)
  replace Hg := Lib.hid (Hg.out.below hb)
  have uV14 := Below.size (show Below V13.heap.size V13 V14 from hb)
  replace C0 := Lib.hid (C0.out.below hb)
  replace C1 := Lib.hid (C1.out.below hb)
  replace Sown := Lib.hid (Sown.out.below hb)
  replace Sother := Lib.hid (Sother.out.below hb)
  replace HB := Lib.hid (Bel.trans HB.out hb)
  clear hb
  have UHh : Hid (∀ k, (.slice Gh xs.length ch : Value).ownBlock = some k → k < V14.heap.size) := fun k hk => (ho.lt k hk).2
  have Hh := Lib.hid ho
  clear ho
  have bh := hbw
  clear hbw
  go_wp2_with (fail)
  refine (eqInt64S_yes _ _ _ _ _ _ _ (Hh.out.sl rfl).1 Hw.out.1 (by omega)).mono ?_
  rintro e V15 ⟨rfl, hb⟩
  replace Hw := Lib.hid (Hw.out.below hb)
  replace Hg := Lib.hid (Hg.out.below hb)
  replace Hh := Lib.hid (Hh.out.below hb)
  have uV15 := Below.size (show Below V14.heap.size V14 V15 from hb)
  replace C0 := Lib.hid (C0.out.below hb)
  replace C1 := Lib.hid (C1.out.below hb)
  replace Sown := Lib.hid (Sown.out.below hb)
  replace Sother := Lib.hid (Sother.out.below hb)
  replace HB := Lib.hid (Bel.trans HB.out hb)
  clear hb
  go_wp2_with (fail)
  have M := heldInt64S_yes Gg xs.length cg 1 V15 (Hg.out.sl rfl).1 (by omega) (by omega)
  rw [HKM.out] at M
  refine M.mono ?_
  rintro e W' ⟨rfl, rfl⟩
  clear M
  go_wp2_with (fail)
  go_ret
  exact ⟨rfl, HB.out⟩
end Go.Proofs.YtlbkfhdnhalpbaaGreat

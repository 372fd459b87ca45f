/- The statement FnExactRollChances, the law's walk. There are no conditions. -/
import Derived.Test.YtlbkfhdnhalpbaaGreatN65
import Derived.Test.YtlbkfhdnhalpbaaGreatL6
import Derived.Test.YtlbkfhdnhalpbaaGreatZl
namespace Go.Proofs.YtlbkfhdnhalpbaaGreat
set_option linter.unusedVariables false
set_option linter.unusedSimpArgs false
open Go.RowKit Ps Ra Ex

set_option maxRecDepth 100000 in
set_option maxHeartbeats 8000000 in
theorem rollChances_law (p c h s : Int) (A B : Option Addr) (n m ca cb : Nat) (own other : List Int) (w : World) (hown : SL w A n own) (hother : SL w B m other) :
    Calls Tryz.prog 7 #[.agg #[.int .i64 p, .int .i64 c, .int .i64 h, .int .i64 s], .slice A n ca, .slice B m cb] w fun e w' => e = .returned (.bool true) ∧ Below w.heap.size w w' := by
  have hV0 : Bel w (w.alloc (.cells #[.int .i64 p, .int .i64 c, .int .i64 h, .int .i64 s] 23)) := Bel.alloc _ _
  have C0 : Cel (w.alloc (.cells #[.int .i64 p, .int .i64 c, .int .i64 h, .int .i64 s] 23)) (w.heap.size) [.int .i64 p, .int .i64 c, .int .i64 h, .int .i64 s] := Cel.new' _ _ _ (by simp)
  have Sown := hown.below hV0
  have Lown := Lib.hid hown.1
  have Aown := Lib.hid hown
  clear hown
  have Sother := hother.below hV0
  have Lother := Lib.hid hother.1
  have Aother := Lib.hid hother
  clear hother
  have HB := Lib.hid hV0
  clear hV0
  replace C0 := Lib.hid C0
  replace Sown := Lib.hid Sown
  replace Sother := Lib.hid Sother
  by_cases hn : (1048576 : Int) < (n : Int)
  · go_enter Tryz.func7, Tryz.ntmps7
    go_wp2
    go_ret
    exact ⟨rfl, HB.out⟩
  by_cases hm : (1048576 : Int) < (m : Int)
  · go_enter Tryz.func7, Tryz.ntmps7
    go_wp2
    go_ret
    exact ⟨rfl, HB.out⟩
  have hn' : n ≤ 2000000 := by omega
  have oown : own.length ≤ 2000000 := by rw [Lown.out]; exact hn'
  have hm' : m ≤ 2000000 := by omega
  have oother : other.length ≤ 2000000 := by rw [Lother.out]; exact hm'
  obtain ⟨r, hr⟩ : ∃ r, r = chanR p c h s own other := ⟨_, rfl⟩
  have hlen := chanR_len p c h s own other
  rw [← hr] at hlen
  obtain ⟨xs, r3⟩ := r
  replace hlen : xs.length ≤ 1000000 := hlen
  have CS : Hid (∀ (W : World) (X1 : Option Addr) (k1 : Nat) (X2 : Option Addr) (k2 : Nat), SL W X1 own.length own → SL W X2 other.length other → own.length ≤ k1 → other.length ≤ k2 → Calls Tryz.prog 47 #[.agg #[.int .i64 p, .int .i64 c, .int .i64 h, .int .i64 s], .slice X1 own.length k1, .slice X2 other.length k2] W fun e w' => ∃ v b, e = .returned (.tuple #[v, .int .i64 r3]) ∧ W.heap.size ≤ b ∧ OwnE w' b (v) xs ∧ Below W.heap.size W w') := fun W X1 k1 X2 k2 s1 s2 l1 l2 => by
    have := sRollChances_any p c h s X1 X2 _ _ k1 k2 own other W s1 s2 l1 l2; rw [← hr] at this; exact this
  have CI : Hid (∀ (W : World) (X1 : Option Addr) (k1 : Nat) (X2 : Option Addr) (k2 : Nat), SL W X1 own.length own → SL W X2 other.length other → own.length ≤ k1 → other.length ≤ k2 → Calls Tryz.prog 48 #[.agg #[.int .i64 p, .int .i64 c, .int .i64 h, .int .i64 s], .slice X1 own.length k1, .slice X2 other.length k2] W fun e w' => ∃ v b, e = .returned (.tuple #[v, .int .i64 r3]) ∧ W.heap.size ≤ b ∧ OwnE w' b (v) xs ∧ Below W.heap.size W w') := fun W X1 k1 X2 k2 s1 s2 l1 l2 => by
    have := RollChances_any p c h s X1 X2 _ _ k1 k2 own other W s1 s2 l1 l2; rw [← hr] at this; exact this
  clear hr
  go_enter Tryz.func7, Tryz.ntmps7
  go_wp2_with (fail)
  generalize (w.alloc (.cells #[.int .i64 p, .int .i64 c, .int .i64 h, .int .i64 s] 23)) = V at *
  have zV0 := C0.out.lt
  refine (toVariant_any _ _ _ _ _).mono ?_
  rintro e V1 ⟨rfl, hb⟩
  have uV1 := Below.size (show Below V.heap.size V V1 from hb)
  replace C0 := Lib.hid (C0.out.below hb)
  replace Sown := Lib.hid (Sown.out.below hb)
  replace Sother := Lib.hid (Sother.out.below hb)
  replace HB := Lib.hid (Bel.trans HB.out hb)
  clear hb
  have cC0_0 := C0.out.cell 0 _ rfl
  have cC0_1 := C0.out.cell 1 _ rfl
  have cC0_2 := C0.out.cell 2 _ rfl
  have cC0_3 := C0.out.cell 3 _ rfl
  have zC0 := C0.out.lt
  go_wp2_with (fail)
  refine (toInt64S_any _ _ _ _ _ Sown.out hn').mono ?_
  rintro e V2 ⟨X1, x1, rfl, ho, hb⟩
  have P1 := Lib.hid (ho.sl rfl).1
  have P1k := Lib.hid (ho.sl rfl).2
  clear ho
  clear cC0_0 cC0_1 cC0_2 cC0_3 zC0
  have uV2 := Below.size (show Below V1.heap.size V1 V2 from hb)
  replace C0 := Lib.hid (C0.out.below hb)
  replace Sown := Lib.hid (Sown.out.below hb)
  replace Sother := Lib.hid (Sother.out.below hb)
  replace HB := Lib.hid (Bel.trans HB.out hb)
  clear hb
  have cC0_0 := C0.out.cell 0 _ rfl
  have cC0_1 := C0.out.cell 1 _ rfl
  have cC0_2 := C0.out.cell 2 _ rfl
  have cC0_3 := C0.out.cell 3 _ rfl
  have zC0 := C0.out.lt
  go_wp2_with (fail)
  refine (toInt64S_any _ _ _ _ _ Sother.out hm').mono ?_
  rintro e V3 ⟨X2, x2, rfl, ho, hb⟩
  have P2 := Lib.hid (ho.sl rfl).1
  have P2k := Lib.hid (ho.sl rfl).2
  clear ho
  clear cC0_0 cC0_1 cC0_2 cC0_3 zC0
  have uV3 := Below.size (show Below V2.heap.size V2 V3 from hb)
  replace C0 := Lib.hid (C0.out.below hb)
  replace Sown := Lib.hid (Sown.out.below hb)
  replace Sother := Lib.hid (Sother.out.below hb)
  replace P1 := Lib.hid (P1.out.below hb)
  replace HB := Lib.hid (Bel.trans HB.out hb)
  clear hb
  have cC0_0 := C0.out.cell 0 _ rfl
  have cC0_1 := C0.out.cell 1 _ rfl
  have cC0_2 := C0.out.cell 2 _ rfl
  have cC0_3 := C0.out.cell 3 _ rfl
  have zC0 := C0.out.lt
  go_wp2_with (fail)
  refine (CS.out _ _ _ _ _ P1.out P2.out P1k.out P2k.out).mono ?_
  rintro e V4 ⟨v, bs, rfl, hbs, ho, hb⟩
  obtain ⟨Gw, cw, rfl, -, -⟩ := ho.el
  clear cC0_0 cC0_1 cC0_2 cC0_3 zC0
  have hbw : V3.heap.size ≤ bs := hbs
  have uV4 := Below.size (show Below V3.heap.size V3 V4 from hb)
  replace C0 := Lib.hid (C0.out.below hb)
  replace Sown := Lib.hid (Sown.out.below hb)
  replace Sother := Lib.hid (Sother.out.below hb)
  replace P1 := Lib.hid (P1.out.below hb)
  replace P2 := Lib.hid (P2.out.below hb)
  replace HB := Lib.hid (Bel.trans HB.out hb)
  clear hb
  have UHw : Hid (∀ k, (.slice Gw xs.length cw : Value).ownBlock = some k → k < V4.heap.size) := fun k hk => (ho.lt' (k := k) hk).2
  have Hw := Lib.hid ho
  clear ho
  have bw := hbw
  clear hbw hbs
  have cC0_0 := C0.out.cell 0 _ rfl
  have cC0_1 := C0.out.cell 1 _ rfl
  have cC0_2 := C0.out.cell 2 _ rfl
  have cC0_3 := C0.out.cell 3 _ rfl
  have zC0 := C0.out.lt
  go_wp2_with (fail)
  refine (toInt64S_any _ _ _ _ _ Sown.out hn').mono ?_
  rintro e V5 ⟨Y1, y1, rfl, ho, hb⟩
  clear cC0_0 cC0_1 cC0_2 cC0_3 zC0
  replace Hw := Lib.hid (Hw.out.below hb)
  have uV5 := Below.size (show Below V4.heap.size V4 V5 from hb)
  replace C0 := Lib.hid (C0.out.below hb)
  replace Sown := Lib.hid (Sown.out.below hb)
  replace Sother := Lib.hid (Sother.out.below hb)
  replace HB := Lib.hid (Bel.trans HB.out hb)
  clear hb
  have H1k := Lib.hid (ho.sl rfl).2
  have UH1 : Hid (∀ k, (.slice Y1 own.length y1 : Value).ownBlock = some k → k < V5.heap.size) := fun k hk => (ho.lt k hk).2
  have H1 := Lib.hid ho
  clear ho
  have cC0_0 := C0.out.cell 0 _ rfl
  have cC0_1 := C0.out.cell 1 _ rfl
  have cC0_2 := C0.out.cell 2 _ rfl
  have cC0_3 := C0.out.cell 3 _ rfl
  have zC0 := C0.out.lt
  go_wp2_with (fail)
  refine (toInt64S_any _ _ _ _ _ Sother.out hm').mono ?_
  rintro e V6 ⟨Y2, y2, rfl, ho, hb⟩
  clear cC0_0 cC0_1 cC0_2 cC0_3 zC0
  replace Hw := Lib.hid (Hw.out.below hb)
  replace H1 := Lib.hid (H1.out.below hb)
  have uV6 := Below.size (show Below V5.heap.size V5 V6 from hb)
  replace C0 := Lib.hid (C0.out.below hb)
  replace Sown := Lib.hid (Sown.out.below hb)
  replace Sother := Lib.hid (Sother.out.below hb)
  replace HB := Lib.hid (Bel.trans HB.out hb)
  clear hb
  have H2k := Lib.hid (ho.sl rfl).2
  have UH2 : Hid (∀ k, (.slice Y2 other.length y2 : Value).ownBlock = some k → k < V6.heap.size) := fun k hk => (ho.lt k hk).2
  have H2 := Lib.hid ho
  clear ho
  have cC0_0 := C0.out.cell 0 _ rfl
  have cC0_1 := C0.out.cell 1 _ rfl
  have cC0_2 := C0.out.cell 2 _ rfl
  have cC0_3 := C0.out.cell 3 _ rfl
  have zC0 := C0.out.lt
  go_wp2_with (fail)
  refine (toVariant_any _ _ _ _ _).mono ?_
  rintro e V7 ⟨rfl, hb⟩
  clear cC0_0 cC0_1 cC0_2 cC0_3 zC0
  replace Hw := Lib.hid (Hw.out.below hb)
  replace H1 := Lib.hid (H1.out.below hb)
  replace H2 := Lib.hid (H2.out.below hb)
  have uV7 := Below.size (show Below V6.heap.size V6 V7 from hb)
  replace C0 := Lib.hid (C0.out.below hb)
  replace Sown := Lib.hid (Sown.out.below hb)
  replace Sother := Lib.hid (Sother.out.below hb)
  replace HB := Lib.hid (Bel.trans HB.out hb)
  clear hb
  have cC0_0 := C0.out.cell 0 _ rfl
  have cC0_1 := C0.out.cell 1 _ rfl
  have cC0_2 := C0.out.cell 2 _ rfl
  have cC0_3 := C0.out.cell 3 _ rfl
  have zC0 := C0.out.lt
  go_wp2_with (fail)
  refine (CI.out _ _ _ _ _ (H1.out.sl rfl).1 (H2.out.sl rfl).1 H1k.out H2k.out).mono ?_
  rintro e V8 ⟨v, bs, rfl, hbs, ho, hb⟩
  obtain ⟨Gg, cg, rfl, -, -⟩ := ho.el
  clear cC0_0 cC0_1 cC0_2 cC0_3 zC0
  have hbw : V7.heap.size ≤ bs := hbs
  replace Hw := Lib.hid (Hw.out.below hb)
  replace H1 := Lib.hid (H1.out.below hb)
  replace H2 := Lib.hid (H2.out.below hb)
  have uV8 := Below.size (show Below V7.heap.size V7 V8 from hb)
  replace C0 := Lib.hid (C0.out.below hb)
  replace Sown := Lib.hid (Sown.out.below hb)
  replace Sother := Lib.hid (Sother.out.below hb)
  replace HB := Lib.hid (Bel.trans HB.out hb)
  clear hb
  have UHg : Hid (∀ k, (.slice Gg xs.length cg : Value).ownBlock = some k → k < V8.heap.size) := fun k hk => (ho.lt' (k := k) hk).2
  have Hg := Lib.hid ho
  clear ho
  have bg := hbw
  clear hbw hbs
  have nr3 : (r3 != r3) = false := by simp
  go_wp2_with (fail)
  refine (eqExactS_yes _ _ _ _ _ _ _ (Hg.out.elv).1 (Hw.out.elv).1 (by omega)).mono ?_
  rintro e V9 ⟨rfl, hb⟩
  replace Hw := Lib.hid (Hw.out.below hb)
  replace H1 := Lib.hid (H1.out.below hb)
  replace H2 := Lib.hid (H2.out.below hb)
  replace Hg := Lib.hid (Hg.out.below hb)
  have uV9 := Below.size (show Below V8.heap.size V8 V9 from hb)
  replace C0 := Lib.hid (C0.out.below hb)
  replace Sown := Lib.hid (Sown.out.below hb)
  replace Sother := Lib.hid (Sother.out.below hb)
  replace HB := Lib.hid (Bel.trans HB.out hb)
  clear hb
  go_wp2_with (fail)
  refine (toInt64S_any _ _ _ _ _ Sown.out hn').mono ?_
  rintro e V10 ⟨Z1, u1, rfl, ho, hb⟩
  have U := Lib.hid (ho.sl rfl).1
  clear ho
  replace Hw := Lib.hid (Hw.out.below hb)
  replace H1 := Lib.hid (H1.out.below hb)
  replace H2 := Lib.hid (H2.out.below hb)
  replace Hg := Lib.hid (Hg.out.below hb)
  have uV10 := Below.size (show Below V9.heap.size V9 V10 from hb)
  replace C0 := Lib.hid (C0.out.below hb)
  replace Sown := Lib.hid (Sown.out.below hb)
  replace Sother := Lib.hid (Sother.out.below hb)
  replace HB := Lib.hid (Bel.trans HB.out hb)
  clear hb
  go_wp2_with (fail)
  refine (eqInt64S_yes _ _ _ _ _ _ _ (H1.out.sl rfl).1 U.out oown).mono ?_
  rintro e V11 ⟨rfl, hb⟩
  replace Hw := Lib.hid (Hw.out.below hb)
  replace H1 := Lib.hid (H1.out.below hb)
  replace H2 := Lib.hid (H2.out.below hb)
  replace Hg := Lib.hid (Hg.out.below hb)
  have uV11 := Below.size (show Below V10.heap.size V10 V11 from hb)
  replace C0 := Lib.hid (C0.out.below hb)
  replace Sown := Lib.hid (Sown.out.below hb)
  replace Sother := Lib.hid (Sother.out.below hb)
  replace U := Lib.hid (U.out.below hb)
  replace HB := Lib.hid (Bel.trans HB.out hb)
  clear hb
  clear U
  go_wp2_with (fail)
  refine (toInt64S_any _ _ _ _ _ Sother.out hm').mono ?_
  rintro e V12 ⟨Z2, u2, rfl, ho, hb⟩
  have U := Lib.hid (ho.sl rfl).1
  clear ho
  replace Hw := Lib.hid (Hw.out.below hb)
  replace H1 := Lib.hid (H1.out.below hb)
  replace H2 := Lib.hid (H2.out.below hb)
  replace Hg := Lib.hid (Hg.out.below hb)
  have uV12 := Below.size (show Below V11.heap.size V11 V12 from hb)
  replace C0 := Lib.hid (C0.out.below hb)
  replace Sown := Lib.hid (Sown.out.below hb)
  replace Sother := Lib.hid (Sother.out.below hb)
  replace HB := Lib.hid (Bel.trans HB.out hb)
  clear hb
  go_wp2_with (fail)
  refine (eqInt64S_yes _ _ _ _ _ _ _ (H2.out.sl rfl).1 U.out oother).mono ?_
  rintro e V13 ⟨rfl, hb⟩
  replace Hw := Lib.hid (Hw.out.below hb)
  replace H1 := Lib.hid (H1.out.below hb)
  replace H2 := Lib.hid (H2.out.below hb)
  replace Hg := Lib.hid (Hg.out.below hb)
  have uV13 := Below.size (show Below V12.heap.size V12 V13 from hb)
  replace C0 := Lib.hid (C0.out.below hb)
  replace Sown := Lib.hid (Sown.out.below hb)
  replace Sother := Lib.hid (Sother.out.below hb)
  replace U := Lib.hid (U.out.below hb)
  replace HB := Lib.hid (Bel.trans HB.out hb)
  clear hb
  clear U
  clear Sown
  clear Sother
  go_wp2_with (fail)
  have M := markInt64S_any Y1 own.length y1 _ _ own (1) V13 H1.out oown (by omega)
  obtain ⟨K1, hK1⟩ : ∃ K : Int, ((1 + own.length : Nat) : Int) = K := ⟨_, rfl⟩
  have hKp1 : 0 ≤ K1 := by omega
  have hKn1 : ¬ K1 < 0 := by omega
  rw [hK1] at M
  refine M.mono ?_
  rintro e V14 ⟨rfl, -, hg⟩
  clear M
  have hf := Frm.of_grown hg
  clear hg
  have LB := fun j hj => (H1.out.lt j hj).1
  replace C0 := Lib.hid (C0.out.frm hf (fun h => by have := LB _ h.symm; omega))
  replace Hw := Lib.hid (hf.rowE Hw.out (fun j hj h => by have := LB _ h.symm; have := UHw.out _ hj; omega))
  replace H2 := Lib.hid (hf.own H2.out (fun j hj h => by have := UH1.out _ h.symm; have := (H2.out.lt j hj).1; omega))
  replace Hg := Lib.hid (hf.rowE Hg.out (fun j hj h => by have := UH1.out _ h.symm; have := (Hg.out.lt' (k := j) hj).1; omega))
  replace HB := Lib.hid (show Bel w V14 from frm_low HB.out hf (fun j h => by have := LB _ h.symm; omega))
  have uV14 := (hf).size
  clear LB
  clear hf H1 UH1
  go_wp2_with (fail)
  have M := markInt64S_any Y2 other.length y2 _ _ other (1 + own.length) V14 H2.out oother (by omega)
  obtain ⟨K2, hK2⟩ : ∃ K : Int, ((1 + own.length + other.length : Nat) : Int) = K := ⟨_, rfl⟩
  have hKp2 : 0 ≤ K2 := by omega
  have hKn2 : ¬ K2 < 0 := by omega
  rw [hK1, hK2] at M
  have HK2 := Lib.hid hK2
  clear hK2
  refine M.mono ?_
  rintro e V15 ⟨rfl, -, hg⟩
  clear M
  have hf := Frm.of_grown hg
  clear hg
  have HK1 := Lib.hid hK1
  clear hK1
  have LB := fun j hj => (H2.out.lt j hj).1
  replace C0 := Lib.hid (C0.out.frm hf (fun h => by have := LB _ h.symm; omega))
  replace Hw := Lib.hid (hf.rowE Hw.out (fun j hj h => by have := LB _ h.symm; have := UHw.out _ hj; omega))
  replace Hg := Lib.hid (hf.rowE Hg.out (fun j hj h => by have := UH2.out _ h.symm; have := (Hg.out.lt' (k := j) hj).1; omega))
  replace HB := Lib.hid (show Bel w V15 from frm_low HB.out hf (fun j h => by have := LB _ h.symm; omega))
  have uV15 := (hf).size
  clear LB
  clear hf H2 UH2
  go_wp2_with (fail)
  refine (eqExactS_yes _ _ _ _ _ _ _ (Hg.out.elv).1 (Hw.out.elv).1 (by omega)).mono ?_
  rintro e V16 ⟨rfl, hb⟩
  replace Hw := Lib.hid (Hw.out.below hb)
  replace Hg := Lib.hid (Hg.out.below hb)
  have uV16 := Below.size (show Below V15.heap.size V15 V16 from hb)
  replace C0 := Lib.hid (C0.out.below hb)
  replace HB := Lib.hid (Bel.trans HB.out hb)
  clear hb
  go_wp2_with (fail)
  have M := markExactS_any Gg xs.length cg _ xs 1 V16 Hg.out (by omega) (by omega)
  obtain ⟨KM, hKM⟩ : ∃ K : Int, ((1 + xs.length * 2 : Nat) : Int) = K := ⟨_, rfl⟩
  have hMp : 0 ≤ KM := by omega
  have hMn : ¬ KM < 0 := by omega
  have hMM : (KM != KM) = false := by simp
  rw [hKM] at M
  have HKM := Lib.hid hKM
  clear hKM
  refine M.mono ?_
  rintro e V17 ⟨rfl, ho, hg⟩
  clear M
  have hf := Frm.of_grown hg
  clear hg
  have LB := fun j hj => (Hg.out.lt' (k := j) hj).1
  replace C0 := Lib.hid (C0.out.frm hf (fun h => by have := LB _ h.symm; omega))
  replace Hw := Lib.hid (hf.rowE Hw.out (fun j hj h => by have := LB _ h.symm; have := UHw.out _ hj; omega))
  replace HB := Lib.hid (show Bel w V17 from frm_low HB.out hf (fun j h => by have := LB _ h.symm; omega))
  have uV17 := (hf).size
  clear LB
  replace Hg := Lib.hid ho
  clear ho hf
  go_wp2_with (fail)
  have M := heldExactS_yes Gg xs.length cg 1 V17 (Hg.out.elv).1 (by omega) (by omega)
  rw [HKM.out] at M
  refine M.mono ?_
  rintro e W' ⟨rfl, rfl⟩
  clear M
  have Sown := Lib.hid (Aown.out.below HB.out)
  have Sother := Lib.hid (Aother.out.below HB.out)
  have cC0_0 := C0.out.cell 0 _ rfl
  have cC0_1 := C0.out.cell 1 _ rfl
  have cC0_2 := C0.out.cell 2 _ rfl
  have cC0_3 := C0.out.cell 3 _ rfl
  have zC0 := C0.out.lt
  go_wp2_with (fail)
  refine (toVariant_any _ _ _ _ _).mono ?_
  rintro e V18 ⟨rfl, hb⟩
  clear cC0_0 cC0_1 cC0_2 cC0_3 zC0
  replace Hw := Lib.hid (Hw.out.below hb)
  replace Hg := Lib.hid (Hg.out.below hb)
  have uV18 := Below.size (show Below V17.heap.size V17 V18 from hb)
  replace C0 := Lib.hid (C0.out.below hb)
  replace Sown := Lib.hid (Sown.out.below hb)
  replace Sother := Lib.hid (Sother.out.below hb)
  replace HB := Lib.hid (Bel.trans HB.out hb)
  clear hb
  have cC0_0 := C0.out.cell 0 _ rfl
  have cC0_1 := C0.out.cell 1 _ rfl
  have cC0_2 := C0.out.cell 2 _ rfl
  have cC0_3 := C0.out.cell 3 _ rfl
  have zC0 := C0.out.lt
  go_wp2_with (fail)
  refine (toInt64S_any _ _ _ _ _ Sown.out hn').mono ?_
  rintro e V19 ⟨X3, x3, rfl, ho, hb⟩
  have P3 := Lib.hid (ho.sl rfl).1
  have P3k := Lib.hid (ho.sl rfl).2
  clear ho
  clear cC0_0 cC0_1 cC0_2 cC0_3 zC0
  replace Hw := Lib.hid (Hw.out.below hb)
  replace Hg := Lib.hid (Hg.out.below hb)
  have uV19 := Below.size (show Below V18.heap.size V18 V19 from hb)
  replace C0 := Lib.hid (C0.out.below hb)
  replace Sown := Lib.hid (Sown.out.below hb)
  replace Sother := Lib.hid (Sother.out.below hb)
  replace HB := Lib.hid (Bel.trans HB.out hb)
  clear hb
  have cC0_0 := C0.out.cell 0 _ rfl
  have cC0_1 := C0.out.cell 1 _ rfl
  have cC0_2 := C0.out.cell 2 _ rfl
  have cC0_3 := C0.out.cell 3 _ rfl
  have zC0 := C0.out.lt
  go_wp2_with (fail)
  refine (toInt64S_any _ _ _ _ _ Sother.out hm').mono ?_
  rintro e V20 ⟨X4, x4, rfl, ho, hb⟩
  have P4 := Lib.hid (ho.sl rfl).1
  have P4k := Lib.hid (ho.sl rfl).2
  clear ho
  clear cC0_0 cC0_1 cC0_2 cC0_3 zC0
  replace Hw := Lib.hid (Hw.out.below hb)
  replace Hg := Lib.hid (Hg.out.below hb)
  have uV20 := Below.size (show Below V19.heap.size V19 V20 from hb)
  replace C0 := Lib.hid (C0.out.below hb)
  replace Sown := Lib.hid (Sown.out.below hb)
  replace Sother := Lib.hid (Sother.out.below hb)
  replace P3 := Lib.hid (P3.out.below hb)
  replace HB := Lib.hid (Bel.trans HB.out hb)
  clear hb
  have cC0_0 := C0.out.cell 0 _ rfl
  have cC0_1 := C0.out.cell 1 _ rfl
  have cC0_2 := C0.out.cell 2 _ rfl
  have cC0_3 := C0.out.cell 3 _ rfl
  have zC0 := C0.out.lt
  go_wp2_with (fail)
  refine (CI.out _ _ _ _ _ P3.out P4.out P3k.out P4k.out).mono ?_
  rintro e V21 ⟨v, bs, rfl, hbs, ho, hb⟩
  obtain ⟨Gh, ch, rfl, -, -⟩ := ho.el
  clear cC0_0 cC0_1 cC0_2 cC0_3 zC0
  have hbw : V20.heap.size ≤ bs := hbs
  replace Hw := Lib.hid (Hw.out.below hb)
  replace Hg := Lib.hid (Hg.out.below hb)
  have uV21 := Below.size (show Below V20.heap.size V20 V21 from hb)
  replace C0 := Lib.hid (C0.out.below hb)
  replace Sown := Lib.hid (Sown.out.below hb)
  replace Sother := Lib.hid (Sother.out.below hb)
  replace P3 := Lib.hid (P3.out.below hb)
  replace P4 := Lib.hid (P4.out.below hb)
  replace HB := Lib.hid (Bel.trans HB.out hb)
  clear hb
  have UHh : Hid (∀ k, (.slice Gh xs.length ch : Value).ownBlock = some k → k < V21.heap.size) := fun k hk => (ho.lt' (k := k) hk).2
  have Hh := Lib.hid ho
  clear ho
  have bh := hbw
  clear hbw hbs
  go_wp2_with (fail)
  refine (eqExactS_yes _ _ _ _ _ _ _ (Hh.out.elv).1 (Hw.out.elv).1 (by omega)).mono ?_
  rintro e V22 ⟨rfl, hb⟩
  replace Hw := Lib.hid (Hw.out.below hb)
  replace Hg := Lib.hid (Hg.out.below hb)
  replace Hh := Lib.hid (Hh.out.below hb)
  have uV22 := Below.size (show Below V21.heap.size V21 V22 from hb)
  replace C0 := Lib.hid (C0.out.below hb)
  replace Sown := Lib.hid (Sown.out.below hb)
  replace Sother := Lib.hid (Sother.out.below hb)
  replace HB := Lib.hid (Bel.trans HB.out hb)
  clear hb
  go_wp2_with (fail)
  have M := heldExactS_yes Gg xs.length cg 1 V22 (Hg.out.elv).1 (by omega) (by omega)
  rw [HKM.out] at M
  refine M.mono ?_
  rintro e W' ⟨rfl, rfl⟩
  clear M
  go_wp2_with (fail)
  go_ret
  exact ⟨rfl, HB.out⟩
end Go.Proofs.YtlbkfhdnhalpbaaGreat

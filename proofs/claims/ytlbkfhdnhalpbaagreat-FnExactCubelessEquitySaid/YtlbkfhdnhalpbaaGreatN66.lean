/- The statement FnExactCubelessEquity, the law's walk. There are no conditions. -/
import Derived.Test.YtlbkfhdnhalpbaaGreatN61
import Derived.Test.YtlbkfhdnhalpbaaGreatZv
namespace Go.Proofs.YtlbkfhdnhalpbaaGreat
set_option linter.unusedVariables false
set_option linter.unusedSimpArgs false
open Go.RowKit Ps Ra Ex

set_option maxRecDepth 100000 in
theorem cubelessEquity_law (p c h s : Int) (A B : Option Addr) (n m ca cb : Nat) (own other : List Int) (w : World) (hA : SL w A n own) (hB : SL w B m other) :
    Calls Tryz.prog 8 #[.agg #[.int .i64 p, .int .i64 c, .int .i64 h, .int .i64 s], .slice A n ca, .slice B m cb] w fun e w' => e = .returned (.bool true) ∧ Below w.heap.size w w' := by
  have HF : Hid (Fr w (w.alloc (.cells #[.int .i64 p, .int .i64 c, .int .i64 h, .int .i64 s] 23)) [[.int .i64 p, .int .i64 c, .int .i64 h, .int .i64 s]]) := (Fr.start w).allocT (by simp) _ _
  have HA := Lib.hid (hA.below HF.out.b)
  have HB := Lib.hid (hB.below HF.out.b)
  have HAL := Lib.hid hA.1
  have HBL := Lib.hid hB.1
  clear hA hB
  by_cases hn : (1048576 : Int) < (n : Int)
  · go_enter Tryz.func8, Tryz.ntmps8
    go_wp2
    go_ret
    exact ⟨rfl, HF.out.b⟩
  by_cases hm : (1048576 : Int) < (m : Int)
  · go_enter Tryz.func8, Tryz.ntmps8
    go_wp2
    go_ret
    exact ⟨rfl, HF.out.b⟩
  have hn' : n ≤ 2000000 := by omega
  have hm' : m ≤ 2000000 := by omega
  have hno : own.length ≤ 2000000 := by rw [HAL.out]; exact hn'
  have hmo : other.length ≤ 2000000 := by rw [HBL.out]; exact hm'
  go_enter Tryz.func8, Tryz.ntmps8
  go_wp2_with (fail)
  refine (toVariant_any _ _ _ _ _).mono ?_
  rintro e w1 ⟨rfl, hb1⟩
  have HF1 := Lib.hid (HF.out.below hb1)
  have HA1 := Lib.hid (HA.out.below hb1)
  have HB1 := Lib.hid (HB.out.below hb1)
  clear hb1 HF HA HB
  have z0 : w.heap.size < w1.heap.size := HF1.out.ltA 0 rfl (by simp)
  have c00 := HF1.out.cellA (b := w.heap.size) 0 0 rfl rfl
  have f00 := HF1.out.frozA (b := w.heap.size) 0 0 rfl rfl
  have c01 := HF1.out.cellA (b := w.heap.size) 0 1 rfl rfl
  have f01 := HF1.out.frozA (b := w.heap.size) 0 1 rfl rfl
  have c02 := HF1.out.cellA (b := w.heap.size) 0 2 rfl rfl
  have f02 := HF1.out.frozA (b := w.heap.size) 0 2 rfl rfl
  have c03 := HF1.out.cellA (b := w.heap.size) 0 3 rfl rfl
  have f03 := HF1.out.frozA (b := w.heap.size) 0 3 rfl rfl
  go_wp2_with (fail)
  refine (toInt64S_any _ _ _ _ _ HA1.out hn').mono ?_
  rintro e w2 ⟨X1, k1, rfl, ho1, hb2⟩
  have HX2 := Lib.hid (ho1.sl rfl)
  have HF2 := Lib.hid (HF1.out.below hb2)
  have HA2 := Lib.hid (HA1.out.below hb2)
  have HB2 := Lib.hid (HB1.out.below hb2)
  clear hb2 ho1 HF1 HA1 HB1
  clear z0 c00 f00 c01 f01 c02 f02 c03 f03
  have z0 : w.heap.size < w2.heap.size := HF2.out.ltA 0 rfl (by simp)
  have c00 := HF2.out.cellA (b := w.heap.size) 0 0 rfl rfl
  have f00 := HF2.out.frozA (b := w.heap.size) 0 0 rfl rfl
  have c01 := HF2.out.cellA (b := w.heap.size) 0 1 rfl rfl
  have f01 := HF2.out.frozA (b := w.heap.size) 0 1 rfl rfl
  have c02 := HF2.out.cellA (b := w.heap.size) 0 2 rfl rfl
  have f02 := HF2.out.frozA (b := w.heap.size) 0 2 rfl rfl
  have c03 := HF2.out.cellA (b := w.heap.size) 0 3 rfl rfl
  have f03 := HF2.out.frozA (b := w.heap.size) 0 3 rfl rfl
  go_wp2_with (fail)
  refine (toInt64S_any _ _ _ _ _ HB2.out hm').mono ?_
  rintro e w3 ⟨X2, k2, rfl, ho1, hb2⟩
  have HY3 := Lib.hid (ho1.sl rfl)
  have HX3 := Lib.hid (HX2.out.1.below hb2)
  have HXk := Lib.hid HX2.out.2
  have HF3 := Lib.hid (HF2.out.below hb2)
  have HA3 := Lib.hid (HA2.out.below hb2)
  have HB3 := Lib.hid (HB2.out.below hb2)
  clear hb2 ho1 HF2 HA2 HB2 HX2
  clear z0 c00 f00 c01 f01 c02 f02 c03 f03
  have z0 : w.heap.size < w3.heap.size := HF3.out.ltA 0 rfl (by simp)
  have c00 := HF3.out.cellA (b := w.heap.size) 0 0 rfl rfl
  have f00 := HF3.out.frozA (b := w.heap.size) 0 0 rfl rfl
  have c01 := HF3.out.cellA (b := w.heap.size) 0 1 rfl rfl
  have f01 := HF3.out.frozA (b := w.heap.size) 0 1 rfl rfl
  have c02 := HF3.out.cellA (b := w.heap.size) 0 2 rfl rfl
  have f02 := HF3.out.frozA (b := w.heap.size) 0 2 rfl rfl
  have c03 := HF3.out.cellA (b := w.heap.size) 0 3 rfl rfl
  have f03 := HF3.out.frozA (b := w.heap.size) 0 3 rfl rfl
  go_wp2_with (fail)
  refine (sCubelessEquity_any _ _ _ _ _ _ _ _ _ _ _ _ _ HX3.out HY3.out.1 HXk.out HY3.out.2).mono ?_
  rintro e w4 ⟨rfl, hb2⟩
  obtain ⟨r, hr⟩ : ∃ r, r = cubR p c h s own other := ⟨_, rfl⟩
  obtain ⟨r1, r2, r3⟩ := r
  rw [← hr]
  have HR := Lib.hid hr
  have HF4 := Lib.hid (HF3.out.below hb2)
  have HA4 := Lib.hid (HA3.out.below hb2)
  have HB4 := Lib.hid (HB3.out.below hb2)
  clear hb2 hr HF3 HA3 HB3 HX3 HY3 HXk
  clear z0 c00 f00 c01 f01 c02 f02 c03 f03
  have z0 : w.heap.size < w4.heap.size := HF4.out.ltA 0 rfl (by simp)
  have c00 := HF4.out.cellA (b := w.heap.size) 0 0 rfl rfl
  have f00 := HF4.out.frozA (b := w.heap.size) 0 0 rfl rfl
  have c01 := HF4.out.cellA (b := w.heap.size) 0 1 rfl rfl
  have f01 := HF4.out.frozA (b := w.heap.size) 0 1 rfl rfl
  have c02 := HF4.out.cellA (b := w.heap.size) 0 2 rfl rfl
  have f02 := HF4.out.frozA (b := w.heap.size) 0 2 rfl rfl
  have c03 := HF4.out.cellA (b := w.heap.size) 0 3 rfl rfl
  have f03 := HF4.out.frozA (b := w.heap.size) 0 3 rfl rfl
  go_wp2_with (fail)
  obtain ⟨V4, hV4⟩ : ∃ V, V = w4.alloc (.cells #[.int .i64 r1, .int .i64 r2] 26) := ⟨_, rfl⟩
  rw [← hV4]
  have HG4 : Hid (Fr w4 V4 [[.int .i64 r1, .int .i64 r2]]) := by rw [hV4]; exact (Fr.start w4).allocT (by simp) _ _
  have HF5 : Hid (Fr w V4 [[.int .i64 p, .int .i64 c, .int .i64 h, .int .i64 s]]) := by rw [hV4]; exact HF4.out.alloc _
  have HA5 : Hid (SL V4 A n own) := by rw [hV4]; exact HA4.out.alloc _
  have HB5 : Hid (SL V4 B m other) := by rw [hV4]; exact HB4.out.alloc _
  clear hV4 HF4 HA4 HB4
  refine (toInt64S_any _ _ _ _ _ HA5.out hn').mono ?_
  rintro e w5 ⟨X1, k1, rfl, ho1, hb2⟩
  have HX6 := Lib.hid (ho1.sl rfl)
  have HF6 := Lib.hid (HF5.out.below hb2)
  have HG6 := Lib.hid (HG4.out.below hb2)
  have HA6 := Lib.hid (HA5.out.below hb2)
  have HB6 := Lib.hid (HB5.out.below hb2)
  clear hb2 ho1 HF5 HG4 HA5 HB5
  clear z0 c00 f00 c01 f01 c02 f02 c03 f03
  have z0 : w.heap.size < w5.heap.size := HF6.out.ltA 0 rfl (by simp)
  have c00 := HF6.out.cellA (b := w.heap.size) 0 0 rfl rfl
  have f00 := HF6.out.frozA (b := w.heap.size) 0 0 rfl rfl
  have c01 := HF6.out.cellA (b := w.heap.size) 0 1 rfl rfl
  have f01 := HF6.out.frozA (b := w.heap.size) 0 1 rfl rfl
  have c02 := HF6.out.cellA (b := w.heap.size) 0 2 rfl rfl
  have f02 := HF6.out.frozA (b := w.heap.size) 0 2 rfl rfl
  have c03 := HF6.out.cellA (b := w.heap.size) 0 3 rfl rfl
  have f03 := HF6.out.frozA (b := w.heap.size) 0 3 rfl rfl
  go_wp2_with (fail)
  refine (toInt64S_any _ _ _ _ _ HB6.out hm').mono ?_
  rintro e w6 ⟨X2, k2, rfl, ho1, hb2⟩
  have HY7 := Lib.hid (ho1.sl rfl)
  have HX7 := Lib.hid (HX6.out.1.below hb2)
  have HXk := Lib.hid HX6.out.2
  have HF7 := Lib.hid (HF6.out.below hb2)
  have HG7 := Lib.hid (HG6.out.below hb2)
  have HA7 := Lib.hid (HA6.out.below hb2)
  have HB7 := Lib.hid (HB6.out.below hb2)
  clear hb2 ho1 HF6 HG6 HA6 HB6 HX6
  clear z0 c00 f00 c01 f01 c02 f02 c03 f03
  have z0 : w.heap.size < w6.heap.size := HF7.out.ltA 0 rfl (by simp)
  have c00 := HF7.out.cellA (b := w.heap.size) 0 0 rfl rfl
  have f00 := HF7.out.frozA (b := w.heap.size) 0 0 rfl rfl
  have c01 := HF7.out.cellA (b := w.heap.size) 0 1 rfl rfl
  have f01 := HF7.out.frozA (b := w.heap.size) 0 1 rfl rfl
  have c02 := HF7.out.cellA (b := w.heap.size) 0 2 rfl rfl
  have f02 := HF7.out.frozA (b := w.heap.size) 0 2 rfl rfl
  have c03 := HF7.out.cellA (b := w.heap.size) 0 3 rfl rfl
  have f03 := HF7.out.frozA (b := w.heap.size) 0 3 rfl rfl
  go_wp2_with (fail)
  refine (toVariant_any _ _ _ _ _).mono ?_
  rintro e w7 ⟨rfl, hb2⟩
  have HX8 := Lib.hid (HX7.out.below hb2)
  have HY8 := Lib.hid (HY7.out.1.below hb2)
  have HYk := Lib.hid HY7.out.2
  have HF8 := Lib.hid (HF7.out.below hb2)
  have HG8 := Lib.hid (HG7.out.below hb2)
  have HA8 := Lib.hid (HA7.out.below hb2)
  have HB8 := Lib.hid (HB7.out.below hb2)
  clear hb2 HF7 HG7 HA7 HB7 HX7 HY7
  clear z0 c00 f00 c01 f01 c02 f02 c03 f03
  have z0 : w.heap.size < w7.heap.size := HF8.out.ltA 0 rfl (by simp)
  have c00 := HF8.out.cellA (b := w.heap.size) 0 0 rfl rfl
  have f00 := HF8.out.frozA (b := w.heap.size) 0 0 rfl rfl
  have c01 := HF8.out.cellA (b := w.heap.size) 0 1 rfl rfl
  have f01 := HF8.out.frozA (b := w.heap.size) 0 1 rfl rfl
  have c02 := HF8.out.cellA (b := w.heap.size) 0 2 rfl rfl
  have f02 := HF8.out.frozA (b := w.heap.size) 0 2 rfl rfl
  have c03 := HF8.out.cellA (b := w.heap.size) 0 3 rfl rfl
  have f03 := HF8.out.frozA (b := w.heap.size) 0 3 rfl rfl
  go_wp2_with (fail)
  refine (CubelessEquity_any _ _ _ _ _ _ _ _ _ _ _ _ _ HX8.out HY8.out HXk.out HYk.out).mono ?_
  rintro e w8 ⟨rfl, hb2⟩
  rw [← HR.out]
  have HX9 := Lib.hid (HX8.out.below hb2)
  have HY9 := Lib.hid (HY8.out.below hb2)
  have HF9 := Lib.hid (HF8.out.below hb2)
  have HG9 := Lib.hid (HG8.out.below hb2)
  have HA9 := Lib.hid (HA8.out.below hb2)
  have HB9 := Lib.hid (HB8.out.below hb2)
  clear hb2 HF8 HG8 HA8 HB8 HX8 HY8
  clear z0 c00 f00 c01 f01 c02 f02 c03 f03
  have z0 : w.heap.size < w8.heap.size := HF9.out.ltA 0 rfl (by simp)
  have c00 := HF9.out.cellA (b := w.heap.size) 0 0 rfl rfl
  have f00 := HF9.out.frozA (b := w.heap.size) 0 0 rfl rfl
  have c01 := HF9.out.cellA (b := w.heap.size) 0 1 rfl rfl
  have f01 := HF9.out.frozA (b := w.heap.size) 0 1 rfl rfl
  have c02 := HF9.out.cellA (b := w.heap.size) 0 2 rfl rfl
  have f02 := HF9.out.frozA (b := w.heap.size) 0 2 rfl rfl
  have c03 := HF9.out.cellA (b := w.heap.size) 0 3 rfl rfl
  have f03 := HF9.out.frozA (b := w.heap.size) 0 3 rfl rfl
  have gz0 : w4.heap.size < w8.heap.size := HG9.out.ltA 0 rfl (by simp)
  have gc00 := HG9.out.cellA (b := w4.heap.size) 0 0 rfl rfl
  have gf00 := HG9.out.frozA (b := w4.heap.size) 0 0 rfl rfl
  have gc01 := HG9.out.cellA (b := w4.heap.size) 0 1 rfl rfl
  have gf01 := HG9.out.frozA (b := w4.heap.size) 0 1 rfl rfl
  have hr3 : (r3 != r3) = false := by simp
  have H9 : Hid (w4.heap.size < w8.heap.size) := gz0
  go_wp2_with (fail)
  refine (eqExact_yes _ _ _).mono ?_
  rintro e w9 ⟨rfl, hb2⟩
  have HXa := Lib.hid ((HX9.out.alloc _).below hb2)
  have HYa := Lib.hid ((HY9.out.alloc _).below hb2)
  have HFa := Lib.hid ((HF9.out.alloc _).below hb2)
  have HAa := Lib.hid ((HA9.out.alloc _).below hb2)
  have HBa := Lib.hid ((HB9.out.alloc _).below hb2)
  clear z0 c00 f00 c01 f01 c02 f02 c03 f03
  clear gz0 gc00 gf00 gc01 gf01
  clear hb2 HF9 HG9 HA9 HB9 HX9 HY9
  go_wp2_with (fail)
  refine (toInt64S_any _ _ _ _ _ HAa.out hn').mono ?_
  rintro e wb ⟨Z1, l1, rfl, ho1, hb2⟩
  have HZb := Lib.hid (ho1.sl rfl).1
  have HXb := Lib.hid (HXa.out.below hb2)
  have HYb := Lib.hid (HYa.out.below hb2)
  have HFb := Lib.hid (HFa.out.below hb2)
  have HBb := Lib.hid (HBa.out.below hb2)
  clear ho1 hb2 HXa HYa HFa HAa HBa
  go_wp2_with (fail)
  refine (eqInt64S_yes _ _ _ _ _ _ _ HXb.out HZb.out hno).mono ?_
  rintro e wc ⟨rfl, hb2⟩
  have HYc := Lib.hid (HYb.out.below hb2)
  have HFc := Lib.hid (HFb.out.below hb2)
  have HBc := Lib.hid (HBb.out.below hb2)
  clear hb2 HXb HYb HFb HBb HZb
  go_wp2_with (fail)
  refine (toInt64S_any _ _ _ _ _ HBc.out hm').mono ?_
  rintro e wd ⟨Z2, l2, rfl, ho1, hb2⟩
  have HZd := Lib.hid (ho1.sl rfl).1
  have HYd := Lib.hid (HYc.out.below hb2)
  have HFd := Lib.hid (HFc.out.below hb2)
  clear ho1 hb2 HYc HFc HBc
  go_wp2_with (fail)
  refine (eqInt64S_yes _ _ _ _ _ _ _ HYd.out HZd.out hmo).mono ?_
  rintro e we ⟨rfl, hb2⟩
  have HFe := Lib.hid (HFd.out.below hb2).b
  clear hb2 HYd HFd HZd
  go_wp2_with (fail)
  go_ret
  exact ⟨rfl, HFe.out⟩
end Go.Proofs.YtlbkfhdnhalpbaaGreat

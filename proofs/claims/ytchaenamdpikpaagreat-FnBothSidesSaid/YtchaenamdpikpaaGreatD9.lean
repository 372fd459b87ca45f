/- The statement FnBothSides, the law's walk. There are no conditions. -/
import Derived.Test.YtchaenamdpikpaaGreatD8
namespace Go.Proofs.YtchaenamdpikpaaGreat
set_option linter.unusedVariables false
set_option linter.unusedSimpArgs false
open Go.RowKit Ps Ra Ex

theorem bel_set {B : Nat} {w w' : World} (h : Below B w w') {b i : Nat} (hb : B ≤ b) (v : Value) : Below B w (w'.setCell ⟨b, i, none⟩ v) := h.setCell hb v
set_option maxRecDepth 100000 in
set_option maxHeartbeats 4000000 in
theorem bothSides_law (C : Option Addr) (n c : Nat) (bs : List Int) (w : World) (hC : SBy w C n bs) :
    Calls Tryz.prog 3 #[.slice C n c] w fun e w' => e = .returned (.bool true) ∧ Below w.heap.size w w' := by
  have HC := Lib.hid hC
  clear hC
  by_cases hn : 4096 < n
  · have hd : decide (4096 < n) = true := by simp [hn]
    go_enter Tryz.func3, Tryz.ntmps3
    go_wp2_with (fail)
    refine (big_any C n c w).mono ?_
    rintro e w' ⟨rfl, rfl⟩
    rw [hd]
    go_wp2_with (fail)
    go_ret
    exact ⟨rfl, Bel.rfl' _⟩
  have hd : decide (4096 < n) = false := by simp [hn]
  have HD := Lib.hid fun (W : World) (h : SBy W C n bs) => DrawSecondChance_any C n c bs W h (by omega)
  generalize drawn12 bs = R at *
  obtain ⟨⟨p, c', h', s⟩, own, other, q⟩ := R
  go_enter Tryz.func3, Tryz.ntmps3
  go_wp2_with (fail)
  refine (big_any C n c w).mono ?_
  rintro e w' ⟨rfl, rfl⟩
  rw [hd]
  go_wp2_with (fail)
  refine (HD.out w HC.out).mono ?_
  rintro e w1 ⟨v1, v2, rfl, h1, h2, hb⟩
  obtain ⟨A1, k1, rfl, s1, m1⟩ := h1.read
  obtain ⟨A2, k2, rfl, s2, m2⟩ := h2.read
  have S1 := Lib.hid (s1.alloc (.cells #[.int .i64 p, .int .i64 c', .int .i64 h', .int .i64 s] 25))
  have S2 := Lib.hid (s2.alloc (.cells #[.int .i64 p, .int .i64 c', .int .i64 h', .int .i64 s] 25))
  have HC1 := Lib.hid ((HC.out.below hb).below (Bel.alloc w1 (.cells #[.int .i64 p, .int .i64 c', .int .i64 h', .int .i64 s] 25)))
  have HV1 : Hid (Cel (w1.alloc (.cells #[.int .i64 p, .int .i64 c', .int .i64 h', .int .i64 s] 25)) w1.heap.size [.int .i64 p, .int .i64 c', .int .i64 h', .int .i64 s]) := Cel.new w1 #[.int .i64 p, .int .i64 c', .int .i64 h', .int .i64 s] _
  have HB1 := Lib.hid (hb.alloc hb.size (.cells #[.int .i64 p, .int .i64 c', .int .i64 h', .int .i64 s] 25))
  have hz1 : w.heap.size ≤ w1.heap.size := hb.size
  clear h1 h2 hb s1 s2 HC
  have c0 := HV1.out.cell 0 _ rfl
  have c1 := HV1.out.cell 1 _ rfl
  have c2 := HV1.out.cell 2 _ rfl
  have c3 := HV1.out.cell 3 _ rfl
  have cz := HV1.out.lt
  go_wp2_with (fail)
  generalize w1.alloc (.cells #[.int .i64 p, .int .i64 c', .int .i64 h', .int .i64 s] 25) = V1 at *
  clear c0 c1 c2 c3 cz
  refine (SecondChance_any p c' h' s A1 A2 _ _ k1 k2 own other V1 S1.out S2.out m1 m2).mono ?_
  rintro e w2 ⟨rfl, hb2⟩
  obtain ⟨r, hr⟩ : ∃ r, r = secR p c' h' s own other := ⟨_, rfl⟩
  obtain ⟨x1, x2, x3⟩ := r
  rw [← hr]
  have HR := Lib.hid hr
  have HVa := Lib.hid (HV1.out.below hb2)
  have HCa := Lib.hid (HC1.out.below hb2)
  have HBa := Lib.hid (HB1.out.trans (hb2.mono HB1.out.size))
  clear hr hb2 S1 S2 HV1 HC1 HB1
  have HV3 := Lib.hid (HVa.out.alloc (.cells #[.int .i64 x1, .int .i64 x2] 30))
  have HC3 := Lib.hid (HCa.out.below (Bel.alloc w2 (.cells #[.int .i64 x1, .int .i64 x2] 30)))
  have HB3 := Lib.hid (HBa.out.alloc HBa.out.size (.cells #[.int .i64 x1, .int .i64 x2] 30))
  have HX3 : Hid (Cel (w2.alloc (.cells #[.int .i64 x1, .int .i64 x2] 30)) w2.heap.size [.int .i64 x1, .int .i64 x2]) := Cel.new w2 #[.int .i64 x1, .int .i64 x2] _
  have hz2 : w1.heap.size < w2.heap.size := HVa.out.lt
  clear HVa HCa HBa
  go_wp2_with (fail)
  generalize w2.alloc (.cells #[.int .i64 x1, .int .i64 x2] 30) = V2 at *
  generalize w2.heap.size = g2 at *
  refine (HD.out V2 HC3.out).mono ?_
  rintro e w4 ⟨v1, v2, rfl, h1, h2, hb⟩
  obtain ⟨B1, l1, rfl, s1, m1⟩ := h1.read
  obtain ⟨B2, l2, rfl, s2, m2⟩ := h2.read
  have HV4 := Lib.hid (HV3.out.below hb)
  have HX4 := Lib.hid (HX3.out.below hb)
  have HB4 := Lib.hid (HB3.out.trans (hb.mono HB3.out.size))
  have H1 := Lib.hid h1
  have H2 := Lib.hid h2
  have hz4 : g2 < V2.heap.size := HX3.out.lt
  clear h1 h2 s1 s2 hb HV3 HX3 HB3 HC3 HD
  have c0 := HV4.out.cell 0 _ rfl
  have c1 := HV4.out.cell 1 _ rfl
  have c2 := HV4.out.cell 2 _ rfl
  have c3 := HV4.out.cell 3 _ rfl
  have cz := HV4.out.lt
  have f0 := HV4.out.froz 0 _ rfl
  have f1 := HV4.out.froz 1 _ rfl
  have f2 := HV4.out.froz 2 _ rfl
  have f3 := HV4.out.froz 3 _ rfl
  go_wp2_with (fail)
  clear c0 c1 c2 c3 cz f0 f1 f2 f3
  have hgx : ¬ g2 = w1.heap.size := by omega
  have hgx' : w1.heap.size < V2.heap.size := by omega
  have HV5 : Hid (Cel ((((w4.setCell ⟨w1.heap.size, 0, none⟩ (.int .i64 p)).setCell ⟨w1.heap.size, 1, none⟩ (.int .i64 c')).setCell ⟨w1.heap.size, 2, none⟩ (.int .i64 h')).setCell ⟨w1.heap.size, 3, none⟩ (.int .i64 s)) w1.heap.size [.int .i64 p, .int .i64 c', .int .i64 h', .int .i64 s]) := (((HV4.out.st (i := 0) (v := .int .i64 p) (by simp)).st (i := 1) (v := .int .i64 c') (by simp)).st (i := 2) (v := .int .i64 h') (by simp)).st (i := 3) (v := .int .i64 s) (by simp)
  have HX5 := Lib.hid ((((HX4.out.far (b := w1.heap.size) (i := 0) (v := .int .i64 p) hgx).far (b := w1.heap.size) (i := 1) (v := .int .i64 c') hgx).far (b := w1.heap.size) (i := 2) (v := .int .i64 h') hgx).far (b := w1.heap.size) (i := 3) (v := .int .i64 s) hgx)
  have HB5 := Lib.hid (bel_set (bel_set (bel_set (bel_set HB4.out hz1 (.int .i64 p) (i := 0)) hz1 (.int .i64 c') (i := 1)) hz1 (.int .i64 h') (i := 2)) hz1 (.int .i64 s) (i := 3))
  have O1 := Lib.hid ((((H1.out.far hgx' (.int .i64 p) (i := 0)).far hgx' (.int .i64 c') (i := 1)).far hgx' (.int .i64 h') (i := 2)).far hgx' (.int .i64 s) (i := 3))
  have O2 := Lib.hid ((((H2.out.far hgx' (.int .i64 p) (i := 0)).far hgx' (.int .i64 c') (i := 1)).far hgx' (.int .i64 h') (i := 2)).far hgx' (.int .i64 s) (i := 3))
  clear HV4 HX4 HB4 H1 H2 hgx
  generalize (((w4.setCell ⟨w1.heap.size, 0, none⟩ (.int .i64 p)).setCell ⟨w1.heap.size, 1, none⟩ (.int .i64 c')).setCell ⟨w1.heap.size, 2, none⟩ (.int .i64 h')).setCell ⟨w1.heap.size, 3, none⟩ (.int .i64 s) = V5 at *
  refine (sSecondChance_any p c' h' s B1 B2 _ _ l1 l2 own other V5 (O1.out.sl rfl).1 (O2.out.sl rfl).1 m1 m2).mono ?_
  rintro e w6 ⟨rfl, hb2⟩
  rw [← HR.out]
  have HVa := Lib.hid (HV5.out.below hb2)
  have HXa := Lib.hid (HX5.out.below hb2)
  have T1a := Lib.hid ((O1.out.sl rfl).1.below hb2)
  have T2a := Lib.hid ((O2.out.sl rfl).1.below hb2)
  have HBa := Lib.hid (HB5.out.trans (hb2.mono HB5.out.size))
  clear hb2 O1 O2 HV5 HX5 HB5
  have HV7 := Lib.hid (HVa.out.alloc (.cells #[.int .i64 x1, .int .i64 x2] 30))
  have HX7 := Lib.hid (HXa.out.alloc (.cells #[.int .i64 x1, .int .i64 x2] 30))
  have T1 := Lib.hid (T1a.out.alloc (.cells #[.int .i64 x1, .int .i64 x2] 30))
  have T2 := Lib.hid (T2a.out.alloc (.cells #[.int .i64 x1, .int .i64 x2] 30))
  have HB7 := Lib.hid (HBa.out.alloc HBa.out.size (.cells #[.int .i64 x1, .int .i64 x2] 30))
  have HY7 : Hid (Cel (w6.alloc (.cells #[.int .i64 x1, .int .i64 x2] 30)) w6.heap.size [.int .i64 x1, .int .i64 x2]) := Cel.new w6 #[.int .i64 x1, .int .i64 x2] _
  clear HVa HXa T1a T2a HBa
  have b3 : (x3 != x3) = false := by simp
  have ne : ∀ W : World, (binOp .neq 30 (.agg #[.int .i64 x1, .int .i64 x2]) (.agg #[.int .i64 x1, .int .i64 x2])).run Tryz.prog W = .ok (.bool false) W := fun W => by rw [neq_exact]; simp
  by_cases h3 : x3 = 0
  · have b4 : (x3 != 0) = false := by simp [h3]
    obtain ⟨s', x, y, rfl, hvar, hvx, hvy, rfl, rfl, hw, hadd⟩ := both_facts (by rw [HR.out.symm, h3] : secR p c' h' s own other = (x1, x2, 0))
    clear HR
    have a0u := HX7.out.cell 0 _ rfl
    have a1u := HX7.out.cell 1 _ rfl
    have azu := HX7.out.lt
    have a0v := HY7.out.cell 0 _ rfl
    have a1v := HY7.out.cell 1 _ rfl
    have azv := HY7.out.lt
    have c0 := HV7.out.cell 0 _ rfl
    have c1 := HV7.out.cell 1 _ rfl
    have c2 := HV7.out.cell 2 _ rfl
    have c3 := HV7.out.cell 3 _ rfl
    have cz := HV7.out.lt
    go_wp2_with (fail)
    clear c0 c1 c2 c3 cz a0u a1u azu a0v a1v azv HY7
    generalize w6.alloc (.cells #[.int .i64 x.num, .int .i64 (x.depth : Int)] 30) = V7 at *
    refine (WinChance_any p c' h' (s' : Int) B2 B1 _ _ l2 l1 other own V7 T2.out T1.out m2 m1).mono ?_
    rintro e w8 ⟨rfl, hb2⟩
    rw [hw]
    have HVa := Lib.hid (HV7.out.below hb2)
    have HXa := Lib.hid (HX7.out.below hb2)
    have HBa := Lib.hid (HB7.out.trans (hb2.mono HB7.out.size))
    clear hb2 HV7 HX7 HB7 T1 T2
    have HV9 := Lib.hid (HVa.out.alloc (.cells #[.int .i64 y.num, .int .i64 (y.depth : Int)] 30))
    have HX9 := Lib.hid (HXa.out.alloc (.cells #[.int .i64 y.num, .int .i64 (y.depth : Int)] 30))
    have HB9 := Lib.hid (HBa.out.alloc HBa.out.size (.cells #[.int .i64 y.num, .int .i64 (y.depth : Int)] 30))
    have HY9 : Hid (Cel (w8.alloc (.cells #[.int .i64 y.num, .int .i64 (y.depth : Int)] 30)) w8.heap.size [.int .i64 y.num, .int .i64 (y.depth : Int)]) := Cel.new w8 #[.int .i64 y.num, .int .i64 (y.depth : Int)] _
    clear HVa HXa HBa
    have a0u := HX9.out.cell 0 _ rfl
    have a1u := HX9.out.cell 1 _ rfl
    have azu := HX9.out.lt
    have a0v := HY9.out.cell 0 _ rfl
    have a1v := HY9.out.cell 1 _ rfl
    have azv := HY9.out.lt
    have c0 := HV9.out.cell 0 _ rfl
    have c1 := HV9.out.cell 1 _ rfl
    have c2 := HV9.out.cell 2 _ rfl
    have c3 := HV9.out.cell 3 _ rfl
    have cz := HV9.out.lt
    go_wp2_with (fail)
    clear c0 c1 c2 c3 cz a0u a1u azu a0v a1v azv HY9 HV9 HX9
    generalize w8.alloc (.cells #[.int .i64 y.num, .int .i64 (y.depth : Int)] 30) = V9 at *
    refine (AddExact_val p c' h' x.num y.num s' x.depth y.depth V9 hvar hvx hvy).mono ?_
    rintro e w9 hret
    have hadd' : addE (sq s') ⟨x.num, x.depth⟩ ⟨y.num, y.depth⟩ = some oneE := hadd
    rw [hadd'] at hret
    obtain ⟨he, hb2⟩ := hret
    have he' : e = .returned (.tuple #[.agg #[.int .i64 1, .int .i64 0], .int .i64 0]) := he
    subst he'
    have HBc := Lib.hid ((HB9.out.trans (hb2.mono HB9.out.size)).alloc (Nat.le_trans HB9.out.size hb2.size) (.cells #[.int .i64 1, .int .i64 0] 30))
    have HZ : Hid (Cel (w9.alloc (.cells #[.int .i64 1, .int .i64 0] 30)) w9.heap.size [.int .i64 1, .int .i64 0]) := Cel.new w9 #[.int .i64 1, .int .i64 0] _
    clear hb2 he hadd hadd' HB9
    have eq : ∀ W : World, (binOp .eql 30 (.agg #[.int .i64 1, .int .i64 0]) (.agg #[.int .i64 1, .int .i64 0])).run Tryz.prog W = .ok (.bool true) W := fun W => by rw [eql_exact]; simp
    have a0v := HZ.out.cell 0 _ rfl
    have a1v := HZ.out.cell 1 _ rfl
    have azv := HZ.out.lt
    go_wp2_with (fail)
    go_ret
    exact ⟨rfl, HBc.out⟩
  · have b4 : (x3 != 0) = true := by simp [h3]
    have a0u := HX7.out.cell 0 _ rfl
    have a1u := HX7.out.cell 1 _ rfl
    have azu := HX7.out.lt
    have a0v := HY7.out.cell 0 _ rfl
    have a1v := HY7.out.cell 1 _ rfl
    have azv := HY7.out.lt
    go_wp2_with (fail)
    go_ret
    exact ⟨rfl, HB7.out⟩
end Go.Proofs.YtchaenamdpikpaaGreat

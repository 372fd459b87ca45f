/- Contracts of SecondChance, both sides. There are no conditions. -/
import Derived.Test.YtchaenamdpikpaaGreatZv
namespace Go.Proofs.YtchaenamdpikpaaGreat
set_option linter.unusedVariables false
set_option linter.unusedSimpArgs false
open Go.RowKit Ps Ra Ex

theorem codeT_comm (p c h s : Int) (own other : List Int) : codeT p c h s [own, other] = codeT p c h s [other, own] := by
  unfold codeT
  rw [show [own, other].all (posB h c) = [other, own].all (posB h c) by simp only [List.all_cons, List.all_nil, Bool.and_true]; exact Bool.and_comm _ _]
theorem codeW_comm (p c h s : Int) (own other : List Int) (both : Bool) : codeW p c h s own other both = codeW p c h s other own both := by
  unfold codeW
  rw [codeT_comm p c h s own other]
  have e1 : (own.sum = 0 ∧ other.sum = 0) = (other.sum = 0 ∧ own.sum = 0) := by rw [and_comm]
  have e2 : (own.sum = 0 ∨ other.sum = 0) = (other.sum = 0 ∨ own.sum = 0) := by rw [or_comm]
  simp only [e1, e2]
/-- What SecondChance answers. -/
noncomputable def secR (p c h s : Int) (own other : List Int) : Int × Int × Int := if codeW p c h s own other false = 0 then numR (sec s.toNat other own) else (0, 0, codeW p c h s own other false)
theorem one_call {W : World} {p c h xn m : Int} {s xd d : Nat} (hs1 : 1 ≤ s) (hs6 : s ≤ 6) (hx : Val (sq s) ⟨xn, xd⟩) (hm : oneM (sq s) ⟨xn, xd⟩ = some ⟨m, d⟩) :
    Calls Tryz.prog 20 #[.agg #[.int .i64 p, .int .i64 c, .int .i64 h, .int .i64 s], .agg #[.int .i64 xn, .int .i64 xd]] W fun e w' => e = .returned (.tuple #[.agg #[.int .i64 m, .int .i64 (d : Int)], .bool true]) ∧ Below W.heap.size W w' := by
  have := oneMinus_any p c h xn s xd W hs1 hs6 hx; rw [hm] at this; exact this
theorem one_callN {W : World} {p c h xn : Int} {s xd : Nat} (hs1 : 1 ≤ s) (hs6 : s ≤ 6) (hx : Val (sq s) ⟨xn, xd⟩) (hm : oneM (sq s) ⟨xn, xd⟩ = none) :
    Calls Tryz.prog 20 #[.agg #[.int .i64 p, .int .i64 c, .int .i64 h, .int .i64 s], .agg #[.int .i64 xn, .int .i64 xd]] W fun e w' => e = .returned (.tuple #[.agg #[.int .i64 0, .int .i64 0], .bool false]) ∧ Below W.heap.size W w' := by
  have := oneMinus_any p c h xn s xd W hs1 hs6 hx; rw [hm] at this; exact this
theorem l12_call {W : World} {p c h xn m : Int} {s xd d : Nat} (hs1 : 1 ≤ s) (hs6 : s ≤ 6) (hx : Val (sq s) ⟨xn, xd⟩) (hm : oneM (sq s) ⟨xn, xd⟩ = some ⟨m, d⟩) :
    Calls Tryz.prog 24 #[.agg #[.int .i64 p, .int .i64 c, .int .i64 h, .int .i64 s], .agg #[.int .i64 xn, .int .i64 xd]] W fun e w' => e = .returned (.tuple #[.agg #[.int .i64 m, .int .i64 (d : Int)], .bool true]) ∧ Below W.heap.size W w' := by
  have := l12Minus_any p c h xn s xd W hs1 hs6 hx; rw [hm] at this; exact this
theorem l12_callN {W : World} {p c h xn : Int} {s xd : Nat} (hs1 : 1 ≤ s) (hs6 : s ≤ 6) (hx : Val (sq s) ⟨xn, xd⟩) (hm : oneM (sq s) ⟨xn, xd⟩ = none) :
    Calls Tryz.prog 24 #[.agg #[.int .i64 p, .int .i64 c, .int .i64 h, .int .i64 s], .agg #[.int .i64 xn, .int .i64 xd]] W fun e w' => e = .returned (.tuple #[.agg #[.int .i64 0, .int .i64 0], .bool false]) ∧ Below W.heap.size W w' := by
  have := l12Minus_any p c h xn s xd W hs1 hs6 hx; rw [hm] at this; exact this



set_option maxRecDepth 100000 in
set_option maxHeartbeats 2000000 in
theorem SecondChance_any (p c h s : Int) (A B : Option Addr) (n m ca cb : Nat) (own other : List Int) (w : World) (hA : SL w A n own) (hB : SL w B m other) (hca : n ≤ ca) (hcb : m ≤ cb) :
    Calls Tryz.prog 7 #[.agg #[.int .i64 p, .int .i64 c, .int .i64 h, .int .i64 s], .slice A n ca, .slice B m cb] w (RetN w (secR p c h s own other)) := by
  have HF1 : Hid (Fr w ((w.alloc (.cells #[.int .i64 p, .int .i64 c, .int .i64 h, .int .i64 s] 25)).alloc (.cells #[.int .i64 0, .int .i64 0] 30)) [[.int .i64 p, .int .i64 c, .int .i64 h, .int .i64 s], [.int .i64 0, .int .i64 0]]) := ((Fr.start w).allocT (by simp) _ _).allocT (by simp) _ _
  have HA1 := Lib.hid (hA.below HF1.out.b)
  have HB1 := Lib.hid (hB.below HF1.out.b)
  have CW := Lib.hid (WinChance_any p c h s B A m n cb ca other own _ HB1.out HA1.out hcb hca)
  clear hA hB HA1 HB1
  obtain ⟨r, hr⟩ : ∃ r, r = winR p c h s other own := ⟨_, rfl⟩
  rw [← hr] at CW
  by_cases hct : codeW p c h s own other false = 0
  · have hct' : codeW p c h s other own false = 0 := by rw [codeW_comm]; exact hct
    obtain ⟨hv, hp1, hp2, hN⟩ := codeT_ok (codeW_T hct)
    have hvv := isVar_yes hv
    obtain ⟨s', rfl⟩ : ∃ s' : Nat, s = s' := ⟨s.toNat, by omega⟩
    have hs1 : 1 ≤ s' := by omega
    have hs6 : s' ≤ 6 := by omega
    obtain ⟨hq1, hq36, _⟩ := sq_bd hs1 hs6
    have hWR : secR p c h s' own other = numR ((win s' other own).bind (oneM (sq s'))) := by
      unfold secR
      rw [if_pos hct, Int.toNat_natCast]
      rfl
    have hrr : r = numR (win s' other own) := by
      rw [hr]
      unfold winR
      rw [if_pos hct', Int.toNat_natCast]
    clear hr hv hp1 hp2 hN hvv hct hct'
    rcases hwo : win s' other own with _ | ⟨m1, d1⟩
    · rw [hwo] at hrr hWR
      have HWR : Hid (secR p c h s' own other = (0, 0, 3)) := hWR
      replace hrr : r = (0, 0, 3) := hrr
      subst hrr
      clear hwo hWR
      go_enter Tryz.func7, Tryz.ntmps7
      go_wp2_with (fail)
      refine CW.out.mono ?_
      rintro e w1 ⟨rfl, hb1⟩
      have HF2 := Lib.hid (HF1.out.below hb1)
      clear CW hb1 HF1
      have z0 := HF2.out.l0 (by simp)
      have c00 := HF2.out.c0 0 rfl
      have f00 := HF2.out.f0 0 rfl
      have c01 := HF2.out.c0 1 rfl
      have f01 := HF2.out.f0 1 rfl
      have c02 := HF2.out.c0 2 rfl
      have f02 := HF2.out.f0 2 rfl
      have c03 := HF2.out.c0 3 rfl
      have f03 := HF2.out.f0 3 rfl
      have z1 := HF2.out.l1 (by simp)
      have c10 := HF2.out.c1 0 rfl
      have f10 := HF2.out.f1 0 rfl
      have c11 := HF2.out.c1 1 rfl
      have f11 := HF2.out.f1 1 rfl
      go_wp2_with (fail)
      refine bodyPost_ret (v := .tuple #[.agg #[.int .i64 0, .int .i64 0], .int .i64 3]) (by simp [results, Tryz.results7, go_sem, c10, c11, z1, f10, f11]) rfl (RetN.mk' HWR.out ?_)
      repeat (first | exact HF2.out.b | refine stw ?_ (by omega) | refine alw ?_ (by omega))
    · have hval := win_val hq1 hwo
      rw [hwo] at hrr hWR
      replace hrr : r = (m1, (d1 : Int), 0) := hrr
      replace hWR : secR p c h s' own other = numR (oneM (sq s') ⟨m1, d1⟩) := hWR
      subst hrr
      clear hwo
      rcases hm : oneM (sq s') ⟨m1, d1⟩ with _ | ⟨m2, d2⟩
      · rw [hm] at hWR
        have HWR : Hid (secR p c h s' own other = (0, 0, 3)) := hWR
        have ONE := Lib.hid fun (W : World) => one_callN (W := W) (p := p) (c := c) (h := h) hs1 hs6 hval hm
        clear hm hval hWR
        go_enter Tryz.func7, Tryz.ntmps7
        go_wp2_with (fail)
        refine CW.out.mono ?_
        rintro e w1 ⟨rfl, hb1⟩
        have HF2 := Lib.hid (HF1.out.below hb1)
        clear CW hb1 HF1
        have z0 := HF2.out.l0 (by simp)
        have c00 := HF2.out.c0 0 rfl
        have f00 := HF2.out.f0 0 rfl
        have c01 := HF2.out.c0 1 rfl
        have f01 := HF2.out.f0 1 rfl
        have c02 := HF2.out.c0 2 rfl
        have f02 := HF2.out.f0 2 rfl
        have c03 := HF2.out.c0 3 rfl
        have f03 := HF2.out.f0 3 rfl
        have z1 := HF2.out.l1 (by simp)
        have c10 := HF2.out.c1 0 rfl
        have f10 := HF2.out.f1 0 rfl
        have c11 := HF2.out.c1 1 rfl
        have f11 := HF2.out.f1 1 rfl
        go_wp2_with (fail)
        refine (ONE.out _).mono ?_
        rintro e w2 ⟨rfl, hb2⟩
        have HF3 := Lib.hid ((HF2.out.alloc _).below hb2)
        clear z0 c00 f00 c01 f01 c02 f02 c03 f03 z1 c10 f10 c11 f11
        clear ONE hb2 HF2
        have z0 := HF3.out.l0 (by simp)
        have c00 := HF3.out.c0 0 rfl
        have f00 := HF3.out.f0 0 rfl
        have c01 := HF3.out.c0 1 rfl
        have f01 := HF3.out.f0 1 rfl
        have c02 := HF3.out.c0 2 rfl
        have f02 := HF3.out.f0 2 rfl
        have c03 := HF3.out.c0 3 rfl
        have f03 := HF3.out.f0 3 rfl
        have z1 := HF3.out.l1 (by simp)
        have c10 := HF3.out.c1 0 rfl
        have f10 := HF3.out.f1 0 rfl
        have c11 := HF3.out.c1 1 rfl
        have f11 := HF3.out.f1 1 rfl
        go_wp2_with (fail)
        refine bodyPost_ret (v := .tuple #[.agg #[.int .i64 0, .int .i64 0], .int .i64 3]) (by simp [results, Tryz.results7, go_sem, c10, c11, z1, f10, f11]) rfl (RetN.mk' HWR.out ?_)
        repeat (first | exact HF3.out.b | refine stw ?_ (by omega) | refine alw ?_ (by omega))
      · rw [hm] at hWR
        have HWR : Hid (secR p c h s' own other = (m2, (d2 : Int), 0)) := hWR
        have ONE := Lib.hid fun (W : World) => one_call (W := W) (p := p) (c := c) (h := h) hs1 hs6 hval hm
        clear hm hval hWR
        go_enter Tryz.func7, Tryz.ntmps7
        go_wp2_with (fail)
        refine CW.out.mono ?_
        rintro e w1 ⟨rfl, hb1⟩
        have HF2 := Lib.hid (HF1.out.below hb1)
        clear CW hb1 HF1
        have z0 := HF2.out.l0 (by simp)
        have c00 := HF2.out.c0 0 rfl
        have f00 := HF2.out.f0 0 rfl
        have c01 := HF2.out.c0 1 rfl
        have f01 := HF2.out.f0 1 rfl
        have c02 := HF2.out.c0 2 rfl
        have f02 := HF2.out.f0 2 rfl
        have c03 := HF2.out.c0 3 rfl
        have f03 := HF2.out.f0 3 rfl
        have z1 := HF2.out.l1 (by simp)
        have c10 := HF2.out.c1 0 rfl
        have f10 := HF2.out.f1 0 rfl
        have c11 := HF2.out.c1 1 rfl
        have f11 := HF2.out.f1 1 rfl
        go_wp2_with (fail)
        refine (ONE.out _).mono ?_
        rintro e w2 ⟨rfl, hb2⟩
        have HF3 := Lib.hid ((HF2.out.alloc _).below hb2)
        clear z0 c00 f00 c01 f01 c02 f02 c03 f03 z1 c10 f10 c11 f11
        clear ONE hb2 HF2
        have z0 := HF3.out.l0 (by simp)
        have c00 := HF3.out.c0 0 rfl
        have f00 := HF3.out.f0 0 rfl
        have c01 := HF3.out.c0 1 rfl
        have f01 := HF3.out.f0 1 rfl
        have c02 := HF3.out.c0 2 rfl
        have f02 := HF3.out.f0 2 rfl
        have c03 := HF3.out.c0 3 rfl
        have f03 := HF3.out.f0 3 rfl
        have z1 := HF3.out.l1 (by simp)
        have c10 := HF3.out.c1 0 rfl
        have f10 := HF3.out.f1 0 rfl
        have c11 := HF3.out.c1 1 rfl
        have f11 := HF3.out.f1 1 rfl
        go_wp2_with (fail)
        refine bodyPost_ret (v := .tuple #[.agg #[.int .i64 m2, .int .i64 (d2 : Int)], .int .i64 0]) (by simp [results, Tryz.results7, go_sem, c10, c11, z1, f10, f11]) rfl (RetN.mk' HWR.out ?_)
        repeat (first | exact HF3.out.b | refine stw ?_ (by omega) | refine alw ?_ (by omega))
  · have hct' : codeW p c h s other own false ≠ 0 := by rw [codeW_comm]; exact hct
    have hrr : r = (0, 0, codeW p c h s own other false) := by
      rw [hr]
      unfold winR
      rw [if_neg hct', codeW_comm]
    have HWR : Hid (secR p c h s own other = (0, 0, codeW p c h s own other false)) := by
      unfold Hid secR
      rw [if_neg hct]
    subst hrr
    clear hr
    generalize codeW p c h s own other false = k at *
    have b0 : (k != 0) = true := by simp [hct]
    clear hct hct'
    go_enter Tryz.func7, Tryz.ntmps7
    go_wp2_with (fail)
    refine CW.out.mono ?_
    rintro e w1 ⟨rfl, hb1⟩
    have HF2 := Lib.hid (HF1.out.below hb1)
    clear CW hb1 HF1
    have z0 := HF2.out.l0 (by simp)
    have c00 := HF2.out.c0 0 rfl
    have f00 := HF2.out.f0 0 rfl
    have c01 := HF2.out.c0 1 rfl
    have f01 := HF2.out.f0 1 rfl
    have c02 := HF2.out.c0 2 rfl
    have f02 := HF2.out.f0 2 rfl
    have c03 := HF2.out.c0 3 rfl
    have f03 := HF2.out.f0 3 rfl
    have z1 := HF2.out.l1 (by simp)
    have c10 := HF2.out.c1 0 rfl
    have f10 := HF2.out.f1 0 rfl
    have c11 := HF2.out.c1 1 rfl
    have f11 := HF2.out.f1 1 rfl
    go_wp2_with (fail)
    refine bodyPost_ret (v := .tuple #[.agg #[.int .i64 0, .int .i64 0], .int .i64 k]) (by simp [results, Tryz.results7, go_sem, c10, c11, z1, f10, f11]) rfl (RetN.mk' HWR.out ?_)
    repeat (first | exact HF2.out.b | refine stw ?_ (by omega) | refine alw ?_ (by omega))

set_option maxRecDepth 100000 in
set_option maxHeartbeats 2000000 in
theorem sSecondChance_any (p c h s : Int) (A B : Option Addr) (n m ca cb : Nat) (own other : List Int) (w : World) (hA : SL w A n own) (hB : SL w B m other) (hca : n ≤ ca) (hcb : m ≤ cb) :
    Calls Tryz.prog 8 #[.agg #[.int .i64 p, .int .i64 c, .int .i64 h, .int .i64 s], .slice A n ca, .slice B m cb] w (RetN w (secR p c h s own other)) := by
  have HF1 : Hid (Fr w ((w.alloc (.cells #[.int .i64 p, .int .i64 c, .int .i64 h, .int .i64 s] 25)).alloc (.cells #[.int .i64 0, .int .i64 0] 30)) [[.int .i64 p, .int .i64 c, .int .i64 h, .int .i64 s], [.int .i64 0, .int .i64 0]]) := ((Fr.start w).allocT (by simp) _ _).allocT (by simp) _ _
  have HA1 := Lib.hid (hA.below HF1.out.b)
  have HB1 := Lib.hid (hB.below HF1.out.b)
  have HAL := Lib.hid hA.1
  have HBL := Lib.hid hB.1
  have CT := Lib.hid (l12Code_no p c h s 0 0 A B n m ca cb own other false _ HA1.out HB1.out)
  clear hA hB
  by_cases hct : codeW p c h s own other false = 0
  · obtain ⟨hv, hp1, hp2, hN⟩ := codeT_ok (codeW_T hct)
    have hvv := isVar_yes hv
    obtain ⟨c', rfl⟩ : ∃ c' : Nat, c = c' := ⟨c.toNat, by omega⟩
    obtain ⟨h', rfl⟩ : ∃ h' : Nat, h = h' := ⟨h.toNat, by omega⟩
    obtain ⟨s', rfl⟩ : ∃ s' : Nat, s = s' := ⟨s.toNat, by omega⟩
    have hs1 : 1 ≤ s' := by omega
    have hs6 : s' ≤ 6 := by omega
    obtain ⟨hq1, hq36, _⟩ := sq_bd hs1 hs6
    have HP1 := Lib.hid (posB_pos hp1)
    have HP2 := Lib.hid (posB_pos hp2)
    simp only [Int.toNat_natCast] at hN
    have hnh : h' = n := by rw [← HAL.out]; exact (HP1.out.1).symm
    have hmh : h' = m := by rw [← HBL.out]; exact (HP2.out.1).symm
    subst hnh
    subst hmh
    have CNEW := Lib.hid fun (W : World) => l12New_any p c' h' s' W hv hN
    have hWR : secR p c' h' s' own other = numR ((win s' other own).bind (oneM (sq s'))) := by
      unfold secR
      rw [if_pos hct, Int.toNat_natCast]
      rfl
    rw [hct] at CT
    clear hct hv hp1 hp2 hN hvv
    rcases hwo : win s' other own with _ | ⟨m1, d1⟩
    · rw [hwo] at hWR
      have HWR : Hid (secR p c' h' s' own other = (0, 0, 3)) := hWR
      have HWO := Lib.hid hwo
      clear hwo hWR
      go_enter Tryz.func8, Tryz.ntmps8
      go_wp2_with (fail)
      refine CT.out.mono ?_
      rintro e w1 ⟨rfl, hb1⟩
      have HF2 := Lib.hid (HF1.out.below hb1)
      have HA2 := Lib.hid (HA1.out.below hb1)
      have HB2 := Lib.hid (HB1.out.below hb1)
      clear CT hb1 HF1 HA1 HB1
      have z0 := HF2.out.l0 (by simp)
      have c00 := HF2.out.c0 0 rfl
      have f00 := HF2.out.f0 0 rfl
      have c01 := HF2.out.c0 1 rfl
      have f01 := HF2.out.f0 1 rfl
      have c02 := HF2.out.c0 2 rfl
      have f02 := HF2.out.f0 2 rfl
      have c03 := HF2.out.c0 3 rfl
      have f03 := HF2.out.f0 3 rfl
      have z1 := HF2.out.l1 (by simp)
      have c10 := HF2.out.c1 0 rfl
      have f10 := HF2.out.f1 0 rfl
      have c11 := HF2.out.c1 1 rfl
      have f11 := HF2.out.f1 1 rfl
      go_wp2_with (fail)
      refine (CNEW.out _).mono ?_
      rintro e w2 ⟨t, _, hc', hh', hs', rfl, hok, hI, hlow, hbt, hb2⟩
      have CWIN := Lib.hid (value_new hc' hh' hs' hok hI hlow hb2 HP2.out HP1.out HB2.out HA2.out hcb hca)
      have HLOW := Lib.hid hlow
      have HF3 := Lib.hid (HF2.out.below hb2)
      have hz1 : w.heap.size + 2 ≤ w1.heap.size := by have := HF2.out.z; simpa using this
      clear hc' hh' hs' hok hI hlow hbt hb2 HA2 HB2 CNEW
      clear z0 c00 f00 c01 f01 c02 f02 c03 f03 z1 c10 f10 c11 f11
      go_wp2_with (fail)
      refine CWIN.out.mono ?_
      rintro e w3 ⟨rfl, hf3⟩
      have HF4 : Hid (Fr w w3 [[.int .i64 p, .int .i64 c', .int .i64 h', .int .i64 s'], [.int .i64 0, .int .i64 0]]) := HF3.out.frm hf3 (fun k hk => by have := HLOW.out k hk; omega) (fun k hk => by have := HLOW.out k hk; simp; omega)
      clear hf3 HF3 HF2 CWIN HLOW
      rw [HWO.out]
      unfold exV
      simp only [Option.getD_none, Option.isSome_none, Option.getD_some, Option.isSome_some]
      have z0 := HF4.out.l0 (by simp)
      have c00 := HF4.out.c0 0 rfl
      have f00 := HF4.out.f0 0 rfl
      have c01 := HF4.out.c0 1 rfl
      have f01 := HF4.out.f0 1 rfl
      have c02 := HF4.out.c0 2 rfl
      have f02 := HF4.out.f0 2 rfl
      have c03 := HF4.out.c0 3 rfl
      have f03 := HF4.out.f0 3 rfl
      have z1 := HF4.out.l1 (by simp)
      have c10 := HF4.out.c1 0 rfl
      have f10 := HF4.out.f1 0 rfl
      have c11 := HF4.out.c1 1 rfl
      have f11 := HF4.out.f1 1 rfl
      go_wp2_with (fail)
      refine bodyPost_ret (v := .tuple #[.agg #[.int .i64 0, .int .i64 0], .int .i64 3]) (by simp [results, Tryz.results8, go_sem, c10, c11, z1, f10, f11]) rfl (RetN.mk' HWR.out ?_)
      repeat (first | exact HF4.out.b | refine stw ?_ (by omega) | refine alw ?_ (by omega))
    · have hval := win_val hq1 hwo
      rw [hwo] at hWR
      replace hWR : secR p c' h' s' own other = numR (oneM (sq s') ⟨m1, d1⟩) := hWR
      have HWO := Lib.hid hwo
      clear hwo
      rcases hm : oneM (sq s') ⟨m1, d1⟩ with _ | ⟨m2, d2⟩
      · rw [hm] at hWR
        have HWR : Hid (secR p c' h' s' own other = (0, 0, 3)) := hWR
        have ONE := Lib.hid fun (W : World) => l12_callN (W := W) (p := p) (c := c') (h := h') hs1 hs6 hval hm
        clear hm hval hWR
        go_enter Tryz.func8, Tryz.ntmps8
        go_wp2_with (fail)
        refine CT.out.mono ?_
        rintro e w1 ⟨rfl, hb1⟩
        have HF2 := Lib.hid (HF1.out.below hb1)
        have HA2 := Lib.hid (HA1.out.below hb1)
        have HB2 := Lib.hid (HB1.out.below hb1)
        clear CT hb1 HF1 HA1 HB1
        have z0 := HF2.out.l0 (by simp)
        have c00 := HF2.out.c0 0 rfl
        have f00 := HF2.out.f0 0 rfl
        have c01 := HF2.out.c0 1 rfl
        have f01 := HF2.out.f0 1 rfl
        have c02 := HF2.out.c0 2 rfl
        have f02 := HF2.out.f0 2 rfl
        have c03 := HF2.out.c0 3 rfl
        have f03 := HF2.out.f0 3 rfl
        have z1 := HF2.out.l1 (by simp)
        have c10 := HF2.out.c1 0 rfl
        have f10 := HF2.out.f1 0 rfl
        have c11 := HF2.out.c1 1 rfl
        have f11 := HF2.out.f1 1 rfl
        go_wp2_with (fail)
        refine (CNEW.out _).mono ?_
        rintro e w2 ⟨t, _, hc', hh', hs', rfl, hok, hI, hlow, hbt, hb2⟩
        have CWIN := Lib.hid (value_new hc' hh' hs' hok hI hlow hb2 HP2.out HP1.out HB2.out HA2.out hcb hca)
        have HLOW := Lib.hid hlow
        have HF3 := Lib.hid (HF2.out.below hb2)
        have hz1 : w.heap.size + 2 ≤ w1.heap.size := by have := HF2.out.z; simpa using this
        clear hc' hh' hs' hok hI hlow hbt hb2 HA2 HB2 CNEW
        clear z0 c00 f00 c01 f01 c02 f02 c03 f03 z1 c10 f10 c11 f11
        go_wp2_with (fail)
        refine CWIN.out.mono ?_
        rintro e w3 ⟨rfl, hf3⟩
        have HF4 : Hid (Fr w w3 [[.int .i64 p, .int .i64 c', .int .i64 h', .int .i64 s'], [.int .i64 0, .int .i64 0]]) := HF3.out.frm hf3 (fun k hk => by have := HLOW.out k hk; omega) (fun k hk => by have := HLOW.out k hk; simp; omega)
        clear hf3 HF3 HF2 CWIN HLOW
        rw [HWO.out]
        unfold exV
        simp only [Option.getD_none, Option.isSome_none, Option.getD_some, Option.isSome_some]
        have z0 := HF4.out.l0 (by simp)
        have c00 := HF4.out.c0 0 rfl
        have f00 := HF4.out.f0 0 rfl
        have c01 := HF4.out.c0 1 rfl
        have f01 := HF4.out.f0 1 rfl
        have c02 := HF4.out.c0 2 rfl
        have f02 := HF4.out.f0 2 rfl
        have c03 := HF4.out.c0 3 rfl
        have f03 := HF4.out.f0 3 rfl
        have z1 := HF4.out.l1 (by simp)
        have c10 := HF4.out.c1 0 rfl
        have f10 := HF4.out.f1 0 rfl
        have c11 := HF4.out.c1 1 rfl
        have f11 := HF4.out.f1 1 rfl
        go_wp2_with (fail)
        refine (ONE.out _).mono ?_
        rintro e w4 ⟨rfl, hb2⟩
        have HF5 := Lib.hid ((HF4.out.alloc _).below hb2)
        clear z0 c00 f00 c01 f01 c02 f02 c03 f03 z1 c10 f10 c11 f11
        clear ONE hb2 HF4
        have z0 := HF5.out.l0 (by simp)
        have c00 := HF5.out.c0 0 rfl
        have f00 := HF5.out.f0 0 rfl
        have c01 := HF5.out.c0 1 rfl
        have f01 := HF5.out.f0 1 rfl
        have c02 := HF5.out.c0 2 rfl
        have f02 := HF5.out.f0 2 rfl
        have c03 := HF5.out.c0 3 rfl
        have f03 := HF5.out.f0 3 rfl
        have z1 := HF5.out.l1 (by simp)
        have c10 := HF5.out.c1 0 rfl
        have f10 := HF5.out.f1 0 rfl
        have c11 := HF5.out.c1 1 rfl
        have f11 := HF5.out.f1 1 rfl
        go_wp2_with (fail)
        refine bodyPost_ret (v := .tuple #[.agg #[.int .i64 0, .int .i64 0], .int .i64 3]) (by simp [results, Tryz.results8, go_sem, c10, c11, z1, f10, f11]) rfl (RetN.mk' HWR.out ?_)
        repeat (first | exact HF5.out.b | refine stw ?_ (by omega) | refine alw ?_ (by omega))
      · rw [hm] at hWR
        have HWR : Hid (secR p c' h' s' own other = (m2, (d2 : Int), 0)) := hWR
        have ONE := Lib.hid fun (W : World) => l12_call (W := W) (p := p) (c := c') (h := h') hs1 hs6 hval hm
        clear hm hval hWR
        go_enter Tryz.func8, Tryz.ntmps8
        go_wp2_with (fail)
        refine CT.out.mono ?_
        rintro e w1 ⟨rfl, hb1⟩
        have HF2 := Lib.hid (HF1.out.below hb1)
        have HA2 := Lib.hid (HA1.out.below hb1)
        have HB2 := Lib.hid (HB1.out.below hb1)
        clear CT hb1 HF1 HA1 HB1
        have z0 := HF2.out.l0 (by simp)
        have c00 := HF2.out.c0 0 rfl
        have f00 := HF2.out.f0 0 rfl
        have c01 := HF2.out.c0 1 rfl
        have f01 := HF2.out.f0 1 rfl
        have c02 := HF2.out.c0 2 rfl
        have f02 := HF2.out.f0 2 rfl
        have c03 := HF2.out.c0 3 rfl
        have f03 := HF2.out.f0 3 rfl
        have z1 := HF2.out.l1 (by simp)
        have c10 := HF2.out.c1 0 rfl
        have f10 := HF2.out.f1 0 rfl
        have c11 := HF2.out.c1 1 rfl
        have f11 := HF2.out.f1 1 rfl
        go_wp2_with (fail)
        refine (CNEW.out _).mono ?_
        rintro e w2 ⟨t, _, hc', hh', hs', rfl, hok, hI, hlow, hbt, hb2⟩
        have CWIN := Lib.hid (value_new hc' hh' hs' hok hI hlow hb2 HP2.out HP1.out HB2.out HA2.out hcb hca)
        have HLOW := Lib.hid hlow
        have HF3 := Lib.hid (HF2.out.below hb2)
        have hz1 : w.heap.size + 2 ≤ w1.heap.size := by have := HF2.out.z; simpa using this
        clear hc' hh' hs' hok hI hlow hbt hb2 HA2 HB2 CNEW
        clear z0 c00 f00 c01 f01 c02 f02 c03 f03 z1 c10 f10 c11 f11
        go_wp2_with (fail)
        refine CWIN.out.mono ?_
        rintro e w3 ⟨rfl, hf3⟩
        have HF4 : Hid (Fr w w3 [[.int .i64 p, .int .i64 c', .int .i64 h', .int .i64 s'], [.int .i64 0, .int .i64 0]]) := HF3.out.frm hf3 (fun k hk => by have := HLOW.out k hk; omega) (fun k hk => by have := HLOW.out k hk; simp; omega)
        clear hf3 HF3 HF2 CWIN HLOW
        rw [HWO.out]
        unfold exV
        simp only [Option.getD_none, Option.isSome_none, Option.getD_some, Option.isSome_some]
        have z0 := HF4.out.l0 (by simp)
        have c00 := HF4.out.c0 0 rfl
        have f00 := HF4.out.f0 0 rfl
        have c01 := HF4.out.c0 1 rfl
        have f01 := HF4.out.f0 1 rfl
        have c02 := HF4.out.c0 2 rfl
        have f02 := HF4.out.f0 2 rfl
        have c03 := HF4.out.c0 3 rfl
        have f03 := HF4.out.f0 3 rfl
        have z1 := HF4.out.l1 (by simp)
        have c10 := HF4.out.c1 0 rfl
        have f10 := HF4.out.f1 0 rfl
        have c11 := HF4.out.c1 1 rfl
        have f11 := HF4.out.f1 1 rfl
        go_wp2_with (fail)
        refine (ONE.out _).mono ?_
        rintro e w4 ⟨rfl, hb2⟩
        have HF5 := Lib.hid ((HF4.out.alloc _).below hb2)
        clear z0 c00 f00 c01 f01 c02 f02 c03 f03 z1 c10 f10 c11 f11
        clear ONE hb2 HF4
        have z0 := HF5.out.l0 (by simp)
        have c00 := HF5.out.c0 0 rfl
        have f00 := HF5.out.f0 0 rfl
        have c01 := HF5.out.c0 1 rfl
        have f01 := HF5.out.f0 1 rfl
        have c02 := HF5.out.c0 2 rfl
        have f02 := HF5.out.f0 2 rfl
        have c03 := HF5.out.c0 3 rfl
        have f03 := HF5.out.f0 3 rfl
        have z1 := HF5.out.l1 (by simp)
        have c10 := HF5.out.c1 0 rfl
        have f10 := HF5.out.f1 0 rfl
        have c11 := HF5.out.c1 1 rfl
        have f11 := HF5.out.f1 1 rfl
        go_wp2_with (fail)
        refine bodyPost_ret (v := .tuple #[.agg #[.int .i64 m2, .int .i64 (d2 : Int)], .int .i64 0]) (by simp [results, Tryz.results8, go_sem, c10, c11, z1, f10, f11]) rfl (RetN.mk' HWR.out ?_)
        repeat (first | exact HF5.out.b | refine stw ?_ (by omega) | refine alw ?_ (by omega))
  · have HWR : Hid (secR p c h s own other = (0, 0, codeW p c h s own other false)) := by
      unfold Hid secR
      rw [if_neg hct]
    generalize codeW p c h s own other false = k at *
    have b0 : (k != 0) = true := by simp [hct]
    clear hct
    go_enter Tryz.func8, Tryz.ntmps8
    go_wp2_with (fail)
    refine CT.out.mono ?_
    rintro e w1 ⟨rfl, hb1⟩
    have HF2 := Lib.hid (HF1.out.below hb1)
    clear CT hb1 HF1 HA1 HB1
    have z0 := HF2.out.l0 (by simp)
    have c00 := HF2.out.c0 0 rfl
    have f00 := HF2.out.f0 0 rfl
    have c01 := HF2.out.c0 1 rfl
    have f01 := HF2.out.f0 1 rfl
    have c02 := HF2.out.c0 2 rfl
    have f02 := HF2.out.f0 2 rfl
    have c03 := HF2.out.c0 3 rfl
    have f03 := HF2.out.f0 3 rfl
    have z1 := HF2.out.l1 (by simp)
    have c10 := HF2.out.c1 0 rfl
    have f10 := HF2.out.f1 0 rfl
    have c11 := HF2.out.c1 1 rfl
    have f11 := HF2.out.f1 1 rfl
    go_wp2_with (fail)
    refine bodyPost_ret (v := .tuple #[.agg #[.int .i64 0, .int .i64 0], .int .i64 k]) (by simp [results, Tryz.results8, go_sem, c10, c11, z1, f10, f11]) rfl (RetN.mk' HWR.out ?_)
    repeat (first | exact HF2.out.b | refine stw ?_ (by omega) | refine alw ?_ (by omega))
end Go.Proofs.YtchaenamdpikpaaGreat

/- Joined texts of one proof: N48, N50, L1, A6, A7, N49, N51, Open. Each part tells what it shows. There are no conditions. -/
import Derived.Test.YtlbkfhdnhalpbaaGreatV3
import Derived.Test.YtlbkfhdnhalpbaaGreatBase2
import Derived.ProofKit
import Derived.OpenShut
import Derived.Lib.SmallJoins
import Derived.Deep.Slices
import Derived.Deep.Fields
import Derived.ChangeSame
import Derived.ChangeSlices
import Derived.Below

/- Contract of the reference's WinChance. There are no conditions. -/
namespace Go.Proofs.YtlbkfhdnhalpbaaGreat
set_option linter.unusedVariables false
set_option linter.unusedSimpArgs false
open Go.RowKit Ps Ra Ex

theorem l12Value_any (t : RT2) (ht : t.Ok) : ∀ (f : Nat) {own other : List Int}, PosP t.h t.c own → PosP t.h t.c other → pips own + pips other < f → ValC t own other
  | 0, own, other, hq, hq2, h => by have := pips_nonneg hq.2.1; have := pips_nonneg hq2.2.1; omega
  | f + 1, own, other, hq, hq2, h => l12Value_step t ht hq hq2 fun _ q hp hlt => l12Value_any t ht f hq2 hp (by omega)
theorem l12Value_all (t : RT2) (ht : t.Ok) {own other : List Int} (hq : PosP t.h t.c own) (hq2 : PosP t.h t.c other) : ValC t own other := by
  have h1 := pips_nonneg hq.2.1
  have h2 := pips_nonneg hq2.2.1
  exact l12Value_any t ht ((pips own + pips other).toNat + 1) hq hq2 (by omega)
theorem value_new {t : RT2} {w1 w2 : World} {c h s : Nat} {own other : List Int} {A B : Option Addr} {ca cb : Nat} (hc' : t.c = c) (hh' : t.h = h) (hs' : t.s = s) (hok : t.Ok) (hI : TabI t w2) (hlow : ∀ k, t.S k → w1.heap.size ≤ k) (hb : Below w1.heap.size w1 w2)
    (hp1 : PosP h c own) (hp2 : PosP h c other) (hA : SL w1 A h own) (hB : SL w1 B h other) (hca : h ≤ ca) (hcb : h ≤ cb) :
    Calls Tryz.prog 59 #[.pointer (some ⟨t.bt, 0, none⟩), .slice A h ca, .slice B h cb] w2 fun e w' => e = .returned (.tuple #[exV (win s own other), .bool (win s own other).isSome]) ∧ Frm t.S w2 w' := by
  subst hc' hh' hs'
  exact (l12Value_all t hok hp1 hp2 A B ca cb w2 hI ((SQ.of_sl hA hlow).below hb) hca ((SQ.of_sl hB hlow).below hb) hcb).mono fun e w' ⟨h1, _, h3⟩ => ⟨h1, h3⟩

set_option maxRecDepth 100000 in
set_option maxHeartbeats 2000000 in
theorem sWinChance_any (p c h s : Int) (A B : Option Addr) (n m ca cb : Nat) (own other : List Int) (w : World) (hA : SL w A n own) (hB : SL w B m other) (hca : n ≤ ca) (hcb : m ≤ cb) :
    Calls Tryz.prog 24 #[.agg #[.int .i64 p, .int .i64 c, .int .i64 h, .int .i64 s], .slice A n ca, .slice B m cb] w (RetN w (winR p c h s own other)) := by
  have HF1 : Hid (Fr w ((w.alloc (.cells #[.int .i64 p, .int .i64 c, .int .i64 h, .int .i64 s] 29)).alloc (.cells #[.int .i64 0, .int .i64 0] 26)) [[.int .i64 p, .int .i64 c, .int .i64 h, .int .i64 s], [.int .i64 0, .int .i64 0]]) := ((Fr.start w).allocT (by simp) _ _).allocT (by simp) _ _
  have HA1 := Lib.hid (hA.below HF1.out.b)
  have HB1 := Lib.hid (hB.below HF1.out.b)
  have HAL := Lib.hid hA.1
  have HBL := Lib.hid hB.1
  have CT := Lib.hid (l12Code_no p c h s 0 0 A B n m ca cb own other false _ HA1.out HB1.out)
  clear hA hB
  by_cases hct : codeW p c h s own other false = 0
  · have hct0 : codeT p c h s [own, other] = 0 := by
      unfold codeW at hct
      by_cases h0 : codeT p c h s [own, other] = 0
      · exact h0
      · rw [if_neg h0] at hct; exact hct
    obtain ⟨hv, hp1, hp2, hN⟩ := codeT_ok hct0
    have hvv := isVar_yes hv
    obtain ⟨c', rfl⟩ : ∃ c' : Nat, c = c' := ⟨c.toNat, by omega⟩
    obtain ⟨h', rfl⟩ : ∃ h' : Nat, h = h' := ⟨h.toNat, by omega⟩
    obtain ⟨s', rfl⟩ : ∃ s' : Nat, s = s' := ⟨s.toNat, by omega⟩
    have HP1 := Lib.hid (posB_pos hp1)
    have HP2 := Lib.hid (posB_pos hp2)
    simp only [Int.toNat_natCast] at hN
    have hnh : h' = n := by rw [← HAL.out]; exact (HP1.out.1).symm
    have hmh : h' = m := by rw [← HBL.out]; exact (HP2.out.1).symm
    subst hnh
    subst hmh
    have CNEW := Lib.hid fun (W : World) => l12New_any p c' h' s' W hv hN
    have HW1 : Hid (winR p c' h' s' own other = numR (win s' own other)) := by
      unfold Hid winR
      rw [if_pos hct, Int.toNat_natCast]
    rw [hct] at CT
    clear hct hct0 hv hp1 hp2 hN hvv
    go_enter Tryz.func24, Tryz.ntmps24
    go_wp2_with (fail)
    refine CT.out.mono ?_
    rintro e w1 ⟨rfl, hb1⟩
    have HF2 := Lib.hid (HF1.out.below hb1)
    have HA2 := Lib.hid (HA1.out.below hb1)
    have HB2 := Lib.hid (HB1.out.below hb1)
    clear CT hb1 HF1 HA1 HB1
    have z0 : w.heap.size < w1.heap.size := HF2.out.ltA 0 rfl (by simp)
    have c00 := HF2.out.cellA (b := w.heap.size) 0 0 rfl rfl
    have f00 := HF2.out.frozA (b := w.heap.size) 0 0 rfl rfl
    have c01 := HF2.out.cellA (b := w.heap.size) 0 1 rfl rfl
    have f01 := HF2.out.frozA (b := w.heap.size) 0 1 rfl rfl
    have c02 := HF2.out.cellA (b := w.heap.size) 0 2 rfl rfl
    have f02 := HF2.out.frozA (b := w.heap.size) 0 2 rfl rfl
    have c03 := HF2.out.cellA (b := w.heap.size) 0 3 rfl rfl
    have f03 := HF2.out.frozA (b := w.heap.size) 0 3 rfl rfl
    have z1 : w.heap.size + 1 < w1.heap.size := HF2.out.ltA 1 rfl (by simp)
    have c10 := HF2.out.cellA (b := w.heap.size + 1) 1 0 rfl rfl
    have f10 := HF2.out.frozA (b := w.heap.size + 1) 1 0 rfl rfl
    have c11 := HF2.out.cellA (b := w.heap.size + 1) 1 1 rfl rfl
    have f11 := HF2.out.frozA (b := w.heap.size + 1) 1 1 rfl rfl
    go_wp2_with (fail)
    refine (CNEW.out _).mono ?_
    rintro e w2 ⟨t, _, hc', hh', hs', rfl, hok, hI, hlow, hbt, hb2⟩
    have CWIN := Lib.hid (value_new hc' hh' hs' hok hI hlow hb2 HP1.out HP2.out HA2.out HB2.out hca hcb)
    have HLOW := Lib.hid hlow
    have HF3 := Lib.hid (HF2.out.below hb2)
    have hz1 : w.heap.size + 2 ≤ w1.heap.size := by have := HF2.out.z; simpa using this
    clear hc' hh' hs' hok hI hlow hbt hb2 HA2 HB2 CNEW
    clear z0 c00 f00 c01 f01 c02 f02 c03 f03 z1 c10 f10 c11 f11
    go_wp2_with (fail)
    refine CWIN.out.mono ?_
    rintro e w3 ⟨rfl, hf3⟩
    have HF4 : Hid (Fr w w3 [[.int .i64 p, .int .i64 c', .int .i64 h', .int .i64 s'], [.int .i64 0, .int .i64 0]]) := HF3.out.frm hf3 (fun k hk => by have := HLOW.out k hk; omega) (fun k hk => by have := HLOW.out k hk; simp; omega)
    clear hf3 HF3 HF2 CWIN HLOW
    rcases hwo : win s' own other with _ | ⟨m, d⟩
    · have HWR : Hid (winR p c' h' s' own other = (0, 0, 3)) := by rw [HW1.out, hwo]; rfl
      unfold exV
      simp only [Option.getD_none, Option.isSome_none]
      clear hwo
      have z0 : w.heap.size < w3.heap.size := HF4.out.ltA 0 rfl (by simp)
      have c00 := HF4.out.cellA (b := w.heap.size) 0 0 rfl rfl
      have f00 := HF4.out.frozA (b := w.heap.size) 0 0 rfl rfl
      have c01 := HF4.out.cellA (b := w.heap.size) 0 1 rfl rfl
      have f01 := HF4.out.frozA (b := w.heap.size) 0 1 rfl rfl
      have c02 := HF4.out.cellA (b := w.heap.size) 0 2 rfl rfl
      have f02 := HF4.out.frozA (b := w.heap.size) 0 2 rfl rfl
      have c03 := HF4.out.cellA (b := w.heap.size) 0 3 rfl rfl
      have f03 := HF4.out.frozA (b := w.heap.size) 0 3 rfl rfl
      have z1 : w.heap.size + 1 < w3.heap.size := HF4.out.ltA 1 rfl (by simp)
      have c10 := HF4.out.cellA (b := w.heap.size + 1) 1 0 rfl rfl
      have f10 := HF4.out.frozA (b := w.heap.size + 1) 1 0 rfl rfl
      have c11 := HF4.out.cellA (b := w.heap.size + 1) 1 1 rfl rfl
      have f11 := HF4.out.frozA (b := w.heap.size + 1) 1 1 rfl rfl
      go_wp2_with (fail)
      refine bodyPost_ret (v := .tuple #[.agg #[.int .i64 0, .int .i64 0], .int .i64 3]) (by simp [results, Tryz.results24, go_sem, c10, c11, z1, f10, f11]) rfl (RetN.mk' HWR.out ?_)
      repeat (first | exact HF4.out.b | refine stw ?_ (by omega) | refine alw ?_ (by omega))
    · have HWR : Hid (winR p c' h' s' own other = (m, (d : Int), 0)) := by rw [HW1.out, hwo]; rfl
      unfold exV
      simp only [Option.getD_some, Option.isSome_some]
      clear hwo
      have z0 : w.heap.size < w3.heap.size := HF4.out.ltA 0 rfl (by simp)
      have c00 := HF4.out.cellA (b := w.heap.size) 0 0 rfl rfl
      have f00 := HF4.out.frozA (b := w.heap.size) 0 0 rfl rfl
      have c01 := HF4.out.cellA (b := w.heap.size) 0 1 rfl rfl
      have f01 := HF4.out.frozA (b := w.heap.size) 0 1 rfl rfl
      have c02 := HF4.out.cellA (b := w.heap.size) 0 2 rfl rfl
      have f02 := HF4.out.frozA (b := w.heap.size) 0 2 rfl rfl
      have c03 := HF4.out.cellA (b := w.heap.size) 0 3 rfl rfl
      have f03 := HF4.out.frozA (b := w.heap.size) 0 3 rfl rfl
      have z1 : w.heap.size + 1 < w3.heap.size := HF4.out.ltA 1 rfl (by simp)
      have c10 := HF4.out.cellA (b := w.heap.size + 1) 1 0 rfl rfl
      have f10 := HF4.out.frozA (b := w.heap.size + 1) 1 0 rfl rfl
      have c11 := HF4.out.cellA (b := w.heap.size + 1) 1 1 rfl rfl
      have f11 := HF4.out.frozA (b := w.heap.size + 1) 1 1 rfl rfl
      go_wp2_with (fail)
      refine bodyPost_ret (v := .tuple #[.agg #[.int .i64 m, .int .i64 (d : Int)], .int .i64 0]) (by simp [results, Tryz.results24, go_sem, c10, c11, z1, f10, f11]) rfl (RetN.mk' HWR.out ?_)
      repeat (first | exact HF4.out.b | refine stw ?_ (by omega) | refine alw ?_ (by omega))
  · have HWR : Hid (winR p c h s own other = (0, 0, codeW p c h s own other false)) := by
      unfold Hid winR
      rw [if_neg hct]
    generalize codeW p c h s own other false = k at *
    have b0 : (k != 0) = true := by simp [hct]
    clear hct
    go_enter Tryz.func24, Tryz.ntmps24
    go_wp2_with (fail)
    refine CT.out.mono ?_
    rintro e w1 ⟨rfl, hb1⟩
    have HF2 := Lib.hid (HF1.out.below hb1)
    clear CT hb1 HF1 HA1 HB1
    have z0 : w.heap.size < w1.heap.size := HF2.out.ltA 0 rfl (by simp)
    have c00 := HF2.out.cellA (b := w.heap.size) 0 0 rfl rfl
    have f00 := HF2.out.frozA (b := w.heap.size) 0 0 rfl rfl
    have c01 := HF2.out.cellA (b := w.heap.size) 0 1 rfl rfl
    have f01 := HF2.out.frozA (b := w.heap.size) 0 1 rfl rfl
    have c02 := HF2.out.cellA (b := w.heap.size) 0 2 rfl rfl
    have f02 := HF2.out.frozA (b := w.heap.size) 0 2 rfl rfl
    have c03 := HF2.out.cellA (b := w.heap.size) 0 3 rfl rfl
    have f03 := HF2.out.frozA (b := w.heap.size) 0 3 rfl rfl
    have z1 : w.heap.size + 1 < w1.heap.size := HF2.out.ltA 1 rfl (by simp)
    have c10 := HF2.out.cellA (b := w.heap.size + 1) 1 0 rfl rfl
    have f10 := HF2.out.frozA (b := w.heap.size + 1) 1 0 rfl rfl
    have c11 := HF2.out.cellA (b := w.heap.size + 1) 1 1 rfl rfl
    have f11 := HF2.out.frozA (b := w.heap.size + 1) 1 1 rfl rfl
    go_wp2_with (fail)
    refine bodyPost_ret (v := .tuple #[.agg #[.int .i64 0, .int .i64 0], .int .i64 k]) (by simp [results, Tryz.results24, go_sem, c10, c11, z1, f10, f11]) rfl (RetN.mk' HWR.out ?_)
    repeat (first | exact HF2.out.b | refine stw ?_ (by omega) | refine alw ?_ (by omega))
end Go.Proofs.YtlbkfhdnhalpbaaGreat

/- Contracts of SecondChance, both sides. There are no conditions. -/
namespace Go.Proofs.YtlbkfhdnhalpbaaGreat
set_option linter.unusedVariables false
set_option linter.unusedSimpArgs false
open Go.RowKit Ps Ra Ex

theorem codeT_comm (p c h s : Int) (own other : List Int) : codeT p c h s [own, other] = codeT p c h s [other, own] := by
  unfold codeT
  rw [show [own, other].all (posB h c) = [other, own].all (posB h c) by simp only [List.all_cons, List.all_nil, Bool.and_true]; exact Bool.and_comm _ _]
theorem codeW_comm (p c h s : Int) (own other : List Int) (both : Bool) : codeW p c h s own other both = codeW p c h s other own both := by
  unfold codeW
  rw [codeT_comm p c h s own other]
  have e1 : (own.sum = 0 ∧ other.sum = 0) = (other.sum = 0 ∧ own.sum = 0) := by rw [and_comm]
  have e2 : (own.sum = 0 ∨ other.sum = 0) = (other.sum = 0 ∨ own.sum = 0) := by rw [or_comm]
  simp only [e1, e2]
theorem codeW_T {p c h s : Int} {own other : List Int} {both : Bool} (H : codeW p c h s own other both = 0) : codeT p c h s [own, other] = 0 := by
  unfold codeW at H
  by_cases h0 : codeT p c h s [own, other] = 0
  · exact h0
  · rw [if_neg h0] at H; exact H
/-- What SecondChance answers. -/
noncomputable def secR (p c h s : Int) (own other : List Int) : Int × Int × Int := if codeW p c h s own other false = 0 then numR (sec s.toNat other own) else (0, 0, codeW p c h s own other false)
theorem one_call {W : World} {p c h xn m : Int} {s xd d : Nat} (hs1 : 1 ≤ s) (hs6 : s ≤ 6) (hx : Val (sq s) ⟨xn, xd⟩) (hm : oneM (sq s) ⟨xn, xd⟩ = some ⟨m, d⟩) :
    Calls Tryz.prog 62 #[.agg #[.int .i64 p, .int .i64 c, .int .i64 h, .int .i64 s], .agg #[.int .i64 xn, .int .i64 xd]] W fun e w' => e = .returned (.tuple #[.agg #[.int .i64 m, .int .i64 (d : Int)], .bool true]) ∧ Below W.heap.size W w' := by
  have := oneMinus_any p c h xn s xd W hs1 hs6 hx; rw [hm] at this; exact this
theorem one_callN {W : World} {p c h xn : Int} {s xd : Nat} (hs1 : 1 ≤ s) (hs6 : s ≤ 6) (hx : Val (sq s) ⟨xn, xd⟩) (hm : oneM (sq s) ⟨xn, xd⟩ = none) :
    Calls Tryz.prog 62 #[.agg #[.int .i64 p, .int .i64 c, .int .i64 h, .int .i64 s], .agg #[.int .i64 xn, .int .i64 xd]] W fun e w' => e = .returned (.tuple #[.agg #[.int .i64 0, .int .i64 0], .bool false]) ∧ Below W.heap.size W w' := by
  have := oneMinus_any p c h xn s xd W hs1 hs6 hx; rw [hm] at this; exact this
theorem l12_call {W : World} {p c h xn m : Int} {s xd d : Nat} (hs1 : 1 ≤ s) (hs6 : s ≤ 6) (hx : Val (sq s) ⟨xn, xd⟩) (hm : oneM (sq s) ⟨xn, xd⟩ = some ⟨m, d⟩) :
    Calls Tryz.prog 61 #[.agg #[.int .i64 p, .int .i64 c, .int .i64 h, .int .i64 s], .agg #[.int .i64 xn, .int .i64 xd]] W fun e w' => e = .returned (.tuple #[.agg #[.int .i64 m, .int .i64 (d : Int)], .bool true]) ∧ Below W.heap.size W w' := by
  have := l12Minus_any p c h xn s xd W hs1 hs6 hx; rw [hm] at this; exact this
theorem l12_callN {W : World} {p c h xn : Int} {s xd : Nat} (hs1 : 1 ≤ s) (hs6 : s ≤ 6) (hx : Val (sq s) ⟨xn, xd⟩) (hm : oneM (sq s) ⟨xn, xd⟩ = none) :
    Calls Tryz.prog 61 #[.agg #[.int .i64 p, .int .i64 c, .int .i64 h, .int .i64 s], .agg #[.int .i64 xn, .int .i64 xd]] W fun e w' => e = .returned (.tuple #[.agg #[.int .i64 0, .int .i64 0], .bool false]) ∧ Below W.heap.size W w' := by
  have := l12Minus_any p c h xn s xd W hs1 hs6 hx; rw [hm] at this; exact this



set_option maxRecDepth 100000 in
set_option maxHeartbeats 2000000 in
theorem SecondChance_any (p c h s : Int) (A B : Option Addr) (n m ca cb : Nat) (own other : List Int) (w : World) (hA : SL w A n own) (hB : SL w B m other) (hca : n ≤ ca) (hcb : m ≤ cb) :
    Calls Tryz.prog 14 #[.agg #[.int .i64 p, .int .i64 c, .int .i64 h, .int .i64 s], .slice A n ca, .slice B m cb] w (RetN w (secR p c h s own other)) := by
  have HF1 : Hid (Fr w ((w.alloc (.cells #[.int .i64 p, .int .i64 c, .int .i64 h, .int .i64 s] 29)).alloc (.cells #[.int .i64 0, .int .i64 0] 26)) [[.int .i64 p, .int .i64 c, .int .i64 h, .int .i64 s], [.int .i64 0, .int .i64 0]]) := ((Fr.start w).allocT (by simp) _ _).allocT (by simp) _ _
  have HA1 := Lib.hid (hA.below HF1.out.b)
  have HB1 := Lib.hid (hB.below HF1.out.b)
  have CW := Lib.hid (WinChance_any p c h s B A m n cb ca other own _ HB1.out HA1.out hcb hca)
  clear hA hB HA1 HB1
  obtain ⟨r, hr⟩ : ∃ r, r = winR p c h s other own := ⟨_, rfl⟩
  rw [← hr] at CW
  by_cases hct : codeW p c h s own other false = 0
  · have hct' : codeW p c h s other own false = 0 := by rw [codeW_comm]; exact hct
    obtain ⟨hv, hp1, hp2, hN⟩ := codeT_ok (codeW_T hct)
    have hvv := isVar_yes hv
    obtain ⟨s', rfl⟩ : ∃ s' : Nat, s = s' := ⟨s.toNat, by omega⟩
    have hs1 : 1 ≤ s' := by omega
    have hs6 : s' ≤ 6 := by omega
    obtain ⟨hq1, hq36, _⟩ := sq_bd hs1 hs6
    have hWR : secR p c h s' own other = numR ((win s' other own).bind (oneM (sq s'))) := by
      unfold secR
      rw [if_pos hct, Int.toNat_natCast]
      rfl
    have hrr : r = numR (win s' other own) := by
      rw [hr]
      unfold winR
      rw [if_pos hct', Int.toNat_natCast]
    clear hr hv hp1 hp2 hN hvv hct hct'
    rcases hwo : win s' other own with _ | ⟨m1, d1⟩
    · rw [hwo] at hrr hWR
      have HWR : Hid (secR p c h s' own other = (0, 0, 3)) := hWR
      replace hrr : r = (0, 0, 3) := hrr
      subst hrr
      clear hwo hWR
      go_enter Tryz.func14, Tryz.ntmps14
      go_wp2_with (fail)
      refine CW.out.mono ?_
      rintro e w1 ⟨rfl, hb1⟩
      have HF2 := Lib.hid (HF1.out.below hb1)
      clear CW hb1 HF1
      have z0 : w.heap.size < w1.heap.size := HF2.out.ltA 0 rfl (by simp)
      have c00 := HF2.out.cellA (b := w.heap.size) 0 0 rfl rfl
      have f00 := HF2.out.frozA (b := w.heap.size) 0 0 rfl rfl
      have c01 := HF2.out.cellA (b := w.heap.size) 0 1 rfl rfl
      have f01 := HF2.out.frozA (b := w.heap.size) 0 1 rfl rfl
      have c02 := HF2.out.cellA (b := w.heap.size) 0 2 rfl rfl
      have f02 := HF2.out.frozA (b := w.heap.size) 0 2 rfl rfl
      have c03 := HF2.out.cellA (b := w.heap.size) 0 3 rfl rfl
      have f03 := HF2.out.frozA (b := w.heap.size) 0 3 rfl rfl
      have z1 : w.heap.size + 1 < w1.heap.size := HF2.out.ltA 1 rfl (by simp)
      have c10 := HF2.out.cellA (b := w.heap.size + 1) 1 0 rfl rfl
      have f10 := HF2.out.frozA (b := w.heap.size + 1) 1 0 rfl rfl
      have c11 := HF2.out.cellA (b := w.heap.size + 1) 1 1 rfl rfl
      have f11 := HF2.out.frozA (b := w.heap.size + 1) 1 1 rfl rfl
      go_wp2_with (fail)
      refine bodyPost_ret (v := .tuple #[.agg #[.int .i64 0, .int .i64 0], .int .i64 3]) (by simp [results, Tryz.results14, go_sem, c10, c11, z1, f10, f11]) rfl (RetN.mk' HWR.out ?_)
      repeat (first | exact HF2.out.b | refine stw ?_ (by omega) | refine alw ?_ (by omega))
    · have hval := win_val hq1 hwo
      rw [hwo] at hrr hWR
      replace hrr : r = (m1, (d1 : Int), 0) := hrr
      replace hWR : secR p c h s' own other = numR (oneM (sq s') ⟨m1, d1⟩) := hWR
      subst hrr
      clear hwo
      rcases hm : oneM (sq s') ⟨m1, d1⟩ with _ | ⟨m2, d2⟩
      · rw [hm] at hWR
        have HWR : Hid (secR p c h s' own other = (0, 0, 3)) := hWR
        have ONE := Lib.hid fun (W : World) => one_callN (W := W) (p := p) (c := c) (h := h) hs1 hs6 hval hm
        clear hm hval hWR
        go_enter Tryz.func14, Tryz.ntmps14
        go_wp2_with (fail)
        refine CW.out.mono ?_
        rintro e w1 ⟨rfl, hb1⟩
        have HF2 := Lib.hid (HF1.out.below hb1)
        clear CW hb1 HF1
        have z0 : w.heap.size < w1.heap.size := HF2.out.ltA 0 rfl (by simp)
        have c00 := HF2.out.cellA (b := w.heap.size) 0 0 rfl rfl
        have f00 := HF2.out.frozA (b := w.heap.size) 0 0 rfl rfl
        have c01 := HF2.out.cellA (b := w.heap.size) 0 1 rfl rfl
        have f01 := HF2.out.frozA (b := w.heap.size) 0 1 rfl rfl
        have c02 := HF2.out.cellA (b := w.heap.size) 0 2 rfl rfl
        have f02 := HF2.out.frozA (b := w.heap.size) 0 2 rfl rfl
        have c03 := HF2.out.cellA (b := w.heap.size) 0 3 rfl rfl
        have f03 := HF2.out.frozA (b := w.heap.size) 0 3 rfl rfl
        have z1 : w.heap.size + 1 < w1.heap.size := HF2.out.ltA 1 rfl (by simp)
        have c10 := HF2.out.cellA (b := w.heap.size + 1) 1 0 rfl rfl
        have f10 := HF2.out.frozA (b := w.heap.size + 1) 1 0 rfl rfl
        have c11 := HF2.out.cellA (b := w.heap.size + 1) 1 1 rfl rfl
        have f11 := HF2.out.frozA (b := w.heap.size + 1) 1 1 rfl rfl
        go_wp2_with (fail)
        refine (ONE.out _).mono ?_
        rintro e w2 ⟨rfl, hb2⟩
        have HF3 := Lib.hid ((HF2.out.alloc _).below hb2)
        clear z0 c00 f00 c01 f01 c02 f02 c03 f03 z1 c10 f10 c11 f11
        clear ONE hb2 HF2
        have z0 : w.heap.size < w2.heap.size := HF3.out.ltA 0 rfl (by simp)
        have c00 := HF3.out.cellA (b := w.heap.size) 0 0 rfl rfl
        have f00 := HF3.out.frozA (b := w.heap.size) 0 0 rfl rfl
        have c01 := HF3.out.cellA (b := w.heap.size) 0 1 rfl rfl
        have f01 := HF3.out.frozA (b := w.heap.size) 0 1 rfl rfl
        have c02 := HF3.out.cellA (b := w.heap.size) 0 2 rfl rfl
        have f02 := HF3.out.frozA (b := w.heap.size) 0 2 rfl rfl
        have c03 := HF3.out.cellA (b := w.heap.size) 0 3 rfl rfl
        have f03 := HF3.out.frozA (b := w.heap.size) 0 3 rfl rfl
        have z1 : w.heap.size + 1 < w2.heap.size := HF3.out.ltA 1 rfl (by simp)
        have c10 := HF3.out.cellA (b := w.heap.size + 1) 1 0 rfl rfl
        have f10 := HF3.out.frozA (b := w.heap.size + 1) 1 0 rfl rfl
        have c11 := HF3.out.cellA (b := w.heap.size + 1) 1 1 rfl rfl
        have f11 := HF3.out.frozA (b := w.heap.size + 1) 1 1 rfl rfl
        go_wp2_with (fail)
        refine bodyPost_ret (v := .tuple #[.agg #[.int .i64 0, .int .i64 0], .int .i64 3]) (by simp [results, Tryz.results14, go_sem, c10, c11, z1, f10, f11]) rfl (RetN.mk' HWR.out ?_)
        repeat (first | exact HF3.out.b | refine stw ?_ (by omega) | refine alw ?_ (by omega))
      · rw [hm] at hWR
        have HWR : Hid (secR p c h s' own other = (m2, (d2 : Int), 0)) := hWR
        have ONE := Lib.hid fun (W : World) => one_call (W := W) (p := p) (c := c) (h := h) hs1 hs6 hval hm
        clear hm hval hWR
        go_enter Tryz.func14, Tryz.ntmps14
        go_wp2_with (fail)
        refine CW.out.mono ?_
        rintro e w1 ⟨rfl, hb1⟩
        have HF2 := Lib.hid (HF1.out.below hb1)
        clear CW hb1 HF1
        have z0 : w.heap.size < w1.heap.size := HF2.out.ltA 0 rfl (by simp)
        have c00 := HF2.out.cellA (b := w.heap.size) 0 0 rfl rfl
        have f00 := HF2.out.frozA (b := w.heap.size) 0 0 rfl rfl
        have c01 := HF2.out.cellA (b := w.heap.size) 0 1 rfl rfl
        have f01 := HF2.out.frozA (b := w.heap.size) 0 1 rfl rfl
        have c02 := HF2.out.cellA (b := w.heap.size) 0 2 rfl rfl
        have f02 := HF2.out.frozA (b := w.heap.size) 0 2 rfl rfl
        have c03 := HF2.out.cellA (b := w.heap.size) 0 3 rfl rfl
        have f03 := HF2.out.frozA (b := w.heap.size) 0 3 rfl rfl
        have z1 : w.heap.size + 1 < w1.heap.size := HF2.out.ltA 1 rfl (by simp)
        have c10 := HF2.out.cellA (b := w.heap.size + 1) 1 0 rfl rfl
        have f10 := HF2.out.frozA (b := w.heap.size + 1) 1 0 rfl rfl
        have c11 := HF2.out.cellA (b := w.heap.size + 1) 1 1 rfl rfl
        have f11 := HF2.out.frozA (b := w.heap.size + 1) 1 1 rfl rfl
        go_wp2_with (fail)
        refine (ONE.out _).mono ?_
        rintro e w2 ⟨rfl, hb2⟩
        have HF3 := Lib.hid ((HF2.out.alloc _).below hb2)
        clear z0 c00 f00 c01 f01 c02 f02 c03 f03 z1 c10 f10 c11 f11
        clear ONE hb2 HF2
        have z0 : w.heap.size < w2.heap.size := HF3.out.ltA 0 rfl (by simp)
        have c00 := HF3.out.cellA (b := w.heap.size) 0 0 rfl rfl
        have f00 := HF3.out.frozA (b := w.heap.size) 0 0 rfl rfl
        have c01 := HF3.out.cellA (b := w.heap.size) 0 1 rfl rfl
        have f01 := HF3.out.frozA (b := w.heap.size) 0 1 rfl rfl
        have c02 := HF3.out.cellA (b := w.heap.size) 0 2 rfl rfl
        have f02 := HF3.out.frozA (b := w.heap.size) 0 2 rfl rfl
        have c03 := HF3.out.cellA (b := w.heap.size) 0 3 rfl rfl
        have f03 := HF3.out.frozA (b := w.heap.size) 0 3 rfl rfl
        have z1 : w.heap.size + 1 < w2.heap.size := HF3.out.ltA 1 rfl (by simp)
        have c10 := HF3.out.cellA (b := w.heap.size + 1) 1 0 rfl rfl
        have f10 := HF3.out.frozA (b := w.heap.size + 1) 1 0 rfl rfl
        have c11 := HF3.out.cellA (b := w.heap.size + 1) 1 1 rfl rfl
        have f11 := HF3.out.frozA (b := w.heap.size + 1) 1 1 rfl rfl
        go_wp2_with (fail)
        refine bodyPost_ret (v := .tuple #[.agg #[.int .i64 m2, .int .i64 (d2 : Int)], .int .i64 0]) (by simp [results, Tryz.results14, go_sem, c10, c11, z1, f10, f11]) rfl (RetN.mk' HWR.out ?_)
        repeat (first | exact HF3.out.b | refine stw ?_ (by omega) | refine alw ?_ (by omega))
  · have hct' : codeW p c h s other own false ≠ 0 := by rw [codeW_comm]; exact hct
    have hrr : r = (0, 0, codeW p c h s own other false) := by
      rw [hr]
      unfold winR
      rw [if_neg hct', codeW_comm]
    have HWR : Hid (secR p c h s own other = (0, 0, codeW p c h s own other false)) := by
      unfold Hid secR
      rw [if_neg hct]
    subst hrr
    clear hr
    generalize codeW p c h s own other false = k at *
    have b0 : (k != 0) = true := by simp [hct]
    clear hct hct'
    go_enter Tryz.func14, Tryz.ntmps14
    go_wp2_with (fail)
    refine CW.out.mono ?_
    rintro e w1 ⟨rfl, hb1⟩
    have HF2 := Lib.hid (HF1.out.below hb1)
    clear CW hb1 HF1
    have z0 : w.heap.size < w1.heap.size := HF2.out.ltA 0 rfl (by simp)
    have c00 := HF2.out.cellA (b := w.heap.size) 0 0 rfl rfl
    have f00 := HF2.out.frozA (b := w.heap.size) 0 0 rfl rfl
    have c01 := HF2.out.cellA (b := w.heap.size) 0 1 rfl rfl
    have f01 := HF2.out.frozA (b := w.heap.size) 0 1 rfl rfl
    have c02 := HF2.out.cellA (b := w.heap.size) 0 2 rfl rfl
    have f02 := HF2.out.frozA (b := w.heap.size) 0 2 rfl rfl
    have c03 := HF2.out.cellA (b := w.heap.size) 0 3 rfl rfl
    have f03 := HF2.out.frozA (b := w.heap.size) 0 3 rfl rfl
    have z1 : w.heap.size + 1 < w1.heap.size := HF2.out.ltA 1 rfl (by simp)
    have c10 := HF2.out.cellA (b := w.heap.size + 1) 1 0 rfl rfl
    have f10 := HF2.out.frozA (b := w.heap.size + 1) 1 0 rfl rfl
    have c11 := HF2.out.cellA (b := w.heap.size + 1) 1 1 rfl rfl
    have f11 := HF2.out.frozA (b := w.heap.size + 1) 1 1 rfl rfl
    go_wp2_with (fail)
    refine bodyPost_ret (v := .tuple #[.agg #[.int .i64 0, .int .i64 0], .int .i64 k]) (by simp [results, Tryz.results14, go_sem, c10, c11, z1, f10, f11]) rfl (RetN.mk' HWR.out ?_)
    repeat (first | exact HF2.out.b | refine stw ?_ (by omega) | refine alw ?_ (by omega))

set_option maxRecDepth 100000 in
set_option maxHeartbeats 2000000 in
theorem sSecondChance_any (p c h s : Int) (A B : Option Addr) (n m ca cb : Nat) (own other : List Int) (w : World) (hA : SL w A n own) (hB : SL w B m other) (hca : n ≤ ca) (hcb : m ≤ cb) :
    Calls Tryz.prog 11 #[.agg #[.int .i64 p, .int .i64 c, .int .i64 h, .int .i64 s], .slice A n ca, .slice B m cb] w (RetN w (secR p c h s own other)) := by
  have HF1 : Hid (Fr w ((w.alloc (.cells #[.int .i64 p, .int .i64 c, .int .i64 h, .int .i64 s] 29)).alloc (.cells #[.int .i64 0, .int .i64 0] 26)) [[.int .i64 p, .int .i64 c, .int .i64 h, .int .i64 s], [.int .i64 0, .int .i64 0]]) := ((Fr.start w).allocT (by simp) _ _).allocT (by simp) _ _
  have HA1 := Lib.hid (hA.below HF1.out.b)
  have HB1 := Lib.hid (hB.below HF1.out.b)
  have HAL := Lib.hid hA.1
  have HBL := Lib.hid hB.1
  have CT := Lib.hid (l12Code_no p c h s 0 0 A B n m ca cb own other false _ HA1.out HB1.out)
  clear hA hB
  by_cases hct : codeW p c h s own other false = 0
  · obtain ⟨hv, hp1, hp2, hN⟩ := codeT_ok (codeW_T hct)
    have hvv := isVar_yes hv
    obtain ⟨c', rfl⟩ : ∃ c' : Nat, c = c' := ⟨c.toNat, by omega⟩
    obtain ⟨h', rfl⟩ : ∃ h' : Nat, h = h' := ⟨h.toNat, by omega⟩
    obtain ⟨s', rfl⟩ : ∃ s' : Nat, s = s' := ⟨s.toNat, by omega⟩
    have hs1 : 1 ≤ s' := by omega
    have hs6 : s' ≤ 6 := by omega
    obtain ⟨hq1, hq36, _⟩ := sq_bd hs1 hs6
    have HP1 := Lib.hid (posB_pos hp1)
    have HP2 := Lib.hid (posB_pos hp2)
    simp only [Int.toNat_natCast] at hN
    have hnh : h' = n := by rw [← HAL.out]; exact (HP1.out.1).symm
    have hmh : h' = m := by rw [← HBL.out]; exact (HP2.out.1).symm
    subst hnh
    subst hmh
    have CNEW := Lib.hid fun (W : World) => l12New_any p c' h' s' W hv hN
    have hWR : secR p c' h' s' own other = numR ((win s' other own).bind (oneM (sq s'))) := by
      unfold secR
      rw [if_pos hct, Int.toNat_natCast]
      rfl
    rw [hct] at CT
    clear hct hv hp1 hp2 hN hvv
    rcases hwo : win s' other own with _ | ⟨m1, d1⟩
    · rw [hwo] at hWR
      have HWR : Hid (secR p c' h' s' own other = (0, 0, 3)) := hWR
      have HWO := Lib.hid hwo
      clear hwo hWR
      go_enter Tryz.func11, Tryz.ntmps11
      go_wp2_with (fail)
      refine CT.out.mono ?_
      rintro e w1 ⟨rfl, hb1⟩
      have HF2 := Lib.hid (HF1.out.below hb1)
      have HA2 := Lib.hid (HA1.out.below hb1)
      have HB2 := Lib.hid (HB1.out.below hb1)
      clear CT hb1 HF1 HA1 HB1
      have z0 : w.heap.size < w1.heap.size := HF2.out.ltA 0 rfl (by simp)
      have c00 := HF2.out.cellA (b := w.heap.size) 0 0 rfl rfl
      have f00 := HF2.out.frozA (b := w.heap.size) 0 0 rfl rfl
      have c01 := HF2.out.cellA (b := w.heap.size) 0 1 rfl rfl
      have f01 := HF2.out.frozA (b := w.heap.size) 0 1 rfl rfl
      have c02 := HF2.out.cellA (b := w.heap.size) 0 2 rfl rfl
      have f02 := HF2.out.frozA (b := w.heap.size) 0 2 rfl rfl
      have c03 := HF2.out.cellA (b := w.heap.size) 0 3 rfl rfl
      have f03 := HF2.out.frozA (b := w.heap.size) 0 3 rfl rfl
      have z1 : w.heap.size + 1 < w1.heap.size := HF2.out.ltA 1 rfl (by simp)
      have c10 := HF2.out.cellA (b := w.heap.size + 1) 1 0 rfl rfl
      have f10 := HF2.out.frozA (b := w.heap.size + 1) 1 0 rfl rfl
      have c11 := HF2.out.cellA (b := w.heap.size + 1) 1 1 rfl rfl
      have f11 := HF2.out.frozA (b := w.heap.size + 1) 1 1 rfl rfl
      go_wp2_with (fail)
      refine (CNEW.out _).mono ?_
      rintro e w2 ⟨t, _, hc', hh', hs', rfl, hok, hI, hlow, hbt, hb2⟩
      have CWIN := Lib.hid (value_new hc' hh' hs' hok hI hlow hb2 HP2.out HP1.out HB2.out HA2.out hcb hca)
      have HLOW := Lib.hid hlow
      have HF3 := Lib.hid (HF2.out.below hb2)
      have hz1 : w.heap.size + 2 ≤ w1.heap.size := by have := HF2.out.z; simpa using this
      clear hc' hh' hs' hok hI hlow hbt hb2 HA2 HB2 CNEW
      clear z0 c00 f00 c01 f01 c02 f02 c03 f03 z1 c10 f10 c11 f11
      go_wp2_with (fail)
      refine CWIN.out.mono ?_
      rintro e w3 ⟨rfl, hf3⟩
      have HF4 : Hid (Fr w w3 [[.int .i64 p, .int .i64 c', .int .i64 h', .int .i64 s'], [.int .i64 0, .int .i64 0]]) := HF3.out.frm hf3 (fun k hk => by have := HLOW.out k hk; omega) (fun k hk => by have := HLOW.out k hk; simp; omega)
      clear hf3 HF3 HF2 CWIN HLOW
      rw [HWO.out]
      unfold exV
      simp only [Option.getD_none, Option.isSome_none, Option.getD_some, Option.isSome_some]
      have z0 : w.heap.size < w3.heap.size := HF4.out.ltA 0 rfl (by simp)
      have c00 := HF4.out.cellA (b := w.heap.size) 0 0 rfl rfl
      have f00 := HF4.out.frozA (b := w.heap.size) 0 0 rfl rfl
      have c01 := HF4.out.cellA (b := w.heap.size) 0 1 rfl rfl
      have f01 := HF4.out.frozA (b := w.heap.size) 0 1 rfl rfl
      have c02 := HF4.out.cellA (b := w.heap.size) 0 2 rfl rfl
      have f02 := HF4.out.frozA (b := w.heap.size) 0 2 rfl rfl
      have c03 := HF4.out.cellA (b := w.heap.size) 0 3 rfl rfl
      have f03 := HF4.out.frozA (b := w.heap.size) 0 3 rfl rfl
      have z1 : w.heap.size + 1 < w3.heap.size := HF4.out.ltA 1 rfl (by simp)
      have c10 := HF4.out.cellA (b := w.heap.size + 1) 1 0 rfl rfl
      have f10 := HF4.out.frozA (b := w.heap.size + 1) 1 0 rfl rfl
      have c11 := HF4.out.cellA (b := w.heap.size + 1) 1 1 rfl rfl
      have f11 := HF4.out.frozA (b := w.heap.size + 1) 1 1 rfl rfl
      go_wp2_with (fail)
      refine bodyPost_ret (v := .tuple #[.agg #[.int .i64 0, .int .i64 0], .int .i64 3]) (by simp [results, Tryz.results11, go_sem, c10, c11, z1, f10, f11]) rfl (RetN.mk' HWR.out ?_)
      repeat (first | exact HF4.out.b | refine stw ?_ (by omega) | refine alw ?_ (by omega))
    · have hval := win_val hq1 hwo
      rw [hwo] at hWR
      replace hWR : secR p c' h' s' own other = numR (oneM (sq s') ⟨m1, d1⟩) := hWR
      have HWO := Lib.hid hwo
      clear hwo
      rcases hm : oneM (sq s') ⟨m1, d1⟩ with _ | ⟨m2, d2⟩
      · rw [hm] at hWR
        have HWR : Hid (secR p c' h' s' own other = (0, 0, 3)) := hWR
        have ONE := Lib.hid fun (W : World) => l12_callN (W := W) (p := p) (c := c') (h := h') hs1 hs6 hval hm
        clear hm hval hWR
        go_enter Tryz.func11, Tryz.ntmps11
        go_wp2_with (fail)
        refine CT.out.mono ?_
        rintro e w1 ⟨rfl, hb1⟩
        have HF2 := Lib.hid (HF1.out.below hb1)
        have HA2 := Lib.hid (HA1.out.below hb1)
        have HB2 := Lib.hid (HB1.out.below hb1)
        clear CT hb1 HF1 HA1 HB1
        have z0 : w.heap.size < w1.heap.size := HF2.out.ltA 0 rfl (by simp)
        have c00 := HF2.out.cellA (b := w.heap.size) 0 0 rfl rfl
        have f00 := HF2.out.frozA (b := w.heap.size) 0 0 rfl rfl
        have c01 := HF2.out.cellA (b := w.heap.size) 0 1 rfl rfl
        have f01 := HF2.out.frozA (b := w.heap.size) 0 1 rfl rfl
        have c02 := HF2.out.cellA (b := w.heap.size) 0 2 rfl rfl
        have f02 := HF2.out.frozA (b := w.heap.size) 0 2 rfl rfl
        have c03 := HF2.out.cellA (b := w.heap.size) 0 3 rfl rfl
        have f03 := HF2.out.frozA (b := w.heap.size) 0 3 rfl rfl
        have z1 : w.heap.size + 1 < w1.heap.size := HF2.out.ltA 1 rfl (by simp)
        have c10 := HF2.out.cellA (b := w.heap.size + 1) 1 0 rfl rfl
        have f10 := HF2.out.frozA (b := w.heap.size + 1) 1 0 rfl rfl
        have c11 := HF2.out.cellA (b := w.heap.size + 1) 1 1 rfl rfl
        have f11 := HF2.out.frozA (b := w.heap.size + 1) 1 1 rfl rfl
        go_wp2_with (fail)
        refine (CNEW.out _).mono ?_
        rintro e w2 ⟨t, _, hc', hh', hs', rfl, hok, hI, hlow, hbt, hb2⟩
        have CWIN := Lib.hid (value_new hc' hh' hs' hok hI hlow hb2 HP2.out HP1.out HB2.out HA2.out hcb hca)
        have HLOW := Lib.hid hlow
        have HF3 := Lib.hid (HF2.out.below hb2)
        have hz1 : w.heap.size + 2 ≤ w1.heap.size := by have := HF2.out.z; simpa using this
        clear hc' hh' hs' hok hI hlow hbt hb2 HA2 HB2 CNEW
        clear z0 c00 f00 c01 f01 c02 f02 c03 f03 z1 c10 f10 c11 f11
        go_wp2_with (fail)
        refine CWIN.out.mono ?_
        rintro e w3 ⟨rfl, hf3⟩
        have HF4 : Hid (Fr w w3 [[.int .i64 p, .int .i64 c', .int .i64 h', .int .i64 s'], [.int .i64 0, .int .i64 0]]) := HF3.out.frm hf3 (fun k hk => by have := HLOW.out k hk; omega) (fun k hk => by have := HLOW.out k hk; simp; omega)
        clear hf3 HF3 HF2 CWIN HLOW
        rw [HWO.out]
        unfold exV
        simp only [Option.getD_none, Option.isSome_none, Option.getD_some, Option.isSome_some]
        have z0 : w.heap.size < w3.heap.size := HF4.out.ltA 0 rfl (by simp)
        have c00 := HF4.out.cellA (b := w.heap.size) 0 0 rfl rfl
        have f00 := HF4.out.frozA (b := w.heap.size) 0 0 rfl rfl
        have c01 := HF4.out.cellA (b := w.heap.size) 0 1 rfl rfl
        have f01 := HF4.out.frozA (b := w.heap.size) 0 1 rfl rfl
        have c02 := HF4.out.cellA (b := w.heap.size) 0 2 rfl rfl
        have f02 := HF4.out.frozA (b := w.heap.size) 0 2 rfl rfl
        have c03 := HF4.out.cellA (b := w.heap.size) 0 3 rfl rfl
        have f03 := HF4.out.frozA (b := w.heap.size) 0 3 rfl rfl
        have z1 : w.heap.size + 1 < w3.heap.size := HF4.out.ltA 1 rfl (by simp)
        have c10 := HF4.out.cellA (b := w.heap.size + 1) 1 0 rfl rfl
        have f10 := HF4.out.frozA (b := w.heap.size + 1) 1 0 rfl rfl
        have c11 := HF4.out.cellA (b := w.heap.size + 1) 1 1 rfl rfl
        have f11 := HF4.out.frozA (b := w.heap.size + 1) 1 1 rfl rfl
        go_wp2_with (fail)
        refine (ONE.out _).mono ?_
        rintro e w4 ⟨rfl, hb2⟩
        have HF5 := Lib.hid ((HF4.out.alloc _).below hb2)
        clear z0 c00 f00 c01 f01 c02 f02 c03 f03 z1 c10 f10 c11 f11
        clear ONE hb2 HF4
        have z0 : w.heap.size < w4.heap.size := HF5.out.ltA 0 rfl (by simp)
        have c00 := HF5.out.cellA (b := w.heap.size) 0 0 rfl rfl
        have f00 := HF5.out.frozA (b := w.heap.size) 0 0 rfl rfl
        have c01 := HF5.out.cellA (b := w.heap.size) 0 1 rfl rfl
        have f01 := HF5.out.frozA (b := w.heap.size) 0 1 rfl rfl
        have c02 := HF5.out.cellA (b := w.heap.size) 0 2 rfl rfl
        have f02 := HF5.out.frozA (b := w.heap.size) 0 2 rfl rfl
        have c03 := HF5.out.cellA (b := w.heap.size) 0 3 rfl rfl
        have f03 := HF5.out.frozA (b := w.heap.size) 0 3 rfl rfl
        have z1 : w.heap.size + 1 < w4.heap.size := HF5.out.ltA 1 rfl (by simp)
        have c10 := HF5.out.cellA (b := w.heap.size + 1) 1 0 rfl rfl
        have f10 := HF5.out.frozA (b := w.heap.size + 1) 1 0 rfl rfl
        have c11 := HF5.out.cellA (b := w.heap.size + 1) 1 1 rfl rfl
        have f11 := HF5.out.frozA (b := w.heap.size + 1) 1 1 rfl rfl
        go_wp2_with (fail)
        refine bodyPost_ret (v := .tuple #[.agg #[.int .i64 0, .int .i64 0], .int .i64 3]) (by simp [results, Tryz.results11, go_sem, c10, c11, z1, f10, f11]) rfl (RetN.mk' HWR.out ?_)
        repeat (first | exact HF5.out.b | refine stw ?_ (by omega) | refine alw ?_ (by omega))
      · rw [hm] at hWR
        have HWR : Hid (secR p c' h' s' own other = (m2, (d2 : Int), 0)) := hWR
        have ONE := Lib.hid fun (W : World) => l12_call (W := W) (p := p) (c := c') (h := h') hs1 hs6 hval hm
        clear hm hval hWR
        go_enter Tryz.func11, Tryz.ntmps11
        go_wp2_with (fail)
        refine CT.out.mono ?_
        rintro e w1 ⟨rfl, hb1⟩
        have HF2 := Lib.hid (HF1.out.below hb1)
        have HA2 := Lib.hid (HA1.out.below hb1)
        have HB2 := Lib.hid (HB1.out.below hb1)
        clear CT hb1 HF1 HA1 HB1
        have z0 : w.heap.size < w1.heap.size := HF2.out.ltA 0 rfl (by simp)
        have c00 := HF2.out.cellA (b := w.heap.size) 0 0 rfl rfl
        have f00 := HF2.out.frozA (b := w.heap.size) 0 0 rfl rfl
        have c01 := HF2.out.cellA (b := w.heap.size) 0 1 rfl rfl
        have f01 := HF2.out.frozA (b := w.heap.size) 0 1 rfl rfl
        have c02 := HF2.out.cellA (b := w.heap.size) 0 2 rfl rfl
        have f02 := HF2.out.frozA (b := w.heap.size) 0 2 rfl rfl
        have c03 := HF2.out.cellA (b := w.heap.size) 0 3 rfl rfl
        have f03 := HF2.out.frozA (b := w.heap.size) 0 3 rfl rfl
        have z1 : w.heap.size + 1 < w1.heap.size := HF2.out.ltA 1 rfl (by simp)
        have c10 := HF2.out.cellA (b := w.heap.size + 1) 1 0 rfl rfl
        have f10 := HF2.out.frozA (b := w.heap.size + 1) 1 0 rfl rfl
        have c11 := HF2.out.cellA (b := w.heap.size + 1) 1 1 rfl rfl
        have f11 := HF2.out.frozA (b := w.heap.size + 1) 1 1 rfl rfl
        go_wp2_with (fail)
        refine (CNEW.out _).mono ?_
        rintro e w2 ⟨t, _, hc', hh', hs', rfl, hok, hI, hlow, hbt, hb2⟩
        have CWIN := Lib.hid (value_new hc' hh' hs' hok hI hlow hb2 HP2.out HP1.out HB2.out HA2.out hcb hca)
        have HLOW := Lib.hid hlow
        have HF3 := Lib.hid (HF2.out.below hb2)
        have hz1 : w.heap.size + 2 ≤ w1.heap.size := by have := HF2.out.z; simpa using this
        clear hc' hh' hs' hok hI hlow hbt hb2 HA2 HB2 CNEW
        clear z0 c00 f00 c01 f01 c02 f02 c03 f03 z1 c10 f10 c11 f11
        go_wp2_with (fail)
        refine CWIN.out.mono ?_
        rintro e w3 ⟨rfl, hf3⟩
        have HF4 : Hid (Fr w w3 [[.int .i64 p, .int .i64 c', .int .i64 h', .int .i64 s'], [.int .i64 0, .int .i64 0]]) := HF3.out.frm hf3 (fun k hk => by have := HLOW.out k hk; omega) (fun k hk => by have := HLOW.out k hk; simp; omega)
        clear hf3 HF3 HF2 CWIN HLOW
        rw [HWO.out]
        unfold exV
        simp only [Option.getD_none, Option.isSome_none, Option.getD_some, Option.isSome_some]
        have z0 : w.heap.size < w3.heap.size := HF4.out.ltA 0 rfl (by simp)
        have c00 := HF4.out.cellA (b := w.heap.size) 0 0 rfl rfl
        have f00 := HF4.out.frozA (b := w.heap.size) 0 0 rfl rfl
        have c01 := HF4.out.cellA (b := w.heap.size) 0 1 rfl rfl
        have f01 := HF4.out.frozA (b := w.heap.size) 0 1 rfl rfl
        have c02 := HF4.out.cellA (b := w.heap.size) 0 2 rfl rfl
        have f02 := HF4.out.frozA (b := w.heap.size) 0 2 rfl rfl
        have c03 := HF4.out.cellA (b := w.heap.size) 0 3 rfl rfl
        have f03 := HF4.out.frozA (b := w.heap.size) 0 3 rfl rfl
        have z1 : w.heap.size + 1 < w3.heap.size := HF4.out.ltA 1 rfl (by simp)
        have c10 := HF4.out.cellA (b := w.heap.size + 1) 1 0 rfl rfl
        have f10 := HF4.out.frozA (b := w.heap.size + 1) 1 0 rfl rfl
        have c11 := HF4.out.cellA (b := w.heap.size + 1) 1 1 rfl rfl
        have f11 := HF4.out.frozA (b := w.heap.size + 1) 1 1 rfl rfl
        go_wp2_with (fail)
        refine (ONE.out _).mono ?_
        rintro e w4 ⟨rfl, hb2⟩
        have HF5 := Lib.hid ((HF4.out.alloc _).below hb2)
        clear z0 c00 f00 c01 f01 c02 f02 c03 f03 z1 c10 f10 c11 f11
        clear ONE hb2 HF4
        have z0 : w.heap.size < w4.heap.size := HF5.out.ltA 0 rfl (by simp)
        have c00 := HF5.out.cellA (b := w.heap.size) 0 0 rfl rfl
        have f00 := HF5.out.frozA (b := w.heap.size) 0 0 rfl rfl
        have c01 := HF5.out.cellA (b := w.heap.size) 0 1 rfl rfl
        have f01 := HF5.out.frozA (b := w.heap.size) 0 1 rfl rfl
        have c02 := HF5.out.cellA (b := w.heap.size) 0 2 rfl rfl
        have f02 := HF5.out.frozA (b := w.heap.size) 0 2 rfl rfl
        have c03 := HF5.out.cellA (b := w.heap.size) 0 3 rfl rfl
        have f03 := HF5.out.frozA (b := w.heap.size) 0 3 rfl rfl
        have z1 : w.heap.size + 1 < w4.heap.size := HF5.out.ltA 1 rfl (by simp)
        have c10 := HF5.out.cellA (b := w.heap.size + 1) 1 0 rfl rfl
        have f10 := HF5.out.frozA (b := w.heap.size + 1) 1 0 rfl rfl
        have c11 := HF5.out.cellA (b := w.heap.size + 1) 1 1 rfl rfl
        have f11 := HF5.out.frozA (b := w.heap.size + 1) 1 1 rfl rfl
        go_wp2_with (fail)
        refine bodyPost_ret (v := .tuple #[.agg #[.int .i64 m2, .int .i64 (d2 : Int)], .int .i64 0]) (by simp [results, Tryz.results11, go_sem, c10, c11, z1, f10, f11]) rfl (RetN.mk' HWR.out ?_)
        repeat (first | exact HF5.out.b | refine stw ?_ (by omega) | refine alw ?_ (by omega))
  · have HWR : Hid (secR p c h s own other = (0, 0, codeW p c h s own other false)) := by
      unfold Hid secR
      rw [if_neg hct]
    generalize codeW p c h s own other false = k at *
    have b0 : (k != 0) = true := by simp [hct]
    clear hct
    go_enter Tryz.func11, Tryz.ntmps11
    go_wp2_with (fail)
    refine CT.out.mono ?_
    rintro e w1 ⟨rfl, hb1⟩
    have HF2 := Lib.hid (HF1.out.below hb1)
    clear CT hb1 HF1 HA1 HB1
    have z0 : w.heap.size < w1.heap.size := HF2.out.ltA 0 rfl (by simp)
    have c00 := HF2.out.cellA (b := w.heap.size) 0 0 rfl rfl
    have f00 := HF2.out.frozA (b := w.heap.size) 0 0 rfl rfl
    have c01 := HF2.out.cellA (b := w.heap.size) 0 1 rfl rfl
    have f01 := HF2.out.frozA (b := w.heap.size) 0 1 rfl rfl
    have c02 := HF2.out.cellA (b := w.heap.size) 0 2 rfl rfl
    have f02 := HF2.out.frozA (b := w.heap.size) 0 2 rfl rfl
    have c03 := HF2.out.cellA (b := w.heap.size) 0 3 rfl rfl
    have f03 := HF2.out.frozA (b := w.heap.size) 0 3 rfl rfl
    have z1 : w.heap.size + 1 < w1.heap.size := HF2.out.ltA 1 rfl (by simp)
    have c10 := HF2.out.cellA (b := w.heap.size + 1) 1 0 rfl rfl
    have f10 := HF2.out.frozA (b := w.heap.size + 1) 1 0 rfl rfl
    have c11 := HF2.out.cellA (b := w.heap.size + 1) 1 1 rfl rfl
    have f11 := HF2.out.frozA (b := w.heap.size + 1) 1 1 rfl rfl
    go_wp2_with (fail)
    refine bodyPost_ret (v := .tuple #[.agg #[.int .i64 0, .int .i64 0], .int .i64 k]) (by simp [results, Tryz.results11, go_sem, c10, c11, z1, f10, f11]) rfl (RetN.mk' HWR.out ?_)
    repeat (first | exact HF2.out.b | refine stw ?_ (by omega) | refine alw ?_ (by omega))
end Go.Proofs.YtlbkfhdnhalpbaaGreat

/- Contracts of what the laws do with results: they are held against each other, marked, and looked at again. There are no conditions. -/
namespace Go.Proofs.YtlbkfhdnhalpbaaGreat
set_option linter.unusedVariables false
set_option linter.unusedSimpArgs false
open Go.RowKit


theorem eqInt64S_yes (A1 A2 : Option Addr) (n c1 c2 : Nat) (xs : List Int) (w : World) (h1 : SL w A1 n xs) (h2 : SL w A2 n xs) (hn : n ≤ 2000000) :
    Calls Tryz.prog 16 #[.slice A1 n c1, .slice A2 n c2] w fun e w' => e = .returned (.bool true) ∧ Below w.heap.size w w' := by
  have H1 := Lib.hid h1
  have H2 := Lib.hid h2
  clear h1 h2
  have hne : ((n : Int) != (n : Int)) = false := by simp
  go_enter Tryz.func16, Tryz.ntmps16
  go_wp2_with (fail)
  go_loopw [5] (fun i wr => ∃ k : Nat, k ≤ n ∧ i = .int .i64 k ∧ Below w.heap.size w wr) (fun i _ => n - (intOf i).toNat)
  case atStart => exact ⟨0, by omega, rfl, Below.refl _ _⟩
  case round =>
    obtain ⟨k, hk, rfl, hb⟩ := hrel
    by_cases hlt : k < n
    · obtain ⟨x1, o1, rfl, hb1, hc1⟩ := (H1.out.keep (Nat.le_refl _) hb).2 (by omega)
      obtain ⟨x2, o2, rfl, hb2, hc2⟩ := (H2.out.keep (Nat.le_refl _) hb).2 (by omega)
      have q1 := hc1 k hlt
      have q2 := hc2 k hlt
      have hki : (k : Int) < (n : Int) := by omega
      have hk0 : (0 : Int) ≤ (k : Int) := by omega
      clear hc1 hc2
      generalize xs.getD k 0 = u at *
      go_wp2_with (fail)
      refine wp_region_more (by kernel_rfl) (by kernel_rfl) ?_
      repeat (first | go_big_quiet_step ((fail)) | quiet_step ((fail)))
      refine wpQuiet_nil ?_
      intro _ hw'
      obtain ⟨tq, hw''⟩ := hw'
      subst hw''
      have hbm := below_more wr tq
      go_wp2
      go_roundw
      case rel => exact ⟨k + 1, by omega, by go_num, hb.trans (hbm.mono hb.size)⟩
      case measure => simp [intOf]; omega
    · go_wp2
      go_ret
      exact ⟨rfl, hb⟩

/-- The numbers k, k + 1, .. -/
def seqL (k n : Nat) : List Int := (List.range n).map fun i => ((k + i : Nat) : Int)
theorem seqL_length (k n : Nat) : (seqL k n).length = n := by simp [seqL]
theorem seqL_getD (k n i : Nat) (h : i < n) : (seqL k n).getD i 0 = ((k + i : Nat) : Int) := by simp [seqL, List.getD, h]

theorem mixL_step (k : Nat) (xs : List Int) (i : Nat) (h : i < xs.length) : (seqL k i ++ xs.drop i).set i ((k + i : Nat) : Int) = seqL k (i + 1) ++ xs.drop (i + 1) := by
  rw [List.set_append_right _ _ (by rw [seqL_length]; omega), seqL_length, Nat.sub_self, List.drop_eq_getElem_cons h, List.set_cons_zero]
  simp [seqL, List.range_succ]

theorem grown_trans' {a b c : World} {r : Option Nat} (h : a.grownBy b r) (k : b.grownBy c r) : a.grownBy c r :=
  ⟨k.os.trans h.os, k.tape.trans h.tape, k.output.trans h.output, Nat.le_trans h.size k.size, fun i hi hne => (k.block i (Nat.lt_of_lt_of_le hi h.size) hne).trans (h.block i hi hne)⟩

theorem markInt64S_any (A : Option Addr) (n c base : Nat) (e : TypeId) (xs : List Int) (k : Nat) (w : World) (hown : OwnS w base e (.slice A n c) xs) (hn : n ≤ 2000000) (hk : k ≤ 100000000) :
    Calls Tryz.prog 20 #[.slice A n c, .int .i64 k] w fun en w' => en = .returned (.int .i64 ((k + n : Nat) : Int)) ∧ OwnS w' base e (.slice A n c) (seqL k n) ∧ w.grownBy w' (Value.slice A n c).ownBlock := by
  have hl := (hown.sl rfl).1.1
  have HL := Lib.hid hl
  have HO := Lib.hid hown
  clear hl hown
  go_enter Tryz.func20, Tryz.ntmps20
  go_wp2_with (fail)
  go_loopw [1, 5] (fun q i wr => ∃ j : Nat, j ≤ n ∧ i = .int .i64 j ∧ q = .int .i64 ((k + j : Nat) : Int) ∧ OwnS wr base e (.slice A n c) (seqL k j ++ xs.drop j) ∧ w.grownBy wr (Value.slice A n c).ownBlock) (fun _ i _ => n - (intOf i).toNat)
  case atStart => exact ⟨0, by omega, rfl, by simp, by simpa [seqL] using HO.out, World.grownBy.refl _ _⟩
  case round =>
    obtain ⟨j, hj, rfl, rfl, ho, hg⟩ := hrel
    by_cases hlt : j < n
    · obtain ⟨g, rfl, hg1, hg2, hcl, hfr⟩ := own_form ho (by omega)
      have q1 := hcl j hlt
      have q2 := hfr j
      have hki : (j : Int) < (n : Int) := by omega
      have hk0 : (0 : Int) ≤ (j : Int) := by omega
      have HN := Lib.hid (ho.stored j ((k + j : Nat) : Int))
      have HG : Hid (w.grownBy (wr.setCell ⟨g, j, none⟩ (.int .i64 ((k + j : Nat) : Int))) (some g)) := grown_trans' hg ⟨rfl, rfl, rfl, by simp, fun i _ hne => Below.heap_setCell _ _ _ _ (fun h => hne (by rw [h]))⟩
      have HM := Lib.hid (mixL_step k xs j (by rw [HL.out]; exact hlt))
      clear hcl hfr ho hg
      generalize (seqL k j ++ xs.drop j).getD j 0 = u at *
      have hs1 : ((k + j : Nat) : Int) + 1 = ((k + (j + 1) : Nat) : Int) := by omega
      have HS := Lib.hid hs1
      clear hs1
      have hb0 : 0 ≤ ((k + j : Nat) : Int) := by omega
      have hb1 : ((k + j : Nat) : Int) ≤ 200000000 := by omega
      generalize hkj : ((k + j : Nat) : Int) = K at *
      go_wp2
      go_roundw
      case rel => exact ⟨j + 1, by omega, by go_num, by rw [HS.out], by rw [← HM.out]; exact HN.out, HG.out⟩
      case measure => simp [intOf]; omega
    · obtain rfl : j = n := by omega
      have HF : Hid (OwnS wr base e (.slice A j c) (seqL k j)) := by
        have := ho
        rw [List.drop_eq_nil_of_le (by rw [HL.out]; exact Nat.le_refl _), List.append_nil] at this
        exact this
      have HG := Lib.hid hg
      clear ho hg
      generalize hkj : ((k + j : Nat) : Int) = K at *
      have HK := Lib.hid hkj
      clear hkj
      go_wp2
      go_ret
      exact ⟨ret_int (by have := HK.out; omega), HF.out, HG.out⟩

theorem heldInt64S_yes (A : Option Addr) (n c k : Nat) (w : World) (hx : SL w A n (seqL k n)) (hn : n ≤ 2000000) (hk : k ≤ 100000000) :
    Calls Tryz.prog 21 #[.slice A n c, .int .i64 k] w fun e w' => e = .returned (.int .i64 ((k + n : Nat) : Int)) ∧ w = w' := by
  have HX := Lib.hid hx
  clear hx
  go_enter Tryz.func21, Tryz.ntmps21
  go_wp2_with (fail)
  go_loop [1, 5] (fun q i => ∃ j : Nat, j ≤ n ∧ i = .int .i64 j ∧ q = .int .i64 ((k + j : Nat) : Int)) (fun _ i => n - (intOf i).toNat)
  case atStart => exact ⟨0, by omega, rfl, by simp⟩
  case round =>
    obtain ⟨j, hj, rfl, rfl⟩ := hrel
    by_cases hlt : j < n
    · obtain ⟨x1, o1, rfl, hb1, hc1⟩ := HX.out.2 (by omega)
      have q1 := hc1 j hlt
      rw [seqL_getD k n j hlt] at q1
      clear hc1
      have hs1 : ((k + j : Nat) : Int) + 1 = ((k + (j + 1) : Nat) : Int) := by omega
      have HS := Lib.hid hs1
      clear hs1
      have hb0 : 0 ≤ ((k + j : Nat) : Int) := by omega
      have hb1 : ((k + j : Nat) : Int) ≤ 200000000 := by omega
      generalize hkj : ((k + j : Nat) : Int) = K at *
      have hne : (K != K) = false := by simp
      go_wp2
      go_round
      case rel => exact ⟨j + 1, by omega, by go_num, by rw [HS.out]⟩
      case measure => simp [intOf]; omega
    · obtain rfl : j = n := by omega
      generalize hkj : ((k + j : Nat) : Int) = K at *
      have HK := Lib.hid hkj
      clear hkj
      go_wp2
      go_ret
      exact ⟨ret_int (by have := HK.out; omega), rfl⟩
end Go.Proofs.YtlbkfhdnhalpbaaGreat

/- A slice of boards that reads as a list; how the laws measure and copy what comes in. There are no conditions. -/
namespace Go.Proofs.YtlbkfhdnhalpbaaGreat
set_option linter.unusedVariables false
set_option linter.unusedSimpArgs false
open Go.RowKit

/-- The slice value '.slice A n c' of boards reads as bs in w. -/
def SBs (w : World) (A : Option Addr) (n : Nat) (bs : List (List Int × List Int)) : Prop :=
  bs.length = n ∧ (0 < n → ∃ b off, A = some ⟨b, off, none⟩ ∧ b < w.heap.size ∧ ∀ i, i < n → ∃ A1 n1 c1 A2 n2 c2, w.cell? ⟨b, off + i * 2, none⟩ = some (.slice A1 n1 c1) ∧ w.cell? ⟨b, off + i * 2 + 1, none⟩ = some (.slice A2 n2 c2) ∧
    SL w A1 n1 (bs.getD i ([], [])).1 ∧ SL w A2 n2 (bs.getD i ([], [])).2 ∧ n1 ≤ maxLen ∧ n2 ≤ maxLen)

theorem SBs.below {w w' : World} {A : Option Addr} {n : Nat} {bs : List (List Int × List Int)} (h : SBs w A n bs) (hb : Below w.heap.size w w') : SBs w' A n bs := by
  refine ⟨h.1, fun hn => ?_⟩
  obtain ⟨b, off, hA, hlt, hc⟩ := h.2 hn
  refine ⟨b, off, hA, Nat.lt_of_lt_of_le hlt hb.size, fun i hi => ?_⟩
  obtain ⟨A1, n1, c1, A2, n2, c2, h1, h2, h3, h4, h5, h6⟩ := hc i hi
  exact ⟨A1, n1, c1, A2, n2, c2, keep_cell h1 hb, keep_cell h2 hb, h3.below hb, h4.below hb, h5, h6⟩
theorem SBs.more {w : World} {A : Option Addr} {n : Nat} {bs : List (List Int × List Int)} (h : SBs w A n bs) (t : World) : SBs (more w t) A n bs := h.below (below_more w t)
theorem SBs.alloc {w : World} {A : Option Addr} {n : Nat} {bs : List (List Int × List Int)} (h : SBs w A n bs) (o : Obj) : SBs (w.alloc o) A n bs := h.below ((Below.refl _ _).alloc (Nat.le_refl _) o)
theorem SBs.nil_ (w : World) (A : Option Addr) : SBs w A 0 [] := ⟨rfl, fun h => absurd h (by omega)⟩

/-! ### measuring -/
/-- What is left behind a measure of tot: a number below 0 if it was too little. -/
def RetZ (w : World) (left : Int) (tot : Nat) (en : Ending) (w' : World) : Prop := ∃ r : Int, en = .returned (.int .i64 r) ∧ -1 ≤ r ∧ r ≤ left ∧ (0 ≤ r → (tot : Int) ≤ left - r) ∧ Below w.heap.size w w'

/-- How many numbers the boards hold. -/
def totB (bs : List (List Int × List Int)) : Nat := (bs.map fun b => b.1.length + b.2.length).sum
theorem totB_step (bs : List (List Int × List Int)) (k : Nat) (h : k < bs.length) : totB (bs.take (k + 1)) = totB (bs.take k) + ((bs.getD k ([], [])).1.length + (bs.getD k ([], [])).2.length) := by
  unfold totB
  rw [List.take_succ_eq_append_getElem h, List.map_append, List.sum_append]
  simp [List.getD, h]

theorem totB_mem (bs : List (List Int × List Int)) : ∀ b ∈ bs, b.1.length + b.2.length ≤ totB bs := by
  unfold totB
  induction bs with
  | nil => intro b hb; cases hb
  | cons x r ih =>
    intro b hb
    simp only [List.map_cons, List.sum_cons]
    rcases List.mem_cons.1 hb with rfl | hb
    · omega
    · have := ih b hb; omega
end Go.Proofs.YtlbkfhdnhalpbaaGreat

/- How the laws copy what comes in: numbers, boards, rolls. There are no conditions. -/
namespace Go.Proofs.YtlbkfhdnhalpbaaGreat
set_option linter.unusedVariables false
set_option linter.unusedSimpArgs false
open Go.RowKit

theorem mixZ_step (xs : List Int) (n k : Nat) (hl : xs.length = n) (h : k < n) : (xs.take k ++ List.replicate (n - k) (0 : Int)).set k (xs.getD k 0) = xs.take (k + 1) ++ List.replicate (n - (k + 1)) 0 := by
  have hk : (xs.take k).length = k := by rw [List.length_take]; omega
  have e : n - k = (n - (k + 1)) + 1 := by omega
  have h' : k < xs.length := by omega
  have g : xs.getD k 0 = xs[k] := by simp [List.getD, h']
  rw [List.set_append_right _ _ (by omega), hk, Nat.sub_self, e, List.replicate_succ, List.set_cons_zero, List.take_succ_eq_append_getElem h', List.append_assoc, g]
  rfl

theorem toInt64S_any (A : Option Addr) (n c : Nat) (xs : List Int) (w : World) (hx : SL w A n xs) (hn : n ≤ 2000000) :
    Calls Tryz.prog 13 #[.slice A n c] w (RetO w 2 xs) := by
  obtain ⟨i0, hi, hz0, hz1, hz2⟩ := info_parts Tryz.infoI
  have HX := Lib.hid hx
  clear hx
  go_enter Tryz.func13, Tryz.ntmps13
  go_wp2_with (at_make; refine wpList_make_full _ rfl _ _ 24 rfl w.heap.size 2 i0 (.int .i64 0) 1 Tryz.underlying24 hi hz0 hz1 _ _ _ _ n rfl rfl rfl rfl (by rw [hz2]; omega) (by unfold maxLen; omega) (Nat.le_refl _) ?_; intro w1 hown hgrow)
  have hb : Below w.heap.size w w1 := (Below.refl _ _).grown hgrow (Nat.le_refl _) (by simp)
  have hO : OwnS w1 w.heap.size 2 (.slice (some ⟨w.heap.size, 0, none⟩) n n) (xs.take 0 ++ List.replicate (n - 0) 0) := by
    unfold OwnS
    simp only [List.take_zero, List.nil_append, Nat.sub_zero, List.length_replicate, List.map_replicate]
    have e : (madeCells #[Value.int .i64 0] (n * 1)).toList = List.replicate n (Value.int .i64 0) := by rw [Nat.mul_one]; exact toList_madeCells_one _ _
    first | (rw [show (Value.int IntKind.i64 0).cells = #[Value.int .i64 0] from rfl, e] at hown; exact hown) | (rw [e] at hown; exact hown) | (rw [Nat.mul_one] at e; rw [e] at hown; exact hown)
  have HO := Lib.hid hO
  have HB := Lib.hid hb
  have hg2 : w.heap.size < w1.heap.size := (hO.lt _ rfl).2
  clear hown hgrow hb hO
  go_wp2_with (fail)
  go_loopw [4] (fun i wr => ∃ k : Nat, k ≤ n ∧ i = .int .i64 k ∧ OwnS wr w.heap.size 2 (.slice (some ⟨w.heap.size, 0, none⟩) n n) (xs.take k ++ List.replicate (n - k) 0) ∧ Below w.heap.size w wr) (fun i _ => n - (intOf i).toNat)
  case atStart => exact ⟨0, by omega, rfl, HO.out, HB.out⟩
  case round =>
    obtain ⟨k, hk, rfl, ho, hb⟩ := hrel
    by_cases hlt : k < n
    · obtain ⟨b, off, rfl, hbl, hc⟩ := (HX.out.keep (Nat.le_refl _) hb).2 (by omega)
      have q1 := hc k hlt
      obtain ⟨b', off', hA', hbl', _⟩ := HX.out.2 (by omega)
      injection hA' with hA'
      injection hA' with hA1 hA2
      subst hA1 hA2
      obtain ⟨g, hg0, _, _, hcl, hfr⟩ := own_form ho (by omega)
      injection hg0 with hg0
      injection hg0 with hg0 _
      subst hg0
      have q2 := hcl k hlt
      have q3 := hfr k
      have hki : (k : Int) < (n : Int) := by omega
      have hk0 : (0 : Int) ≤ (k : Int) := by omega
      have HN := Lib.hid (ho.stored k (xs.getD k 0))
      have HM := Lib.hid (mixZ_step xs n k HX.out.1 hlt)
      have HB2 := Lib.hid (hb.setCell (p := ⟨w.heap.size, k, none⟩) (Nat.le_refl _) (.int .i64 (xs.getD k 0)))
      have hne : b ≠ w.heap.size := by omega
      clear hc hcl hfr ho hb
      generalize (xs.take k ++ List.replicate (n - k) 0).getD k 0 = u at *
      generalize xs.getD k 0 = x at *
      go_wp2_with (fail)
      go_roundw
      case rel => exact ⟨k + 1, by omega, by go_num, by rw [← HM.out]; exact HN.out, HB2.out⟩
      case measure => simp [intOf]; omega
    · obtain rfl : k = n := by omega
      have HF : Hid (RetO w 2 xs (.returned (.slice (some ⟨w.heap.size, 0, none⟩) k k)) wr) := by
        have h := ho
        rw [List.take_of_length_le (by rw [HX.out.1]; exact Nat.le_refl _), Nat.sub_self, List.replicate_zero, List.append_nil] at h
        exact RetO.mk h hb
      clear ho hb
      go_wp2_with (fail)
      go_ret
      exact HF.out

/-- A call hands back a board of the call's own. -/
def RetBd (w : World) (own other : List Int) (en : Ending) (w' : World) : Prop := ∃ A1 c1 A2 c2, en = .returned (.agg #[.slice A1 own.length c1, .slice A2 other.length c2]) ∧
  OwnS w' w.heap.size 2 (.slice A1 own.length c1) own ∧ OwnS w' w.heap.size 2 (.slice A2 other.length c2) other ∧
  ((Value.slice A1 own.length c1).ownBlock = none ∨ (Value.slice A1 own.length c1).ownBlock ≠ (Value.slice A2 other.length c2).ownBlock) ∧ Below w.heap.size w w'

theorem toRoll_any (a b : Int) (w : World) :
    Calls Tryz.prog 18 #[.agg #[.int .i64 a, .int .i64 b]] w fun e w' => e = .returned (.agg #[.int .i64 a, .int .i64 b]) ∧ Below w.heap.size w w' := by
  go_enter Tryz.func18, Tryz.ntmps18
  go_wp2
  exact bodyPost_ret (v := .agg #[.int .i64 a, .int .i64 b]) (by simp [results, Tryz.results18, go_sem]) rfl ⟨rfl, (((Below.refl _ _).alloc (Nat.le_refl _) _).alloc (by simp) _).alloc (by simp; omega) _⟩

end Go.Proofs.YtlbkfhdnhalpbaaGreat

/- The statement FnExactWinChance, the law's walk. There are no conditions. -/
namespace Go.Proofs.YtlbkfhdnhalpbaaGreat
set_option linter.unusedVariables false
set_option linter.unusedSimpArgs false
open Go.RowKit Ps Ra Ex

theorem eqExact_yes (m d : Int) (w : World) :
    Calls Tryz.prog 15 #[.agg #[.int .i64 m, .int .i64 d], .agg #[.int .i64 m, .int .i64 d]] w fun e w' => e = .returned (.bool true) ∧ Below w.heap.size w w' := by
  have h1 : (m != m) = false := by simp
  have h2 : (d != d) = false := by simp
  go_enter Tryz.func15, Tryz.ntmps15
  go_wp2
  go_ret
  exact ⟨rfl, ((Below.refl _ _).alloc (Nat.le_refl _) _).alloc (by simp) _⟩

end Go.Proofs.YtlbkfhdnhalpbaaGreat

/- The statement FnExactSecondChance, the law's walk. There are no conditions. -/
namespace Go.Proofs.YtlbkfhdnhalpbaaGreat
set_option linter.unusedVariables false
set_option linter.unusedSimpArgs false
open Go.RowKit Ps Ra Ex

set_option maxRecDepth 100000 in
theorem secondChance_law (p c h s : Int) (A B : Option Addr) (n m ca cb : Nat) (own other : List Int) (w : World) (hA : SL w A n own) (hB : SL w B m other) :
    Calls Tryz.prog 3 #[.agg #[.int .i64 p, .int .i64 c, .int .i64 h, .int .i64 s], .slice A n ca, .slice B m cb] w fun e w' => e = .returned (.bool true) ∧ Below w.heap.size w w' := by
  have HF : Hid (Fr w (w.alloc (.cells #[.int .i64 p, .int .i64 c, .int .i64 h, .int .i64 s] 23)) [[.int .i64 p, .int .i64 c, .int .i64 h, .int .i64 s]]) := (Fr.start w).allocT (by simp) _ _
  have HA := Lib.hid (hA.below HF.out.b)
  have HB := Lib.hid (hB.below HF.out.b)
  have HAL := Lib.hid hA.1
  have HBL := Lib.hid hB.1
  clear hA hB
  by_cases hn : (1048576 : Int) < (n : Int)
  · go_enter Tryz.func3, Tryz.ntmps3
    go_wp2
    go_ret
    exact ⟨rfl, HF.out.b⟩
  by_cases hm : (1048576 : Int) < (m : Int)
  · go_enter Tryz.func3, Tryz.ntmps3
    go_wp2
    go_ret
    exact ⟨rfl, HF.out.b⟩
  have hn' : n ≤ 2000000 := by omega
  have hm' : m ≤ 2000000 := by omega
  have hno : own.length ≤ 2000000 := by rw [HAL.out]; exact hn'
  have hmo : other.length ≤ 2000000 := by rw [HBL.out]; exact hm'
  go_enter Tryz.func3, Tryz.ntmps3
  go_wp2_with (fail)
  refine (toVariant_any _ _ _ _ _).mono ?_
  rintro e w1 ⟨rfl, hb1⟩
  have HF1 := Lib.hid (HF.out.below hb1)
  have HA1 := Lib.hid (HA.out.below hb1)
  have HB1 := Lib.hid (HB.out.below hb1)
  clear hb1 HF HA HB
  have z0 : w.heap.size < w1.heap.size := HF1.out.ltA 0 rfl (by simp)
  have c00 := HF1.out.cellA (b := w.heap.size) 0 0 rfl rfl
  have f00 := HF1.out.frozA (b := w.heap.size) 0 0 rfl rfl
  have c01 := HF1.out.cellA (b := w.heap.size) 0 1 rfl rfl
  have f01 := HF1.out.frozA (b := w.heap.size) 0 1 rfl rfl
  have c02 := HF1.out.cellA (b := w.heap.size) 0 2 rfl rfl
  have f02 := HF1.out.frozA (b := w.heap.size) 0 2 rfl rfl
  have c03 := HF1.out.cellA (b := w.heap.size) 0 3 rfl rfl
  have f03 := HF1.out.frozA (b := w.heap.size) 0 3 rfl rfl
  go_wp2_with (fail)
  refine (toInt64S_any _ _ _ _ _ HA1.out hn').mono ?_
  rintro e w2 ⟨X1, k1, rfl, ho1, hb2⟩
  have HX2 := Lib.hid (ho1.sl rfl)
  have HF2 := Lib.hid (HF1.out.below hb2)
  have HA2 := Lib.hid (HA1.out.below hb2)
  have HB2 := Lib.hid (HB1.out.below hb2)
  clear hb2 ho1 HF1 HA1 HB1
  clear z0 c00 f00 c01 f01 c02 f02 c03 f03
  have z0 : w.heap.size < w2.heap.size := HF2.out.ltA 0 rfl (by simp)
  have c00 := HF2.out.cellA (b := w.heap.size) 0 0 rfl rfl
  have f00 := HF2.out.frozA (b := w.heap.size) 0 0 rfl rfl
  have c01 := HF2.out.cellA (b := w.heap.size) 0 1 rfl rfl
  have f01 := HF2.out.frozA (b := w.heap.size) 0 1 rfl rfl
  have c02 := HF2.out.cellA (b := w.heap.size) 0 2 rfl rfl
  have f02 := HF2.out.frozA (b := w.heap.size) 0 2 rfl rfl
  have c03 := HF2.out.cellA (b := w.heap.size) 0 3 rfl rfl
  have f03 := HF2.out.frozA (b := w.heap.size) 0 3 rfl rfl
  go_wp2_with (fail)
  refine (toInt64S_any _ _ _ _ _ HB2.out hm').mono ?_
  rintro e w3 ⟨X2, k2, rfl, ho1, hb2⟩
  have HY3 := Lib.hid (ho1.sl rfl)
  have HX3 := Lib.hid (HX2.out.1.below hb2)
  have HXk := Lib.hid HX2.out.2
  have HF3 := Lib.hid (HF2.out.below hb2)
  have HA3 := Lib.hid (HA2.out.below hb2)
  have HB3 := Lib.hid (HB2.out.below hb2)
  clear hb2 ho1 HF2 HA2 HB2 HX2
  clear z0 c00 f00 c01 f01 c02 f02 c03 f03
  have z0 : w.heap.size < w3.heap.size := HF3.out.ltA 0 rfl (by simp)
  have c00 := HF3.out.cellA (b := w.heap.size) 0 0 rfl rfl
  have f00 := HF3.out.frozA (b := w.heap.size) 0 0 rfl rfl
  have c01 := HF3.out.cellA (b := w.heap.size) 0 1 rfl rfl
  have f01 := HF3.out.frozA (b := w.heap.size) 0 1 rfl rfl
  have c02 := HF3.out.cellA (b := w.heap.size) 0 2 rfl rfl
  have f02 := HF3.out.frozA (b := w.heap.size) 0 2 rfl rfl
  have c03 := HF3.out.cellA (b := w.heap.size) 0 3 rfl rfl
  have f03 := HF3.out.frozA (b := w.heap.size) 0 3 rfl rfl
  go_wp2_with (fail)
  refine (sSecondChance_any _ _ _ _ _ _ _ _ _ _ _ _ _ HX3.out HY3.out.1 HXk.out HY3.out.2).mono ?_
  rintro e w4 ⟨rfl, hb2⟩
  obtain ⟨r, hr⟩ : ∃ r, r = secR p c h s own other := ⟨_, rfl⟩
  obtain ⟨r1, r2, r3⟩ := r
  rw [← hr]
  have HR := Lib.hid hr
  have HF4 := Lib.hid (HF3.out.below hb2)
  have HA4 := Lib.hid (HA3.out.below hb2)
  have HB4 := Lib.hid (HB3.out.below hb2)
  clear hb2 hr HF3 HA3 HB3 HX3 HY3 HXk
  clear z0 c00 f00 c01 f01 c02 f02 c03 f03
  have z0 : w.heap.size < w4.heap.size := HF4.out.ltA 0 rfl (by simp)
  have c00 := HF4.out.cellA (b := w.heap.size) 0 0 rfl rfl
  have f00 := HF4.out.frozA (b := w.heap.size) 0 0 rfl rfl
  have c01 := HF4.out.cellA (b := w.heap.size) 0 1 rfl rfl
  have f01 := HF4.out.frozA (b := w.heap.size) 0 1 rfl rfl
  have c02 := HF4.out.cellA (b := w.heap.size) 0 2 rfl rfl
  have f02 := HF4.out.frozA (b := w.heap.size) 0 2 rfl rfl
  have c03 := HF4.out.cellA (b := w.heap.size) 0 3 rfl rfl
  have f03 := HF4.out.frozA (b := w.heap.size) 0 3 rfl rfl
  go_wp2_with (fail)
  obtain ⟨V4, hV4⟩ : ∃ V, V = w4.alloc (.cells #[.int .i64 r1, .int .i64 r2] 26) := ⟨_, rfl⟩
  rw [← hV4]
  have HG4 : Hid (Fr w4 V4 [[.int .i64 r1, .int .i64 r2]]) := by rw [hV4]; exact (Fr.start w4).allocT (by simp) _ _
  have HF5 : Hid (Fr w V4 [[.int .i64 p, .int .i64 c, .int .i64 h, .int .i64 s]]) := by rw [hV4]; exact HF4.out.alloc _
  have HA5 : Hid (SL V4 A n own) := by rw [hV4]; exact HA4.out.alloc _
  have HB5 : Hid (SL V4 B m other) := by rw [hV4]; exact HB4.out.alloc _
  clear hV4 HF4 HA4 HB4
  refine (toInt64S_any _ _ _ _ _ HA5.out hn').mono ?_
  rintro e w5 ⟨X1, k1, rfl, ho1, hb2⟩
  have HX6 := Lib.hid (ho1.sl rfl)
  have HF6 := Lib.hid (HF5.out.below hb2)
  have HG6 := Lib.hid (HG4.out.below hb2)
  have HA6 := Lib.hid (HA5.out.below hb2)
  have HB6 := Lib.hid (HB5.out.below hb2)
  clear hb2 ho1 HF5 HG4 HA5 HB5
  clear z0 c00 f00 c01 f01 c02 f02 c03 f03
  have z0 : w.heap.size < w5.heap.size := HF6.out.ltA 0 rfl (by simp)
  have c00 := HF6.out.cellA (b := w.heap.size) 0 0 rfl rfl
  have f00 := HF6.out.frozA (b := w.heap.size) 0 0 rfl rfl
  have c01 := HF6.out.cellA (b := w.heap.size) 0 1 rfl rfl
  have f01 := HF6.out.frozA (b := w.heap.size) 0 1 rfl rfl
  have c02 := HF6.out.cellA (b := w.heap.size) 0 2 rfl rfl
  have f02 := HF6.out.frozA (b := w.heap.size) 0 2 rfl rfl
  have c03 := HF6.out.cellA (b := w.heap.size) 0 3 rfl rfl
  have f03 := HF6.out.frozA (b := w.heap.size) 0 3 rfl rfl
  go_wp2_with (fail)
  refine (toInt64S_any _ _ _ _ _ HB6.out hm').mono ?_
  rintro e w6 ⟨X2, k2, rfl, ho1, hb2⟩
  have HY7 := Lib.hid (ho1.sl rfl)
  have HX7 := Lib.hid (HX6.out.1.below hb2)
  have HXk := Lib.hid HX6.out.2
  have HF7 := Lib.hid (HF6.out.below hb2)
  have HG7 := Lib.hid (HG6.out.below hb2)
  have HA7 := Lib.hid (HA6.out.below hb2)
  have HB7 := Lib.hid (HB6.out.below hb2)
  clear hb2 ho1 HF6 HG6 HA6 HB6 HX6
  clear z0 c00 f00 c01 f01 c02 f02 c03 f03
  have z0 : w.heap.size < w6.heap.size := HF7.out.ltA 0 rfl (by simp)
  have c00 := HF7.out.cellA (b := w.heap.size) 0 0 rfl rfl
  have f00 := HF7.out.frozA (b := w.heap.size) 0 0 rfl rfl
  have c01 := HF7.out.cellA (b := w.heap.size) 0 1 rfl rfl
  have f01 := HF7.out.frozA (b := w.heap.size) 0 1 rfl rfl
  have c02 := HF7.out.cellA (b := w.heap.size) 0 2 rfl rfl
  have f02 := HF7.out.frozA (b := w.heap.size) 0 2 rfl rfl
  have c03 := HF7.out.cellA (b := w.heap.size) 0 3 rfl rfl
  have f03 := HF7.out.frozA (b := w.heap.size) 0 3 rfl rfl
  go_wp2_with (fail)
  refine (toVariant_any _ _ _ _ _).mono ?_
  rintro e w7 ⟨rfl, hb2⟩
  have HX8 := Lib.hid (HX7.out.below hb2)
  have HY8 := Lib.hid (HY7.out.1.below hb2)
  have HYk := Lib.hid HY7.out.2
  have HF8 := Lib.hid (HF7.out.below hb2)
  have HG8 := Lib.hid (HG7.out.below hb2)
  have HA8 := Lib.hid (HA7.out.below hb2)
  have HB8 := Lib.hid (HB7.out.below hb2)
  clear hb2 HF7 HG7 HA7 HB7 HX7 HY7
  clear z0 c00 f00 c01 f01 c02 f02 c03 f03
  have z0 : w.heap.size < w7.heap.size := HF8.out.ltA 0 rfl (by simp)
  have c00 := HF8.out.cellA (b := w.heap.size) 0 0 rfl rfl
  have f00 := HF8.out.frozA (b := w.heap.size) 0 0 rfl rfl
  have c01 := HF8.out.cellA (b := w.heap.size) 0 1 rfl rfl
  have f01 := HF8.out.frozA (b := w.heap.size) 0 1 rfl rfl
  have c02 := HF8.out.cellA (b := w.heap.size) 0 2 rfl rfl
  have f02 := HF8.out.frozA (b := w.heap.size) 0 2 rfl rfl
  have c03 := HF8.out.cellA (b := w.heap.size) 0 3 rfl rfl
  have f03 := HF8.out.frozA (b := w.heap.size) 0 3 rfl rfl
  go_wp2_with (fail)
  refine (SecondChance_any _ _ _ _ _ _ _ _ _ _ _ _ _ HX8.out HY8.out HXk.out HYk.out).mono ?_
  rintro e w8 ⟨rfl, hb2⟩
  rw [← HR.out]
  have HX9 := Lib.hid (HX8.out.below hb2)
  have HY9 := Lib.hid (HY8.out.below hb2)
  have HF9 := Lib.hid (HF8.out.below hb2)
  have HG9 := Lib.hid (HG8.out.below hb2)
  have HA9 := Lib.hid (HA8.out.below hb2)
  have HB9 := Lib.hid (HB8.out.below hb2)
  clear hb2 HF8 HG8 HA8 HB8 HX8 HY8
  clear z0 c00 f00 c01 f01 c02 f02 c03 f03
  have z0 : w.heap.size < w8.heap.size := HF9.out.ltA 0 rfl (by simp)
  have c00 := HF9.out.cellA (b := w.heap.size) 0 0 rfl rfl
  have f00 := HF9.out.frozA (b := w.heap.size) 0 0 rfl rfl
  have c01 := HF9.out.cellA (b := w.heap.size) 0 1 rfl rfl
  have f01 := HF9.out.frozA (b := w.heap.size) 0 1 rfl rfl
  have c02 := HF9.out.cellA (b := w.heap.size) 0 2 rfl rfl
  have f02 := HF9.out.frozA (b := w.heap.size) 0 2 rfl rfl
  have c03 := HF9.out.cellA (b := w.heap.size) 0 3 rfl rfl
  have f03 := HF9.out.frozA (b := w.heap.size) 0 3 rfl rfl
  have gz0 : w4.heap.size < w8.heap.size := HG9.out.ltA 0 rfl (by simp)
  have gc00 := HG9.out.cellA (b := w4.heap.size) 0 0 rfl rfl
  have gf00 := HG9.out.frozA (b := w4.heap.size) 0 0 rfl rfl
  have gc01 := HG9.out.cellA (b := w4.heap.size) 0 1 rfl rfl
  have gf01 := HG9.out.frozA (b := w4.heap.size) 0 1 rfl rfl
  have hr3 : (r3 != r3) = false := by simp
  have H9 : Hid (w4.heap.size < w8.heap.size) := gz0
  go_wp2_with (fail)
  refine (eqExact_yes _ _ _).mono ?_
  rintro e w9 ⟨rfl, hb2⟩
  have HXa := Lib.hid ((HX9.out.alloc _).below hb2)
  have HYa := Lib.hid ((HY9.out.alloc _).below hb2)
  have HFa := Lib.hid ((HF9.out.alloc _).below hb2)
  have HAa := Lib.hid ((HA9.out.alloc _).below hb2)
  have HBa := Lib.hid ((HB9.out.alloc _).below hb2)
  clear z0 c00 f00 c01 f01 c02 f02 c03 f03
  clear gz0 gc00 gf00 gc01 gf01
  clear hb2 HF9 HG9 HA9 HB9 HX9 HY9
  go_wp2_with (fail)
  refine (toInt64S_any _ _ _ _ _ HAa.out hn').mono ?_
  rintro e wb ⟨Z1, l1, rfl, ho1, hb2⟩
  have HZb := Lib.hid (ho1.sl rfl).1
  have HXb := Lib.hid (HXa.out.below hb2)
  have HYb := Lib.hid (HYa.out.below hb2)
  have HFb := Lib.hid (HFa.out.below hb2)
  have HBb := Lib.hid (HBa.out.below hb2)
  clear ho1 hb2 HXa HYa HFa HAa HBa
  go_wp2_with (fail)
  refine (eqInt64S_yes _ _ _ _ _ _ _ HXb.out HZb.out hno).mono ?_
  rintro e wc ⟨rfl, hb2⟩
  have HYc := Lib.hid (HYb.out.below hb2)
  have HFc := Lib.hid (HFb.out.below hb2)
  have HBc := Lib.hid (HBb.out.below hb2)
  clear hb2 HXb HYb HFb HBb HZb
  go_wp2_with (fail)
  refine (toInt64S_any _ _ _ _ _ HBc.out hm').mono ?_
  rintro e wd ⟨Z2, l2, rfl, ho1, hb2⟩
  have HZd := Lib.hid (ho1.sl rfl).1
  have HYd := Lib.hid (HYc.out.below hb2)
  have HFd := Lib.hid (HFc.out.below hb2)
  clear ho1 hb2 HYc HFc HBc
  go_wp2_with (fail)
  refine (eqInt64S_yes _ _ _ _ _ _ _ HYd.out HZd.out hmo).mono ?_
  rintro e we ⟨rfl, hb2⟩
  have HFe := Lib.hid (HFd.out.below hb2).b
  clear hb2 HYd HFd HZd
  go_wp2_with (fail)
  go_ret
  exact ⟨rfl, HFe.out⟩
end Go.Proofs.YtlbkfhdnhalpbaaGreat

/- What comes in, opened: slices of integers, slices of boards, desks. There are no conditions. -/
namespace Go.Proofs.YtlbkfhdnhalpbaaGreat
set_option linter.unusedVariables false
set_option linter.unusedSimpArgs false
open Go.ChangeShapes Go.WideShapes Go.ChangeAt Go.RowKit Go.Joins Go.Deep

theorem cellsV : Tryz.prog.cellsOf 23 = 4 := by kernel_rfl
theorem cellsR : Tryz.prog.cellsOf 36 = 2 := by kernel_rfl
theorem cellsS : Tryz.prog.cellsOf 24 = 1 := by kernel_rfl
theorem cellsI : Tryz.prog.cellsOf 2 = 1 := by kernel_rfl

section
variable {H : Type} {enc : TypeId × Value → H} {w : World} {base : Nat} {spare : Nat → Bool} {held : Bool} {fuel : Nat}

theorem fld {t : TypeId} {fs : Array Field} {cs : List Value} {x : DataW H × List MemPlace} (ht : Tryz.prog.underlying t = some (.struct fs)) (h : DataW.trod enc Tryz.prog w base spare held fuel t cs = some x) :
    cs.length = Tryz.prog.cellsOf t ∧ ∃ n, ∀ (i : Nat) (f : Field), fs[i]? = some f → ∃ y, DataW.trod enc Tryz.prog w base spare held n f.type ((cs.drop f.offset).take (Tryz.prog.cellsOf f.type)) = some y := by
  obtain ⟨xs, n, _, _, hl, hx, hf⟩ := DataW.trod_struct ht h
  refine ⟨hl, n, fun i f hi => ?_⟩
  have hlt : i < xs.length := by rw [hx]; exact (Array.getElem?_eq_some_iff.1 hi).1
  exact ⟨_, (hf i f hi).trans (List.getElem?_eq_getElem hlt)⟩

theorem fldT {t : TypeId} {cs : List Value} {y0 : DataW H × List MemPlace} {P : Program} {n : Nat} {t' : TypeId} {cs' : List Value} (h : DataW.trod enc P w base spare held n t cs = some y0) (e1 : t = t') (e2 : cs = cs') : DataW.trod enc P w base spare held n t' cs' = some y0 := by subst e1 e2; exact h

theorem openInt {cs : List Value} {x : DataW H × List MemPlace} (h : DataW.trod enc Tryz.prog w base spare held fuel 2 cs = some x) : ∃ n : Int, cs = [.int .i64 n] ∧ (Lit.int .i64 n).wf = true := by
  obtain ⟨n, h1, _, h2⟩ := DataW.trod_int Tryz.underlying2 h
  exact ⟨n, h1, h2⟩

theorem openSL {cs : List Value} {x : DataW H × List MemPlace} (h : DataW.trod enc Tryz.prog w base spare held fuel 24 cs = some x) :
    ∃ A n c xs, cs = [.slice A n c] ∧ SL w A n xs ∧ n ≤ maxLen ∧ ∀ z ∈ xs, (Lit.int .i64 z).wf = true := by
  rcases open_ints Tryz.underlying24 Tryz.underlying2 cellsI h with ⟨rfl, _⟩ | ⟨a, len, cap, zs, rfl, _, hl, hm, hz, _, hcell, hw⟩
  · exact ⟨none, 0, 0, [], rfl, SL.nil_ _, by simp [maxLen], by simp⟩
  · have hle : len ≤ zs.length := by rw [hz]; split <;> omega
    refine ⟨some a, len, cap, zs.take len, rfl, ⟨by simp; omega, fun hn => ?_⟩, by omega, fun z hz' => hw z (List.mem_of_mem_take hz')⟩
    obtain ⟨b, off, spot⟩ := a
    have h0 := hcell 0 (by omega)
    have hspot : spot = none := by simpa [Addr.add] using World.cell?_spot h0
    subst hspot
    refine ⟨b, off, rfl, World.block_lt_of_cell? w _ h0, fun i hi => ?_⟩
    have h1 := hcell i (by omega)
    rw [add_plain] at h1
    rw [h1]
    simp [List.getD, List.getElem?_take, hi]

set_option maxRecDepth 100000 in
theorem openVariant {cs : List Value} {x : DataW H × List MemPlace} (h : DataW.trod enc Tryz.prog w base spare held fuel 23 cs = some x) :
    ∃ p c g s : Int, cs = [.int .i64 p, .int .i64 c, .int .i64 g, .int .i64 s] ∧ (Lit.int .i64 p).wf = true ∧ (Lit.int .i64 c).wf = true ∧ (Lit.int .i64 g).wf = true ∧ (Lit.int .i64 s).wf = true := by
  obtain ⟨hl, n, hf⟩ := fld Tryz.underlying23 h
  obtain ⟨y0, h0⟩ := hf 0 _ rfl
  obtain ⟨y1, h1⟩ := hf 1 _ rfl
  obtain ⟨y2, h2⟩ := hf 2 _ rfl
  obtain ⟨y3, h3⟩ := hf 3 _ rfl
  rw [cellsV] at hl
  match cs, hl with
  | [v0, v1, v2, v3], _ =>
    obtain ⟨p, e0, w0⟩ := openInt (fldT h0 (t' := 2) (cs' := [v0]) rfl (by show List.take (Tryz.prog.cellsOf 2) _ = _; rw [cellsI]; rfl))
    obtain ⟨c, e1, w1⟩ := openInt (fldT h1 (t' := 2) (cs' := [v1]) rfl (by show List.take (Tryz.prog.cellsOf 2) _ = _; rw [cellsI]; rfl))
    obtain ⟨g, e2, w2⟩ := openInt (fldT h2 (t' := 2) (cs' := [v2]) rfl (by show List.take (Tryz.prog.cellsOf 2) _ = _; rw [cellsI]; rfl))
    obtain ⟨s, e3, w3⟩ := openInt (fldT h3 (t' := 2) (cs' := [v3]) rfl (by show List.take (Tryz.prog.cellsOf 2) _ = _; rw [cellsI]; rfl))
    simp at e0 e1 e2 e3
    subst e0 e1 e2 e3
    exact ⟨p, c, g, s, rfl, w0, w1, w2, w3⟩

set_option maxRecDepth 100000 in
theorem openRoll {cs : List Value} {x : DataW H × List MemPlace} (h : DataW.trod enc Tryz.prog w base spare held fuel 36 cs = some x) :
    ∃ p c : Int, cs = [.int .i64 p, .int .i64 c] ∧ (Lit.int .i64 p).wf = true ∧ (Lit.int .i64 c).wf = true := by
  obtain ⟨hl, n, hf⟩ := fld Tryz.underlying36 h
  obtain ⟨y0, h0⟩ := hf 0 _ rfl
  obtain ⟨y1, h1⟩ := hf 1 _ rfl
  rw [cellsR] at hl
  match cs, hl with
  | [v0, v1], _ =>
    obtain ⟨p, e0, w0⟩ := openInt (fldT h0 (t' := 2) (cs' := [v0]) rfl (by show List.take (Tryz.prog.cellsOf 2) _ = _; rw [cellsI]; rfl))
    obtain ⟨c, e1, w1⟩ := openInt (fldT h1 (t' := 2) (cs' := [v1]) rfl (by show List.take (Tryz.prog.cellsOf 2) _ = _; rw [cellsI]; rfl))
    simp at e0 e1
    subst e0 e1
    exact ⟨p, c, rfl, w0, w1⟩

end
end Go.Proofs.YtlbkfhdnhalpbaaGreat

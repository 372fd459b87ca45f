/- Contract of the reference's RaceLoss. There are no conditions. -/
import Derived.Test.YtlbkfhdnhalpbaaGreatN70
import Derived.Test.YtlbkfhdnhalpbaaGreatN53
namespace Go.Proofs.YtlbkfhdnhalpbaaGreat
set_option linter.unusedVariables false
set_option linter.unusedSimpArgs false
open Go.RowKit Ps Ra Ex

set_option maxRecDepth 100000 in
set_option maxHeartbeats 4000000 in
theorem sRaceLoss_any (p c h s ra rb : Int) (A B D : Option Addr) (n m l ca cb cd : Nat) (own other res : List Int) (w : World) (hA : SL w A n own) (hB : SL w B m other) (hD : SL w D l res) (hca : n ≤ ca) (hcb : m ≤ cb) (hcd : l ≤ cd) :
    Calls Tryz.prog 56 #[.agg #[.int .i64 p, .int .i64 c, .int .i64 h, .int .i64 s], .slice A n ca, .slice B m cb, .agg #[.int .i64 ra, .int .i64 rb], .slice D l cd] w (RetN w (lossR p c h s ra rb own other res)) := by
  have HF1 : Hid (Fr w (((w.alloc (.cells #[.int .i64 p, .int .i64 c, .int .i64 h, .int .i64 s] 29)).alloc (.cells #[.int .i64 ra, .int .i64 rb] 39)).alloc (.cells #[.int .i64 0, .int .i64 0] 26)) [[.int .i64 p, .int .i64 c, .int .i64 h, .int .i64 s], [.int .i64 ra, .int .i64 rb], [.int .i64 0, .int .i64 0]]) := (((Fr.start w).allocT (by simp) _ _).allocT (by simp) _ _).allocT (by simp) _ _
  have HA1 := Lib.hid (hA.below HF1.out.b)
  have HB1 := Lib.hid (hB.below HF1.out.b)
  have HD1 := Lib.hid (hD.below HF1.out.b)
  have HAL := Lib.hid hA.1
  have HBL := Lib.hid hB.1
  have HDL := Lib.hid hD.1
  have CT := Lib.hid (l12Code_yes p c h s ra rb A B n m ca cb own other true _ HA1.out HB1.out)
  clear hA hB hD
  by_cases hk1 : codeK p c h s ra rb own other true = 1
  · have HWR : Hid (lossR p c h s ra rb own other res = (0, 0, 1)) := by
      have h : codeL p c h s ra rb own other res = 1 := by unfold codeL; rw [if_neg (fun h => h.1 hk1), hk1]
      unfold Hid lossR
      rw [if_neg (by rw [h]; decide), h]
    rw [hk1] at CT
    clear hk1
    go_enter Tryz.func56, Tryz.ntmps56
    go_wp2_with (fail)
    refine CT.out.mono ?_
    rintro e w1 ⟨rfl, hb1⟩
    have HF2 := Lib.hid (HF1.out.below hb1)
    have HA2 := Lib.hid (HA1.out.below hb1)
    have HB2 := Lib.hid (HB1.out.below hb1)
    have HD2 := Lib.hid (HD1.out.below hb1)
    clear CT hb1 HF1 HA1 HB1 HD1
    have z0 := HF2.out.l0 (by simp)
    have c00 := HF2.out.c0 0 rfl
    have f00 := HF2.out.f0 0 rfl
    have c01 := HF2.out.c0 1 rfl
    have f01 := HF2.out.f0 1 rfl
    have c02 := HF2.out.c0 2 rfl
    have f02 := HF2.out.f0 2 rfl
    have c03 := HF2.out.c0 3 rfl
    have f03 := HF2.out.f0 3 rfl
    have z1 := HF2.out.l1 (by simp)
    have c10 := HF2.out.c1 0 rfl
    have f10 := HF2.out.f1 0 rfl
    have c11 := HF2.out.c1 1 rfl
    have f11 := HF2.out.f1 1 rfl
    have z2 := HF2.out.l2 (by simp)
    have c20 := HF2.out.c2 0 rfl
    have f20 := HF2.out.f2 0 rfl
    have c21 := HF2.out.c2 1 rfl
    have f21 := HF2.out.f2 1 rfl
    go_wp2_with (fail)
    refine bodyPost_ret (v := .tuple #[.agg #[.int .i64 0, .int .i64 0], .int .i64 1]) (by simp [results, Tryz.results56, go_sem, c20, c21, z2, f20, f21]) rfl (RetN.mk' HWR.out ?_)
    repeat (first | exact HF2.out.b | refine stw ?_ (by omega) | refine alw ?_ (by omega))
  · have hv := codeK_var hk1
    have hvv := isVar_yes hv
    have CBE := Lib.hid fun (W : World) (hx : SL W D l res) => l10Valid_any p c h s D l cd res W hx (by omega) (by omega) (by omega)
    have CV : Hid (∀ W : World, Calls Tryz.prog 72 #[.agg #[.int .i64 p, .int .i64 c, .int .i64 h, .int .i64 s]] W fun e w' => e = .returned (.bool true) ∧ Below W.heap.size W w') := fun W => by
      have := sIsVariant_any p c h s W; rwa [hv] at this
    cases hbe : posB h c res with
    | false =>
      have HWR : Hid (lossR p c h s ra rb own other res = (0, 0, 2)) := by
        have h : codeL p c h s ra rb own other res = 2 := by unfold codeL; rw [if_pos ⟨hk1, hbe⟩]
        unfold Hid lossR
        rw [if_neg (by rw [h]; decide), h]
      have HBE := Lib.hid hbe
      generalize codeK p c h s ra rb own other true = k at *
      have b1 : (k != 1) = true := by simp [hk1]
      clear hk1 hbe hv hvv
      go_enter Tryz.func56, Tryz.ntmps56
      go_wp2_with (fail)
      refine CT.out.mono ?_
      rintro e w1 ⟨rfl, hb1⟩
      have HF2 := Lib.hid (HF1.out.below hb1)
      have HA2 := Lib.hid (HA1.out.below hb1)
      have HB2 := Lib.hid (HB1.out.below hb1)
      have HD2 := Lib.hid (HD1.out.below hb1)
      clear CT hb1 HF1 HA1 HB1 HD1
      have z0 := HF2.out.l0 (by simp)
      have c00 := HF2.out.c0 0 rfl
      have f00 := HF2.out.f0 0 rfl
      have c01 := HF2.out.c0 1 rfl
      have f01 := HF2.out.f0 1 rfl
      have c02 := HF2.out.c0 2 rfl
      have f02 := HF2.out.f0 2 rfl
      have c03 := HF2.out.c0 3 rfl
      have f03 := HF2.out.f0 3 rfl
      have z1 := HF2.out.l1 (by simp)
      have c10 := HF2.out.c1 0 rfl
      have f10 := HF2.out.f1 0 rfl
      have c11 := HF2.out.c1 1 rfl
      have f11 := HF2.out.f1 1 rfl
      have z2 := HF2.out.l2 (by simp)
      have c20 := HF2.out.c2 0 rfl
      have f20 := HF2.out.f2 0 rfl
      have c21 := HF2.out.c2 1 rfl
      have f21 := HF2.out.f2 1 rfl
      go_wp2_with (fail)
      refine (CV.out _).mono ?_
      rintro e w2 ⟨rfl, hb2⟩
      have HF3 := Lib.hid (HF2.out.below hb2)
      have HA3 := Lib.hid (HA2.out.below hb2)
      have HB3 := Lib.hid (HB2.out.below hb2)
      have HD3 := Lib.hid (HD2.out.below hb2)
      clear CV hb2 HF2 HA2 HB2 HD2
      clear z0 c00 f00 c01 f01 c02 f02 c03 f03 z1 c10 f10 c11 f11 z2 c20 f20 c21 f21
      have z0 := HF3.out.l0 (by simp)
      have c00 := HF3.out.c0 0 rfl
      have f00 := HF3.out.f0 0 rfl
      have c01 := HF3.out.c0 1 rfl
      have f01 := HF3.out.f0 1 rfl
      have c02 := HF3.out.c0 2 rfl
      have f02 := HF3.out.f0 2 rfl
      have c03 := HF3.out.c0 3 rfl
      have f03 := HF3.out.f0 3 rfl
      have z1 := HF3.out.l1 (by simp)
      have c10 := HF3.out.c1 0 rfl
      have f10 := HF3.out.f1 0 rfl
      have c11 := HF3.out.c1 1 rfl
      have f11 := HF3.out.f1 1 rfl
      have z2 := HF3.out.l2 (by simp)
      have c20 := HF3.out.c2 0 rfl
      have f20 := HF3.out.f2 0 rfl
      have c21 := HF3.out.c2 1 rfl
      have f21 := HF3.out.f2 1 rfl
      go_wp2_with (fail)
      refine (CBE.out _ HD3.out).mono ?_
      rintro e w3 ⟨rfl, hb2⟩
      rw [HBE.out]
      have HF4 := Lib.hid (HF3.out.below hb2)
      have HA4 := Lib.hid (HA3.out.below hb2)
      have HB4 := Lib.hid (HB3.out.below hb2)
      have HD4 := Lib.hid (HD3.out.below hb2)
      clear CBE hb2 HF3 HA3 HB3 HD3
      clear z0 c00 f00 c01 f01 c02 f02 c03 f03 z1 c10 f10 c11 f11 z2 c20 f20 c21 f21
      have z0 := HF4.out.l0 (by simp)
      have c00 := HF4.out.c0 0 rfl
      have f00 := HF4.out.f0 0 rfl
      have c01 := HF4.out.c0 1 rfl
      have f01 := HF4.out.f0 1 rfl
      have c02 := HF4.out.c0 2 rfl
      have f02 := HF4.out.f0 2 rfl
      have c03 := HF4.out.c0 3 rfl
      have f03 := HF4.out.f0 3 rfl
      have z1 := HF4.out.l1 (by simp)
      have c10 := HF4.out.c1 0 rfl
      have f10 := HF4.out.f1 0 rfl
      have c11 := HF4.out.c1 1 rfl
      have f11 := HF4.out.f1 1 rfl
      have z2 := HF4.out.l2 (by simp)
      have c20 := HF4.out.c2 0 rfl
      have f20 := HF4.out.f2 0 rfl
      have c21 := HF4.out.c2 1 rfl
      have f21 := HF4.out.f2 1 rfl
      go_wp2_with (fail)
      refine bodyPost_ret (v := .tuple #[.agg #[.int .i64 0, .int .i64 0], .int .i64 2]) (by simp [results, Tryz.results56, go_sem, c20, c21, z2, f20, f21]) rfl (RetN.mk' HWR.out ?_)
      repeat (first | exact HF4.out.b | refine stw ?_ (by omega) | refine alw ?_ (by omega))
    | true =>
      have HBE := Lib.hid hbe
      have hcl : codeL p c h s ra rb own other res = codeK p c h s ra rb own other true := by
        unfold codeL
        rw [if_neg fun h => by rw [hbe] at h; cases h.2]
      by_cases hct : codeK p c h s ra rb own other true = 0
      · obtain ⟨ht, hro, hsum⟩ := codeK_ok hct
        obtain ⟨_, hp1, hp2, hN⟩ := codeT_ok ht
        obtain ⟨a, b, rfl, rfl, ha1, ha2, hb1, hb2⟩ := rollB_nat hro
        obtain ⟨c', rfl⟩ : ∃ c' : Nat, c = c' := ⟨c.toNat, by omega⟩
        obtain ⟨h', rfl⟩ : ∃ h' : Nat, h = h' := ⟨h.toNat, by omega⟩
        obtain ⟨s', rfl⟩ : ∃ s' : Nat, s = s' := ⟨s.toNat, by omega⟩
        have hs1 : 1 ≤ s' := by omega
        have hs6 : s' ≤ 6 := by omega
        have hh1 : 0 < h' := by omega
        have hh24 : h' ≤ 24 := by omega
        have hh20 : h' ≤ 2000 := by omega
        obtain ⟨hq1, hq36, _⟩ := sq_bd hs1 hs6
        have HP1 := Lib.hid (posB_pos hp1)
        have HP2 := Lib.hid (posB_pos hp2)
        have HP3 := Lib.hid (posB_pos hbe)
        have ho0 : other.sum ≠ 0 := fun h0 => hsum (.inr ⟨rfl, .inr h0⟩)
        simp only [Int.toNat_natCast] at hN
        have hnh : h' = n := by rw [← HAL.out]; exact (HP1.out.1).symm
        have hmh : h' = m := by rw [← HBL.out]; exact (HP2.out.1).symm
        have hlh : h' = l := by rw [← HDL.out]; exact (HP3.out.1).symm
        subst hnh
        subst hmh
        subst hlh
        have HPP := HP1.out
        have CNEW := Lib.hid fun (W : World) => l12New_any p c' h' s' W hv hN
        have CRES := Lib.hid fun (t : RT2) (W : World) (hA : SQ t.S W A h' own) (hS : ∀ x, W.heap.size ≤ x → ¬ t.S x) => l10Results_any t.S p c' h' s' A h' ca a b own W hA.1 hca ⟨HPP.1, HPP.2.1, by have := HPP.2.2; omega⟩ hh24 hh1 hb1 hb2 (by omega) hS
        have CBES := Lib.hid fun (t : RT2) (W : World) (A' : Option Addr) (n cl : Nat) (hc' : t.c = c') (hh' : t.h = h') (hs' : t.s = s') (hok : t.Ok) (hI : TabI t W) (hpl : PL t.S W A' n (resultsL own a b)) (hB : SQ t.S W B h' other) => l12best_at (cl := cl) hc' hh' hs' hok hI HPP HP2.out ho0 hb1 hb2 (by omega) hpl hB hcb
        have CSEC := Lib.hid fun (t : RT2) (W : World) (hc' : t.c = c') (hh' : t.h = h') (hs' : t.s = s') (hok : t.Ok) (hI : TabI t W) (hD : SQ t.S W D h' res) (hB : SQ t.S W B h' other) => after_at hc' hh' hs' hok hI HP3.out HP2.out ho0 hD hB hcd hcb
        have HLN : Hid (∀ q ∈ resultsL own a b, q.length = h' ∧ ∀ x ∈ q, 0 ≤ x ∧ x ≤ 1000) := fun q h => ⟨(results_pos (by omega) hb1 HPP q h).1.1, pos_bd (results_pos (by omega) hb1 HPP q h).1 (by omega)⟩
        have HRB : Hid (∀ x ∈ res, 0 ≤ x ∧ x ≤ 1000) := pos_bd HP3.out (by omega)
        have hlen : (resultsL own a b).length ≤ 1000000 := Nat.le_trans (results_len (by omega) hb1 HPP hh24) (by omega)
        have HSV := Lib.hid fun (q : List Int) (x : E) (h : sec s' other q = some x) => sec_val hq1 h
        have HWR0 : Hid (lossR p c' h' s' a b own other res = if res ∈ resultsL own a b then numR (lossE s' own other res a b) else (0, 0, 4)) := by
          unfold Hid lossR
          rw [if_pos (hcl.trans hct)]
          simp only [Int.toNat_natCast]
        have HLE : Hid (lossE s' own other res a b = match bestS (sq s') (sec s' other) (resultsL own a b), sec s' other res with
          | some (_, _, x), some y => minE (sq s') x y
          | _, _ => none) := rfl
        rw [hct] at CT
        clear hct ht hro hsum hv hp1 hp2 hN hvv ha1 ha2 hb1 hb2 HPP hcl hbe hk1 ho0
        generalize lossE s' own other res a b = LE at *
        generalize lossR p c' h' s' a b own other res = LR at *
        generalize resultsL own a b = L at *
        go_enter Tryz.func56, Tryz.ntmps56
        go_wp2_with (fail)
        refine CT.out.mono ?_
        rintro e w1 ⟨rfl, hb1⟩
        have HF2 := Lib.hid (HF1.out.below hb1)
        have HA2 := Lib.hid (HA1.out.below hb1)
        have HB2 := Lib.hid (HB1.out.below hb1)
        have HD2 := Lib.hid (HD1.out.below hb1)
        clear CT hb1 HF1 HA1 HB1 HD1
        have z0 := HF2.out.l0 (by simp)
        have c00 := HF2.out.c0 0 rfl
        have f00 := HF2.out.f0 0 rfl
        have c01 := HF2.out.c0 1 rfl
        have f01 := HF2.out.f0 1 rfl
        have c02 := HF2.out.c0 2 rfl
        have f02 := HF2.out.f0 2 rfl
        have c03 := HF2.out.c0 3 rfl
        have f03 := HF2.out.f0 3 rfl
        have z1 := HF2.out.l1 (by simp)
        have c10 := HF2.out.c1 0 rfl
        have f10 := HF2.out.f1 0 rfl
        have c11 := HF2.out.c1 1 rfl
        have f11 := HF2.out.f1 1 rfl
        have z2 := HF2.out.l2 (by simp)
        have c20 := HF2.out.c2 0 rfl
        have f20 := HF2.out.f2 0 rfl
        have c21 := HF2.out.c2 1 rfl
        have f21 := HF2.out.f2 1 rfl
        go_wp2_with (fail)
        refine (CV.out _).mono ?_
        rintro e w2 ⟨rfl, hb2⟩
        have HF3 := Lib.hid (HF2.out.below hb2)
        have HA3 := Lib.hid (HA2.out.below hb2)
        have HB3 := Lib.hid (HB2.out.below hb2)
        have HD3 := Lib.hid (HD2.out.below hb2)
        clear CV hb2 HF2 HA2 HB2 HD2
        clear z0 c00 f00 c01 f01 c02 f02 c03 f03 z1 c10 f10 c11 f11 z2 c20 f20 c21 f21
        have z0 := HF3.out.l0 (by simp)
        have c00 := HF3.out.c0 0 rfl
        have f00 := HF3.out.f0 0 rfl
        have c01 := HF3.out.c0 1 rfl
        have f01 := HF3.out.f0 1 rfl
        have c02 := HF3.out.c0 2 rfl
        have f02 := HF3.out.f0 2 rfl
        have c03 := HF3.out.c0 3 rfl
        have f03 := HF3.out.f0 3 rfl
        have z1 := HF3.out.l1 (by simp)
        have c10 := HF3.out.c1 0 rfl
        have f10 := HF3.out.f1 0 rfl
        have c11 := HF3.out.c1 1 rfl
        have f11 := HF3.out.f1 1 rfl
        have z2 := HF3.out.l2 (by simp)
        have c20 := HF3.out.c2 0 rfl
        have f20 := HF3.out.f2 0 rfl
        have c21 := HF3.out.c2 1 rfl
        have f21 := HF3.out.f2 1 rfl
        go_wp2_with (fail)
        refine (CBE.out _ HD3.out).mono ?_
        rintro e w3 ⟨rfl, hb2⟩
        rw [HBE.out]
        have HF4 := Lib.hid (HF3.out.below hb2)
        have HA4 := Lib.hid (HA3.out.below hb2)
        have HB4 := Lib.hid (HB3.out.below hb2)
        have HD4 := Lib.hid (HD3.out.below hb2)
        clear CBE hb2 HF3 HA3 HB3 HD3
        clear z0 c00 f00 c01 f01 c02 f02 c03 f03 z1 c10 f10 c11 f11 z2 c20 f20 c21 f21
        have z0 := HF4.out.l0 (by simp)
        have c00 := HF4.out.c0 0 rfl
        have f00 := HF4.out.f0 0 rfl
        have c01 := HF4.out.c0 1 rfl
        have f01 := HF4.out.f0 1 rfl
        have c02 := HF4.out.c0 2 rfl
        have f02 := HF4.out.f0 2 rfl
        have c03 := HF4.out.c0 3 rfl
        have f03 := HF4.out.f0 3 rfl
        have z1 := HF4.out.l1 (by simp)
        have c10 := HF4.out.c1 0 rfl
        have f10 := HF4.out.f1 0 rfl
        have c11 := HF4.out.c1 1 rfl
        have f11 := HF4.out.f1 1 rfl
        have z2 := HF4.out.l2 (by simp)
        have c20 := HF4.out.c2 0 rfl
        have f20 := HF4.out.f2 0 rfl
        have c21 := HF4.out.c2 1 rfl
        have f21 := HF4.out.f2 1 rfl
        go_wp2_with (fail)
        refine (CNEW.out _).mono ?_
        rintro e w4 ⟨t, _, hc', hh', hs', rfl, hok, hI, hlow, hbt, hb2⟩
        have HLOW : Hid (∀ k, t.S k → w3.heap.size ≤ k) := hlow
        have HF5 := Lib.hid (HF4.out.below hb2)
        have HA5 := Lib.hid ((SQ.of_sl HA4.out hlow).below hb2)
        have HB5 := Lib.hid ((SQ.of_sl HB4.out hlow).below hb2)
        have HD5 := Lib.hid ((SQ.of_sl HD4.out hlow).below hb2)
        have HI5 := Lib.hid hI
        have HOK := Lib.hid hok
        have HC := Lib.hid hc'
        have HH := Lib.hid hh'
        have HS := Lib.hid hs'
        have hz1 : w.heap.size + 3 ≤ w3.heap.size := by have := HF4.out.z; simpa using this
        clear hc' hh' hs' hok hI hlow hbt hb2 HA4 HB4 HD4 HF4 CNEW
        clear z0 c00 f00 c01 f01 c02 f02 c03 f03 z1 c10 f10 c11 f11 z2 c20 f20 c21 f21
        have z0 := HF5.out.l0 (by simp)
        have c00 := HF5.out.c0 0 rfl
        have f00 := HF5.out.f0 0 rfl
        have c01 := HF5.out.c0 1 rfl
        have f01 := HF5.out.f0 1 rfl
        have c02 := HF5.out.c0 2 rfl
        have f02 := HF5.out.f0 2 rfl
        have c03 := HF5.out.c0 3 rfl
        have f03 := HF5.out.f0 3 rfl
        have z1 := HF5.out.l1 (by simp)
        have c10 := HF5.out.c1 0 rfl
        have f10 := HF5.out.f1 0 rfl
        have c11 := HF5.out.c1 1 rfl
        have f11 := HF5.out.f1 1 rfl
        have z2 := HF5.out.l2 (by simp)
        have c20 := HF5.out.c2 0 rfl
        have f20 := HF5.out.f2 0 rfl
        have c21 := HF5.out.c2 1 rfl
        have f21 := HF5.out.f2 1 rfl
        go_wp2_with (fail)
        refine (CRES.out t _ HA5.out (fun k hk h => by have := HI5.out.ltS k h; omega)).mono ?_
        rintro e w5 ⟨bl, ol, nl, cl, rfl, hpl, hcl, hb3⟩
        have HF6 := Lib.hid (HF5.out.below hb3)
        have HB6 := Lib.hid (HB5.out.below hb3)
        have HD6 := Lib.hid (HD5.out.below hb3)
        have HI6 := Lib.hid (HI5.out.below hb3)
        have hnl := hpl.len
        have HNL := Lib.hid hnl
        have hnl6 : nl ≤ 1000000 := by rw [← hnl]; exact hlen
        have HPL := Lib.hid hpl
        clear hb3 hpl hnl HF5 HA5 HB5 HD5 HI5 CRES
        clear z0 c00 f00 c01 f01 c02 f02 c03 f03 z1 c10 f10 c11 f11 z2 c20 f20 c21 f21
        go_wp2_with (fail)
        go_loopw [15, 16] (fun v15 v16 wr => ∃ (k : Nat) (f : Int), k ≤ nl ∧ v16 = .int .i64 k ∧ v15 = .int .i64 f ∧ -1 ≤ f ∧ f ≤ 1000000 ∧ Hid (0 ≤ f ↔ res ∈ L.take k) ∧ Hid (∃ m, wr = w5.drewN m)) (fun _ v16 _ => nl - (intOf v16).toNat)
        case atStart => exact ⟨0, -1, by omega, rfl, rfl, by omega, by omega, by unfold Hid; simp, 0, rfl⟩
        case round =>
          obtain ⟨k, f, hk, rfl, rfl, hf1, hf2, hff, hw⟩ := hrel
          by_cases hlt : k < nl
          · have hki : (k : Int) < (nl : Int) := by omega
            obtain ⟨m0, hm0⟩ := hw.out
            obtain ⟨_, _, Bq, mq, cq, hA3, hzl, hcq, hsq, hmq⟩ := HPL.out.atF (w' := wr) (by rw [hm0]; exact (Frm.refl _ _).drewN m0) hlt
            injection hA3 with hA3
            injection hA3 with hA4 hA5
            subst hA4 hA5
            have hmem := getD_mem' L [] (k := k) (by rw [HNL.out]; exact hlt)
            have hqb := HLN.out _ hmem
            have hmh : h' = mq := by rw [← hsq.1.1]; exact hqb.1.symm
            subst hmh
            have BF := Lib.hid (l10Before_any Bq D h' cq cd (L.getD k []) res wr (by rw [hm0]; exact hsq.1) (by rw [hm0]; exact HD6.out.1) hh20 hqb.2 HRB.out)
            have BF2 := Lib.hid fun (W : World) (hW : ∃ j, W = wr.drewN j) => (by
              obtain ⟨j, rfl⟩ := hW
              exact l10Before_any D Bq h' cd cq res (L.getD k []) _ (by rw [hm0]; exact HD6.out.1) (by rw [hm0]; exact hsq.1) hh20 HRB.out hqb.2 : Calls Tryz.prog 127 #[.slice D h' cd, .slice Bq h' cq] W fun e w' => e = .returned (.bool (befB res (L.getD k []))) ∧ ∃ j, w' = W.drewN j)
            have hTK : res ∈ L.take (k + 1) ↔ res ∈ L.take k ∨ L.getD k [] = res := by
              rw [take_snoc_getD L [] (by rw [HNL.out]; exact hlt), List.mem_append, List.mem_singleton]
              exact ⟨fun h => h.imp id Eq.symm, fun h => h.imp id Eq.symm⟩
            have hlq : (L.getD k []).length = res.length := by rw [hqb.1]; exact HP3.out.1.symm
            have hcell := hcq
            cases h1 : befB (L.getD k []) res with
            | true =>
              have HNE : Hid (L.getD k [] ≠ res) := fun h => by rw [h] at h1; exact bef_irrefl _ (befB_yes.1 h1)
              have HFF : Hid (0 ≤ f ↔ res ∈ L.take (k + 1)) := by unfold Hid; rw [hTK, hff.out]; exact ⟨.inl, fun h => h.elim id fun h => absurd h HNE.out⟩
              rw [h1] at BF
              clear h1 hTK hlq hmem hqb hsq hm0 BF2
              go_wp2_with (fail)
              refine BF.out.mono ?_
              rintro e w' ⟨rfl, m1, rfl⟩
              have HW2 : Hid (∃ m, wr.drewN m1 = w5.drewN m) := drw_ex hw.out
              generalize wr.drewN m1 = W at *
              clear BF
              go_wp2_with (fail)
              go_roundw
              case rel => exact ⟨k + 1, f, by omega, by go_num, rfl, by omega, by omega, HFF.out, HW2.out⟩
              case measure => (simp [intOf]) <;> omega
            | false =>
              rw [h1] at BF
              clear hm0
              go_wp2_with (fail)
              refine BF.out.mono ?_
              rintro e w9 ⟨rfl, m1, hw9⟩
              have e9 : w9.cell? ⟨bl, ol + k, none⟩ = some (.slice Bq h' cq) := by rw [hw9]; exact hcell
              have z9 : bl < w9.heap.size := by rw [hw9]; exact hzl
              have HW9 : Hid (∃ j, w9 = wr.drewN j) := ⟨_, hw9⟩
              have HW3 : Hid (∃ m, w9 = w5.drewN m) := by unfold Hid; rw [hw9]; exact drw_ex hw.out
              clear hw9 BF
              cases h2 : befB res (L.getD k []) with
              | true =>
                have HNE : Hid (L.getD k [] ≠ res) := fun h => by rw [h] at h2; exact bef_irrefl _ (befB_yes.1 h2)
                have HFF : Hid (0 ≤ f ↔ res ∈ L.take (k + 1)) := by unfold Hid; rw [hTK, hff.out]; exact ⟨.inl, fun h => h.elim id fun h => absurd h HNE.out⟩
                rw [h2] at BF2
                have BF3 := Lib.hid (BF2.out w9 HW9.out)
                clear h1 h2 hTK hlq hmem hqb hsq BF2 hcell hcq
                go_wp2_with (fail)
                refine BF3.out.mono ?_
                rintro e w' ⟨rfl, m2, rfl⟩
                have HW2 : Hid (∃ m, w9.drewN m2 = w5.drewN m) := drw_ex HW3.out
                generalize w9.drewN m2 = W at *
                clear BF3
                go_wp2_with (fail)
                go_roundw
                case rel => exact ⟨k + 1, f, by omega, by go_num, rfl, by omega, by omega, HFF.out, HW2.out⟩
                case measure => (simp [intOf]) <;> omega
              | false =>
                have HEQ : Hid (L.getD k [] = res) := by
                  rcases bef_total hlq with h | h | h
                  · rw [befB_yes.2 h] at h1; cases h1
                  · exact h
                  · rw [befB_yes.2 h] at h2; cases h2
                have HFF : Hid (0 ≤ (k : Int) ↔ res ∈ L.take (k + 1)) := by unfold Hid; rw [hTK]; exact ⟨fun _ => .inr HEQ.out, fun _ => by omega⟩
                rw [h2] at BF2
                have BF3 := Lib.hid (BF2.out w9 HW9.out)
                clear h1 h2 hTK hlq hmem hqb hsq BF2 hcell hcq
                go_wp2_with (fail)
                refine BF3.out.mono ?_
                rintro e w' ⟨rfl, m2, rfl⟩
                have HW2 : Hid (∃ m, w9.drewN m2 = w5.drewN m) := drw_ex HW3.out
                generalize w9.drewN m2 = W at *
                clear BF3
                go_wp2_with (fail)
                go_roundw
                case rel => exact ⟨k + 1, k, by omega, by go_num, rfl, by omega, by omega, HFF.out, HW2.out⟩
                case measure => (simp [intOf]) <;> omega
          · have hke : k = nl := by omega
            have hall : 0 ≤ f ↔ res ∈ L := by
              have h := hff.out
              rwa [List.take_of_length_le (by rw [HNL.out]; omega)] at h
            obtain ⟨m0, hm0⟩ := hw.out
            have hbd : Below w5.heap.size w5 wr := by rw [hm0]; exact below_drewN' (Below.refl _ _) m0
            have HF7 := Lib.hid (HF6.out.below hbd)
            have HB7 := Lib.hid (HB6.out.below hbd)
            have HD7 := Lib.hid (HD6.out.below hbd)
            have HI7 := Lib.hid (HI6.out.below hbd)
            have HPL7 := Lib.hid (HPL.out.below hbd)
            clear hbd hm0 hw hff HF6 HB6 HD6 HI6 HPL
            have z0 := HF7.out.l0 (by simp)
            have c00 := HF7.out.c0 0 rfl
            have f00 := HF7.out.f0 0 rfl
            have c01 := HF7.out.c0 1 rfl
            have f01 := HF7.out.f0 1 rfl
            have c02 := HF7.out.c0 2 rfl
            have f02 := HF7.out.f0 2 rfl
            have c03 := HF7.out.c0 3 rfl
            have f03 := HF7.out.f0 3 rfl
            have z1 := HF7.out.l1 (by simp)
            have c10 := HF7.out.c1 0 rfl
            have f10 := HF7.out.f1 0 rfl
            have c11 := HF7.out.c1 1 rfl
            have f11 := HF7.out.f1 1 rfl
            have z2 := HF7.out.l2 (by simp)
            have c20 := HF7.out.c2 0 rfl
            have f20 := HF7.out.f2 0 rfl
            have c21 := HF7.out.c2 1 rfl
            have f21 := HF7.out.f2 1 rfl
            by_cases hmem : res ∈ L
            · have hf0 : 0 ≤ f := hall.2 hmem
              have hf0' : ¬ f < 0 := by omega
              have HWR1 : Hid (LR = numR LE) := by unfold Hid; rw [HWR0.out, if_pos hmem]
              clear hmem HWR0 hall
              rcases hbs : bestS (sq s') (sec s' other) L with _ | ⟨cnt, at', ⟨xn, xd⟩⟩
              · have HWR : Hid (LR = (0, 0, 3)) := by unfold Hid; rw [HWR1.out, HLE.out, hbs]; rfl
                have HBS := Lib.hid hbs
                clear hbs HWR1 HLE
                go_wp2_with (fail)
                refine (CBES.out t _ _ _ _ HC.out HH.out HS.out HOK.out HI7.out HPL7.out HB7.out).mono ?_
                rintro e w6 ⟨hI5, hf5, hres⟩
                rw [HBS.out] at hres
                have HF8 := Lib.hid (HF7.out.frm hf5 (fun k hk => by have := HLOW.out k hk; omega) (fun k hk => by have := HLOW.out k hk; simp; omega))
                have HB8 := Lib.hid (HB7.out.frm hf5)
                have HD8 := Lib.hid (HD7.out.frm hf5)
                have HI8 := Lib.hid hI5
                clear hI5 hf5 HF7 HB7 HD7 HI7 HPL7 CBES HBS
                clear z0 c00 f00 c01 f01 c02 f02 c03 f03 z1 c10 f10 c11 f11 z2 c20 f20 c21 f21
                have z0 := HF8.out.l0 (by simp)
                have c00 := HF8.out.c0 0 rfl
                have f00 := HF8.out.f0 0 rfl
                have c01 := HF8.out.c0 1 rfl
                have f01 := HF8.out.f0 1 rfl
                have c02 := HF8.out.c0 2 rfl
                have f02 := HF8.out.f0 2 rfl
                have c03 := HF8.out.c0 3 rfl
                have f03 := HF8.out.f0 3 rfl
                have z1 := HF8.out.l1 (by simp)
                have c10 := HF8.out.c1 0 rfl
                have f10 := HF8.out.f1 0 rfl
                have c11 := HF8.out.c1 1 rfl
                have f11 := HF8.out.f1 1 rfl
                have z2 := HF8.out.l2 (by simp)
                have c20 := HF8.out.c2 0 rfl
                have f20 := HF8.out.f2 0 rfl
                have c21 := HF8.out.c2 1 rfl
                have f21 := HF8.out.f2 1 rfl
                replace hres := (show e = .returned (.tuple #[.int .i64 0, .agg #[.int .i64 0, .int .i64 0], .bool false]) from hres)
                subst hres
                go_wp2_with (fail)
                refine (CSEC.out t _ HC.out HH.out HS.out HOK.out (HI8.out.below ((Below.refl _ _).alloc (Nat.le_refl _) _)) (HD8.out.below ((Below.refl _ _).alloc (Nat.le_refl _) _)) (HB8.out.below ((Below.refl _ _).alloc (Nat.le_refl _) _))).mono ?_
                rintro e w7 ⟨rfl, hI6, hf6⟩
                have HG5 : Hid (Fr w6 (w6.alloc (.cells #[.int .i64 (0), .int .i64 (0)] 26)) [[.int .i64 (0), .int .i64 (0)]]) := (Fr.start w6).allocT (by simp) _ _
                have HF9 := Lib.hid ((HF8.out.alloc _).frm hf6 (fun k hk => by have := HLOW.out k hk; omega) (fun k hk => by have := HLOW.out k hk; simp; omega))
                have hxx : ¬ t.S w6.heap.size := fun hk => by have := HI8.out.ltS _ hk; omega
                have x0 : w7.cell? ⟨w6.heap.size, 0, none⟩ = some (.int .i64 (0)) := hf6.cell' (HG5.out.cellA (b := w6.heap.size) 0 0 rfl rfl) hxx
                have x1 : w7.cell? ⟨w6.heap.size, 1, none⟩ = some (.int .i64 (0)) := hf6.cell' (HG5.out.cellA (b := w6.heap.size) 0 1 rfl rfl) hxx
                have xl : w6.heap.size < w7.heap.size := World.block_lt_of_cell? w7 _ x0
                clear hI6 hf6 HF8 HG5 HB8 HD8 HI8 CSEC HLOW HC HH HS HOK
                clear z0 c00 f00 c01 f01 c02 f02 c03 f03 z1 c10 f10 c11 f11 z2 c20 f20 c21 f21
                unfold exV
                generalize ((sec s' other res).getD ⟨0, 0⟩).num = yn
                generalize (((sec s' other res).getD ⟨0, 0⟩).depth : Int) = yd
                generalize (sec s' other res).isSome = yb
                have z0 := HF9.out.l0 (by simp)
                have c00 := HF9.out.c0 0 rfl
                have f00 := HF9.out.f0 0 rfl
                have c01 := HF9.out.c0 1 rfl
                have f01 := HF9.out.f0 1 rfl
                have c02 := HF9.out.c0 2 rfl
                have f02 := HF9.out.f0 2 rfl
                have c03 := HF9.out.c0 3 rfl
                have f03 := HF9.out.f0 3 rfl
                have z1 := HF9.out.l1 (by simp)
                have c10 := HF9.out.c1 0 rfl
                have f10 := HF9.out.f1 0 rfl
                have c11 := HF9.out.c1 1 rfl
                have f11 := HF9.out.f1 1 rfl
                have z2 := HF9.out.l2 (by simp)
                have c20 := HF9.out.c2 0 rfl
                have f20 := HF9.out.f2 0 rfl
                have c21 := HF9.out.c2 1 rfl
                have f21 := HF9.out.f2 1 rfl
                go_wp2_with (fail)
                refine bodyPost_ret (v := .tuple #[.agg #[.int .i64 0, .int .i64 0], .int .i64 3]) (by simp [results, Tryz.results56, go_sem, c20, c21, z2, f20, f21]) rfl (RetN.mk' HWR.out ?_)
                repeat (first | exact HF9.out.b | refine stw ?_ (by omega) | refine alw ?_ (by omega))
              · have hxv : Val (sq s') ⟨xn, xd⟩ := bestS_val hq1 HSV.out hbs
                have HBS := Lib.hid hbs
                rcases hwi : sec s' other res with _ | ⟨yn, yd⟩
                · have HWR : Hid (LR = (0, 0, 3)) := by unfold Hid; rw [HWR1.out, HLE.out, hbs, hwi]; rfl
                  have HWI := Lib.hid hwi
                  clear hbs hwi HWR1 hxv HLE
                  go_wp2_with (fail)
                  refine (CBES.out t _ _ _ _ HC.out HH.out HS.out HOK.out HI7.out HPL7.out HB7.out).mono ?_
                  rintro e w6 ⟨hI5, hf5, hres⟩
                  rw [HBS.out] at hres
                  have HF8 := Lib.hid (HF7.out.frm hf5 (fun k hk => by have := HLOW.out k hk; omega) (fun k hk => by have := HLOW.out k hk; simp; omega))
                  have HB8 := Lib.hid (HB7.out.frm hf5)
                  have HD8 := Lib.hid (HD7.out.frm hf5)
                  have HI8 := Lib.hid hI5
                  clear hI5 hf5 HF7 HB7 HD7 HI7 HPL7 CBES HBS
                  clear z0 c00 f00 c01 f01 c02 f02 c03 f03 z1 c10 f10 c11 f11 z2 c20 f20 c21 f21
                  have z0 := HF8.out.l0 (by simp)
                  have c00 := HF8.out.c0 0 rfl
                  have f00 := HF8.out.f0 0 rfl
                  have c01 := HF8.out.c0 1 rfl
                  have f01 := HF8.out.f0 1 rfl
                  have c02 := HF8.out.c0 2 rfl
                  have f02 := HF8.out.f0 2 rfl
                  have c03 := HF8.out.c0 3 rfl
                  have f03 := HF8.out.f0 3 rfl
                  have z1 := HF8.out.l1 (by simp)
                  have c10 := HF8.out.c1 0 rfl
                  have f10 := HF8.out.f1 0 rfl
                  have c11 := HF8.out.c1 1 rfl
                  have f11 := HF8.out.f1 1 rfl
                  have z2 := HF8.out.l2 (by simp)
                  have c20 := HF8.out.c2 0 rfl
                  have f20 := HF8.out.f2 0 rfl
                  have c21 := HF8.out.c2 1 rfl
                  have f21 := HF8.out.f2 1 rfl
                  replace hres := (show e = .returned (.tuple #[.int .i64 (at' : Int), .agg #[.int .i64 xn, .int .i64 (xd : Int)], .bool true]) from hres)
                  subst hres
                  go_wp2_with (fail)
                  refine (CSEC.out t _ HC.out HH.out HS.out HOK.out (HI8.out.below ((Below.refl _ _).alloc (Nat.le_refl _) _)) (HD8.out.below ((Below.refl _ _).alloc (Nat.le_refl _) _)) (HB8.out.below ((Below.refl _ _).alloc (Nat.le_refl _) _))).mono ?_
                  rintro e w7 ⟨rfl, hI6, hf6⟩
                  have HG5 : Hid (Fr w6 (w6.alloc (.cells #[.int .i64 (xn), .int .i64 ((xd : Int))] 26)) [[.int .i64 (xn), .int .i64 ((xd : Int))]]) := (Fr.start w6).allocT (by simp) _ _
                  have HF9 := Lib.hid ((HF8.out.alloc _).frm hf6 (fun k hk => by have := HLOW.out k hk; omega) (fun k hk => by have := HLOW.out k hk; simp; omega))
                  have hxx : ¬ t.S w6.heap.size := fun hk => by have := HI8.out.ltS _ hk; omega
                  have x0 : w7.cell? ⟨w6.heap.size, 0, none⟩ = some (.int .i64 (xn)) := hf6.cell' (HG5.out.cellA (b := w6.heap.size) 0 0 rfl rfl) hxx
                  have x1 : w7.cell? ⟨w6.heap.size, 1, none⟩ = some (.int .i64 ((xd : Int))) := hf6.cell' (HG5.out.cellA (b := w6.heap.size) 0 1 rfl rfl) hxx
                  have xl : w6.heap.size < w7.heap.size := World.block_lt_of_cell? w7 _ x0
                  clear hI6 hf6 HF8 HG5 HB8 HD8 HI8 CSEC HLOW HC HH HS HOK
                  clear z0 c00 f00 c01 f01 c02 f02 c03 f03 z1 c10 f10 c11 f11 z2 c20 f20 c21 f21
                  rw [HWI.out]
                  unfold exV
                  simp only [Option.getD_none, Option.isSome_none, Option.getD_some, Option.isSome_some]
                  have z0 := HF9.out.l0 (by simp)
                  have c00 := HF9.out.c0 0 rfl
                  have f00 := HF9.out.f0 0 rfl
                  have c01 := HF9.out.c0 1 rfl
                  have f01 := HF9.out.f0 1 rfl
                  have c02 := HF9.out.c0 2 rfl
                  have f02 := HF9.out.f0 2 rfl
                  have c03 := HF9.out.c0 3 rfl
                  have f03 := HF9.out.f0 3 rfl
                  have z1 := HF9.out.l1 (by simp)
                  have c10 := HF9.out.c1 0 rfl
                  have f10 := HF9.out.f1 0 rfl
                  have c11 := HF9.out.c1 1 rfl
                  have f11 := HF9.out.f1 1 rfl
                  have z2 := HF9.out.l2 (by simp)
                  have c20 := HF9.out.c2 0 rfl
                  have f20 := HF9.out.f2 0 rfl
                  have c21 := HF9.out.c2 1 rfl
                  have f21 := HF9.out.f2 1 rfl
                  go_wp2_with (fail)
                  refine bodyPost_ret (v := .tuple #[.agg #[.int .i64 0, .int .i64 0], .int .i64 3]) (by simp [results, Tryz.results56, go_sem, c20, c21, z2, f20, f21]) rfl (RetN.mk' HWR.out ?_)
                  repeat (first | exact HF9.out.b | refine stw ?_ (by omega) | refine alw ?_ (by omega))
                · have hyv : Val (sq s') ⟨yn, yd⟩ := HSV.out _ _ hwi
                  have HWI := Lib.hid hwi
                  have hy1 : -1000000000000000000 ≤ yn := hyv.1
                  have hy2 : yn ≤ 1000000000000000000 := hyv.2.1
                  have HM0 := fun (W : World) => l09Add_any p c' h' xn (-yn) s' xd yd W hs1 hs6 hxv (neg_val hyv)
                  rcases hm : minE (sq s') ⟨xn, xd⟩ ⟨yn, yd⟩ with _ | ⟨m2, d2⟩
                  · have HWR : Hid (LR = (0, 0, 3)) := by unfold Hid; rw [HWR1.out, HLE.out, hbs, hwi]; show numR (minE _ _ _) = _; rw [hm]; rfl
                    have HM : Hid (∀ W : World, Calls Tryz.prog 92 #[.agg #[.int .i64 p, .int .i64 c', .int .i64 h', .int .i64 s'], .agg #[.int .i64 xn, .int .i64 xd], .agg #[.int .i64 (-yn), .int .i64 yd]] W (RetE W (none))) := fun W => by have := HM0 W; rw [show addE (sq s') ⟨xn, xd⟩ ⟨-yn, yd⟩ = minE (sq s') ⟨xn, xd⟩ ⟨yn, yd⟩ from rfl, hm] at this; exact this
                    clear hbs hwi HWR1 hxv hyv hm HM0 HLE
                    go_wp2_with (fail)
                    refine (CBES.out t _ _ _ _ HC.out HH.out HS.out HOK.out HI7.out HPL7.out HB7.out).mono ?_
                    rintro e w6 ⟨hI5, hf5, hres⟩
                    rw [HBS.out] at hres
                    have HF8 := Lib.hid (HF7.out.frm hf5 (fun k hk => by have := HLOW.out k hk; omega) (fun k hk => by have := HLOW.out k hk; simp; omega))
                    have HB8 := Lib.hid (HB7.out.frm hf5)
                    have HD8 := Lib.hid (HD7.out.frm hf5)
                    have HI8 := Lib.hid hI5
                    clear hI5 hf5 HF7 HB7 HD7 HI7 HPL7 CBES HBS
                    clear z0 c00 f00 c01 f01 c02 f02 c03 f03 z1 c10 f10 c11 f11 z2 c20 f20 c21 f21
                    have z0 := HF8.out.l0 (by simp)
                    have c00 := HF8.out.c0 0 rfl
                    have f00 := HF8.out.f0 0 rfl
                    have c01 := HF8.out.c0 1 rfl
                    have f01 := HF8.out.f0 1 rfl
                    have c02 := HF8.out.c0 2 rfl
                    have f02 := HF8.out.f0 2 rfl
                    have c03 := HF8.out.c0 3 rfl
                    have f03 := HF8.out.f0 3 rfl
                    have z1 := HF8.out.l1 (by simp)
                    have c10 := HF8.out.c1 0 rfl
                    have f10 := HF8.out.f1 0 rfl
                    have c11 := HF8.out.c1 1 rfl
                    have f11 := HF8.out.f1 1 rfl
                    have z2 := HF8.out.l2 (by simp)
                    have c20 := HF8.out.c2 0 rfl
                    have f20 := HF8.out.f2 0 rfl
                    have c21 := HF8.out.c2 1 rfl
                    have f21 := HF8.out.f2 1 rfl
                    replace hres := (show e = .returned (.tuple #[.int .i64 (at' : Int), .agg #[.int .i64 xn, .int .i64 (xd : Int)], .bool true]) from hres)
                    subst hres
                    go_wp2_with (fail)
                    refine (CSEC.out t _ HC.out HH.out HS.out HOK.out (HI8.out.below ((Below.refl _ _).alloc (Nat.le_refl _) _)) (HD8.out.below ((Below.refl _ _).alloc (Nat.le_refl _) _)) (HB8.out.below ((Below.refl _ _).alloc (Nat.le_refl _) _))).mono ?_
                    rintro e w7 ⟨rfl, hI6, hf6⟩
                    have HG5 : Hid (Fr w6 (w6.alloc (.cells #[.int .i64 (xn), .int .i64 ((xd : Int))] 26)) [[.int .i64 (xn), .int .i64 ((xd : Int))]]) := (Fr.start w6).allocT (by simp) _ _
                    have HF9 := Lib.hid ((HF8.out.alloc _).frm hf6 (fun k hk => by have := HLOW.out k hk; omega) (fun k hk => by have := HLOW.out k hk; simp; omega))
                    have hxx : ¬ t.S w6.heap.size := fun hk => by have := HI8.out.ltS _ hk; omega
                    have x0 : w7.cell? ⟨w6.heap.size, 0, none⟩ = some (.int .i64 (xn)) := hf6.cell' (HG5.out.cellA (b := w6.heap.size) 0 0 rfl rfl) hxx
                    have x1 : w7.cell? ⟨w6.heap.size, 1, none⟩ = some (.int .i64 ((xd : Int))) := hf6.cell' (HG5.out.cellA (b := w6.heap.size) 0 1 rfl rfl) hxx
                    have xl : w6.heap.size < w7.heap.size := World.block_lt_of_cell? w7 _ x0
                    clear hI6 hf6 HF8 HG5 HB8 HD8 HI8 CSEC HLOW HC HH HS HOK
                    clear z0 c00 f00 c01 f01 c02 f02 c03 f03 z1 c10 f10 c11 f11 z2 c20 f20 c21 f21
                    rw [HWI.out]
                    unfold exV
                    simp only [Option.getD_none, Option.isSome_none, Option.getD_some, Option.isSome_some]
                    have z0 := HF9.out.l0 (by simp)
                    have c00 := HF9.out.c0 0 rfl
                    have f00 := HF9.out.f0 0 rfl
                    have c01 := HF9.out.c0 1 rfl
                    have f01 := HF9.out.f0 1 rfl
                    have c02 := HF9.out.c0 2 rfl
                    have f02 := HF9.out.f0 2 rfl
                    have c03 := HF9.out.c0 3 rfl
                    have f03 := HF9.out.f0 3 rfl
                    have z1 := HF9.out.l1 (by simp)
                    have c10 := HF9.out.c1 0 rfl
                    have f10 := HF9.out.f1 0 rfl
                    have c11 := HF9.out.c1 1 rfl
                    have f11 := HF9.out.f1 1 rfl
                    have z2 := HF9.out.l2 (by simp)
                    have c20 := HF9.out.c2 0 rfl
                    have f20 := HF9.out.f2 0 rfl
                    have c21 := HF9.out.c2 1 rfl
                    have f21 := HF9.out.f2 1 rfl
                    go_wp2_with (fail)
                    refine (HM.out _).mono ?_
                    rintro e w8 ⟨rfl, hb7⟩
                    have HF10 := Lib.hid ((HF9.out.alloc _).below hb7)
                    clear hb7 HM HF9
                    clear z0 c00 f00 c01 f01 c02 f02 c03 f03 z1 c10 f10 c11 f11 z2 c20 f20 c21 f21
                    simp only [Option.getD_none, Option.isSome_none]
                    have z0 := HF10.out.l0 (by simp)
                    have c00 := HF10.out.c0 0 rfl
                    have f00 := HF10.out.f0 0 rfl
                    have c01 := HF10.out.c0 1 rfl
                    have f01 := HF10.out.f0 1 rfl
                    have c02 := HF10.out.c0 2 rfl
                    have f02 := HF10.out.f0 2 rfl
                    have c03 := HF10.out.c0 3 rfl
                    have f03 := HF10.out.f0 3 rfl
                    have z1 := HF10.out.l1 (by simp)
                    have c10 := HF10.out.c1 0 rfl
                    have f10 := HF10.out.f1 0 rfl
                    have c11 := HF10.out.c1 1 rfl
                    have f11 := HF10.out.f1 1 rfl
                    have z2 := HF10.out.l2 (by simp)
                    have c20 := HF10.out.c2 0 rfl
                    have f20 := HF10.out.f2 0 rfl
                    have c21 := HF10.out.c2 1 rfl
                    have f21 := HF10.out.f2 1 rfl
                    go_wp2_with (fail)
                    refine bodyPost_ret (v := .tuple #[.agg #[.int .i64 0, .int .i64 0], .int .i64 3]) (by simp [results, Tryz.results56, go_sem, c20, c21, z2, f20, f21]) rfl (RetN.mk' HWR.out ?_)
                    repeat (first | exact HF10.out.b | refine stw ?_ (by omega) | refine alw ?_ (by omega))
                  · have HWR : Hid (LR = (m2, (d2 : Int), 0)) := by unfold Hid; rw [HWR1.out, HLE.out, hbs, hwi]; show numR (minE _ _ _) = _; rw [hm]; rfl
                    have HM : Hid (∀ W : World, Calls Tryz.prog 92 #[.agg #[.int .i64 p, .int .i64 c', .int .i64 h', .int .i64 s'], .agg #[.int .i64 xn, .int .i64 xd], .agg #[.int .i64 (-yn), .int .i64 yd]] W (RetE W (some ⟨m2, d2⟩))) := fun W => by have := HM0 W; rw [show addE (sq s') ⟨xn, xd⟩ ⟨-yn, yd⟩ = minE (sq s') ⟨xn, xd⟩ ⟨yn, yd⟩ from rfl, hm] at this; exact this
                    clear hbs hwi HWR1 hxv hyv hm HM0 HLE
                    go_wp2_with (fail)
                    refine (CBES.out t _ _ _ _ HC.out HH.out HS.out HOK.out HI7.out HPL7.out HB7.out).mono ?_
                    rintro e w6 ⟨hI5, hf5, hres⟩
                    rw [HBS.out] at hres
                    have HF8 := Lib.hid (HF7.out.frm hf5 (fun k hk => by have := HLOW.out k hk; omega) (fun k hk => by have := HLOW.out k hk; simp; omega))
                    have HB8 := Lib.hid (HB7.out.frm hf5)
                    have HD8 := Lib.hid (HD7.out.frm hf5)
                    have HI8 := Lib.hid hI5
                    clear hI5 hf5 HF7 HB7 HD7 HI7 HPL7 CBES HBS
                    clear z0 c00 f00 c01 f01 c02 f02 c03 f03 z1 c10 f10 c11 f11 z2 c20 f20 c21 f21
                    have z0 := HF8.out.l0 (by simp)
                    have c00 := HF8.out.c0 0 rfl
                    have f00 := HF8.out.f0 0 rfl
                    have c01 := HF8.out.c0 1 rfl
                    have f01 := HF8.out.f0 1 rfl
                    have c02 := HF8.out.c0 2 rfl
                    have f02 := HF8.out.f0 2 rfl
                    have c03 := HF8.out.c0 3 rfl
                    have f03 := HF8.out.f0 3 rfl
                    have z1 := HF8.out.l1 (by simp)
                    have c10 := HF8.out.c1 0 rfl
                    have f10 := HF8.out.f1 0 rfl
                    have c11 := HF8.out.c1 1 rfl
                    have f11 := HF8.out.f1 1 rfl
                    have z2 := HF8.out.l2 (by simp)
                    have c20 := HF8.out.c2 0 rfl
                    have f20 := HF8.out.f2 0 rfl
                    have c21 := HF8.out.c2 1 rfl
                    have f21 := HF8.out.f2 1 rfl
                    replace hres := (show e = .returned (.tuple #[.int .i64 (at' : Int), .agg #[.int .i64 xn, .int .i64 (xd : Int)], .bool true]) from hres)
                    subst hres
                    go_wp2_with (fail)
                    refine (CSEC.out t _ HC.out HH.out HS.out HOK.out (HI8.out.below ((Below.refl _ _).alloc (Nat.le_refl _) _)) (HD8.out.below ((Below.refl _ _).alloc (Nat.le_refl _) _)) (HB8.out.below ((Below.refl _ _).alloc (Nat.le_refl _) _))).mono ?_
                    rintro e w7 ⟨rfl, hI6, hf6⟩
                    have HG5 : Hid (Fr w6 (w6.alloc (.cells #[.int .i64 (xn), .int .i64 ((xd : Int))] 26)) [[.int .i64 (xn), .int .i64 ((xd : Int))]]) := (Fr.start w6).allocT (by simp) _ _
                    have HF9 := Lib.hid ((HF8.out.alloc _).frm hf6 (fun k hk => by have := HLOW.out k hk; omega) (fun k hk => by have := HLOW.out k hk; simp; omega))
                    have hxx : ¬ t.S w6.heap.size := fun hk => by have := HI8.out.ltS _ hk; omega
                    have x0 : w7.cell? ⟨w6.heap.size, 0, none⟩ = some (.int .i64 (xn)) := hf6.cell' (HG5.out.cellA (b := w6.heap.size) 0 0 rfl rfl) hxx
                    have x1 : w7.cell? ⟨w6.heap.size, 1, none⟩ = some (.int .i64 ((xd : Int))) := hf6.cell' (HG5.out.cellA (b := w6.heap.size) 0 1 rfl rfl) hxx
                    have xl : w6.heap.size < w7.heap.size := World.block_lt_of_cell? w7 _ x0
                    clear hI6 hf6 HF8 HG5 HB8 HD8 HI8 CSEC HLOW HC HH HS HOK
                    clear z0 c00 f00 c01 f01 c02 f02 c03 f03 z1 c10 f10 c11 f11 z2 c20 f20 c21 f21
                    rw [HWI.out]
                    unfold exV
                    simp only [Option.getD_none, Option.isSome_none, Option.getD_some, Option.isSome_some]
                    have z0 := HF9.out.l0 (by simp)
                    have c00 := HF9.out.c0 0 rfl
                    have f00 := HF9.out.f0 0 rfl
                    have c01 := HF9.out.c0 1 rfl
                    have f01 := HF9.out.f0 1 rfl
                    have c02 := HF9.out.c0 2 rfl
                    have f02 := HF9.out.f0 2 rfl
                    have c03 := HF9.out.c0 3 rfl
                    have f03 := HF9.out.f0 3 rfl
                    have z1 := HF9.out.l1 (by simp)
                    have c10 := HF9.out.c1 0 rfl
                    have f10 := HF9.out.f1 0 rfl
                    have c11 := HF9.out.c1 1 rfl
                    have f11 := HF9.out.f1 1 rfl
                    have z2 := HF9.out.l2 (by simp)
                    have c20 := HF9.out.c2 0 rfl
                    have f20 := HF9.out.f2 0 rfl
                    have c21 := HF9.out.c2 1 rfl
                    have f21 := HF9.out.f2 1 rfl
                    go_wp2_with (fail)
                    refine (HM.out _).mono ?_
                    rintro e w8 ⟨rfl, hb7⟩
                    have HF10 := Lib.hid ((HF9.out.alloc _).below hb7)
                    clear hb7 HM HF9
                    clear z0 c00 f00 c01 f01 c02 f02 c03 f03 z1 c10 f10 c11 f11 z2 c20 f20 c21 f21
                    simp only [Option.getD_some, Option.isSome_some]
                    have z0 := HF10.out.l0 (by simp)
                    have c00 := HF10.out.c0 0 rfl
                    have f00 := HF10.out.f0 0 rfl
                    have c01 := HF10.out.c0 1 rfl
                    have f01 := HF10.out.f0 1 rfl
                    have c02 := HF10.out.c0 2 rfl
                    have f02 := HF10.out.f0 2 rfl
                    have c03 := HF10.out.c0 3 rfl
                    have f03 := HF10.out.f0 3 rfl
                    have z1 := HF10.out.l1 (by simp)
                    have c10 := HF10.out.c1 0 rfl
                    have f10 := HF10.out.f1 0 rfl
                    have c11 := HF10.out.c1 1 rfl
                    have f11 := HF10.out.f1 1 rfl
                    have z2 := HF10.out.l2 (by simp)
                    have c20 := HF10.out.c2 0 rfl
                    have f20 := HF10.out.f2 0 rfl
                    have c21 := HF10.out.c2 1 rfl
                    have f21 := HF10.out.f2 1 rfl
                    go_wp2_with (fail)
                    refine bodyPost_ret (v := .tuple #[.agg #[.int .i64 m2, .int .i64 (d2 : Int)], .int .i64 0]) (by simp [results, Tryz.results56, go_sem, c20, c21, z2, f20, f21]) rfl (RetN.mk' HWR.out ?_)
                    repeat (first | exact HF10.out.b | refine stw ?_ (by omega) | refine alw ?_ (by omega))
            · have hf0 : f < 0 := by
                have : ¬ 0 ≤ f := fun h => hmem (hall.1 h)
                omega
              have HWR : Hid (LR = (0, 0, 4)) := by unfold Hid; rw [HWR0.out, if_neg hmem]
              clear hmem HWR0 hall HLE
              go_wp2_with (fail)
              refine bodyPost_ret (v := .tuple #[.agg #[.int .i64 0, .int .i64 0], .int .i64 4]) (by simp [results, Tryz.results56, go_sem, c20, c21, z2, f20, f21]) rfl (RetN.mk' HWR.out ?_)
              repeat (first | exact HF7.out.b | refine stw ?_ (by omega) | refine alw ?_ (by omega))
      · have HWR : Hid (lossR p c h s ra rb own other res = (0, 0, codeK p c h s ra rb own other true)) := by
          unfold Hid lossR
          rw [hcl, if_neg hct]
        clear hcl
        generalize codeK p c h s ra rb own other true = k at *
        have b0 : (k != 0) = true := by simp [hct]
        have b1 : (k != 1) = true := by simp [hk1]
        clear hct hk1 hbe hv hvv
        go_enter Tryz.func56, Tryz.ntmps56
        go_wp2_with (fail)
        refine CT.out.mono ?_
        rintro e w1 ⟨rfl, hb1⟩
        have HF2 := Lib.hid (HF1.out.below hb1)
        have HA2 := Lib.hid (HA1.out.below hb1)
        have HB2 := Lib.hid (HB1.out.below hb1)
        have HD2 := Lib.hid (HD1.out.below hb1)
        clear CT hb1 HF1 HA1 HB1 HD1
        have z0 := HF2.out.l0 (by simp)
        have c00 := HF2.out.c0 0 rfl
        have f00 := HF2.out.f0 0 rfl
        have c01 := HF2.out.c0 1 rfl
        have f01 := HF2.out.f0 1 rfl
        have c02 := HF2.out.c0 2 rfl
        have f02 := HF2.out.f0 2 rfl
        have c03 := HF2.out.c0 3 rfl
        have f03 := HF2.out.f0 3 rfl
        have z1 := HF2.out.l1 (by simp)
        have c10 := HF2.out.c1 0 rfl
        have f10 := HF2.out.f1 0 rfl
        have c11 := HF2.out.c1 1 rfl
        have f11 := HF2.out.f1 1 rfl
        have z2 := HF2.out.l2 (by simp)
        have c20 := HF2.out.c2 0 rfl
        have f20 := HF2.out.f2 0 rfl
        have c21 := HF2.out.c2 1 rfl
        have f21 := HF2.out.f2 1 rfl
        go_wp2_with (fail)
        refine (CV.out _).mono ?_
        rintro e w2 ⟨rfl, hb2⟩
        have HF3 := Lib.hid (HF2.out.below hb2)
        have HA3 := Lib.hid (HA2.out.below hb2)
        have HB3 := Lib.hid (HB2.out.below hb2)
        have HD3 := Lib.hid (HD2.out.below hb2)
        clear CV hb2 HF2 HA2 HB2 HD2
        clear z0 c00 f00 c01 f01 c02 f02 c03 f03 z1 c10 f10 c11 f11 z2 c20 f20 c21 f21
        have z0 := HF3.out.l0 (by simp)
        have c00 := HF3.out.c0 0 rfl
        have f00 := HF3.out.f0 0 rfl
        have c01 := HF3.out.c0 1 rfl
        have f01 := HF3.out.f0 1 rfl
        have c02 := HF3.out.c0 2 rfl
        have f02 := HF3.out.f0 2 rfl
        have c03 := HF3.out.c0 3 rfl
        have f03 := HF3.out.f0 3 rfl
        have z1 := HF3.out.l1 (by simp)
        have c10 := HF3.out.c1 0 rfl
        have f10 := HF3.out.f1 0 rfl
        have c11 := HF3.out.c1 1 rfl
        have f11 := HF3.out.f1 1 rfl
        have z2 := HF3.out.l2 (by simp)
        have c20 := HF3.out.c2 0 rfl
        have f20 := HF3.out.f2 0 rfl
        have c21 := HF3.out.c2 1 rfl
        have f21 := HF3.out.f2 1 rfl
        go_wp2_with (fail)
        refine (CBE.out _ HD3.out).mono ?_
        rintro e w3 ⟨rfl, hb2⟩
        rw [HBE.out]
        have HF4 := Lib.hid (HF3.out.below hb2)
        have HA4 := Lib.hid (HA3.out.below hb2)
        have HB4 := Lib.hid (HB3.out.below hb2)
        have HD4 := Lib.hid (HD3.out.below hb2)
        clear CBE hb2 HF3 HA3 HB3 HD3
        clear z0 c00 f00 c01 f01 c02 f02 c03 f03 z1 c10 f10 c11 f11 z2 c20 f20 c21 f21
        have z0 := HF4.out.l0 (by simp)
        have c00 := HF4.out.c0 0 rfl
        have f00 := HF4.out.f0 0 rfl
        have c01 := HF4.out.c0 1 rfl
        have f01 := HF4.out.f0 1 rfl
        have c02 := HF4.out.c0 2 rfl
        have f02 := HF4.out.f0 2 rfl
        have c03 := HF4.out.c0 3 rfl
        have f03 := HF4.out.f0 3 rfl
        have z1 := HF4.out.l1 (by simp)
        have c10 := HF4.out.c1 0 rfl
        have f10 := HF4.out.f1 0 rfl
        have c11 := HF4.out.c1 1 rfl
        have f11 := HF4.out.f1 1 rfl
        have z2 := HF4.out.l2 (by simp)
        have c20 := HF4.out.c2 0 rfl
        have f20 := HF4.out.f2 0 rfl
        have c21 := HF4.out.c2 1 rfl
        have f21 := HF4.out.f2 1 rfl
        go_wp2_with (fail)
        refine bodyPost_ret (v := .tuple #[.agg #[.int .i64 0, .int .i64 0], .int .i64 k]) (by simp [results, Tryz.results56, go_sem, c20, c21, z2, f20, f21]) rfl (RetN.mk' HWR.out ?_)
        repeat (first | exact HF4.out.b | refine stw ?_ (by omega) | refine alw ?_ (by omega))
end Go.Proofs.YtlbkfhdnhalpbaaGreat

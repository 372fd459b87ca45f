/- Contract of the program's RaceLoss. There are no conditions. -/
import Derived.Test.YtlbkfhdnhalpbaaGreatN69
namespace Go.Proofs.YtlbkfhdnhalpbaaGreat
set_option linter.unusedVariables false
set_option linter.unusedSimpArgs false
open Go.RowKit Ps Ra Ex

set_option maxRecDepth 100000 in
set_option maxHeartbeats 4000000 in
theorem RaceLoss_any (p c h s ra rb : Int) (A B D : Option Addr) (n m l ca cb cd : Nat) (own other res : List Int) (w : World) (hA : SL w A n own) (hB : SL w B m other) (hD : SL w D l res) (hca : n ≤ ca) (hcb : m ≤ cb) (hcd : l ≤ cd) :
    Calls Tryz.prog 57 #[.agg #[.int .i64 p, .int .i64 c, .int .i64 h, .int .i64 s], .slice A n ca, .slice B m cb, .agg #[.int .i64 ra, .int .i64 rb], .slice D l cd] w (RetN w (lossR p c h s ra rb own other res)) := by
  have HF1 : Hid (Fr w ((((w.alloc (.cells #[.int .i64 p, .int .i64 c, .int .i64 h, .int .i64 s] 29)).alloc (.cells #[.int .i64 ra, .int .i64 rb] 39)).alloc (.cells #[.slice D l cd] 24)).alloc (.cells #[.int .i64 0, .int .i64 0] 26)) [[.int .i64 p, .int .i64 c, .int .i64 h, .int .i64 s], [.int .i64 ra, .int .i64 rb], [.slice D l cd], [.int .i64 0, .int .i64 0]]) := ((((Fr.start w).allocT (by simp) _ _).allocT (by simp) _ _).allocT (by simp) _ _).allocT (by simp) _ _
  have HA1 := Lib.hid (hA.below HF1.out.b)
  have HB1 := Lib.hid (hB.below HF1.out.b)
  have HD1 := Lib.hid (hD.below HF1.out.b)
  have HAL := Lib.hid hA.1
  have HBL := Lib.hid hB.1
  have HDL := Lib.hid hD.1
  have CT := Lib.hid (checkRace_any p c h s ra rb A B n m ca cb own other _ HA1.out HB1.out)
  clear hA hB hD
  by_cases hk1 : codeK p c h s ra rb own other true = 1
  · have HWR : Hid (lossR p c h s ra rb own other res = (0, 0, 1)) := by
      have h : codeL p c h s ra rb own other res = 1 := by unfold codeL; rw [if_neg (fun h => h.1 hk1), hk1]
      unfold Hid lossR
      rw [if_neg (by rw [h]; decide), h]
    rw [hk1] at CT
    clear hk1
    go_enter Tryz.func57, Tryz.ntmps57
    go_wp2_with (fail)
    refine CT.out.mono ?_
    rintro e w1 ⟨rfl, hb1⟩
    have HF2 := Lib.hid (HF1.out.below hb1)
    have HA2 := Lib.hid (HA1.out.below hb1)
    have HB2 := Lib.hid (HB1.out.below hb1)
    have HD2 := Lib.hid (HD1.out.below hb1)
    clear CT hb1 HF1 HA1 HB1 HD1
    have z0 := HF2.out.l0 (by simp)
    have c00 := HF2.out.c0 0 rfl
    have f00 := HF2.out.f0 0 rfl
    have c01 := HF2.out.c0 1 rfl
    have f01 := HF2.out.f0 1 rfl
    have c02 := HF2.out.c0 2 rfl
    have f02 := HF2.out.f0 2 rfl
    have c03 := HF2.out.c0 3 rfl
    have f03 := HF2.out.f0 3 rfl
    have z1 := HF2.out.l1 (by simp)
    have c10 := HF2.out.c1 0 rfl
    have f10 := HF2.out.f1 0 rfl
    have c11 := HF2.out.c1 1 rfl
    have f11 := HF2.out.f1 1 rfl
    have z2 := HF2.out.l2 (by simp)
    have c20 := HF2.out.c2 0 rfl
    have f20 := HF2.out.f2 0 rfl
    have z3 := HF2.out.l3 (by simp)
    have c30 := HF2.out.c3 0 rfl
    have f30 := HF2.out.f3 0 rfl
    have c31 := HF2.out.c3 1 rfl
    have f31 := HF2.out.f3 1 rfl
    go_wp2_with (fail)
    refine bodyPost_ret (v := .tuple #[.agg #[.int .i64 0, .int .i64 0], .int .i64 1]) (by simp [results, Tryz.results57, go_sem, c30, c31, z3, f30, f31]) rfl (RetN.mk' HWR.out ?_)
    repeat (first | exact HF2.out.b | refine stw ?_ (by omega) | refine alw ?_ (by omega))
  · have hv := codeK_var hk1
    have hvv := isVar_yes hv
    have CBE := Lib.hid fun (W : World) (hx : SL W D l res) => isBearoff_any p c h s D l cd res W hx (by omega) (by omega) (by omega)
    cases hbe : posB h c res with
    | false =>
      have HWR : Hid (lossR p c h s ra rb own other res = (0, 0, 2)) := by
        have h : codeL p c h s ra rb own other res = 2 := by unfold codeL; rw [if_pos ⟨hk1, hbe⟩]
        unfold Hid lossR
        rw [if_neg (by rw [h]; decide), h]
      have HBE := Lib.hid hbe
      by_cases hct : codeK p c h s ra rb own other true = 0
      · rw [hct] at CT
        clear hct hk1 hbe hv hvv
        go_enter Tryz.func57, Tryz.ntmps57
        go_wp2_with (fail)
        refine CT.out.mono ?_
        rintro e w1 ⟨rfl, hb1⟩
        have HF2 := Lib.hid (HF1.out.below hb1)
        have HA2 := Lib.hid (HA1.out.below hb1)
        have HB2 := Lib.hid (HB1.out.below hb1)
        have HD2 := Lib.hid (HD1.out.below hb1)
        clear CT hb1 HF1 HA1 HB1 HD1
        have z0 := HF2.out.l0 (by simp)
        have c00 := HF2.out.c0 0 rfl
        have f00 := HF2.out.f0 0 rfl
        have c01 := HF2.out.c0 1 rfl
        have f01 := HF2.out.f0 1 rfl
        have c02 := HF2.out.c0 2 rfl
        have f02 := HF2.out.f0 2 rfl
        have c03 := HF2.out.c0 3 rfl
        have f03 := HF2.out.f0 3 rfl
        have z1 := HF2.out.l1 (by simp)
        have c10 := HF2.out.c1 0 rfl
        have f10 := HF2.out.f1 0 rfl
        have c11 := HF2.out.c1 1 rfl
        have f11 := HF2.out.f1 1 rfl
        have z2 := HF2.out.l2 (by simp)
        have c20 := HF2.out.c2 0 rfl
        have f20 := HF2.out.f2 0 rfl
        have z3 := HF2.out.l3 (by simp)
        have c30 := HF2.out.c3 0 rfl
        have f30 := HF2.out.f3 0 rfl
        have c31 := HF2.out.c3 1 rfl
        have f31 := HF2.out.f3 1 rfl
        go_wp2_with (fail)
        refine (CBE.out _ HD2.out).mono ?_
        rintro e w2 ⟨rfl, hb2⟩
        rw [HBE.out]
        have HF3 := Lib.hid (HF2.out.below hb2)
        have HA3 := Lib.hid (HA2.out.below hb2)
        have HB3 := Lib.hid (HB2.out.below hb2)
        have HD3 := Lib.hid (HD2.out.below hb2)
        clear CBE hb2 HF2 HA2 HB2 HD2
        clear z0 c00 f00 c01 f01 c02 f02 c03 f03 z1 c10 f10 c11 f11 z2 c20 f20 z3 c30 f30 c31 f31
        have z0 := HF3.out.l0 (by simp)
        have c00 := HF3.out.c0 0 rfl
        have f00 := HF3.out.f0 0 rfl
        have c01 := HF3.out.c0 1 rfl
        have f01 := HF3.out.f0 1 rfl
        have c02 := HF3.out.c0 2 rfl
        have f02 := HF3.out.f0 2 rfl
        have c03 := HF3.out.c0 3 rfl
        have f03 := HF3.out.f0 3 rfl
        have z1 := HF3.out.l1 (by simp)
        have c10 := HF3.out.c1 0 rfl
        have f10 := HF3.out.f1 0 rfl
        have c11 := HF3.out.c1 1 rfl
        have f11 := HF3.out.f1 1 rfl
        have z2 := HF3.out.l2 (by simp)
        have c20 := HF3.out.c2 0 rfl
        have f20 := HF3.out.f2 0 rfl
        have z3 := HF3.out.l3 (by simp)
        have c30 := HF3.out.c3 0 rfl
        have f30 := HF3.out.f3 0 rfl
        have c31 := HF3.out.c3 1 rfl
        have f31 := HF3.out.f3 1 rfl
        go_wp2_with (fail)
        refine bodyPost_ret (v := .tuple #[.agg #[.int .i64 0, .int .i64 0], .int .i64 2]) (by simp [results, Tryz.results57, go_sem, c30, c31, z3, f30, f31]) rfl (RetN.mk' HWR.out ?_)
        repeat (first | exact HF3.out.b | refine stw ?_ (by omega) | refine alw ?_ (by omega))
      · generalize codeK p c h s ra rb own other true = k at *
        have b0 : (k != 0) = true := by simp [hct]
        have b1 : (k != 1) = true := by simp [hk1]
        clear hct hk1 hbe hv hvv
        go_enter Tryz.func57, Tryz.ntmps57
        go_wp2_with (fail)
        refine CT.out.mono ?_
        rintro e w1 ⟨rfl, hb1⟩
        have HF2 := Lib.hid (HF1.out.below hb1)
        have HA2 := Lib.hid (HA1.out.below hb1)
        have HB2 := Lib.hid (HB1.out.below hb1)
        have HD2 := Lib.hid (HD1.out.below hb1)
        clear CT hb1 HF1 HA1 HB1 HD1
        have z0 := HF2.out.l0 (by simp)
        have c00 := HF2.out.c0 0 rfl
        have f00 := HF2.out.f0 0 rfl
        have c01 := HF2.out.c0 1 rfl
        have f01 := HF2.out.f0 1 rfl
        have c02 := HF2.out.c0 2 rfl
        have f02 := HF2.out.f0 2 rfl
        have c03 := HF2.out.c0 3 rfl
        have f03 := HF2.out.f0 3 rfl
        have z1 := HF2.out.l1 (by simp)
        have c10 := HF2.out.c1 0 rfl
        have f10 := HF2.out.f1 0 rfl
        have c11 := HF2.out.c1 1 rfl
        have f11 := HF2.out.f1 1 rfl
        have z2 := HF2.out.l2 (by simp)
        have c20 := HF2.out.c2 0 rfl
        have f20 := HF2.out.f2 0 rfl
        have z3 := HF2.out.l3 (by simp)
        have c30 := HF2.out.c3 0 rfl
        have f30 := HF2.out.f3 0 rfl
        have c31 := HF2.out.c3 1 rfl
        have f31 := HF2.out.f3 1 rfl
        go_wp2_with (fail)
        refine (CBE.out _ HD2.out).mono ?_
        rintro e w2 ⟨rfl, hb2⟩
        rw [HBE.out]
        have HF3 := Lib.hid (HF2.out.below hb2)
        have HA3 := Lib.hid (HA2.out.below hb2)
        have HB3 := Lib.hid (HB2.out.below hb2)
        have HD3 := Lib.hid (HD2.out.below hb2)
        clear CBE hb2 HF2 HA2 HB2 HD2
        clear z0 c00 f00 c01 f01 c02 f02 c03 f03 z1 c10 f10 c11 f11 z2 c20 f20 z3 c30 f30 c31 f31
        have z0 := HF3.out.l0 (by simp)
        have c00 := HF3.out.c0 0 rfl
        have f00 := HF3.out.f0 0 rfl
        have c01 := HF3.out.c0 1 rfl
        have f01 := HF3.out.f0 1 rfl
        have c02 := HF3.out.c0 2 rfl
        have f02 := HF3.out.f0 2 rfl
        have c03 := HF3.out.c0 3 rfl
        have f03 := HF3.out.f0 3 rfl
        have z1 := HF3.out.l1 (by simp)
        have c10 := HF3.out.c1 0 rfl
        have f10 := HF3.out.f1 0 rfl
        have c11 := HF3.out.c1 1 rfl
        have f11 := HF3.out.f1 1 rfl
        have z2 := HF3.out.l2 (by simp)
        have c20 := HF3.out.c2 0 rfl
        have f20 := HF3.out.f2 0 rfl
        have z3 := HF3.out.l3 (by simp)
        have c30 := HF3.out.c3 0 rfl
        have f30 := HF3.out.f3 0 rfl
        have c31 := HF3.out.c3 1 rfl
        have f31 := HF3.out.f3 1 rfl
        go_wp2_with (fail)
        refine bodyPost_ret (v := .tuple #[.agg #[.int .i64 0, .int .i64 0], .int .i64 2]) (by simp [results, Tryz.results57, go_sem, c30, c31, z3, f30, f31]) rfl (RetN.mk' HWR.out ?_)
        repeat (first | exact HF3.out.b | refine stw ?_ (by omega) | refine alw ?_ (by omega))
    | true =>
      have HBE := Lib.hid hbe
      have hcl : codeL p c h s ra rb own other res = codeK p c h s ra rb own other true := by
        unfold codeL
        rw [if_neg fun h => by rw [hbe] at h; cases h.2]
      by_cases hct : codeK p c h s ra rb own other true = 0
      · obtain ⟨ht, hro, hsum⟩ := codeK_ok hct
        obtain ⟨_, hp1, hp2, hN⟩ := codeT_ok ht
        obtain ⟨a, b, rfl, rfl, ha1, ha2, hb1, hb2⟩ := rollB_nat hro
        obtain ⟨c', rfl⟩ : ∃ c' : Nat, c = c' := ⟨c.toNat, by omega⟩
        obtain ⟨h', rfl⟩ : ∃ h' : Nat, h = h' := ⟨h.toNat, by omega⟩
        obtain ⟨s', rfl⟩ : ∃ s' : Nat, s = s' := ⟨s.toNat, by omega⟩
        have hs1 : 1 ≤ s' := by omega
        have hs6 : s' ≤ 6 := by omega
        have hh1 : 0 < h' := by omega
        have hh24 : h' ≤ 24 := by omega
        have hh20 : h' ≤ 2000 := by omega
        obtain ⟨hq1, hq36, _⟩ := sq_bd hs1 hs6
        have HP1 := Lib.hid (posB_pos hp1)
        have HP2 := Lib.hid (posB_pos hp2)
        have HP3 := Lib.hid (posB_pos hbe)
        have hs0 : own.sum ≠ 0 := fun h0 => hsum (.inr ⟨rfl, .inl h0⟩)
        simp only [Int.toNat_natCast] at hN
        have hnh : h' = n := by rw [← HAL.out]; exact (HP1.out.1).symm
        have hmh : h' = m := by rw [← HBL.out]; exact (HP2.out.1).symm
        have hlh : h' = l := by rw [← HDL.out]; exact (HP3.out.1).symm
        subst hnh
        subst hmh
        subst hlh
        have HPP := HP1.out
        have CNEW := Lib.hid fun (W : World) => newRace_any p c' h' s' W hv hN
        have CROL := Lib.hid fun (W : World) => RollNumber_any p c' h' s' a b W hv ha1 ha2 hb1 hb2
        have CBES := Lib.hid fun (t : RT) (W : World) (hc' : t.c = c') (hh' : t.h = h') (hs' : t.s = s') (hok : t.Ok) (hI : RaceI t t.S W) (hA : SQ t.S W A h' own) (hB : SQ t.S W B h' other) => best_new hc' hh' hs' hok hI HP1.out HP2.out hs0 ha1 (by omega) hb1 hb2 hA hB hca hcb
        have CSEC := Lib.hid fun (t : RT) (W : World) (hc' : t.c = c') (hh' : t.h = h') (hs' : t.s = s') (hok : t.Ok) (hI : RaceI t t.S W) (hD : SQ t.S W D h' res) (hB : SQ t.S W B h' other) => second_at hc' hh' hs' hok hI HP3.out HP2.out hD hB hcd hcb
        have CRES := Lib.hid fun (W : World) (hx : SL W A h' own) => bearoffResults_any (fun _ => False) A h' ca a b own W (SQ.of_sl hx (fun _ h => h.elim)) hca ⟨HPP.1, HPP.2.1, by have := HPP.2.2; omega⟩ hh24 hh1 hb1 hb2 (by omega) (fun _ _ h => h)
        have HLN : Hid (∀ q ∈ resultsL own a b, q.length = h') := fun q h => (results_pos (by omega) hb1 HPP q h).1.1
        have hlen : (resultsL own a b).length ≤ 1000000 := Nat.le_trans (results_len (by omega) hb1 HPP hh24) (by omega)
        have HWR0 : Hid (lossR p c' h' s' a b own other res = if res ∈ resultsL own a b then numR (lossE s' own other res a b) else (0, 0, 4)) := by
          unfold Hid lossR
          rw [if_pos (hcl.trans hct)]
          simp only [Int.toNat_natCast]
        rw [hct] at CT
        clear hct ht hro hsum hv hp1 hp2 hN hvv hs0 ha1 ha2 hb1 hb2 HPP hcl hbe hk1
        by_cases hmem : res ∈ resultsL own a b
        · have HMEM : Hid (decide (res ∈ resultsL own a b) = true) := decide_eq_true hmem
          have HWR1 : Hid (lossR p c' h' s' a b own other res = numR (lossE s' own other res a b)) := by unfold Hid; rw [HWR0.out, if_pos hmem]
          clear hmem HWR0
          rcases hbs : bestS (sq s') (sec s' other) (resultsL own a b) with _ | ⟨cnt, at', ⟨xn, xd⟩⟩
          · have HWR : Hid (lossR p c' h' s' a b own other res = (0, 0, 3)) := by unfold Hid; rw [HWR1.out]; unfold lossE; rw [hbs]; rfl
            have HBS := Lib.hid hbs
            clear hbs HWR1
            go_enter Tryz.func57, Tryz.ntmps57
            go_wp2_with (fail)
            refine CT.out.mono ?_
            rintro e w1 ⟨rfl, hb1⟩
            have HF2 := Lib.hid (HF1.out.below hb1)
            have HA2 := Lib.hid (HA1.out.below hb1)
            have HB2 := Lib.hid (HB1.out.below hb1)
            have HD2 := Lib.hid (HD1.out.below hb1)
            clear CT hb1 HF1 HA1 HB1 HD1
            have z0 := HF2.out.l0 (by simp)
            have c00 := HF2.out.c0 0 rfl
            have f00 := HF2.out.f0 0 rfl
            have c01 := HF2.out.c0 1 rfl
            have f01 := HF2.out.f0 1 rfl
            have c02 := HF2.out.c0 2 rfl
            have f02 := HF2.out.f0 2 rfl
            have c03 := HF2.out.c0 3 rfl
            have f03 := HF2.out.f0 3 rfl
            have z1 := HF2.out.l1 (by simp)
            have c10 := HF2.out.c1 0 rfl
            have f10 := HF2.out.f1 0 rfl
            have c11 := HF2.out.c1 1 rfl
            have f11 := HF2.out.f1 1 rfl
            have z2 := HF2.out.l2 (by simp)
            have c20 := HF2.out.c2 0 rfl
            have f20 := HF2.out.f2 0 rfl
            have z3 := HF2.out.l3 (by simp)
            have c30 := HF2.out.c3 0 rfl
            have f30 := HF2.out.f3 0 rfl
            have c31 := HF2.out.c3 1 rfl
            have f31 := HF2.out.f3 1 rfl
            go_wp2_with (fail)
            refine (CBE.out _ HD2.out).mono ?_
            rintro e w2 ⟨rfl, hb2⟩
            rw [HBE.out]
            have HF3 := Lib.hid (HF2.out.below hb2)
            have HA3 := Lib.hid (HA2.out.below hb2)
            have HB3 := Lib.hid (HB2.out.below hb2)
            have HD3 := Lib.hid (HD2.out.below hb2)
            clear CBE hb2 HF2 HA2 HB2 HD2
            clear z0 c00 f00 c01 f01 c02 f02 c03 f03 z1 c10 f10 c11 f11 z2 c20 f20 z3 c30 f30 c31 f31
            have z0 := HF3.out.l0 (by simp)
            have c00 := HF3.out.c0 0 rfl
            have f00 := HF3.out.f0 0 rfl
            have c01 := HF3.out.c0 1 rfl
            have f01 := HF3.out.f0 1 rfl
            have c02 := HF3.out.c0 2 rfl
            have f02 := HF3.out.f0 2 rfl
            have c03 := HF3.out.c0 3 rfl
            have f03 := HF3.out.f0 3 rfl
            have z1 := HF3.out.l1 (by simp)
            have c10 := HF3.out.c1 0 rfl
            have f10 := HF3.out.f1 0 rfl
            have c11 := HF3.out.c1 1 rfl
            have f11 := HF3.out.f1 1 rfl
            have z2 := HF3.out.l2 (by simp)
            have c20 := HF3.out.c2 0 rfl
            have f20 := HF3.out.f2 0 rfl
            have z3 := HF3.out.l3 (by simp)
            have c30 := HF3.out.c3 0 rfl
            have f30 := HF3.out.f3 0 rfl
            have c31 := HF3.out.c3 1 rfl
            have f31 := HF3.out.f3 1 rfl
            go_wp2_with (fail)
            refine (CRES.out _ HA3.out).mono ?_
            rintro e w3 ⟨u, rfl, hop, hb3⟩
            have HF4 := Lib.hid (HF3.out.below hb3)
            have HA4 := Lib.hid (HA3.out.below hb3)
            have HB4 := Lib.hid (HB3.out.below hb3)
            have HD4 := Lib.hid (HD3.out.below hb3)
            obtain ⟨Al, cl, rfl, hpl, hcl⟩ := hop.read
            have HPL := Lib.hid hpl
            clear CRES hb3 hop hpl HF3 HA3 HB3 HD3
            clear z0 c00 f00 c01 f01 c02 f02 c03 f03 z1 c10 f10 c11 f11 z2 c20 f20 z3 c30 f30 c31 f31
            have z0 := HF4.out.l0 (by simp)
            have c00 := HF4.out.c0 0 rfl
            have f00 := HF4.out.f0 0 rfl
            have c01 := HF4.out.c0 1 rfl
            have f01 := HF4.out.f0 1 rfl
            have c02 := HF4.out.c0 2 rfl
            have f02 := HF4.out.f0 2 rfl
            have c03 := HF4.out.c0 3 rfl
            have f03 := HF4.out.f0 3 rfl
            have z1 := HF4.out.l1 (by simp)
            have c10 := HF4.out.c1 0 rfl
            have f10 := HF4.out.f1 0 rfl
            have c11 := HF4.out.c1 1 rfl
            have f11 := HF4.out.f1 1 rfl
            have z2 := HF4.out.l2 (by simp)
            have c20 := HF4.out.c2 0 rfl
            have f20 := HF4.out.f2 0 rfl
            have z3 := HF4.out.l3 (by simp)
            have c30 := HF4.out.c3 0 rfl
            have f30 := HF4.out.f3 0 rfl
            have c31 := HF4.out.c3 1 rfl
            have f31 := HF4.out.f3 1 rfl
            go_wp2_with (fail)
            refine (ContainsFunc_any _ _ _ _ _ _ _ (w.heap.size + 1 + 1) _ _ _ HPL.out HLN.out HD4.out c20 hh20 hlen hcl).mono ?_
            rintro e w' ⟨rfl, md, rfl⟩
            rw [HMEM.out]
            have hbd : Below w3.heap.size w3 (w3.drewN md) := below_drewN' (Below.refl _ _) md
            have HF5 := Lib.hid (HF4.out.below hbd)
            have HA5 := Lib.hid (HA4.out.below hbd)
            have HB5 := Lib.hid (HB4.out.below hbd)
            have HD5 := Lib.hid (HD4.out.below hbd)
            clear hbd HPL hcl HF4 HA4 HB4 HD4
            clear z0 c00 f00 c01 f01 c02 f02 c03 f03 z1 c10 f10 c11 f11 z2 c20 f20 z3 c30 f30 c31 f31
            generalize w3.drewN md = W3 at *
            have z0 := HF5.out.l0 (by simp)
            have c00 := HF5.out.c0 0 rfl
            have f00 := HF5.out.f0 0 rfl
            have c01 := HF5.out.c0 1 rfl
            have f01 := HF5.out.f0 1 rfl
            have c02 := HF5.out.c0 2 rfl
            have f02 := HF5.out.f0 2 rfl
            have c03 := HF5.out.c0 3 rfl
            have f03 := HF5.out.f0 3 rfl
            have z1 := HF5.out.l1 (by simp)
            have c10 := HF5.out.c1 0 rfl
            have f10 := HF5.out.f1 0 rfl
            have c11 := HF5.out.c1 1 rfl
            have f11 := HF5.out.f1 1 rfl
            have z2 := HF5.out.l2 (by simp)
            have c20 := HF5.out.c2 0 rfl
            have f20 := HF5.out.f2 0 rfl
            have z3 := HF5.out.l3 (by simp)
            have c30 := HF5.out.c3 0 rfl
            have f30 := HF5.out.f3 0 rfl
            have c31 := HF5.out.c3 1 rfl
            have f31 := HF5.out.f3 1 rfl
            go_wp2_with (fail)
            refine (CNEW.out _).mono ?_
            rintro e w4 ⟨t, _, hc', hh', hs', rfl, hok, hI, hlow, hbt, hb2⟩
            have HLOW : Hid (∀ k, t.S k → W3.heap.size ≤ k) := hlow
            have HF6 := Lib.hid (HF5.out.below hb2)
            have HA6 := Lib.hid ((SQ.of_sl HA5.out hlow).below hb2)
            have HB6 := Lib.hid ((SQ.of_sl HB5.out hlow).below hb2)
            have HD6 := Lib.hid ((SQ.of_sl HD5.out hlow).below hb2)
            have HI6 := Lib.hid hI
            have HOK := Lib.hid hok
            have HC := Lib.hid hc'
            have HH := Lib.hid hh'
            have HS := Lib.hid hs'
            have hz1 : w.heap.size + 4 ≤ W3.heap.size := by have := HF5.out.z; simpa using this
            clear hc' hh' hs' hok hI hlow hbt hb2 HA5 HB5 HD5 HF5 CNEW
            clear z0 c00 f00 c01 f01 c02 f02 c03 f03 z1 c10 f10 c11 f11 z2 c20 f20 z3 c30 f30 c31 f31
            have z0 := HF6.out.l0 (by simp)
            have c00 := HF6.out.c0 0 rfl
            have f00 := HF6.out.f0 0 rfl
            have c01 := HF6.out.c0 1 rfl
            have f01 := HF6.out.f0 1 rfl
            have c02 := HF6.out.c0 2 rfl
            have f02 := HF6.out.f0 2 rfl
            have c03 := HF6.out.c0 3 rfl
            have f03 := HF6.out.f0 3 rfl
            have z1 := HF6.out.l1 (by simp)
            have c10 := HF6.out.c1 0 rfl
            have f10 := HF6.out.f1 0 rfl
            have c11 := HF6.out.c1 1 rfl
            have f11 := HF6.out.f1 1 rfl
            have z2 := HF6.out.l2 (by simp)
            have c20 := HF6.out.c2 0 rfl
            have f20 := HF6.out.f2 0 rfl
            have z3 := HF6.out.l3 (by simp)
            have c30 := HF6.out.c3 0 rfl
            have f30 := HF6.out.f3 0 rfl
            have c31 := HF6.out.c3 1 rfl
            have f31 := HF6.out.f3 1 rfl
            go_wp2_with (fail)
            refine (CROL.out _).mono ?_
            rintro e w5 ⟨rfl, hb3⟩
            have HF7 := Lib.hid (HF6.out.below hb3)
            have HA7 := Lib.hid (HA6.out.below hb3)
            have HB7 := Lib.hid (HB6.out.below hb3)
            have HD7 := Lib.hid (HD6.out.below hb3)
            have HI7 := Lib.hid (HI6.out.below hb3)
            clear hb3 HF6 HA6 HB6 HD6 HI6 CROL
            clear z0 c00 f00 c01 f01 c02 f02 c03 f03 z1 c10 f10 c11 f11 z2 c20 f20 z3 c30 f30 c31 f31
            have z0 := HF7.out.l0 (by simp)
            have c00 := HF7.out.c0 0 rfl
            have f00 := HF7.out.f0 0 rfl
            have c01 := HF7.out.c0 1 rfl
            have f01 := HF7.out.f0 1 rfl
            have c02 := HF7.out.c0 2 rfl
            have f02 := HF7.out.f0 2 rfl
            have c03 := HF7.out.c0 3 rfl
            have f03 := HF7.out.f0 3 rfl
            have z1 := HF7.out.l1 (by simp)
            have c10 := HF7.out.c1 0 rfl
            have f10 := HF7.out.f1 0 rfl
            have c11 := HF7.out.c1 1 rfl
            have f11 := HF7.out.f1 1 rfl
            have z2 := HF7.out.l2 (by simp)
            have c20 := HF7.out.c2 0 rfl
            have f20 := HF7.out.f2 0 rfl
            have z3 := HF7.out.l3 (by simp)
            have c30 := HF7.out.c3 0 rfl
            have f30 := HF7.out.f3 0 rfl
            have c31 := HF7.out.c3 1 rfl
            have f31 := HF7.out.f3 1 rfl
            go_wp2_with (fail)
            refine (CBES.out t _ HC.out HH.out HS.out HOK.out HI7.out HA7.out HB7.out).mono ?_
            rintro e w6 ⟨hI5, hf5, hres⟩
            rw [HBS.out] at hres
            have HF8 := Lib.hid (HF7.out.frm hf5 (fun k hk => by have := HLOW.out k hk; omega) (fun k hk => by have := HLOW.out k hk; simp; omega))
            have HB8 := Lib.hid (HB7.out.frm hf5)
            have HD8 := Lib.hid (HD7.out.frm hf5)
            have HI8 := Lib.hid hI5
            clear hI5 hf5 HF7 HA7 HB7 HD7 HI7 CBES HBS
            clear z0 c00 f00 c01 f01 c02 f02 c03 f03 z1 c10 f10 c11 f11 z2 c20 f20 z3 c30 f30 c31 f31
            have z0 := HF8.out.l0 (by simp)
            have c00 := HF8.out.c0 0 rfl
            have f00 := HF8.out.f0 0 rfl
            have c01 := HF8.out.c0 1 rfl
            have f01 := HF8.out.f0 1 rfl
            have c02 := HF8.out.c0 2 rfl
            have f02 := HF8.out.f0 2 rfl
            have c03 := HF8.out.c0 3 rfl
            have f03 := HF8.out.f0 3 rfl
            have z1 := HF8.out.l1 (by simp)
            have c10 := HF8.out.c1 0 rfl
            have f10 := HF8.out.f1 0 rfl
            have c11 := HF8.out.c1 1 rfl
            have f11 := HF8.out.f1 1 rfl
            have z2 := HF8.out.l2 (by simp)
            have c20 := HF8.out.c2 0 rfl
            have f20 := HF8.out.f2 0 rfl
            have z3 := HF8.out.l3 (by simp)
            have c30 := HF8.out.c3 0 rfl
            have f30 := HF8.out.f3 0 rfl
            have c31 := HF8.out.c3 1 rfl
            have f31 := HF8.out.f3 1 rfl
            replace hres := (show e = .returned (.tuple #[.slice none 0 0, .agg #[.int .i64 0, .int .i64 0], .bool false]) from hres)
            subst hres
            go_wp2_with (fail)
            refine (CSEC.out t _ HC.out HH.out HS.out HOK.out (HI8.out.below ((Below.refl _ _).alloc (Nat.le_refl _) _)) (HD8.out.below ((Below.refl _ _).alloc (Nat.le_refl _) _)) (HB8.out.below ((Below.refl _ _).alloc (Nat.le_refl _) _))).mono ?_
            rintro e w7 ⟨rfl, hI6, hf6⟩
            have HG5 : Hid (Fr w6 (w6.alloc (.cells #[.int .i64 (0), .int .i64 (0)] 26)) [[.int .i64 (0), .int .i64 (0)]]) := (Fr.start w6).allocT (by simp) _ _
            have HF9 := Lib.hid ((HF8.out.alloc _).frm hf6 (fun k hk => by have := HLOW.out k hk; omega) (fun k hk => by have := HLOW.out k hk; simp; omega))
            have hxx : ¬ t.S w6.heap.size := fun hk => by have := HI8.out.ltS _ hk; omega
            have x0 : w7.cell? ⟨w6.heap.size, 0, none⟩ = some (.int .i64 (0)) := hf6.cell' (HG5.out.cellA (b := w6.heap.size) 0 0 rfl rfl) hxx
            have x1 : w7.cell? ⟨w6.heap.size, 1, none⟩ = some (.int .i64 (0)) := hf6.cell' (HG5.out.cellA (b := w6.heap.size) 0 1 rfl rfl) hxx
            have xl : w6.heap.size < w7.heap.size := World.block_lt_of_cell? w7 _ x0
            clear hI6 hf6 HF8 HG5 HB8 HD8 HI8 CSEC HLOW HC HH HS HOK
            clear z0 c00 f00 c01 f01 c02 f02 c03 f03 z1 c10 f10 c11 f11 z2 c20 f20 z3 c30 f30 c31 f31
            unfold exV
            generalize ((sec s' other res).getD ⟨0, 0⟩).num = yn
            generalize (((sec s' other res).getD ⟨0, 0⟩).depth : Int) = yd
            generalize (sec s' other res).isSome = yb
            have z0 := HF9.out.l0 (by simp)
            have c00 := HF9.out.c0 0 rfl
            have f00 := HF9.out.f0 0 rfl
            have c01 := HF9.out.c0 1 rfl
            have f01 := HF9.out.f0 1 rfl
            have c02 := HF9.out.c0 2 rfl
            have f02 := HF9.out.f0 2 rfl
            have c03 := HF9.out.c0 3 rfl
            have f03 := HF9.out.f0 3 rfl
            have z1 := HF9.out.l1 (by simp)
            have c10 := HF9.out.c1 0 rfl
            have f10 := HF9.out.f1 0 rfl
            have c11 := HF9.out.c1 1 rfl
            have f11 := HF9.out.f1 1 rfl
            have z2 := HF9.out.l2 (by simp)
            have c20 := HF9.out.c2 0 rfl
            have f20 := HF9.out.f2 0 rfl
            have z3 := HF9.out.l3 (by simp)
            have c30 := HF9.out.c3 0 rfl
            have f30 := HF9.out.f3 0 rfl
            have c31 := HF9.out.c3 1 rfl
            have f31 := HF9.out.f3 1 rfl
            go_wp2_with (fail)
            refine bodyPost_ret (v := .tuple #[.agg #[.int .i64 0, .int .i64 0], .int .i64 3]) (by simp [results, Tryz.results57, go_sem, c30, c31, z3, f30, f31]) rfl (RetN.mk' HWR.out ?_)
            repeat (first | exact HF9.out.b | refine stw ?_ (by omega) | refine alw ?_ (by omega))
          · have hxv : Val (sq s') ⟨xn, xd⟩ := bestS_val hq1 (fun q x h => sec_val hq1 h) hbs
            have HBS := Lib.hid hbs
            rcases hwi : sec s' other res with _ | ⟨yn, yd⟩
            · have HWR : Hid (lossR p c' h' s' a b own other res = (0, 0, 3)) := by unfold Hid; rw [HWR1.out]; unfold lossE; rw [hbs, hwi]; rfl
              have HWI := Lib.hid hwi
              clear hbs hwi HWR1 hxv
              go_enter Tryz.func57, Tryz.ntmps57
              go_wp2_with (fail)
              refine CT.out.mono ?_
              rintro e w1 ⟨rfl, hb1⟩
              have HF2 := Lib.hid (HF1.out.below hb1)
              have HA2 := Lib.hid (HA1.out.below hb1)
              have HB2 := Lib.hid (HB1.out.below hb1)
              have HD2 := Lib.hid (HD1.out.below hb1)
              clear CT hb1 HF1 HA1 HB1 HD1
              have z0 := HF2.out.l0 (by simp)
              have c00 := HF2.out.c0 0 rfl
              have f00 := HF2.out.f0 0 rfl
              have c01 := HF2.out.c0 1 rfl
              have f01 := HF2.out.f0 1 rfl
              have c02 := HF2.out.c0 2 rfl
              have f02 := HF2.out.f0 2 rfl
              have c03 := HF2.out.c0 3 rfl
              have f03 := HF2.out.f0 3 rfl
              have z1 := HF2.out.l1 (by simp)
              have c10 := HF2.out.c1 0 rfl
              have f10 := HF2.out.f1 0 rfl
              have c11 := HF2.out.c1 1 rfl
              have f11 := HF2.out.f1 1 rfl
              have z2 := HF2.out.l2 (by simp)
              have c20 := HF2.out.c2 0 rfl
              have f20 := HF2.out.f2 0 rfl
              have z3 := HF2.out.l3 (by simp)
              have c30 := HF2.out.c3 0 rfl
              have f30 := HF2.out.f3 0 rfl
              have c31 := HF2.out.c3 1 rfl
              have f31 := HF2.out.f3 1 rfl
              go_wp2_with (fail)
              refine (CBE.out _ HD2.out).mono ?_
              rintro e w2 ⟨rfl, hb2⟩
              rw [HBE.out]
              have HF3 := Lib.hid (HF2.out.below hb2)
              have HA3 := Lib.hid (HA2.out.below hb2)
              have HB3 := Lib.hid (HB2.out.below hb2)
              have HD3 := Lib.hid (HD2.out.below hb2)
              clear CBE hb2 HF2 HA2 HB2 HD2
              clear z0 c00 f00 c01 f01 c02 f02 c03 f03 z1 c10 f10 c11 f11 z2 c20 f20 z3 c30 f30 c31 f31
              have z0 := HF3.out.l0 (by simp)
              have c00 := HF3.out.c0 0 rfl
              have f00 := HF3.out.f0 0 rfl
              have c01 := HF3.out.c0 1 rfl
              have f01 := HF3.out.f0 1 rfl
              have c02 := HF3.out.c0 2 rfl
              have f02 := HF3.out.f0 2 rfl
              have c03 := HF3.out.c0 3 rfl
              have f03 := HF3.out.f0 3 rfl
              have z1 := HF3.out.l1 (by simp)
              have c10 := HF3.out.c1 0 rfl
              have f10 := HF3.out.f1 0 rfl
              have c11 := HF3.out.c1 1 rfl
              have f11 := HF3.out.f1 1 rfl
              have z2 := HF3.out.l2 (by simp)
              have c20 := HF3.out.c2 0 rfl
              have f20 := HF3.out.f2 0 rfl
              have z3 := HF3.out.l3 (by simp)
              have c30 := HF3.out.c3 0 rfl
              have f30 := HF3.out.f3 0 rfl
              have c31 := HF3.out.c3 1 rfl
              have f31 := HF3.out.f3 1 rfl
              go_wp2_with (fail)
              refine (CRES.out _ HA3.out).mono ?_
              rintro e w3 ⟨u, rfl, hop, hb3⟩
              have HF4 := Lib.hid (HF3.out.below hb3)
              have HA4 := Lib.hid (HA3.out.below hb3)
              have HB4 := Lib.hid (HB3.out.below hb3)
              have HD4 := Lib.hid (HD3.out.below hb3)
              obtain ⟨Al, cl, rfl, hpl, hcl⟩ := hop.read
              have HPL := Lib.hid hpl
              clear CRES hb3 hop hpl HF3 HA3 HB3 HD3
              clear z0 c00 f00 c01 f01 c02 f02 c03 f03 z1 c10 f10 c11 f11 z2 c20 f20 z3 c30 f30 c31 f31
              have z0 := HF4.out.l0 (by simp)
              have c00 := HF4.out.c0 0 rfl
              have f00 := HF4.out.f0 0 rfl
              have c01 := HF4.out.c0 1 rfl
              have f01 := HF4.out.f0 1 rfl
              have c02 := HF4.out.c0 2 rfl
              have f02 := HF4.out.f0 2 rfl
              have c03 := HF4.out.c0 3 rfl
              have f03 := HF4.out.f0 3 rfl
              have z1 := HF4.out.l1 (by simp)
              have c10 := HF4.out.c1 0 rfl
              have f10 := HF4.out.f1 0 rfl
              have c11 := HF4.out.c1 1 rfl
              have f11 := HF4.out.f1 1 rfl
              have z2 := HF4.out.l2 (by simp)
              have c20 := HF4.out.c2 0 rfl
              have f20 := HF4.out.f2 0 rfl
              have z3 := HF4.out.l3 (by simp)
              have c30 := HF4.out.c3 0 rfl
              have f30 := HF4.out.f3 0 rfl
              have c31 := HF4.out.c3 1 rfl
              have f31 := HF4.out.f3 1 rfl
              go_wp2_with (fail)
              refine (ContainsFunc_any _ _ _ _ _ _ _ (w.heap.size + 1 + 1) _ _ _ HPL.out HLN.out HD4.out c20 hh20 hlen hcl).mono ?_
              rintro e w' ⟨rfl, md, rfl⟩
              rw [HMEM.out]
              have hbd : Below w3.heap.size w3 (w3.drewN md) := below_drewN' (Below.refl _ _) md
              have HF5 := Lib.hid (HF4.out.below hbd)
              have HA5 := Lib.hid (HA4.out.below hbd)
              have HB5 := Lib.hid (HB4.out.below hbd)
              have HD5 := Lib.hid (HD4.out.below hbd)
              clear hbd HPL hcl HF4 HA4 HB4 HD4
              clear z0 c00 f00 c01 f01 c02 f02 c03 f03 z1 c10 f10 c11 f11 z2 c20 f20 z3 c30 f30 c31 f31
              generalize w3.drewN md = W3 at *
              have z0 := HF5.out.l0 (by simp)
              have c00 := HF5.out.c0 0 rfl
              have f00 := HF5.out.f0 0 rfl
              have c01 := HF5.out.c0 1 rfl
              have f01 := HF5.out.f0 1 rfl
              have c02 := HF5.out.c0 2 rfl
              have f02 := HF5.out.f0 2 rfl
              have c03 := HF5.out.c0 3 rfl
              have f03 := HF5.out.f0 3 rfl
              have z1 := HF5.out.l1 (by simp)
              have c10 := HF5.out.c1 0 rfl
              have f10 := HF5.out.f1 0 rfl
              have c11 := HF5.out.c1 1 rfl
              have f11 := HF5.out.f1 1 rfl
              have z2 := HF5.out.l2 (by simp)
              have c20 := HF5.out.c2 0 rfl
              have f20 := HF5.out.f2 0 rfl
              have z3 := HF5.out.l3 (by simp)
              have c30 := HF5.out.c3 0 rfl
              have f30 := HF5.out.f3 0 rfl
              have c31 := HF5.out.c3 1 rfl
              have f31 := HF5.out.f3 1 rfl
              go_wp2_with (fail)
              refine (CNEW.out _).mono ?_
              rintro e w4 ⟨t, _, hc', hh', hs', rfl, hok, hI, hlow, hbt, hb2⟩
              have HLOW : Hid (∀ k, t.S k → W3.heap.size ≤ k) := hlow
              have HF6 := Lib.hid (HF5.out.below hb2)
              have HA6 := Lib.hid ((SQ.of_sl HA5.out hlow).below hb2)
              have HB6 := Lib.hid ((SQ.of_sl HB5.out hlow).below hb2)
              have HD6 := Lib.hid ((SQ.of_sl HD5.out hlow).below hb2)
              have HI6 := Lib.hid hI
              have HOK := Lib.hid hok
              have HC := Lib.hid hc'
              have HH := Lib.hid hh'
              have HS := Lib.hid hs'
              have hz1 : w.heap.size + 4 ≤ W3.heap.size := by have := HF5.out.z; simpa using this
              clear hc' hh' hs' hok hI hlow hbt hb2 HA5 HB5 HD5 HF5 CNEW
              clear z0 c00 f00 c01 f01 c02 f02 c03 f03 z1 c10 f10 c11 f11 z2 c20 f20 z3 c30 f30 c31 f31
              have z0 := HF6.out.l0 (by simp)
              have c00 := HF6.out.c0 0 rfl
              have f00 := HF6.out.f0 0 rfl
              have c01 := HF6.out.c0 1 rfl
              have f01 := HF6.out.f0 1 rfl
              have c02 := HF6.out.c0 2 rfl
              have f02 := HF6.out.f0 2 rfl
              have c03 := HF6.out.c0 3 rfl
              have f03 := HF6.out.f0 3 rfl
              have z1 := HF6.out.l1 (by simp)
              have c10 := HF6.out.c1 0 rfl
              have f10 := HF6.out.f1 0 rfl
              have c11 := HF6.out.c1 1 rfl
              have f11 := HF6.out.f1 1 rfl
              have z2 := HF6.out.l2 (by simp)
              have c20 := HF6.out.c2 0 rfl
              have f20 := HF6.out.f2 0 rfl
              have z3 := HF6.out.l3 (by simp)
              have c30 := HF6.out.c3 0 rfl
              have f30 := HF6.out.f3 0 rfl
              have c31 := HF6.out.c3 1 rfl
              have f31 := HF6.out.f3 1 rfl
              go_wp2_with (fail)
              refine (CROL.out _).mono ?_
              rintro e w5 ⟨rfl, hb3⟩
              have HF7 := Lib.hid (HF6.out.below hb3)
              have HA7 := Lib.hid (HA6.out.below hb3)
              have HB7 := Lib.hid (HB6.out.below hb3)
              have HD7 := Lib.hid (HD6.out.below hb3)
              have HI7 := Lib.hid (HI6.out.below hb3)
              clear hb3 HF6 HA6 HB6 HD6 HI6 CROL
              clear z0 c00 f00 c01 f01 c02 f02 c03 f03 z1 c10 f10 c11 f11 z2 c20 f20 z3 c30 f30 c31 f31
              have z0 := HF7.out.l0 (by simp)
              have c00 := HF7.out.c0 0 rfl
              have f00 := HF7.out.f0 0 rfl
              have c01 := HF7.out.c0 1 rfl
              have f01 := HF7.out.f0 1 rfl
              have c02 := HF7.out.c0 2 rfl
              have f02 := HF7.out.f0 2 rfl
              have c03 := HF7.out.c0 3 rfl
              have f03 := HF7.out.f0 3 rfl
              have z1 := HF7.out.l1 (by simp)
              have c10 := HF7.out.c1 0 rfl
              have f10 := HF7.out.f1 0 rfl
              have c11 := HF7.out.c1 1 rfl
              have f11 := HF7.out.f1 1 rfl
              have z2 := HF7.out.l2 (by simp)
              have c20 := HF7.out.c2 0 rfl
              have f20 := HF7.out.f2 0 rfl
              have z3 := HF7.out.l3 (by simp)
              have c30 := HF7.out.c3 0 rfl
              have f30 := HF7.out.f3 0 rfl
              have c31 := HF7.out.c3 1 rfl
              have f31 := HF7.out.f3 1 rfl
              go_wp2_with (fail)
              refine (CBES.out t _ HC.out HH.out HS.out HOK.out HI7.out HA7.out HB7.out).mono ?_
              rintro e w6 ⟨hI5, hf5, hres⟩
              rw [HBS.out] at hres
              have HF8 := Lib.hid (HF7.out.frm hf5 (fun k hk => by have := HLOW.out k hk; omega) (fun k hk => by have := HLOW.out k hk; simp; omega))
              have HB8 := Lib.hid (HB7.out.frm hf5)
              have HD8 := Lib.hid (HD7.out.frm hf5)
              have HI8 := Lib.hid hI5
              clear hI5 hf5 HF7 HA7 HB7 HD7 HI7 CBES HBS
              clear z0 c00 f00 c01 f01 c02 f02 c03 f03 z1 c10 f10 c11 f11 z2 c20 f20 z3 c30 f30 c31 f31
              have z0 := HF8.out.l0 (by simp)
              have c00 := HF8.out.c0 0 rfl
              have f00 := HF8.out.f0 0 rfl
              have c01 := HF8.out.c0 1 rfl
              have f01 := HF8.out.f0 1 rfl
              have c02 := HF8.out.c0 2 rfl
              have f02 := HF8.out.f0 2 rfl
              have c03 := HF8.out.c0 3 rfl
              have f03 := HF8.out.f0 3 rfl
              have z1 := HF8.out.l1 (by simp)
              have c10 := HF8.out.c1 0 rfl
              have f10 := HF8.out.f1 0 rfl
              have c11 := HF8.out.c1 1 rfl
              have f11 := HF8.out.f1 1 rfl
              have z2 := HF8.out.l2 (by simp)
              have c20 := HF8.out.c2 0 rfl
              have f20 := HF8.out.f2 0 rfl
              have z3 := HF8.out.l3 (by simp)
              have c30 := HF8.out.c3 0 rfl
              have f30 := HF8.out.f3 0 rfl
              have c31 := HF8.out.c3 1 rfl
              have f31 := HF8.out.f3 1 rfl
              obtain ⟨v, rfl, _⟩ := (show ∃ v, e = .returned (.tuple #[v, .agg #[.int .i64 xn, .int .i64 (xd : Int)], .bool true]) ∧ _ from hres)
              clear hres
              go_wp2_with (fail)
              refine (CSEC.out t _ HC.out HH.out HS.out HOK.out (HI8.out.below ((Below.refl _ _).alloc (Nat.le_refl _) _)) (HD8.out.below ((Below.refl _ _).alloc (Nat.le_refl _) _)) (HB8.out.below ((Below.refl _ _).alloc (Nat.le_refl _) _))).mono ?_
              rintro e w7 ⟨rfl, hI6, hf6⟩
              have HG5 : Hid (Fr w6 (w6.alloc (.cells #[.int .i64 (xn), .int .i64 ((xd : Int))] 26)) [[.int .i64 (xn), .int .i64 ((xd : Int))]]) := (Fr.start w6).allocT (by simp) _ _
              have HF9 := Lib.hid ((HF8.out.alloc _).frm hf6 (fun k hk => by have := HLOW.out k hk; omega) (fun k hk => by have := HLOW.out k hk; simp; omega))
              have hxx : ¬ t.S w6.heap.size := fun hk => by have := HI8.out.ltS _ hk; omega
              have x0 : w7.cell? ⟨w6.heap.size, 0, none⟩ = some (.int .i64 (xn)) := hf6.cell' (HG5.out.cellA (b := w6.heap.size) 0 0 rfl rfl) hxx
              have x1 : w7.cell? ⟨w6.heap.size, 1, none⟩ = some (.int .i64 ((xd : Int))) := hf6.cell' (HG5.out.cellA (b := w6.heap.size) 0 1 rfl rfl) hxx
              have xl : w6.heap.size < w7.heap.size := World.block_lt_of_cell? w7 _ x0
              clear hI6 hf6 HF8 HG5 HB8 HD8 HI8 CSEC HLOW HC HH HS HOK
              clear z0 c00 f00 c01 f01 c02 f02 c03 f03 z1 c10 f10 c11 f11 z2 c20 f20 z3 c30 f30 c31 f31
              rw [HWI.out]
              unfold exV
              simp only [Option.getD_none, Option.isSome_none, Option.getD_some, Option.isSome_some]
              have z0 := HF9.out.l0 (by simp)
              have c00 := HF9.out.c0 0 rfl
              have f00 := HF9.out.f0 0 rfl
              have c01 := HF9.out.c0 1 rfl
              have f01 := HF9.out.f0 1 rfl
              have c02 := HF9.out.c0 2 rfl
              have f02 := HF9.out.f0 2 rfl
              have c03 := HF9.out.c0 3 rfl
              have f03 := HF9.out.f0 3 rfl
              have z1 := HF9.out.l1 (by simp)
              have c10 := HF9.out.c1 0 rfl
              have f10 := HF9.out.f1 0 rfl
              have c11 := HF9.out.c1 1 rfl
              have f11 := HF9.out.f1 1 rfl
              have z2 := HF9.out.l2 (by simp)
              have c20 := HF9.out.c2 0 rfl
              have f20 := HF9.out.f2 0 rfl
              have z3 := HF9.out.l3 (by simp)
              have c30 := HF9.out.c3 0 rfl
              have f30 := HF9.out.f3 0 rfl
              have c31 := HF9.out.c3 1 rfl
              have f31 := HF9.out.f3 1 rfl
              go_wp2_with (fail)
              refine bodyPost_ret (v := .tuple #[.agg #[.int .i64 0, .int .i64 0], .int .i64 3]) (by simp [results, Tryz.results57, go_sem, c30, c31, z3, f30, f31]) rfl (RetN.mk' HWR.out ?_)
              repeat (first | exact HF9.out.b | refine stw ?_ (by omega) | refine alw ?_ (by omega))
            · have hyv : Val (sq s') ⟨yn, yd⟩ := sec_val hq1 hwi
              have HWI := Lib.hid hwi
              have HM := Lib.hid fun (W : World) => minusExact_any p c' h' xn yn s' xd yd W hs1 hs6 hxv hyv
              rcases hm : minE (sq s') ⟨xn, xd⟩ ⟨yn, yd⟩ with _ | ⟨m2, d2⟩
              · have HWR : Hid (lossR p c' h' s' a b own other res = (0, 0, 3)) := by unfold Hid; rw [HWR1.out]; unfold lossE; rw [hbs, hwi]; show numR (minE _ _ _) = _; rw [hm]; rfl
                rw [hm] at HM
                clear hbs hwi HWR1 hxv hyv hm
                go_enter Tryz.func57, Tryz.ntmps57
                go_wp2_with (fail)
                refine CT.out.mono ?_
                rintro e w1 ⟨rfl, hb1⟩
                have HF2 := Lib.hid (HF1.out.below hb1)
                have HA2 := Lib.hid (HA1.out.below hb1)
                have HB2 := Lib.hid (HB1.out.below hb1)
                have HD2 := Lib.hid (HD1.out.below hb1)
                clear CT hb1 HF1 HA1 HB1 HD1
                have z0 := HF2.out.l0 (by simp)
                have c00 := HF2.out.c0 0 rfl
                have f00 := HF2.out.f0 0 rfl
                have c01 := HF2.out.c0 1 rfl
                have f01 := HF2.out.f0 1 rfl
                have c02 := HF2.out.c0 2 rfl
                have f02 := HF2.out.f0 2 rfl
                have c03 := HF2.out.c0 3 rfl
                have f03 := HF2.out.f0 3 rfl
                have z1 := HF2.out.l1 (by simp)
                have c10 := HF2.out.c1 0 rfl
                have f10 := HF2.out.f1 0 rfl
                have c11 := HF2.out.c1 1 rfl
                have f11 := HF2.out.f1 1 rfl
                have z2 := HF2.out.l2 (by simp)
                have c20 := HF2.out.c2 0 rfl
                have f20 := HF2.out.f2 0 rfl
                have z3 := HF2.out.l3 (by simp)
                have c30 := HF2.out.c3 0 rfl
                have f30 := HF2.out.f3 0 rfl
                have c31 := HF2.out.c3 1 rfl
                have f31 := HF2.out.f3 1 rfl
                go_wp2_with (fail)
                refine (CBE.out _ HD2.out).mono ?_
                rintro e w2 ⟨rfl, hb2⟩
                rw [HBE.out]
                have HF3 := Lib.hid (HF2.out.below hb2)
                have HA3 := Lib.hid (HA2.out.below hb2)
                have HB3 := Lib.hid (HB2.out.below hb2)
                have HD3 := Lib.hid (HD2.out.below hb2)
                clear CBE hb2 HF2 HA2 HB2 HD2
                clear z0 c00 f00 c01 f01 c02 f02 c03 f03 z1 c10 f10 c11 f11 z2 c20 f20 z3 c30 f30 c31 f31
                have z0 := HF3.out.l0 (by simp)
                have c00 := HF3.out.c0 0 rfl
                have f00 := HF3.out.f0 0 rfl
                have c01 := HF3.out.c0 1 rfl
                have f01 := HF3.out.f0 1 rfl
                have c02 := HF3.out.c0 2 rfl
                have f02 := HF3.out.f0 2 rfl
                have c03 := HF3.out.c0 3 rfl
                have f03 := HF3.out.f0 3 rfl
                have z1 := HF3.out.l1 (by simp)
                have c10 := HF3.out.c1 0 rfl
                have f10 := HF3.out.f1 0 rfl
                have c11 := HF3.out.c1 1 rfl
                have f11 := HF3.out.f1 1 rfl
                have z2 := HF3.out.l2 (by simp)
                have c20 := HF3.out.c2 0 rfl
                have f20 := HF3.out.f2 0 rfl
                have z3 := HF3.out.l3 (by simp)
                have c30 := HF3.out.c3 0 rfl
                have f30 := HF3.out.f3 0 rfl
                have c31 := HF3.out.c3 1 rfl
                have f31 := HF3.out.f3 1 rfl
                go_wp2_with (fail)
                refine (CRES.out _ HA3.out).mono ?_
                rintro e w3 ⟨u, rfl, hop, hb3⟩
                have HF4 := Lib.hid (HF3.out.below hb3)
                have HA4 := Lib.hid (HA3.out.below hb3)
                have HB4 := Lib.hid (HB3.out.below hb3)
                have HD4 := Lib.hid (HD3.out.below hb3)
                obtain ⟨Al, cl, rfl, hpl, hcl⟩ := hop.read
                have HPL := Lib.hid hpl
                clear CRES hb3 hop hpl HF3 HA3 HB3 HD3
                clear z0 c00 f00 c01 f01 c02 f02 c03 f03 z1 c10 f10 c11 f11 z2 c20 f20 z3 c30 f30 c31 f31
                have z0 := HF4.out.l0 (by simp)
                have c00 := HF4.out.c0 0 rfl
                have f00 := HF4.out.f0 0 rfl
                have c01 := HF4.out.c0 1 rfl
                have f01 := HF4.out.f0 1 rfl
                have c02 := HF4.out.c0 2 rfl
                have f02 := HF4.out.f0 2 rfl
                have c03 := HF4.out.c0 3 rfl
                have f03 := HF4.out.f0 3 rfl
                have z1 := HF4.out.l1 (by simp)
                have c10 := HF4.out.c1 0 rfl
                have f10 := HF4.out.f1 0 rfl
                have c11 := HF4.out.c1 1 rfl
                have f11 := HF4.out.f1 1 rfl
                have z2 := HF4.out.l2 (by simp)
                have c20 := HF4.out.c2 0 rfl
                have f20 := HF4.out.f2 0 rfl
                have z3 := HF4.out.l3 (by simp)
                have c30 := HF4.out.c3 0 rfl
                have f30 := HF4.out.f3 0 rfl
                have c31 := HF4.out.c3 1 rfl
                have f31 := HF4.out.f3 1 rfl
                go_wp2_with (fail)
                refine (ContainsFunc_any _ _ _ _ _ _ _ (w.heap.size + 1 + 1) _ _ _ HPL.out HLN.out HD4.out c20 hh20 hlen hcl).mono ?_
                rintro e w' ⟨rfl, md, rfl⟩
                rw [HMEM.out]
                have hbd : Below w3.heap.size w3 (w3.drewN md) := below_drewN' (Below.refl _ _) md
                have HF5 := Lib.hid (HF4.out.below hbd)
                have HA5 := Lib.hid (HA4.out.below hbd)
                have HB5 := Lib.hid (HB4.out.below hbd)
                have HD5 := Lib.hid (HD4.out.below hbd)
                clear hbd HPL hcl HF4 HA4 HB4 HD4
                clear z0 c00 f00 c01 f01 c02 f02 c03 f03 z1 c10 f10 c11 f11 z2 c20 f20 z3 c30 f30 c31 f31
                generalize w3.drewN md = W3 at *
                have z0 := HF5.out.l0 (by simp)
                have c00 := HF5.out.c0 0 rfl
                have f00 := HF5.out.f0 0 rfl
                have c01 := HF5.out.c0 1 rfl
                have f01 := HF5.out.f0 1 rfl
                have c02 := HF5.out.c0 2 rfl
                have f02 := HF5.out.f0 2 rfl
                have c03 := HF5.out.c0 3 rfl
                have f03 := HF5.out.f0 3 rfl
                have z1 := HF5.out.l1 (by simp)
                have c10 := HF5.out.c1 0 rfl
                have f10 := HF5.out.f1 0 rfl
                have c11 := HF5.out.c1 1 rfl
                have f11 := HF5.out.f1 1 rfl
                have z2 := HF5.out.l2 (by simp)
                have c20 := HF5.out.c2 0 rfl
                have f20 := HF5.out.f2 0 rfl
                have z3 := HF5.out.l3 (by simp)
                have c30 := HF5.out.c3 0 rfl
                have f30 := HF5.out.f3 0 rfl
                have c31 := HF5.out.c3 1 rfl
                have f31 := HF5.out.f3 1 rfl
                go_wp2_with (fail)
                refine (CNEW.out _).mono ?_
                rintro e w4 ⟨t, _, hc', hh', hs', rfl, hok, hI, hlow, hbt, hb2⟩
                have HLOW : Hid (∀ k, t.S k → W3.heap.size ≤ k) := hlow
                have HF6 := Lib.hid (HF5.out.below hb2)
                have HA6 := Lib.hid ((SQ.of_sl HA5.out hlow).below hb2)
                have HB6 := Lib.hid ((SQ.of_sl HB5.out hlow).below hb2)
                have HD6 := Lib.hid ((SQ.of_sl HD5.out hlow).below hb2)
                have HI6 := Lib.hid hI
                have HOK := Lib.hid hok
                have HC := Lib.hid hc'
                have HH := Lib.hid hh'
                have HS := Lib.hid hs'
                have hz1 : w.heap.size + 4 ≤ W3.heap.size := by have := HF5.out.z; simpa using this
                clear hc' hh' hs' hok hI hlow hbt hb2 HA5 HB5 HD5 HF5 CNEW
                clear z0 c00 f00 c01 f01 c02 f02 c03 f03 z1 c10 f10 c11 f11 z2 c20 f20 z3 c30 f30 c31 f31
                have z0 := HF6.out.l0 (by simp)
                have c00 := HF6.out.c0 0 rfl
                have f00 := HF6.out.f0 0 rfl
                have c01 := HF6.out.c0 1 rfl
                have f01 := HF6.out.f0 1 rfl
                have c02 := HF6.out.c0 2 rfl
                have f02 := HF6.out.f0 2 rfl
                have c03 := HF6.out.c0 3 rfl
                have f03 := HF6.out.f0 3 rfl
                have z1 := HF6.out.l1 (by simp)
                have c10 := HF6.out.c1 0 rfl
                have f10 := HF6.out.f1 0 rfl
                have c11 := HF6.out.c1 1 rfl
                have f11 := HF6.out.f1 1 rfl
                have z2 := HF6.out.l2 (by simp)
                have c20 := HF6.out.c2 0 rfl
                have f20 := HF6.out.f2 0 rfl
                have z3 := HF6.out.l3 (by simp)
                have c30 := HF6.out.c3 0 rfl
                have f30 := HF6.out.f3 0 rfl
                have c31 := HF6.out.c3 1 rfl
                have f31 := HF6.out.f3 1 rfl
                go_wp2_with (fail)
                refine (CROL.out _).mono ?_
                rintro e w5 ⟨rfl, hb3⟩
                have HF7 := Lib.hid (HF6.out.below hb3)
                have HA7 := Lib.hid (HA6.out.below hb3)
                have HB7 := Lib.hid (HB6.out.below hb3)
                have HD7 := Lib.hid (HD6.out.below hb3)
                have HI7 := Lib.hid (HI6.out.below hb3)
                clear hb3 HF6 HA6 HB6 HD6 HI6 CROL
                clear z0 c00 f00 c01 f01 c02 f02 c03 f03 z1 c10 f10 c11 f11 z2 c20 f20 z3 c30 f30 c31 f31
                have z0 := HF7.out.l0 (by simp)
                have c00 := HF7.out.c0 0 rfl
                have f00 := HF7.out.f0 0 rfl
                have c01 := HF7.out.c0 1 rfl
                have f01 := HF7.out.f0 1 rfl
                have c02 := HF7.out.c0 2 rfl
                have f02 := HF7.out.f0 2 rfl
                have c03 := HF7.out.c0 3 rfl
                have f03 := HF7.out.f0 3 rfl
                have z1 := HF7.out.l1 (by simp)
                have c10 := HF7.out.c1 0 rfl
                have f10 := HF7.out.f1 0 rfl
                have c11 := HF7.out.c1 1 rfl
                have f11 := HF7.out.f1 1 rfl
                have z2 := HF7.out.l2 (by simp)
                have c20 := HF7.out.c2 0 rfl
                have f20 := HF7.out.f2 0 rfl
                have z3 := HF7.out.l3 (by simp)
                have c30 := HF7.out.c3 0 rfl
                have f30 := HF7.out.f3 0 rfl
                have c31 := HF7.out.c3 1 rfl
                have f31 := HF7.out.f3 1 rfl
                go_wp2_with (fail)
                refine (CBES.out t _ HC.out HH.out HS.out HOK.out HI7.out HA7.out HB7.out).mono ?_
                rintro e w6 ⟨hI5, hf5, hres⟩
                rw [HBS.out] at hres
                have HF8 := Lib.hid (HF7.out.frm hf5 (fun k hk => by have := HLOW.out k hk; omega) (fun k hk => by have := HLOW.out k hk; simp; omega))
                have HB8 := Lib.hid (HB7.out.frm hf5)
                have HD8 := Lib.hid (HD7.out.frm hf5)
                have HI8 := Lib.hid hI5
                clear hI5 hf5 HF7 HA7 HB7 HD7 HI7 CBES HBS
                clear z0 c00 f00 c01 f01 c02 f02 c03 f03 z1 c10 f10 c11 f11 z2 c20 f20 z3 c30 f30 c31 f31
                have z0 := HF8.out.l0 (by simp)
                have c00 := HF8.out.c0 0 rfl
                have f00 := HF8.out.f0 0 rfl
                have c01 := HF8.out.c0 1 rfl
                have f01 := HF8.out.f0 1 rfl
                have c02 := HF8.out.c0 2 rfl
                have f02 := HF8.out.f0 2 rfl
                have c03 := HF8.out.c0 3 rfl
                have f03 := HF8.out.f0 3 rfl
                have z1 := HF8.out.l1 (by simp)
                have c10 := HF8.out.c1 0 rfl
                have f10 := HF8.out.f1 0 rfl
                have c11 := HF8.out.c1 1 rfl
                have f11 := HF8.out.f1 1 rfl
                have z2 := HF8.out.l2 (by simp)
                have c20 := HF8.out.c2 0 rfl
                have f20 := HF8.out.f2 0 rfl
                have z3 := HF8.out.l3 (by simp)
                have c30 := HF8.out.c3 0 rfl
                have f30 := HF8.out.f3 0 rfl
                have c31 := HF8.out.c3 1 rfl
                have f31 := HF8.out.f3 1 rfl
                obtain ⟨v, rfl, _⟩ := (show ∃ v, e = .returned (.tuple #[v, .agg #[.int .i64 xn, .int .i64 (xd : Int)], .bool true]) ∧ _ from hres)
                clear hres
                go_wp2_with (fail)
                refine (CSEC.out t _ HC.out HH.out HS.out HOK.out (HI8.out.below ((Below.refl _ _).alloc (Nat.le_refl _) _)) (HD8.out.below ((Below.refl _ _).alloc (Nat.le_refl _) _)) (HB8.out.below ((Below.refl _ _).alloc (Nat.le_refl _) _))).mono ?_
                rintro e w7 ⟨rfl, hI6, hf6⟩
                have HG5 : Hid (Fr w6 (w6.alloc (.cells #[.int .i64 (xn), .int .i64 ((xd : Int))] 26)) [[.int .i64 (xn), .int .i64 ((xd : Int))]]) := (Fr.start w6).allocT (by simp) _ _
                have HF9 := Lib.hid ((HF8.out.alloc _).frm hf6 (fun k hk => by have := HLOW.out k hk; omega) (fun k hk => by have := HLOW.out k hk; simp; omega))
                have hxx : ¬ t.S w6.heap.size := fun hk => by have := HI8.out.ltS _ hk; omega
                have x0 : w7.cell? ⟨w6.heap.size, 0, none⟩ = some (.int .i64 (xn)) := hf6.cell' (HG5.out.cellA (b := w6.heap.size) 0 0 rfl rfl) hxx
                have x1 : w7.cell? ⟨w6.heap.size, 1, none⟩ = some (.int .i64 ((xd : Int))) := hf6.cell' (HG5.out.cellA (b := w6.heap.size) 0 1 rfl rfl) hxx
                have xl : w6.heap.size < w7.heap.size := World.block_lt_of_cell? w7 _ x0
                clear hI6 hf6 HF8 HG5 HB8 HD8 HI8 CSEC HLOW HC HH HS HOK
                clear z0 c00 f00 c01 f01 c02 f02 c03 f03 z1 c10 f10 c11 f11 z2 c20 f20 z3 c30 f30 c31 f31
                rw [HWI.out]
                unfold exV
                simp only [Option.getD_none, Option.isSome_none, Option.getD_some, Option.isSome_some]
                have z0 := HF9.out.l0 (by simp)
                have c00 := HF9.out.c0 0 rfl
                have f00 := HF9.out.f0 0 rfl
                have c01 := HF9.out.c0 1 rfl
                have f01 := HF9.out.f0 1 rfl
                have c02 := HF9.out.c0 2 rfl
                have f02 := HF9.out.f0 2 rfl
                have c03 := HF9.out.c0 3 rfl
                have f03 := HF9.out.f0 3 rfl
                have z1 := HF9.out.l1 (by simp)
                have c10 := HF9.out.c1 0 rfl
                have f10 := HF9.out.f1 0 rfl
                have c11 := HF9.out.c1 1 rfl
                have f11 := HF9.out.f1 1 rfl
                have z2 := HF9.out.l2 (by simp)
                have c20 := HF9.out.c2 0 rfl
                have f20 := HF9.out.f2 0 rfl
                have z3 := HF9.out.l3 (by simp)
                have c30 := HF9.out.c3 0 rfl
                have f30 := HF9.out.f3 0 rfl
                have c31 := HF9.out.c3 1 rfl
                have f31 := HF9.out.f3 1 rfl
                go_wp2_with (fail)
                refine (HM.out _).mono ?_
                rintro e w8 ⟨rfl, hb7⟩
                have HF10 := Lib.hid ((HF9.out.alloc _).below hb7)
                clear hb7 HM HF9
                clear z0 c00 f00 c01 f01 c02 f02 c03 f03 z1 c10 f10 c11 f11 z2 c20 f20 z3 c30 f30 c31 f31
                simp only [Option.getD_none, Option.isSome_none]
                have z0 := HF10.out.l0 (by simp)
                have c00 := HF10.out.c0 0 rfl
                have f00 := HF10.out.f0 0 rfl
                have c01 := HF10.out.c0 1 rfl
                have f01 := HF10.out.f0 1 rfl
                have c02 := HF10.out.c0 2 rfl
                have f02 := HF10.out.f0 2 rfl
                have c03 := HF10.out.c0 3 rfl
                have f03 := HF10.out.f0 3 rfl
                have z1 := HF10.out.l1 (by simp)
                have c10 := HF10.out.c1 0 rfl
                have f10 := HF10.out.f1 0 rfl
                have c11 := HF10.out.c1 1 rfl
                have f11 := HF10.out.f1 1 rfl
                have z2 := HF10.out.l2 (by simp)
                have c20 := HF10.out.c2 0 rfl
                have f20 := HF10.out.f2 0 rfl
                have z3 := HF10.out.l3 (by simp)
                have c30 := HF10.out.c3 0 rfl
                have f30 := HF10.out.f3 0 rfl
                have c31 := HF10.out.c3 1 rfl
                have f31 := HF10.out.f3 1 rfl
                go_wp2_with (fail)
                refine bodyPost_ret (v := .tuple #[.agg #[.int .i64 0, .int .i64 0], .int .i64 3]) (by simp [results, Tryz.results57, go_sem, c30, c31, z3, f30, f31]) rfl (RetN.mk' HWR.out ?_)
                repeat (first | exact HF10.out.b | refine stw ?_ (by omega) | refine alw ?_ (by omega))
              · have HWR : Hid (lossR p c' h' s' a b own other res = (m2, (d2 : Int), 0)) := by unfold Hid; rw [HWR1.out]; unfold lossE; rw [hbs, hwi]; show numR (minE _ _ _) = _; rw [hm]; rfl
                rw [hm] at HM
                clear hbs hwi HWR1 hxv hyv hm
                go_enter Tryz.func57, Tryz.ntmps57
                go_wp2_with (fail)
                refine CT.out.mono ?_
                rintro e w1 ⟨rfl, hb1⟩
                have HF2 := Lib.hid (HF1.out.below hb1)
                have HA2 := Lib.hid (HA1.out.below hb1)
                have HB2 := Lib.hid (HB1.out.below hb1)
                have HD2 := Lib.hid (HD1.out.below hb1)
                clear CT hb1 HF1 HA1 HB1 HD1
                have z0 := HF2.out.l0 (by simp)
                have c00 := HF2.out.c0 0 rfl
                have f00 := HF2.out.f0 0 rfl
                have c01 := HF2.out.c0 1 rfl
                have f01 := HF2.out.f0 1 rfl
                have c02 := HF2.out.c0 2 rfl
                have f02 := HF2.out.f0 2 rfl
                have c03 := HF2.out.c0 3 rfl
                have f03 := HF2.out.f0 3 rfl
                have z1 := HF2.out.l1 (by simp)
                have c10 := HF2.out.c1 0 rfl
                have f10 := HF2.out.f1 0 rfl
                have c11 := HF2.out.c1 1 rfl
                have f11 := HF2.out.f1 1 rfl
                have z2 := HF2.out.l2 (by simp)
                have c20 := HF2.out.c2 0 rfl
                have f20 := HF2.out.f2 0 rfl
                have z3 := HF2.out.l3 (by simp)
                have c30 := HF2.out.c3 0 rfl
                have f30 := HF2.out.f3 0 rfl
                have c31 := HF2.out.c3 1 rfl
                have f31 := HF2.out.f3 1 rfl
                go_wp2_with (fail)
                refine (CBE.out _ HD2.out).mono ?_
                rintro e w2 ⟨rfl, hb2⟩
                rw [HBE.out]
                have HF3 := Lib.hid (HF2.out.below hb2)
                have HA3 := Lib.hid (HA2.out.below hb2)
                have HB3 := Lib.hid (HB2.out.below hb2)
                have HD3 := Lib.hid (HD2.out.below hb2)
                clear CBE hb2 HF2 HA2 HB2 HD2
                clear z0 c00 f00 c01 f01 c02 f02 c03 f03 z1 c10 f10 c11 f11 z2 c20 f20 z3 c30 f30 c31 f31
                have z0 := HF3.out.l0 (by simp)
                have c00 := HF3.out.c0 0 rfl
                have f00 := HF3.out.f0 0 rfl
                have c01 := HF3.out.c0 1 rfl
                have f01 := HF3.out.f0 1 rfl
                have c02 := HF3.out.c0 2 rfl
                have f02 := HF3.out.f0 2 rfl
                have c03 := HF3.out.c0 3 rfl
                have f03 := HF3.out.f0 3 rfl
                have z1 := HF3.out.l1 (by simp)
                have c10 := HF3.out.c1 0 rfl
                have f10 := HF3.out.f1 0 rfl
                have c11 := HF3.out.c1 1 rfl
                have f11 := HF3.out.f1 1 rfl
                have z2 := HF3.out.l2 (by simp)
                have c20 := HF3.out.c2 0 rfl
                have f20 := HF3.out.f2 0 rfl
                have z3 := HF3.out.l3 (by simp)
                have c30 := HF3.out.c3 0 rfl
                have f30 := HF3.out.f3 0 rfl
                have c31 := HF3.out.c3 1 rfl
                have f31 := HF3.out.f3 1 rfl
                go_wp2_with (fail)
                refine (CRES.out _ HA3.out).mono ?_
                rintro e w3 ⟨u, rfl, hop, hb3⟩
                have HF4 := Lib.hid (HF3.out.below hb3)
                have HA4 := Lib.hid (HA3.out.below hb3)
                have HB4 := Lib.hid (HB3.out.below hb3)
                have HD4 := Lib.hid (HD3.out.below hb3)
                obtain ⟨Al, cl, rfl, hpl, hcl⟩ := hop.read
                have HPL := Lib.hid hpl
                clear CRES hb3 hop hpl HF3 HA3 HB3 HD3
                clear z0 c00 f00 c01 f01 c02 f02 c03 f03 z1 c10 f10 c11 f11 z2 c20 f20 z3 c30 f30 c31 f31
                have z0 := HF4.out.l0 (by simp)
                have c00 := HF4.out.c0 0 rfl
                have f00 := HF4.out.f0 0 rfl
                have c01 := HF4.out.c0 1 rfl
                have f01 := HF4.out.f0 1 rfl
                have c02 := HF4.out.c0 2 rfl
                have f02 := HF4.out.f0 2 rfl
                have c03 := HF4.out.c0 3 rfl
                have f03 := HF4.out.f0 3 rfl
                have z1 := HF4.out.l1 (by simp)
                have c10 := HF4.out.c1 0 rfl
                have f10 := HF4.out.f1 0 rfl
                have c11 := HF4.out.c1 1 rfl
                have f11 := HF4.out.f1 1 rfl
                have z2 := HF4.out.l2 (by simp)
                have c20 := HF4.out.c2 0 rfl
                have f20 := HF4.out.f2 0 rfl
                have z3 := HF4.out.l3 (by simp)
                have c30 := HF4.out.c3 0 rfl
                have f30 := HF4.out.f3 0 rfl
                have c31 := HF4.out.c3 1 rfl
                have f31 := HF4.out.f3 1 rfl
                go_wp2_with (fail)
                refine (ContainsFunc_any _ _ _ _ _ _ _ (w.heap.size + 1 + 1) _ _ _ HPL.out HLN.out HD4.out c20 hh20 hlen hcl).mono ?_
                rintro e w' ⟨rfl, md, rfl⟩
                rw [HMEM.out]
                have hbd : Below w3.heap.size w3 (w3.drewN md) := below_drewN' (Below.refl _ _) md
                have HF5 := Lib.hid (HF4.out.below hbd)
                have HA5 := Lib.hid (HA4.out.below hbd)
                have HB5 := Lib.hid (HB4.out.below hbd)
                have HD5 := Lib.hid (HD4.out.below hbd)
                clear hbd HPL hcl HF4 HA4 HB4 HD4
                clear z0 c00 f00 c01 f01 c02 f02 c03 f03 z1 c10 f10 c11 f11 z2 c20 f20 z3 c30 f30 c31 f31
                generalize w3.drewN md = W3 at *
                have z0 := HF5.out.l0 (by simp)
                have c00 := HF5.out.c0 0 rfl
                have f00 := HF5.out.f0 0 rfl
                have c01 := HF5.out.c0 1 rfl
                have f01 := HF5.out.f0 1 rfl
                have c02 := HF5.out.c0 2 rfl
                have f02 := HF5.out.f0 2 rfl
                have c03 := HF5.out.c0 3 rfl
                have f03 := HF5.out.f0 3 rfl
                have z1 := HF5.out.l1 (by simp)
                have c10 := HF5.out.c1 0 rfl
                have f10 := HF5.out.f1 0 rfl
                have c11 := HF5.out.c1 1 rfl
                have f11 := HF5.out.f1 1 rfl
                have z2 := HF5.out.l2 (by simp)
                have c20 := HF5.out.c2 0 rfl
                have f20 := HF5.out.f2 0 rfl
                have z3 := HF5.out.l3 (by simp)
                have c30 := HF5.out.c3 0 rfl
                have f30 := HF5.out.f3 0 rfl
                have c31 := HF5.out.c3 1 rfl
                have f31 := HF5.out.f3 1 rfl
                go_wp2_with (fail)
                refine (CNEW.out _).mono ?_
                rintro e w4 ⟨t, _, hc', hh', hs', rfl, hok, hI, hlow, hbt, hb2⟩
                have HLOW : Hid (∀ k, t.S k → W3.heap.size ≤ k) := hlow
                have HF6 := Lib.hid (HF5.out.below hb2)
                have HA6 := Lib.hid ((SQ.of_sl HA5.out hlow).below hb2)
                have HB6 := Lib.hid ((SQ.of_sl HB5.out hlow).below hb2)
                have HD6 := Lib.hid ((SQ.of_sl HD5.out hlow).below hb2)
                have HI6 := Lib.hid hI
                have HOK := Lib.hid hok
                have HC := Lib.hid hc'
                have HH := Lib.hid hh'
                have HS := Lib.hid hs'
                have hz1 : w.heap.size + 4 ≤ W3.heap.size := by have := HF5.out.z; simpa using this
                clear hc' hh' hs' hok hI hlow hbt hb2 HA5 HB5 HD5 HF5 CNEW
                clear z0 c00 f00 c01 f01 c02 f02 c03 f03 z1 c10 f10 c11 f11 z2 c20 f20 z3 c30 f30 c31 f31
                have z0 := HF6.out.l0 (by simp)
                have c00 := HF6.out.c0 0 rfl
                have f00 := HF6.out.f0 0 rfl
                have c01 := HF6.out.c0 1 rfl
                have f01 := HF6.out.f0 1 rfl
                have c02 := HF6.out.c0 2 rfl
                have f02 := HF6.out.f0 2 rfl
                have c03 := HF6.out.c0 3 rfl
                have f03 := HF6.out.f0 3 rfl
                have z1 := HF6.out.l1 (by simp)
                have c10 := HF6.out.c1 0 rfl
                have f10 := HF6.out.f1 0 rfl
                have c11 := HF6.out.c1 1 rfl
                have f11 := HF6.out.f1 1 rfl
                have z2 := HF6.out.l2 (by simp)
                have c20 := HF6.out.c2 0 rfl
                have f20 := HF6.out.f2 0 rfl
                have z3 := HF6.out.l3 (by simp)
                have c30 := HF6.out.c3 0 rfl
                have f30 := HF6.out.f3 0 rfl
                have c31 := HF6.out.c3 1 rfl
                have f31 := HF6.out.f3 1 rfl
                go_wp2_with (fail)
                refine (CROL.out _).mono ?_
                rintro e w5 ⟨rfl, hb3⟩
                have HF7 := Lib.hid (HF6.out.below hb3)
                have HA7 := Lib.hid (HA6.out.below hb3)
                have HB7 := Lib.hid (HB6.out.below hb3)
                have HD7 := Lib.hid (HD6.out.below hb3)
                have HI7 := Lib.hid (HI6.out.below hb3)
                clear hb3 HF6 HA6 HB6 HD6 HI6 CROL
                clear z0 c00 f00 c01 f01 c02 f02 c03 f03 z1 c10 f10 c11 f11 z2 c20 f20 z3 c30 f30 c31 f31
                have z0 := HF7.out.l0 (by simp)
                have c00 := HF7.out.c0 0 rfl
                have f00 := HF7.out.f0 0 rfl
                have c01 := HF7.out.c0 1 rfl
                have f01 := HF7.out.f0 1 rfl
                have c02 := HF7.out.c0 2 rfl
                have f02 := HF7.out.f0 2 rfl
                have c03 := HF7.out.c0 3 rfl
                have f03 := HF7.out.f0 3 rfl
                have z1 := HF7.out.l1 (by simp)
                have c10 := HF7.out.c1 0 rfl
                have f10 := HF7.out.f1 0 rfl
                have c11 := HF7.out.c1 1 rfl
                have f11 := HF7.out.f1 1 rfl
                have z2 := HF7.out.l2 (by simp)
                have c20 := HF7.out.c2 0 rfl
                have f20 := HF7.out.f2 0 rfl
                have z3 := HF7.out.l3 (by simp)
                have c30 := HF7.out.c3 0 rfl
                have f30 := HF7.out.f3 0 rfl
                have c31 := HF7.out.c3 1 rfl
                have f31 := HF7.out.f3 1 rfl
                go_wp2_with (fail)
                refine (CBES.out t _ HC.out HH.out HS.out HOK.out HI7.out HA7.out HB7.out).mono ?_
                rintro e w6 ⟨hI5, hf5, hres⟩
                rw [HBS.out] at hres
                have HF8 := Lib.hid (HF7.out.frm hf5 (fun k hk => by have := HLOW.out k hk; omega) (fun k hk => by have := HLOW.out k hk; simp; omega))
                have HB8 := Lib.hid (HB7.out.frm hf5)
                have HD8 := Lib.hid (HD7.out.frm hf5)
                have HI8 := Lib.hid hI5
                clear hI5 hf5 HF7 HA7 HB7 HD7 HI7 CBES HBS
                clear z0 c00 f00 c01 f01 c02 f02 c03 f03 z1 c10 f10 c11 f11 z2 c20 f20 z3 c30 f30 c31 f31
                have z0 := HF8.out.l0 (by simp)
                have c00 := HF8.out.c0 0 rfl
                have f00 := HF8.out.f0 0 rfl
                have c01 := HF8.out.c0 1 rfl
                have f01 := HF8.out.f0 1 rfl
                have c02 := HF8.out.c0 2 rfl
                have f02 := HF8.out.f0 2 rfl
                have c03 := HF8.out.c0 3 rfl
                have f03 := HF8.out.f0 3 rfl
                have z1 := HF8.out.l1 (by simp)
                have c10 := HF8.out.c1 0 rfl
                have f10 := HF8.out.f1 0 rfl
                have c11 := HF8.out.c1 1 rfl
                have f11 := HF8.out.f1 1 rfl
                have z2 := HF8.out.l2 (by simp)
                have c20 := HF8.out.c2 0 rfl
                have f20 := HF8.out.f2 0 rfl
                have z3 := HF8.out.l3 (by simp)
                have c30 := HF8.out.c3 0 rfl
                have f30 := HF8.out.f3 0 rfl
                have c31 := HF8.out.c3 1 rfl
                have f31 := HF8.out.f3 1 rfl
                obtain ⟨v, rfl, _⟩ := (show ∃ v, e = .returned (.tuple #[v, .agg #[.int .i64 xn, .int .i64 (xd : Int)], .bool true]) ∧ _ from hres)
                clear hres
                go_wp2_with (fail)
                refine (CSEC.out t _ HC.out HH.out HS.out HOK.out (HI8.out.below ((Below.refl _ _).alloc (Nat.le_refl _) _)) (HD8.out.below ((Below.refl _ _).alloc (Nat.le_refl _) _)) (HB8.out.below ((Below.refl _ _).alloc (Nat.le_refl _) _))).mono ?_
                rintro e w7 ⟨rfl, hI6, hf6⟩
                have HG5 : Hid (Fr w6 (w6.alloc (.cells #[.int .i64 (xn), .int .i64 ((xd : Int))] 26)) [[.int .i64 (xn), .int .i64 ((xd : Int))]]) := (Fr.start w6).allocT (by simp) _ _
                have HF9 := Lib.hid ((HF8.out.alloc _).frm hf6 (fun k hk => by have := HLOW.out k hk; omega) (fun k hk => by have := HLOW.out k hk; simp; omega))
                have hxx : ¬ t.S w6.heap.size := fun hk => by have := HI8.out.ltS _ hk; omega
                have x0 : w7.cell? ⟨w6.heap.size, 0, none⟩ = some (.int .i64 (xn)) := hf6.cell' (HG5.out.cellA (b := w6.heap.size) 0 0 rfl rfl) hxx
                have x1 : w7.cell? ⟨w6.heap.size, 1, none⟩ = some (.int .i64 ((xd : Int))) := hf6.cell' (HG5.out.cellA (b := w6.heap.size) 0 1 rfl rfl) hxx
                have xl : w6.heap.size < w7.heap.size := World.block_lt_of_cell? w7 _ x0
                clear hI6 hf6 HF8 HG5 HB8 HD8 HI8 CSEC HLOW HC HH HS HOK
                clear z0 c00 f00 c01 f01 c02 f02 c03 f03 z1 c10 f10 c11 f11 z2 c20 f20 z3 c30 f30 c31 f31
                rw [HWI.out]
                unfold exV
                simp only [Option.getD_none, Option.isSome_none, Option.getD_some, Option.isSome_some]
                have z0 := HF9.out.l0 (by simp)
                have c00 := HF9.out.c0 0 rfl
                have f00 := HF9.out.f0 0 rfl
                have c01 := HF9.out.c0 1 rfl
                have f01 := HF9.out.f0 1 rfl
                have c02 := HF9.out.c0 2 rfl
                have f02 := HF9.out.f0 2 rfl
                have c03 := HF9.out.c0 3 rfl
                have f03 := HF9.out.f0 3 rfl
                have z1 := HF9.out.l1 (by simp)
                have c10 := HF9.out.c1 0 rfl
                have f10 := HF9.out.f1 0 rfl
                have c11 := HF9.out.c1 1 rfl
                have f11 := HF9.out.f1 1 rfl
                have z2 := HF9.out.l2 (by simp)
                have c20 := HF9.out.c2 0 rfl
                have f20 := HF9.out.f2 0 rfl
                have z3 := HF9.out.l3 (by simp)
                have c30 := HF9.out.c3 0 rfl
                have f30 := HF9.out.f3 0 rfl
                have c31 := HF9.out.c3 1 rfl
                have f31 := HF9.out.f3 1 rfl
                go_wp2_with (fail)
                refine (HM.out _).mono ?_
                rintro e w8 ⟨rfl, hb7⟩
                have HF10 := Lib.hid ((HF9.out.alloc _).below hb7)
                clear hb7 HM HF9
                clear z0 c00 f00 c01 f01 c02 f02 c03 f03 z1 c10 f10 c11 f11 z2 c20 f20 z3 c30 f30 c31 f31
                simp only [Option.getD_some, Option.isSome_some]
                have z0 := HF10.out.l0 (by simp)
                have c00 := HF10.out.c0 0 rfl
                have f00 := HF10.out.f0 0 rfl
                have c01 := HF10.out.c0 1 rfl
                have f01 := HF10.out.f0 1 rfl
                have c02 := HF10.out.c0 2 rfl
                have f02 := HF10.out.f0 2 rfl
                have c03 := HF10.out.c0 3 rfl
                have f03 := HF10.out.f0 3 rfl
                have z1 := HF10.out.l1 (by simp)
                have c10 := HF10.out.c1 0 rfl
                have f10 := HF10.out.f1 0 rfl
                have c11 := HF10.out.c1 1 rfl
                have f11 := HF10.out.f1 1 rfl
                have z2 := HF10.out.l2 (by simp)
                have c20 := HF10.out.c2 0 rfl
                have f20 := HF10.out.f2 0 rfl
                have z3 := HF10.out.l3 (by simp)
                have c30 := HF10.out.c3 0 rfl
                have f30 := HF10.out.f3 0 rfl
                have c31 := HF10.out.c3 1 rfl
                have f31 := HF10.out.f3 1 rfl
                go_wp2_with (fail)
                refine bodyPost_ret (v := .tuple #[.agg #[.int .i64 m2, .int .i64 (d2 : Int)], .int .i64 0]) (by simp [results, Tryz.results57, go_sem, c30, c31, z3, f30, f31]) rfl (RetN.mk' HWR.out ?_)
                repeat (first | exact HF10.out.b | refine stw ?_ (by omega) | refine alw ?_ (by omega))
        · have HMEM : Hid (decide (res ∈ resultsL own a b) = false) := decide_eq_false hmem
          have HWR : Hid (lossR p c' h' s' a b own other res = (0, 0, 4)) := by unfold Hid; rw [HWR0.out, if_neg hmem]
          clear hmem HWR0
          go_enter Tryz.func57, Tryz.ntmps57
          go_wp2_with (fail)
          refine CT.out.mono ?_
          rintro e w1 ⟨rfl, hb1⟩
          have HF2 := Lib.hid (HF1.out.below hb1)
          have HA2 := Lib.hid (HA1.out.below hb1)
          have HB2 := Lib.hid (HB1.out.below hb1)
          have HD2 := Lib.hid (HD1.out.below hb1)
          clear CT hb1 HF1 HA1 HB1 HD1
          have z0 := HF2.out.l0 (by simp)
          have c00 := HF2.out.c0 0 rfl
          have f00 := HF2.out.f0 0 rfl
          have c01 := HF2.out.c0 1 rfl
          have f01 := HF2.out.f0 1 rfl
          have c02 := HF2.out.c0 2 rfl
          have f02 := HF2.out.f0 2 rfl
          have c03 := HF2.out.c0 3 rfl
          have f03 := HF2.out.f0 3 rfl
          have z1 := HF2.out.l1 (by simp)
          have c10 := HF2.out.c1 0 rfl
          have f10 := HF2.out.f1 0 rfl
          have c11 := HF2.out.c1 1 rfl
          have f11 := HF2.out.f1 1 rfl
          have z2 := HF2.out.l2 (by simp)
          have c20 := HF2.out.c2 0 rfl
          have f20 := HF2.out.f2 0 rfl
          have z3 := HF2.out.l3 (by simp)
          have c30 := HF2.out.c3 0 rfl
          have f30 := HF2.out.f3 0 rfl
          have c31 := HF2.out.c3 1 rfl
          have f31 := HF2.out.f3 1 rfl
          go_wp2_with (fail)
          refine (CBE.out _ HD2.out).mono ?_
          rintro e w2 ⟨rfl, hb2⟩
          rw [HBE.out]
          have HF3 := Lib.hid (HF2.out.below hb2)
          have HA3 := Lib.hid (HA2.out.below hb2)
          have HB3 := Lib.hid (HB2.out.below hb2)
          have HD3 := Lib.hid (HD2.out.below hb2)
          clear CBE hb2 HF2 HA2 HB2 HD2
          clear z0 c00 f00 c01 f01 c02 f02 c03 f03 z1 c10 f10 c11 f11 z2 c20 f20 z3 c30 f30 c31 f31
          have z0 := HF3.out.l0 (by simp)
          have c00 := HF3.out.c0 0 rfl
          have f00 := HF3.out.f0 0 rfl
          have c01 := HF3.out.c0 1 rfl
          have f01 := HF3.out.f0 1 rfl
          have c02 := HF3.out.c0 2 rfl
          have f02 := HF3.out.f0 2 rfl
          have c03 := HF3.out.c0 3 rfl
          have f03 := HF3.out.f0 3 rfl
          have z1 := HF3.out.l1 (by simp)
          have c10 := HF3.out.c1 0 rfl
          have f10 := HF3.out.f1 0 rfl
          have c11 := HF3.out.c1 1 rfl
          have f11 := HF3.out.f1 1 rfl
          have z2 := HF3.out.l2 (by simp)
          have c20 := HF3.out.c2 0 rfl
          have f20 := HF3.out.f2 0 rfl
          have z3 := HF3.out.l3 (by simp)
          have c30 := HF3.out.c3 0 rfl
          have f30 := HF3.out.f3 0 rfl
          have c31 := HF3.out.c3 1 rfl
          have f31 := HF3.out.f3 1 rfl
          go_wp2_with (fail)
          refine (CRES.out _ HA3.out).mono ?_
          rintro e w3 ⟨u, rfl, hop, hb3⟩
          have HF4 := Lib.hid (HF3.out.below hb3)
          have HA4 := Lib.hid (HA3.out.below hb3)
          have HB4 := Lib.hid (HB3.out.below hb3)
          have HD4 := Lib.hid (HD3.out.below hb3)
          obtain ⟨Al, cl, rfl, hpl, hcl⟩ := hop.read
          have HPL := Lib.hid hpl
          clear CRES hb3 hop hpl HF3 HA3 HB3 HD3
          clear z0 c00 f00 c01 f01 c02 f02 c03 f03 z1 c10 f10 c11 f11 z2 c20 f20 z3 c30 f30 c31 f31
          have z0 := HF4.out.l0 (by simp)
          have c00 := HF4.out.c0 0 rfl
          have f00 := HF4.out.f0 0 rfl
          have c01 := HF4.out.c0 1 rfl
          have f01 := HF4.out.f0 1 rfl
          have c02 := HF4.out.c0 2 rfl
          have f02 := HF4.out.f0 2 rfl
          have c03 := HF4.out.c0 3 rfl
          have f03 := HF4.out.f0 3 rfl
          have z1 := HF4.out.l1 (by simp)
          have c10 := HF4.out.c1 0 rfl
          have f10 := HF4.out.f1 0 rfl
          have c11 := HF4.out.c1 1 rfl
          have f11 := HF4.out.f1 1 rfl
          have z2 := HF4.out.l2 (by simp)
          have c20 := HF4.out.c2 0 rfl
          have f20 := HF4.out.f2 0 rfl
          have z3 := HF4.out.l3 (by simp)
          have c30 := HF4.out.c3 0 rfl
          have f30 := HF4.out.f3 0 rfl
          have c31 := HF4.out.c3 1 rfl
          have f31 := HF4.out.f3 1 rfl
          go_wp2_with (fail)
          refine (ContainsFunc_any _ _ _ _ _ _ _ (w.heap.size + 1 + 1) _ _ _ HPL.out HLN.out HD4.out c20 hh20 hlen hcl).mono ?_
          rintro e w' ⟨rfl, md, rfl⟩
          rw [HMEM.out]
          have hbd : Below w3.heap.size w3 (w3.drewN md) := below_drewN' (Below.refl _ _) md
          have HF5 := Lib.hid (HF4.out.below hbd)
          have HA5 := Lib.hid (HA4.out.below hbd)
          have HB5 := Lib.hid (HB4.out.below hbd)
          have HD5 := Lib.hid (HD4.out.below hbd)
          clear hbd HPL hcl HF4 HA4 HB4 HD4
          clear z0 c00 f00 c01 f01 c02 f02 c03 f03 z1 c10 f10 c11 f11 z2 c20 f20 z3 c30 f30 c31 f31
          generalize w3.drewN md = W3 at *
          have z0 := HF5.out.l0 (by simp)
          have c00 := HF5.out.c0 0 rfl
          have f00 := HF5.out.f0 0 rfl
          have c01 := HF5.out.c0 1 rfl
          have f01 := HF5.out.f0 1 rfl
          have c02 := HF5.out.c0 2 rfl
          have f02 := HF5.out.f0 2 rfl
          have c03 := HF5.out.c0 3 rfl
          have f03 := HF5.out.f0 3 rfl
          have z1 := HF5.out.l1 (by simp)
          have c10 := HF5.out.c1 0 rfl
          have f10 := HF5.out.f1 0 rfl
          have c11 := HF5.out.c1 1 rfl
          have f11 := HF5.out.f1 1 rfl
          have z2 := HF5.out.l2 (by simp)
          have c20 := HF5.out.c2 0 rfl
          have f20 := HF5.out.f2 0 rfl
          have z3 := HF5.out.l3 (by simp)
          have c30 := HF5.out.c3 0 rfl
          have f30 := HF5.out.f3 0 rfl
          have c31 := HF5.out.c3 1 rfl
          have f31 := HF5.out.f3 1 rfl
          go_wp2_with (fail)
          refine bodyPost_ret (v := .tuple #[.agg #[.int .i64 0, .int .i64 0], .int .i64 4]) (by simp [results, Tryz.results57, go_sem, c30, c31, z3, f30, f31]) rfl (RetN.mk' HWR.out ?_)
          repeat (first | exact HF5.out.b | refine stw ?_ (by omega) | refine alw ?_ (by omega))
      · have HWR : Hid (lossR p c h s ra rb own other res = (0, 0, codeK p c h s ra rb own other true)) := by
          unfold Hid lossR
          rw [hcl, if_neg hct]
        clear hcl
        generalize codeK p c h s ra rb own other true = k at *
        have b0 : (k != 0) = true := by simp [hct]
        have b1 : (k != 1) = true := by simp [hk1]
        clear hct hk1 hbe hv hvv
        go_enter Tryz.func57, Tryz.ntmps57
        go_wp2_with (fail)
        refine CT.out.mono ?_
        rintro e w1 ⟨rfl, hb1⟩
        have HF2 := Lib.hid (HF1.out.below hb1)
        have HA2 := Lib.hid (HA1.out.below hb1)
        have HB2 := Lib.hid (HB1.out.below hb1)
        have HD2 := Lib.hid (HD1.out.below hb1)
        clear CT hb1 HF1 HA1 HB1 HD1
        have z0 := HF2.out.l0 (by simp)
        have c00 := HF2.out.c0 0 rfl
        have f00 := HF2.out.f0 0 rfl
        have c01 := HF2.out.c0 1 rfl
        have f01 := HF2.out.f0 1 rfl
        have c02 := HF2.out.c0 2 rfl
        have f02 := HF2.out.f0 2 rfl
        have c03 := HF2.out.c0 3 rfl
        have f03 := HF2.out.f0 3 rfl
        have z1 := HF2.out.l1 (by simp)
        have c10 := HF2.out.c1 0 rfl
        have f10 := HF2.out.f1 0 rfl
        have c11 := HF2.out.c1 1 rfl
        have f11 := HF2.out.f1 1 rfl
        have z2 := HF2.out.l2 (by simp)
        have c20 := HF2.out.c2 0 rfl
        have f20 := HF2.out.f2 0 rfl
        have z3 := HF2.out.l3 (by simp)
        have c30 := HF2.out.c3 0 rfl
        have f30 := HF2.out.f3 0 rfl
        have c31 := HF2.out.c3 1 rfl
        have f31 := HF2.out.f3 1 rfl
        go_wp2_with (fail)
        refine (CBE.out _ HD2.out).mono ?_
        rintro e w2 ⟨rfl, hb2⟩
        rw [HBE.out]
        have HF3 := Lib.hid (HF2.out.below hb2)
        have HA3 := Lib.hid (HA2.out.below hb2)
        have HB3 := Lib.hid (HB2.out.below hb2)
        have HD3 := Lib.hid (HD2.out.below hb2)
        clear CBE hb2 HF2 HA2 HB2 HD2
        clear z0 c00 f00 c01 f01 c02 f02 c03 f03 z1 c10 f10 c11 f11 z2 c20 f20 z3 c30 f30 c31 f31
        have z0 := HF3.out.l0 (by simp)
        have c00 := HF3.out.c0 0 rfl
        have f00 := HF3.out.f0 0 rfl
        have c01 := HF3.out.c0 1 rfl
        have f01 := HF3.out.f0 1 rfl
        have c02 := HF3.out.c0 2 rfl
        have f02 := HF3.out.f0 2 rfl
        have c03 := HF3.out.c0 3 rfl
        have f03 := HF3.out.f0 3 rfl
        have z1 := HF3.out.l1 (by simp)
        have c10 := HF3.out.c1 0 rfl
        have f10 := HF3.out.f1 0 rfl
        have c11 := HF3.out.c1 1 rfl
        have f11 := HF3.out.f1 1 rfl
        have z2 := HF3.out.l2 (by simp)
        have c20 := HF3.out.c2 0 rfl
        have f20 := HF3.out.f2 0 rfl
        have z3 := HF3.out.l3 (by simp)
        have c30 := HF3.out.c3 0 rfl
        have f30 := HF3.out.f3 0 rfl
        have c31 := HF3.out.c3 1 rfl
        have f31 := HF3.out.f3 1 rfl
        go_wp2_with (fail)
        refine bodyPost_ret (v := .tuple #[.agg #[.int .i64 0, .int .i64 0], .int .i64 k]) (by simp [results, Tryz.results57, go_sem, c30, c31, z3, f30, f31]) rfl (RetN.mk' HWR.out ?_)
        repeat (first | exact HF3.out.b | refine stw ?_ (by omega) | refine alw ?_ (by omega))
end Go.Proofs.YtlbkfhdnhalpbaaGreat

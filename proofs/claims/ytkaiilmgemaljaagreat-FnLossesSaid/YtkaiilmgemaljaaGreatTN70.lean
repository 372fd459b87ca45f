/- Part of one proof. There are no conditions. -/
import Derived.Test.YtkaiilmgemaljaaGreatTN69
set_option maxHeartbeats 0
set_option linter.unusedVariables false
set_option linter.unusedSimpArgs false
set_option maxRecDepth 100000
namespace Go.Proofs.YtkaiilmgemaljaaGreat
open Go.RowKit Ps Ra Ex
theorem gu (p c h s ra rb:Int) (A B D:Option Addr) (n m l ca cb cd:Nat) (own other res:List Int) (w:World) (hA:SL w A n own) (hB:SL w B m other) (hD:SL w D l res) (hca:n<=ca) (hcb:m<=cb) (hcd:l<=cd):
  Calls Tryz.prog 26 #[.agg #[.int .i64 p,.int .i64 c,.int .i64 h,.int .i64 s],.slice A n ca,.slice B m cb,.agg #[.int .i64 ra,.int .i64 rb],.slice D l cd] w (RetN w (lossR p c h s ra rb own other res)):=by
 have HF1:Hid (Fr w ((((w.alloc (.cells #[.int .i64 p,.int .i64 c,.int .i64 h,.int .i64 s] 25)).alloc (.cells #[.int .i64 ra,.int .i64 rb] 39)).alloc (.cells #[.slice D l cd] 26)).alloc (.cells #[.int .i64 0,.int .i64 0] 35)) [[.int .i64 p,.int .i64 c,.int .i64 h,.int .i64 s],[.int .i64 ra,.int .i64 rb],[.slice D l cd],[.int .i64 0,.int .i64 0]]):=((((Fr.start w).allocT (by simp) _ _).allocT (by simp) _ _).allocT (by simp) _ _).allocT (by simp) _ _
 have HA1:=h_ (hA.below HF1.out.b);have HB1:=h_ (hB.below HF1.out.b);have HD1:=h_ (hD.below HF1.out.b);have HAL:=h_ hA.1;have HBL:=h_ hB.1;have HDL:=h_ hD.1;have CT:=h_ (dT p c h s ra rb A B n m ca cb own other _ HA1.out HB1.out);clear hA hB hD
 by_cases hk1:codeK p c h s ra rb own other true=1
 ·have HWR:Hid (lossR p c h s ra rb own other res=(0,0,1)):=by
   have h:codeL p c h s ra rb own other res=1:=by unfold codeL;rw[if_neg (fun h=>h.1 hk1),hk1]
   unfold Hid lossR
   rw[if_neg (by rw[h];decide),h]
  rw[hk1]at CT;clear hk1
  go_enter Tryz.func26,Tryz.ntmps26
  go_wp2_with (fail)
  refine CT.out.mono ?_
  rintro e w1 ⟨rfl,hb1⟩
  have HF2:=h_ (HF1.out.below hb1);have HA2:=h_ (HA1.out.below hb1);have HB2:=h_ (HB1.out.below hb1);have HD2:=h_ (HD1.out.below hb1);clear CT hb1 HF1 HA1 HB1 HD1;obtain⟨z0,c00,f00,c01,f01,c02,f02,c03,f03,z1,c10,f10,c11,f11,z2,c20,f20,z3,c30,f30,c31,f31⟩:=HF2.out.xf6
  go_wp2_with (fail)
  refine bodyPost_ret (v:=.tuple #[.agg #[.int .i64 0,.int .i64 0],.int .i64 1]) (by simp[results,Tryz.results26,go_sem,c30,c31,z3,f30,f31]) rfl (RetN.mk' HWR.out ?_)
  repeat (first|exact HF2.out.b|refine stw ?_ (by omega)|refine alw ?_ (by omega))
 ·have hv:=codeK_var hk1
  have hvv:=aw hv
  have CBE:=h_ fun (W:World) (hx:SL W D l res)=>fJ p c h s D l cd res W hx (by omega) (by omega) (by omega)
  cases hbe:posB h c res with
  | false =>
    have HWR : Hid (lossR p c h s ra rb own other res = (0, 0, 2)) := by
      have h : codeL p c h s ra rb own other res = 2 := by unfold codeL; rw [if_pos ⟨hk1, hbe⟩]
      unfold Hid lossR
      rw [if_neg (by rw [h]; decide), h]
    have HBE := h_ hbe
    by_cases hct : codeK p c h s ra rb own other true = 0
    · rw [hct] at CT
      clear hct hk1 hbe hv hvv
      go_enter Tryz.func26, Tryz.ntmps26
      go_wp2_with (fail)
      refine CT.out.mono ?_
      rintro e w1 ⟨rfl, hb1⟩
      have HF2 := h_ (HF1.out.below hb1); have HA2 := h_ (HA1.out.below hb1); have HB2 := h_ (HB1.out.below hb1); have HD2 := h_ (HD1.out.below hb1); clear CT hb1 HF1 HA1 HB1 HD1; obtain ⟨z0, c00, f00, c01, f01, c02, f02, c03, f03, z1, c10, f10, c11, f11, z2, c20, f20, z3, c30, f30, c31, f31⟩ := HF2.out.xf6
      go_wp2_with (fail)
      refine (CBE.out _ HD2.out).mono ?_
      rintro e w2 ⟨rfl, hb2⟩
      rw [HBE.out]; have HF3 := h_ (HF2.out.below hb2); have HA3 := h_ (HA2.out.below hb2); have HB3 := h_ (HB2.out.below hb2); have HD3 := h_ (HD2.out.below hb2); clear CBE hb2 HF2 HA2 HB2 HD2; clear z0 c00 f00 c01 f01 c02 f02 c03 f03 z1 c10 f10 c11 f11 z2 c20 f20 z3 c30 f30 c31 f31; obtain ⟨z0, c00, f00, c01, f01, c02, f02, c03, f03, z1, c10, f10, c11, f11, z2, c20, f20, z3, c30, f30, c31, f31⟩ := HF3.out.xf6
      go_wp2_with (fail)
      refine bodyPost_ret (v := .tuple #[.agg #[.int .i64 0, .int .i64 0], .int .i64 2]) (by simp [results, Tryz.results26, go_sem, c30, c31, z3, f30, f31]) rfl (RetN.mk' HWR.out ?_)
      repeat (first | exact HF3.out.b | refine stw ?_ (by omega) | refine alw ?_ (by omega))
    · generalize codeK p c h s ra rb own other true = k at *
      have b0 : (k != 0) = true := by simp [hct]
      have b1 : (k != 1) = true := by simp [hk1]
      clear hct hk1 hbe hv hvv
      go_enter Tryz.func26, Tryz.ntmps26
      go_wp2_with (fail)
      refine CT.out.mono ?_
      rintro e w1 ⟨rfl, hb1⟩
      have HF2 := h_ (HF1.out.below hb1); have HA2 := h_ (HA1.out.below hb1); have HB2 := h_ (HB1.out.below hb1); have HD2 := h_ (HD1.out.below hb1); clear CT hb1 HF1 HA1 HB1 HD1; obtain ⟨z0, c00, f00, c01, f01, c02, f02, c03, f03, z1, c10, f10, c11, f11, z2, c20, f20, z3, c30, f30, c31, f31⟩ := HF2.out.xf6
      go_wp2_with (fail)
      refine (CBE.out _ HD2.out).mono ?_
      rintro e w2 ⟨rfl, hb2⟩
      rw [HBE.out]; have HF3 := h_ (HF2.out.below hb2); have HA3 := h_ (HA2.out.below hb2); have HB3 := h_ (HB2.out.below hb2); have HD3 := h_ (HD2.out.below hb2); clear CBE hb2 HF2 HA2 HB2 HD2; clear z0 c00 f00 c01 f01 c02 f02 c03 f03 z1 c10 f10 c11 f11 z2 c20 f20 z3 c30 f30 c31 f31; obtain ⟨z0, c00, f00, c01, f01, c02, f02, c03, f03, z1, c10, f10, c11, f11, z2, c20, f20, z3, c30, f30, c31, f31⟩ := HF3.out.xf6
      go_wp2_with (fail)
      refine bodyPost_ret (v := .tuple #[.agg #[.int .i64 0, .int .i64 0], .int .i64 2]) (by simp [results, Tryz.results26, go_sem, c30, c31, z3, f30, f31]) rfl (RetN.mk' HWR.out ?_)
      repeat (first | exact HF3.out.b | refine stw ?_ (by omega) | refine alw ?_ (by omega))
  | true =>
    have HBE := h_ hbe
    have hcl : codeL p c h s ra rb own other res = codeK p c h s ra rb own other true := by
      unfold codeL
      rw [if_neg fun h => by rw [hbe] at h; cases h.2]
    by_cases hct : codeK p c h s ra rb own other true = 0
    · obtain ⟨ht, hro, hsum⟩ := eG hct
      obtain ⟨_, hp1, hp2, hN⟩ := de ht; obtain ⟨a, b, rfl, rfl, ha1, ha2, hb1, hb2⟩ := du hro
      obtain ⟨c', rfl⟩ : ∃ c' : Nat, c = c' := ⟨c.toNat, by omega⟩
      obtain ⟨h', rfl⟩ : ∃ h' : Nat, h = h' := ⟨h.toNat, by omega⟩
      obtain ⟨s', rfl⟩ : ∃ s' : Nat, s = s' := ⟨s.toNat, by omega⟩
      have hs1 : 1 <= s' := by omega
      have hs6 : s' <= 6 := by omega
      have hh1 : 0 < h' := by omega
      have hh24 : h' <= 24 := by omega
      have hh20 : h' <= 2000 := by omega
      obtain ⟨hq1, hq36, _⟩ := sq_bd hs1 hs6; have HP1 := h_ (ba hp1); have HP2 := h_ (ba hp2); have HP3 := h_ (ba hbe)
      have hs0 : own.sum ≠ 0 := fun h0 => hsum (.inr ⟨rfl, .inl h0⟩)
      simp only [Int.toNat_natCast] at hN
      have hnh : h' = n := by rw [<- HAL.out]; exact (HP1.out.1).symm
      have hmh : h' = m := by rw [<- HBL.out]; exact (HP2.out.1).symm
      have hlh : h' = l := by rw [<- HDL.out]; exact (HP3.out.1).symm
      subst hnh; subst hmh; subst hlh; have HPP := HP1.out
      have CNEW := h_ fun (W : World) => hJ p c' h' s' W hv hN
      have CROL := h_ fun (W : World) => eO p c' h' s' a b W hv ha1 ha2 hb1 hb2
      have CBES := h_ fun (t : RT) (W : World) (hc' : t.c = c') (hh' : t.h = h') (hs' : t.s = s') (hok : t.Ok) (hI : RaceI t t.S W) (hA : SQ t.S W A h' own) (hB : SQ t.S W B h' other) => best_new hc' hh' hs' hok hI HP1.out HP2.out hs0 ha1 (by omega) hb1 hb2 hA hB hca hcb
      have CSEC := h_ fun (t : RT) (W : World) (hc' : t.c = c') (hh' : t.h = h') (hs' : t.s = s') (hok : t.Ok) (hI : RaceI t t.S W) (hD : SQ t.S W D h' res) (hB : SQ t.S W B h' other) => second_at hc' hh' hs' hok hI HP3.out HP2.out hD hB hcd hcb
      have CRES := h_ fun (W : World) (hx : SL W A h' own) => bT (fun _ => False) A h' ca a b own W (SQ.of_sl hx (fun _ h => h.elim)) hca ⟨HPP.1, HPP.2.1, by have := HPP.2.2; omega⟩ hh24 hh1 hb1 hb2 (by omega) (fun _ _ h => h)
      have HLN : Hid (∀ q ∈ resultsL own a b, q.length = h') := fun q h => (ax (by omega) hb1 HPP q h).1.1
      have hlen : (resultsL own a b).length <= 1000000 := Nat.le_trans (bN (by omega) hb1 HPP hh24) (by omega)
      have HWR0 : Hid (lossR p c' h' s' a b own other res = if res ∈ resultsL own a b then numR (lossE s' own other res a b) else (0, 0, 4)) := by
        unfold Hid lossR; rw [if_pos (hcl.trans hct)]
        simp only [Int.toNat_natCast]
      rw [hct] at CT; clear hct ht hro hsum hv hp1 hp2 hN hvv hs0 ha1 ha2 hb1 hb2 HPP hcl hbe hk1
      by_cases hmem : res ∈ resultsL own a b
      · have HMEM : Hid (decide (res ∈ resultsL own a b) = true) := decide_eq_true hmem
        have HWR1 : Hid (lossR p c' h' s' a b own other res = numR (lossE s' own other res a b)) := by unfold Hid; rw [HWR0.out, if_pos hmem]
        clear hmem HWR0
        rcases hbs : bestS (sq s') (sec s' other) (resultsL own a b) with _ | ⟨cnt, at', ⟨xn, xd⟩⟩
        · have HWR : Hid (lossR p c' h' s' a b own other res = (0, 0, 3)) := by unfold Hid; rw [HWR1.out]; unfold lossE; rw [hbs]; rfl
          have HBS := h_ hbs; clear hbs HWR1
          go_enter Tryz.func26, Tryz.ntmps26
          go_wp2_with (fail)
          refine CT.out.mono ?_
          rintro e w1 ⟨rfl, hb1⟩
          have HF2 := h_ (HF1.out.below hb1); have HA2 := h_ (HA1.out.below hb1); have HB2 := h_ (HB1.out.below hb1); have HD2 := h_ (HD1.out.below hb1); clear CT hb1 HF1 HA1 HB1 HD1; obtain ⟨z0, c00, f00, c01, f01, c02, f02, c03, f03, z1, c10, f10, c11, f11, z2, c20, f20, z3, c30, f30, c31, f31⟩ := HF2.out.xf6
          go_wp2_with (fail)
          refine (CBE.out _ HD2.out).mono ?_
          rintro e w2 ⟨rfl, hb2⟩
          rw [HBE.out]; have HF3 := h_ (HF2.out.below hb2); have HA3 := h_ (HA2.out.below hb2); have HB3 := h_ (HB2.out.below hb2); have HD3 := h_ (HD2.out.below hb2); clear CBE hb2 HF2 HA2 HB2 HD2; clear z0 c00 f00 c01 f01 c02 f02 c03 f03 z1 c10 f10 c11 f11 z2 c20 f20 z3 c30 f30 c31 f31; obtain ⟨z0, c00, f00, c01, f01, c02, f02, c03, f03, z1, c10, f10, c11, f11, z2, c20, f20, z3, c30, f30, c31, f31⟩ := HF3.out.xf6
          go_wp2_with (fail)
          refine (CRES.out _ HA3.out).mono ?_
          rintro e w3 ⟨u, rfl, hop, hb3⟩
          have HF4 := h_ (HF3.out.below hb3); have HA4 := h_ (HA3.out.below hb3); have HB4 := h_ (HB3.out.below hb3); have HD4 := h_ (HD3.out.below hb3); obtain ⟨Al, cl, rfl, hpl, hcl⟩ := hop.read; have HPL := h_ hpl; clear CRES hb3 hop hpl HF3 HA3 HB3 HD3; clear z0 c00 f00 c01 f01 c02 f02 c03 f03 z1 c10 f10 c11 f11 z2 c20 f20 z3 c30 f30 c31 f31; obtain ⟨z0, c00, f00, c01, f01, c02, f02, c03, f03, z1, c10, f10, c11, f11, z2, c20, f20, z3, c30, f30, c31, f31⟩ := HF4.out.xf6
          go_wp2_with (fail)
          refine (bp _ _ _ _ _ _ _ (w.heap.size + 1 + 1) _ _ _ HPL.out HLN.out HD4.out c20 hh20 hlen hcl).mono ?_
          rintro e w' ⟨rfl, md, rfl⟩
          rw [HMEM.out]; have hbd : Below w3.heap.size w3 (w3.drewN md) := below_drewN' (Below.refl _ _) md; have HF5 := h_ (HF4.out.below hbd); have HA5 := h_ (HA4.out.below hbd); have HB5 := h_ (HB4.out.below hbd); have HD5 := h_ (HD4.out.below hbd); clear hbd HPL hcl HF4 HA4 HB4 HD4; clear z0 c00 f00 c01 f01 c02 f02 c03 f03 z1 c10 f10 c11 f11 z2 c20 f20 z3 c30 f30 c31 f31; generalize w3.drewN md = W3 at *; obtain ⟨z0, c00, f00, c01, f01, c02, f02, c03, f03, z1, c10, f10, c11, f11, z2, c20, f20, z3, c30, f30, c31, f31⟩ := HF5.out.xf6
          go_wp2_with (fail)
          refine (CNEW.out _).mono ?_
          rintro e w4 ⟨t, _, hc', hh', hs', rfl, hok, hI, hlow, hbt, hb2⟩
          have HLOW : Hid (∀ k, t.S k -> W3.heap.size <= k) := hlow; have HF6 := h_ (HF5.out.below hb2); have HA6 := h_ ((SQ.of_sl HA5.out hlow).below hb2); have HB6 := h_ ((SQ.of_sl HB5.out hlow).below hb2); have HD6 := h_ ((SQ.of_sl HD5.out hlow).below hb2); have HI6 := h_ hI; have HOK := h_ hok; have HC := h_ hc'; have HH := h_ hh'; have HS := h_ hs'
          have hz1 : w.heap.size + 4 <= W3.heap.size := by have := HF5.out.z; simpa using this
          clear hc' hh' hs' hok hI hlow hbt hb2 HA5 HB5 HD5 HF5 CNEW; clear z0 c00 f00 c01 f01 c02 f02 c03 f03 z1 c10 f10 c11 f11 z2 c20 f20 z3 c30 f30 c31 f31; obtain ⟨z0, c00, f00, c01, f01, c02, f02, c03, f03, z1, c10, f10, c11, f11, z2, c20, f20, z3, c30, f30, c31, f31⟩ := HF6.out.xf6
          go_wp2_with (fail)
          refine (CROL.out _).mono ?_
          rintro e w5 ⟨rfl, hb3⟩
          have HF7 := h_ (HF6.out.below hb3); have HA7 := h_ (HA6.out.below hb3); have HB7 := h_ (HB6.out.below hb3); have HD7 := h_ (HD6.out.below hb3); have HI7 := h_ (HI6.out.below hb3); clear hb3 HF6 HA6 HB6 HD6 HI6 CROL; clear z0 c00 f00 c01 f01 c02 f02 c03 f03 z1 c10 f10 c11 f11 z2 c20 f20 z3 c30 f30 c31 f31; obtain ⟨z0, c00, f00, c01, f01, c02, f02, c03, f03, z1, c10, f10, c11, f11, z2, c20, f20, z3, c30, f30, c31, f31⟩ := HF7.out.xf6
          go_wp2_with (fail)
          refine (CBES.out t _ HC.out HH.out HS.out HOK.out HI7.out HA7.out HB7.out).mono ?_
          rintro e w6 ⟨hI5, hf5, hres⟩
          rw [HBS.out] at hres
          have HF8 := h_ (HF7.out.frm hf5 (fun k hk => by have := HLOW.out k hk; omega) (fun k hk => by have := HLOW.out k hk; simp; omega))
          have HB8 := h_ (HB7.out.frm hf5); have HD8 := h_ (HD7.out.frm hf5); have HI8 := h_ hI5; clear hI5 hf5 HF7 HA7 HB7 HD7 HI7 CBES HBS; clear z0 c00 f00 c01 f01 c02 f02 c03 f03 z1 c10 f10 c11 f11 z2 c20 f20 z3 c30 f30 c31 f31; obtain ⟨z0, c00, f00, c01, f01, c02, f02, c03, f03, z1, c10, f10, c11, f11, z2, c20, f20, z3, c30, f30, c31, f31⟩ := HF8.out.xf6
          replace hres := (show e = .returned (.tuple #[.slice none 0 0, .agg #[.int .i64 0, .int .i64 0], .bool false]) from hres)
          subst hres
          go_wp2_with (fail)
          refine (CSEC.out t _ HC.out HH.out HS.out HOK.out (HI8.out.below ((Below.refl _ _).alloc (Nat.le_refl _) _)) (HD8.out.below ((Below.refl _ _).alloc (Nat.le_refl _) _)) (HB8.out.below ((Below.refl _ _).alloc (Nat.le_refl _) _))).mono ?_
          rintro e w7 ⟨rfl, hI6, hf6⟩
          have HG5 : Hid (Fr w6 (w6.alloc (.cells #[.int .i64 (0), .int .i64 (0)] 35)) [[.int .i64 (0), .int .i64 (0)]]) := (Fr.start w6).allocT (by simp) _ _
          have HF9 := h_ ((HF8.out.alloc _).frm hf6 (fun k hk => by have := HLOW.out k hk; omega) (fun k hk => by have := HLOW.out k hk; simp; omega))
          have hxx : ¬ t.S w6.heap.size := fun hk => by have := HI8.out.ltS _ hk; omega
          have x0 : w7.cell? ⟨w6.heap.size, 0, none⟩ = some (.int .i64 (0)) := hf6.cell' (HG5.out.cellA (b := w6.heap.size) 0 0 rfl rfl) hxx; have x1 : w7.cell? ⟨w6.heap.size, 1, none⟩ = some (.int .i64 (0)) := hf6.cell' (HG5.out.cellA (b := w6.heap.size) 0 1 rfl rfl) hxx; have xl : w6.heap.size < w7.heap.size := World.block_lt_of_cell? w7 _ x0; clear hI6 hf6 HF8 HG5 HB8 HD8 HI8 CSEC HLOW HC HH HS HOK; clear z0 c00 f00 c01 f01 c02 f02 c03 f03 z1 c10 f10 c11 f11 z2 c20 f20 z3 c30 f30 c31 f31; unfold exV; generalize ((sec s' other res).getD ⟨0, 0⟩).num = yn; generalize (((sec s' other res).getD ⟨0, 0⟩).depth : Int) = yd; generalize (sec s' other res).isSome = yb; obtain ⟨z0, c00, f00, c01, f01, c02, f02, c03, f03, z1, c10, f10, c11, f11, z2, c20, f20, z3, c30, f30, c31, f31⟩ := HF9.out.xf6
          go_wp2_with (fail)
          refine bodyPost_ret (v := .tuple #[.agg #[.int .i64 0, .int .i64 0], .int .i64 3]) (by simp [results, Tryz.results26, go_sem, c30, c31, z3, f30, f31]) rfl (RetN.mk' HWR.out ?_)
          repeat (first | exact HF9.out.b | refine stw ?_ (by omega) | refine alw ?_ (by omega))
        · have hxv : Val (sq s') ⟨xn, xd⟩ := fP hq1 (fun q x h => eW hq1 h) hbs
          have HBS := h_ hbs
          rcases hwi : sec s' other res with _ | ⟨yn, yd⟩
          · have HWR : Hid (lossR p c' h' s' a b own other res = (0, 0, 3)) := by unfold Hid; rw [HWR1.out]; unfold lossE; rw [hbs, hwi]; rfl
            have HWI := h_ hwi; clear hbs hwi HWR1 hxv
            go_enter Tryz.func26, Tryz.ntmps26
            go_wp2_with (fail)
            refine CT.out.mono ?_
            rintro e w1 ⟨rfl, hb1⟩
            have HF2 := h_ (HF1.out.below hb1); have HA2 := h_ (HA1.out.below hb1); have HB2 := h_ (HB1.out.below hb1); have HD2 := h_ (HD1.out.below hb1); clear CT hb1 HF1 HA1 HB1 HD1; obtain ⟨z0, c00, f00, c01, f01, c02, f02, c03, f03, z1, c10, f10, c11, f11, z2, c20, f20, z3, c30, f30, c31, f31⟩ := HF2.out.xf6
            go_wp2_with (fail)
            refine (CBE.out _ HD2.out).mono ?_
            rintro e w2 ⟨rfl, hb2⟩
            rw [HBE.out]; have HF3 := h_ (HF2.out.below hb2); have HA3 := h_ (HA2.out.below hb2); have HB3 := h_ (HB2.out.below hb2); have HD3 := h_ (HD2.out.below hb2); clear CBE hb2 HF2 HA2 HB2 HD2; clear z0 c00 f00 c01 f01 c02 f02 c03 f03 z1 c10 f10 c11 f11 z2 c20 f20 z3 c30 f30 c31 f31; obtain ⟨z0, c00, f00, c01, f01, c02, f02, c03, f03, z1, c10, f10, c11, f11, z2, c20, f20, z3, c30, f30, c31, f31⟩ := HF3.out.xf6
            go_wp2_with (fail)
            refine (CRES.out _ HA3.out).mono ?_
            rintro e w3 ⟨u, rfl, hop, hb3⟩
            have HF4 := h_ (HF3.out.below hb3); have HA4 := h_ (HA3.out.below hb3); have HB4 := h_ (HB3.out.below hb3); have HD4 := h_ (HD3.out.below hb3); obtain ⟨Al, cl, rfl, hpl, hcl⟩ := hop.read; have HPL := h_ hpl; clear CRES hb3 hop hpl HF3 HA3 HB3 HD3; clear z0 c00 f00 c01 f01 c02 f02 c03 f03 z1 c10 f10 c11 f11 z2 c20 f20 z3 c30 f30 c31 f31; obtain ⟨z0, c00, f00, c01, f01, c02, f02, c03, f03, z1, c10, f10, c11, f11, z2, c20, f20, z3, c30, f30, c31, f31⟩ := HF4.out.xf6
            go_wp2_with (fail)
            refine (bp _ _ _ _ _ _ _ (w.heap.size + 1 + 1) _ _ _ HPL.out HLN.out HD4.out c20 hh20 hlen hcl).mono ?_
            rintro e w' ⟨rfl, md, rfl⟩
            rw [HMEM.out]; have hbd : Below w3.heap.size w3 (w3.drewN md) := below_drewN' (Below.refl _ _) md; have HF5 := h_ (HF4.out.below hbd); have HA5 := h_ (HA4.out.below hbd); have HB5 := h_ (HB4.out.below hbd); have HD5 := h_ (HD4.out.below hbd); clear hbd HPL hcl HF4 HA4 HB4 HD4; clear z0 c00 f00 c01 f01 c02 f02 c03 f03 z1 c10 f10 c11 f11 z2 c20 f20 z3 c30 f30 c31 f31; generalize w3.drewN md = W3 at *; obtain ⟨z0, c00, f00, c01, f01, c02, f02, c03, f03, z1, c10, f10, c11, f11, z2, c20, f20, z3, c30, f30, c31, f31⟩ := HF5.out.xf6
            go_wp2_with (fail)
            refine (CNEW.out _).mono ?_
            rintro e w4 ⟨t, _, hc', hh', hs', rfl, hok, hI, hlow, hbt, hb2⟩
            have HLOW : Hid (∀ k, t.S k -> W3.heap.size <= k) := hlow; have HF6 := h_ (HF5.out.below hb2); have HA6 := h_ ((SQ.of_sl HA5.out hlow).below hb2); have HB6 := h_ ((SQ.of_sl HB5.out hlow).below hb2); have HD6 := h_ ((SQ.of_sl HD5.out hlow).below hb2); have HI6 := h_ hI; have HOK := h_ hok; have HC := h_ hc'; have HH := h_ hh'; have HS := h_ hs'
            have hz1 : w.heap.size + 4 <= W3.heap.size := by have := HF5.out.z; simpa using this
            clear hc' hh' hs' hok hI hlow hbt hb2 HA5 HB5 HD5 HF5 CNEW; clear z0 c00 f00 c01 f01 c02 f02 c03 f03 z1 c10 f10 c11 f11 z2 c20 f20 z3 c30 f30 c31 f31; obtain ⟨z0, c00, f00, c01, f01, c02, f02, c03, f03, z1, c10, f10, c11, f11, z2, c20, f20, z3, c30, f30, c31, f31⟩ := HF6.out.xf6
            go_wp2_with (fail)
            refine (CROL.out _).mono ?_
            rintro e w5 ⟨rfl, hb3⟩
            have HF7 := h_ (HF6.out.below hb3); have HA7 := h_ (HA6.out.below hb3); have HB7 := h_ (HB6.out.below hb3); have HD7 := h_ (HD6.out.below hb3); have HI7 := h_ (HI6.out.below hb3); clear hb3 HF6 HA6 HB6 HD6 HI6 CROL; clear z0 c00 f00 c01 f01 c02 f02 c03 f03 z1 c10 f10 c11 f11 z2 c20 f20 z3 c30 f30 c31 f31; obtain ⟨z0, c00, f00, c01, f01, c02, f02, c03, f03, z1, c10, f10, c11, f11, z2, c20, f20, z3, c30, f30, c31, f31⟩ := HF7.out.xf6
            go_wp2_with (fail)
            refine (CBES.out t _ HC.out HH.out HS.out HOK.out HI7.out HA7.out HB7.out).mono ?_
            rintro e w6 ⟨hI5, hf5, hres⟩
            rw [HBS.out] at hres
            have HF8 := h_ (HF7.out.frm hf5 (fun k hk => by have := HLOW.out k hk; omega) (fun k hk => by have := HLOW.out k hk; simp; omega))
            have HB8 := h_ (HB7.out.frm hf5); have HD8 := h_ (HD7.out.frm hf5); have HI8 := h_ hI5; clear hI5 hf5 HF7 HA7 HB7 HD7 HI7 CBES HBS; clear z0 c00 f00 c01 f01 c02 f02 c03 f03 z1 c10 f10 c11 f11 z2 c20 f20 z3 c30 f30 c31 f31; obtain ⟨z0, c00, f00, c01, f01, c02, f02, c03, f03, z1, c10, f10, c11, f11, z2, c20, f20, z3, c30, f30, c31, f31⟩ := HF8.out.xf6
            obtain ⟨v, rfl, _⟩ := (show ∃ v, e = .returned (.tuple #[v, .agg #[.int .i64 xn, .int .i64 (xd : Int)], .bool true]) /\ _ from hres)
            clear hres
            go_wp2_with (fail)
            refine (CSEC.out t _ HC.out HH.out HS.out HOK.out (HI8.out.below ((Below.refl _ _).alloc (Nat.le_refl _) _)) (HD8.out.below ((Below.refl _ _).alloc (Nat.le_refl _) _)) (HB8.out.below ((Below.refl _ _).alloc (Nat.le_refl _) _))).mono ?_
            rintro e w7 ⟨rfl, hI6, hf6⟩
            have HG5 : Hid (Fr w6 (w6.alloc (.cells #[.int .i64 (xn), .int .i64 ((xd : Int))] 35)) [[.int .i64 (xn), .int .i64 ((xd : Int))]]) := (Fr.start w6).allocT (by simp) _ _
            have HF9 := h_ ((HF8.out.alloc _).frm hf6 (fun k hk => by have := HLOW.out k hk; omega) (fun k hk => by have := HLOW.out k hk; simp; omega))
            have hxx : ¬ t.S w6.heap.size := fun hk => by have := HI8.out.ltS _ hk; omega
            have x0 : w7.cell? ⟨w6.heap.size, 0, none⟩ = some (.int .i64 (xn)) := hf6.cell' (HG5.out.cellA (b := w6.heap.size) 0 0 rfl rfl) hxx; have x1 : w7.cell? ⟨w6.heap.size, 1, none⟩ = some (.int .i64 ((xd : Int))) := hf6.cell' (HG5.out.cellA (b := w6.heap.size) 0 1 rfl rfl) hxx; have xl : w6.heap.size < w7.heap.size := World.block_lt_of_cell? w7 _ x0; clear hI6 hf6 HF8 HG5 HB8 HD8 HI8 CSEC HLOW HC HH HS HOK; clear z0 c00 f00 c01 f01 c02 f02 c03 f03 z1 c10 f10 c11 f11 z2 c20 f20 z3 c30 f30 c31 f31; rw [HWI.out]; unfold exV
            simp only [Option.getD_none, Option.isSome_none, Option.getD_some, Option.isSome_some]
            obtain ⟨z0, c00, f00, c01, f01, c02, f02, c03, f03, z1, c10, f10, c11, f11, z2, c20, f20, z3, c30, f30, c31, f31⟩ := HF9.out.xf6
            go_wp2_with (fail)
            refine bodyPost_ret (v := .tuple #[.agg #[.int .i64 0, .int .i64 0], .int .i64 3]) (by simp [results, Tryz.results26, go_sem, c30, c31, z3, f30, f31]) rfl (RetN.mk' HWR.out ?_)
            repeat (first | exact HF9.out.b | refine stw ?_ (by omega) | refine alw ?_ (by omega))
          · have hyv : Val (sq s') ⟨yn, yd⟩ := eW hq1 hwi
            have HWI := h_ hwi
            have HM := h_ fun (W : World) => iG p c' h' xn yn s' xd yd W hs1 hs6 hxv hyv
            rcases hm : minE (sq s') ⟨xn, xd⟩ ⟨yn, yd⟩ with _ | ⟨m2, d2⟩
            · have HWR : Hid (lossR p c' h' s' a b own other res = (0, 0, 3)) := by unfold Hid; rw [HWR1.out]; unfold lossE; rw [hbs, hwi]; show numR (minE _ _ _) = _; rw [hm]; rfl
              rw [hm] at HM; clear hbs hwi HWR1 hxv hyv hm
              go_enter Tryz.func26, Tryz.ntmps26
              go_wp2_with (fail)
              refine CT.out.mono ?_
              rintro e w1 ⟨rfl, hb1⟩
              have HF2 := h_ (HF1.out.below hb1); have HA2 := h_ (HA1.out.below hb1); have HB2 := h_ (HB1.out.below hb1); have HD2 := h_ (HD1.out.below hb1); clear CT hb1 HF1 HA1 HB1 HD1; obtain ⟨z0, c00, f00, c01, f01, c02, f02, c03, f03, z1, c10, f10, c11, f11, z2, c20, f20, z3, c30, f30, c31, f31⟩ := HF2.out.xf6
              go_wp2_with (fail)
              refine (CBE.out _ HD2.out).mono ?_
              rintro e w2 ⟨rfl, hb2⟩
              rw [HBE.out]; have HF3 := h_ (HF2.out.below hb2); have HA3 := h_ (HA2.out.below hb2); have HB3 := h_ (HB2.out.below hb2); have HD3 := h_ (HD2.out.below hb2); clear CBE hb2 HF2 HA2 HB2 HD2; clear z0 c00 f00 c01 f01 c02 f02 c03 f03 z1 c10 f10 c11 f11 z2 c20 f20 z3 c30 f30 c31 f31; obtain ⟨z0, c00, f00, c01, f01, c02, f02, c03, f03, z1, c10, f10, c11, f11, z2, c20, f20, z3, c30, f30, c31, f31⟩ := HF3.out.xf6
              go_wp2_with (fail)
              refine (CRES.out _ HA3.out).mono ?_
              rintro e w3 ⟨u, rfl, hop, hb3⟩
              have HF4 := h_ (HF3.out.below hb3); have HA4 := h_ (HA3.out.below hb3); have HB4 := h_ (HB3.out.below hb3); have HD4 := h_ (HD3.out.below hb3); obtain ⟨Al, cl, rfl, hpl, hcl⟩ := hop.read; have HPL := h_ hpl; clear CRES hb3 hop hpl HF3 HA3 HB3 HD3; clear z0 c00 f00 c01 f01 c02 f02 c03 f03 z1 c10 f10 c11 f11 z2 c20 f20 z3 c30 f30 c31 f31; obtain ⟨z0, c00, f00, c01, f01, c02, f02, c03, f03, z1, c10, f10, c11, f11, z2, c20, f20, z3, c30, f30, c31, f31⟩ := HF4.out.xf6
              go_wp2_with (fail)
              refine (bp _ _ _ _ _ _ _ (w.heap.size + 1 + 1) _ _ _ HPL.out HLN.out HD4.out c20 hh20 hlen hcl).mono ?_
              rintro e w' ⟨rfl, md, rfl⟩
              rw [HMEM.out]; have hbd : Below w3.heap.size w3 (w3.drewN md) := below_drewN' (Below.refl _ _) md; have HF5 := h_ (HF4.out.below hbd); have HA5 := h_ (HA4.out.below hbd); have HB5 := h_ (HB4.out.below hbd); have HD5 := h_ (HD4.out.below hbd); clear hbd HPL hcl HF4 HA4 HB4 HD4; clear z0 c00 f00 c01 f01 c02 f02 c03 f03 z1 c10 f10 c11 f11 z2 c20 f20 z3 c30 f30 c31 f31; generalize w3.drewN md = W3 at *; obtain ⟨z0, c00, f00, c01, f01, c02, f02, c03, f03, z1, c10, f10, c11, f11, z2, c20, f20, z3, c30, f30, c31, f31⟩ := HF5.out.xf6
              go_wp2_with (fail)
              refine (CNEW.out _).mono ?_
              rintro e w4 ⟨t, _, hc', hh', hs', rfl, hok, hI, hlow, hbt, hb2⟩
              have HLOW : Hid (∀ k, t.S k -> W3.heap.size <= k) := hlow; have HF6 := h_ (HF5.out.below hb2); have HA6 := h_ ((SQ.of_sl HA5.out hlow).below hb2); have HB6 := h_ ((SQ.of_sl HB5.out hlow).below hb2); have HD6 := h_ ((SQ.of_sl HD5.out hlow).below hb2); have HI6 := h_ hI; have HOK := h_ hok; have HC := h_ hc'; have HH := h_ hh'; have HS := h_ hs'
              have hz1 : w.heap.size + 4 <= W3.heap.size := by have := HF5.out.z; simpa using this
              clear hc' hh' hs' hok hI hlow hbt hb2 HA5 HB5 HD5 HF5 CNEW; clear z0 c00 f00 c01 f01 c02 f02 c03 f03 z1 c10 f10 c11 f11 z2 c20 f20 z3 c30 f30 c31 f31; obtain ⟨z0, c00, f00, c01, f01, c02, f02, c03, f03, z1, c10, f10, c11, f11, z2, c20, f20, z3, c30, f30, c31, f31⟩ := HF6.out.xf6
              go_wp2_with (fail)
              refine (CROL.out _).mono ?_
              rintro e w5 ⟨rfl, hb3⟩
              have HF7 := h_ (HF6.out.below hb3); have HA7 := h_ (HA6.out.below hb3); have HB7 := h_ (HB6.out.below hb3); have HD7 := h_ (HD6.out.below hb3); have HI7 := h_ (HI6.out.below hb3); clear hb3 HF6 HA6 HB6 HD6 HI6 CROL; clear z0 c00 f00 c01 f01 c02 f02 c03 f03 z1 c10 f10 c11 f11 z2 c20 f20 z3 c30 f30 c31 f31; obtain ⟨z0, c00, f00, c01, f01, c02, f02, c03, f03, z1, c10, f10, c11, f11, z2, c20, f20, z3, c30, f30, c31, f31⟩ := HF7.out.xf6
              go_wp2_with (fail)
              refine (CBES.out t _ HC.out HH.out HS.out HOK.out HI7.out HA7.out HB7.out).mono ?_
              rintro e w6 ⟨hI5, hf5, hres⟩
              rw [HBS.out] at hres
              have HF8 := h_ (HF7.out.frm hf5 (fun k hk => by have := HLOW.out k hk; omega) (fun k hk => by have := HLOW.out k hk; simp; omega))
              have HB8 := h_ (HB7.out.frm hf5); have HD8 := h_ (HD7.out.frm hf5); have HI8 := h_ hI5; clear hI5 hf5 HF7 HA7 HB7 HD7 HI7 CBES HBS; clear z0 c00 f00 c01 f01 c02 f02 c03 f03 z1 c10 f10 c11 f11 z2 c20 f20 z3 c30 f30 c31 f31; obtain ⟨z0, c00, f00, c01, f01, c02, f02, c03, f03, z1, c10, f10, c11, f11, z2, c20, f20, z3, c30, f30, c31, f31⟩ := HF8.out.xf6
              obtain ⟨v, rfl, _⟩ := (show ∃ v, e = .returned (.tuple #[v, .agg #[.int .i64 xn, .int .i64 (xd : Int)], .bool true]) /\ _ from hres)
              clear hres
              go_wp2_with (fail)
              refine (CSEC.out t _ HC.out HH.out HS.out HOK.out (HI8.out.below ((Below.refl _ _).alloc (Nat.le_refl _) _)) (HD8.out.below ((Below.refl _ _).alloc (Nat.le_refl _) _)) (HB8.out.below ((Below.refl _ _).alloc (Nat.le_refl _) _))).mono ?_
              rintro e w7 ⟨rfl, hI6, hf6⟩
              have HG5 : Hid (Fr w6 (w6.alloc (.cells #[.int .i64 (xn), .int .i64 ((xd : Int))] 35)) [[.int .i64 (xn), .int .i64 ((xd : Int))]]) := (Fr.start w6).allocT (by simp) _ _
              have HF9 := h_ ((HF8.out.alloc _).frm hf6 (fun k hk => by have := HLOW.out k hk; omega) (fun k hk => by have := HLOW.out k hk; simp; omega))
              have hxx : ¬ t.S w6.heap.size := fun hk => by have := HI8.out.ltS _ hk; omega
              have x0 : w7.cell? ⟨w6.heap.size, 0, none⟩ = some (.int .i64 (xn)) := hf6.cell' (HG5.out.cellA (b := w6.heap.size) 0 0 rfl rfl) hxx; have x1 : w7.cell? ⟨w6.heap.size, 1, none⟩ = some (.int .i64 ((xd : Int))) := hf6.cell' (HG5.out.cellA (b := w6.heap.size) 0 1 rfl rfl) hxx; have xl : w6.heap.size < w7.heap.size := World.block_lt_of_cell? w7 _ x0; clear hI6 hf6 HF8 HG5 HB8 HD8 HI8 CSEC HLOW HC HH HS HOK; clear z0 c00 f00 c01 f01 c02 f02 c03 f03 z1 c10 f10 c11 f11 z2 c20 f20 z3 c30 f30 c31 f31; rw [HWI.out]; unfold exV
              simp only [Option.getD_none, Option.isSome_none, Option.getD_some, Option.isSome_some]
              obtain ⟨z0, c00, f00, c01, f01, c02, f02, c03, f03, z1, c10, f10, c11, f11, z2, c20, f20, z3, c30, f30, c31, f31⟩ := HF9.out.xf6
              go_wp2_with (fail)
              refine (HM.out _).mono ?_
              rintro e w8 ⟨rfl, hb7⟩
              have HF10 := h_ ((HF9.out.alloc _).below hb7); clear hb7 HM HF9; clear z0 c00 f00 c01 f01 c02 f02 c03 f03 z1 c10 f10 c11 f11 z2 c20 f20 z3 c30 f30 c31 f31
              simp only [Option.getD_none, Option.isSome_none]
              obtain ⟨z0, c00, f00, c01, f01, c02, f02, c03, f03, z1, c10, f10, c11, f11, z2, c20, f20, z3, c30, f30, c31, f31⟩ := HF10.out.xf6
              go_wp2_with (fail)
              refine bodyPost_ret (v := .tuple #[.agg #[.int .i64 0, .int .i64 0], .int .i64 3]) (by simp [results, Tryz.results26, go_sem, c30, c31, z3, f30, f31]) rfl (RetN.mk' HWR.out ?_)
              repeat (first | exact HF10.out.b | refine stw ?_ (by omega) | refine alw ?_ (by omega))
            · have HWR : Hid (lossR p c' h' s' a b own other res = (m2, (d2 : Int), 0)) := by unfold Hid; rw [HWR1.out]; unfold lossE; rw [hbs, hwi]; show numR (minE _ _ _) = _; rw [hm]; rfl
              rw [hm] at HM; clear hbs hwi HWR1 hxv hyv hm
              go_enter Tryz.func26, Tryz.ntmps26
              go_wp2_with (fail)
              refine CT.out.mono ?_
              rintro e w1 ⟨rfl, hb1⟩
              have HF2 := h_ (HF1.out.below hb1); have HA2 := h_ (HA1.out.below hb1); have HB2 := h_ (HB1.out.below hb1); have HD2 := h_ (HD1.out.below hb1); clear CT hb1 HF1 HA1 HB1 HD1; obtain ⟨z0, c00, f00, c01, f01, c02, f02, c03, f03, z1, c10, f10, c11, f11, z2, c20, f20, z3, c30, f30, c31, f31⟩ := HF2.out.xf6
              go_wp2_with (fail)
              refine (CBE.out _ HD2.out).mono ?_
              rintro e w2 ⟨rfl, hb2⟩
              rw [HBE.out]; have HF3 := h_ (HF2.out.below hb2); have HA3 := h_ (HA2.out.below hb2); have HB3 := h_ (HB2.out.below hb2); have HD3 := h_ (HD2.out.below hb2); clear CBE hb2 HF2 HA2 HB2 HD2; clear z0 c00 f00 c01 f01 c02 f02 c03 f03 z1 c10 f10 c11 f11 z2 c20 f20 z3 c30 f30 c31 f31; obtain ⟨z0, c00, f00, c01, f01, c02, f02, c03, f03, z1, c10, f10, c11, f11, z2, c20, f20, z3, c30, f30, c31, f31⟩ := HF3.out.xf6
              go_wp2_with (fail)
              refine (CRES.out _ HA3.out).mono ?_
              rintro e w3 ⟨u, rfl, hop, hb3⟩
              have HF4 := h_ (HF3.out.below hb3); have HA4 := h_ (HA3.out.below hb3); have HB4 := h_ (HB3.out.below hb3); have HD4 := h_ (HD3.out.below hb3); obtain ⟨Al, cl, rfl, hpl, hcl⟩ := hop.read; have HPL := h_ hpl; clear CRES hb3 hop hpl HF3 HA3 HB3 HD3; clear z0 c00 f00 c01 f01 c02 f02 c03 f03 z1 c10 f10 c11 f11 z2 c20 f20 z3 c30 f30 c31 f31; obtain ⟨z0, c00, f00, c01, f01, c02, f02, c03, f03, z1, c10, f10, c11, f11, z2, c20, f20, z3, c30, f30, c31, f31⟩ := HF4.out.xf6
              go_wp2_with (fail)
              refine (bp _ _ _ _ _ _ _ (w.heap.size + 1 + 1) _ _ _ HPL.out HLN.out HD4.out c20 hh20 hlen hcl).mono ?_
              rintro e w' ⟨rfl, md, rfl⟩
              rw [HMEM.out]; have hbd : Below w3.heap.size w3 (w3.drewN md) := below_drewN' (Below.refl _ _) md; have HF5 := h_ (HF4.out.below hbd); have HA5 := h_ (HA4.out.below hbd); have HB5 := h_ (HB4.out.below hbd); have HD5 := h_ (HD4.out.below hbd); clear hbd HPL hcl HF4 HA4 HB4 HD4; clear z0 c00 f00 c01 f01 c02 f02 c03 f03 z1 c10 f10 c11 f11 z2 c20 f20 z3 c30 f30 c31 f31; generalize w3.drewN md = W3 at *; obtain ⟨z0, c00, f00, c01, f01, c02, f02, c03, f03, z1, c10, f10, c11, f11, z2, c20, f20, z3, c30, f30, c31, f31⟩ := HF5.out.xf6
              go_wp2_with (fail)
              refine (CNEW.out _).mono ?_
              rintro e w4 ⟨t, _, hc', hh', hs', rfl, hok, hI, hlow, hbt, hb2⟩
              have HLOW : Hid (∀ k, t.S k -> W3.heap.size <= k) := hlow; have HF6 := h_ (HF5.out.below hb2); have HA6 := h_ ((SQ.of_sl HA5.out hlow).below hb2); have HB6 := h_ ((SQ.of_sl HB5.out hlow).below hb2); have HD6 := h_ ((SQ.of_sl HD5.out hlow).below hb2); have HI6 := h_ hI; have HOK := h_ hok; have HC := h_ hc'; have HH := h_ hh'; have HS := h_ hs'
              have hz1 : w.heap.size + 4 <= W3.heap.size := by have := HF5.out.z; simpa using this
              clear hc' hh' hs' hok hI hlow hbt hb2 HA5 HB5 HD5 HF5 CNEW; clear z0 c00 f00 c01 f01 c02 f02 c03 f03 z1 c10 f10 c11 f11 z2 c20 f20 z3 c30 f30 c31 f31; obtain ⟨z0, c00, f00, c01, f01, c02, f02, c03, f03, z1, c10, f10, c11, f11, z2, c20, f20, z3, c30, f30, c31, f31⟩ := HF6.out.xf6
              go_wp2_with (fail)
              refine (CROL.out _).mono ?_
              rintro e w5 ⟨rfl, hb3⟩
              have HF7 := h_ (HF6.out.below hb3); have HA7 := h_ (HA6.out.below hb3); have HB7 := h_ (HB6.out.below hb3); have HD7 := h_ (HD6.out.below hb3); have HI7 := h_ (HI6.out.below hb3); clear hb3 HF6 HA6 HB6 HD6 HI6 CROL; clear z0 c00 f00 c01 f01 c02 f02 c03 f03 z1 c10 f10 c11 f11 z2 c20 f20 z3 c30 f30 c31 f31; obtain ⟨z0, c00, f00, c01, f01, c02, f02, c03, f03, z1, c10, f10, c11, f11, z2, c20, f20, z3, c30, f30, c31, f31⟩ := HF7.out.xf6
              go_wp2_with (fail)
              refine (CBES.out t _ HC.out HH.out HS.out HOK.out HI7.out HA7.out HB7.out).mono ?_
              rintro e w6 ⟨hI5, hf5, hres⟩
              rw [HBS.out] at hres
              have HF8 := h_ (HF7.out.frm hf5 (fun k hk => by have := HLOW.out k hk; omega) (fun k hk => by have := HLOW.out k hk; simp; omega))
              have HB8 := h_ (HB7.out.frm hf5); have HD8 := h_ (HD7.out.frm hf5); have HI8 := h_ hI5; clear hI5 hf5 HF7 HA7 HB7 HD7 HI7 CBES HBS; clear z0 c00 f00 c01 f01 c02 f02 c03 f03 z1 c10 f10 c11 f11 z2 c20 f20 z3 c30 f30 c31 f31; obtain ⟨z0, c00, f00, c01, f01, c02, f02, c03, f03, z1, c10, f10, c11, f11, z2, c20, f20, z3, c30, f30, c31, f31⟩ := HF8.out.xf6
              obtain ⟨v, rfl, _⟩ := (show ∃ v, e = .returned (.tuple #[v, .agg #[.int .i64 xn, .int .i64 (xd : Int)], .bool true]) /\ _ from hres)
              clear hres
              go_wp2_with (fail)
              refine (CSEC.out t _ HC.out HH.out HS.out HOK.out (HI8.out.below ((Below.refl _ _).alloc (Nat.le_refl _) _)) (HD8.out.below ((Below.refl _ _).alloc (Nat.le_refl _) _)) (HB8.out.below ((Below.refl _ _).alloc (Nat.le_refl _) _))).mono ?_
              rintro e w7 ⟨rfl, hI6, hf6⟩
              have HG5 : Hid (Fr w6 (w6.alloc (.cells #[.int .i64 (xn), .int .i64 ((xd : Int))] 35)) [[.int .i64 (xn), .int .i64 ((xd : Int))]]) := (Fr.start w6).allocT (by simp) _ _
              have HF9 := h_ ((HF8.out.alloc _).frm hf6 (fun k hk => by have := HLOW.out k hk; omega) (fun k hk => by have := HLOW.out k hk; simp; omega))
              have hxx : ¬ t.S w6.heap.size := fun hk => by have := HI8.out.ltS _ hk; omega
              have x0 : w7.cell? ⟨w6.heap.size, 0, none⟩ = some (.int .i64 (xn)) := hf6.cell' (HG5.out.cellA (b := w6.heap.size) 0 0 rfl rfl) hxx; have x1 : w7.cell? ⟨w6.heap.size, 1, none⟩ = some (.int .i64 ((xd : Int))) := hf6.cell' (HG5.out.cellA (b := w6.heap.size) 0 1 rfl rfl) hxx; have xl : w6.heap.size < w7.heap.size := World.block_lt_of_cell? w7 _ x0; clear hI6 hf6 HF8 HG5 HB8 HD8 HI8 CSEC HLOW HC HH HS HOK; clear z0 c00 f00 c01 f01 c02 f02 c03 f03 z1 c10 f10 c11 f11 z2 c20 f20 z3 c30 f30 c31 f31; rw [HWI.out]; unfold exV
              simp only [Option.getD_none, Option.isSome_none, Option.getD_some, Option.isSome_some]
              obtain ⟨z0, c00, f00, c01, f01, c02, f02, c03, f03, z1, c10, f10, c11, f11, z2, c20, f20, z3, c30, f30, c31, f31⟩ := HF9.out.xf6
              go_wp2_with (fail)
              refine (HM.out _).mono ?_
              rintro e w8 ⟨rfl, hb7⟩
              have HF10 := h_ ((HF9.out.alloc _).below hb7); clear hb7 HM HF9; clear z0 c00 f00 c01 f01 c02 f02 c03 f03 z1 c10 f10 c11 f11 z2 c20 f20 z3 c30 f30 c31 f31
              simp only [Option.getD_some, Option.isSome_some]
              obtain ⟨z0, c00, f00, c01, f01, c02, f02, c03, f03, z1, c10, f10, c11, f11, z2, c20, f20, z3, c30, f30, c31, f31⟩ := HF10.out.xf6
              go_wp2_with (fail)
              refine bodyPost_ret (v := .tuple #[.agg #[.int .i64 m2, .int .i64 (d2 : Int)], .int .i64 0]) (by simp [results, Tryz.results26, go_sem, c30, c31, z3, f30, f31]) rfl (RetN.mk' HWR.out ?_)
              repeat (first | exact HF10.out.b | refine stw ?_ (by omega) | refine alw ?_ (by omega))
      · have HMEM : Hid (decide (res ∈ resultsL own a b) = false) := decide_eq_false hmem
        have HWR : Hid (lossR p c' h' s' a b own other res = (0, 0, 4)) := by unfold Hid; rw [HWR0.out, if_neg hmem]
        clear hmem HWR0
        go_enter Tryz.func26, Tryz.ntmps26
        go_wp2_with (fail)
        refine CT.out.mono ?_
        rintro e w1 ⟨rfl, hb1⟩
        have HF2 := h_ (HF1.out.below hb1); have HA2 := h_ (HA1.out.below hb1); have HB2 := h_ (HB1.out.below hb1); have HD2 := h_ (HD1.out.below hb1); clear CT hb1 HF1 HA1 HB1 HD1; obtain ⟨z0, c00, f00, c01, f01, c02, f02, c03, f03, z1, c10, f10, c11, f11, z2, c20, f20, z3, c30, f30, c31, f31⟩ := HF2.out.xf6
        go_wp2_with (fail)
        refine (CBE.out _ HD2.out).mono ?_
        rintro e w2 ⟨rfl, hb2⟩
        rw [HBE.out]; have HF3 := h_ (HF2.out.below hb2); have HA3 := h_ (HA2.out.below hb2); have HB3 := h_ (HB2.out.below hb2); have HD3 := h_ (HD2.out.below hb2); clear CBE hb2 HF2 HA2 HB2 HD2; clear z0 c00 f00 c01 f01 c02 f02 c03 f03 z1 c10 f10 c11 f11 z2 c20 f20 z3 c30 f30 c31 f31; obtain ⟨z0, c00, f00, c01, f01, c02, f02, c03, f03, z1, c10, f10, c11, f11, z2, c20, f20, z3, c30, f30, c31, f31⟩ := HF3.out.xf6
        go_wp2_with (fail)
        refine (CRES.out _ HA3.out).mono ?_
        rintro e w3 ⟨u, rfl, hop, hb3⟩
        have HF4 := h_ (HF3.out.below hb3); have HA4 := h_ (HA3.out.below hb3); have HB4 := h_ (HB3.out.below hb3); have HD4 := h_ (HD3.out.below hb3); obtain ⟨Al, cl, rfl, hpl, hcl⟩ := hop.read; have HPL := h_ hpl; clear CRES hb3 hop hpl HF3 HA3 HB3 HD3; clear z0 c00 f00 c01 f01 c02 f02 c03 f03 z1 c10 f10 c11 f11 z2 c20 f20 z3 c30 f30 c31 f31; obtain ⟨z0, c00, f00, c01, f01, c02, f02, c03, f03, z1, c10, f10, c11, f11, z2, c20, f20, z3, c30, f30, c31, f31⟩ := HF4.out.xf6
        go_wp2_with (fail)
        refine (bp _ _ _ _ _ _ _ (w.heap.size + 1 + 1) _ _ _ HPL.out HLN.out HD4.out c20 hh20 hlen hcl).mono ?_
        rintro e w' ⟨rfl, md, rfl⟩
        rw [HMEM.out]; have hbd : Below w3.heap.size w3 (w3.drewN md) := below_drewN' (Below.refl _ _) md; have HF5 := h_ (HF4.out.below hbd); have HA5 := h_ (HA4.out.below hbd); have HB5 := h_ (HB4.out.below hbd); have HD5 := h_ (HD4.out.below hbd); clear hbd HPL hcl HF4 HA4 HB4 HD4; clear z0 c00 f00 c01 f01 c02 f02 c03 f03 z1 c10 f10 c11 f11 z2 c20 f20 z3 c30 f30 c31 f31; generalize w3.drewN md = W3 at *; obtain ⟨z0, c00, f00, c01, f01, c02, f02, c03, f03, z1, c10, f10, c11, f11, z2, c20, f20, z3, c30, f30, c31, f31⟩ := HF5.out.xf6
        go_wp2_with (fail)
        refine bodyPost_ret (v := .tuple #[.agg #[.int .i64 0, .int .i64 0], .int .i64 4]) (by simp [results, Tryz.results26, go_sem, c30, c31, z3, f30, f31]) rfl (RetN.mk' HWR.out ?_)
        repeat (first | exact HF5.out.b | refine stw ?_ (by omega) | refine alw ?_ (by omega))
    · have HWR : Hid (lossR p c h s ra rb own other res = (0, 0, codeK p c h s ra rb own other true)) := by
        unfold Hid lossR; rw [hcl, if_neg hct]
      clear hcl; generalize codeK p c h s ra rb own other true = k at *
      have b0 : (k != 0) = true := by simp [hct]
      have b1 : (k != 1) = true := by simp [hk1]
      clear hct hk1 hbe hv hvv
      go_enter Tryz.func26, Tryz.ntmps26
      go_wp2_with (fail)
      refine CT.out.mono ?_
      rintro e w1 ⟨rfl, hb1⟩
      have HF2 := h_ (HF1.out.below hb1); have HA2 := h_ (HA1.out.below hb1); have HB2 := h_ (HB1.out.below hb1); have HD2 := h_ (HD1.out.below hb1); clear CT hb1 HF1 HA1 HB1 HD1; obtain ⟨z0, c00, f00, c01, f01, c02, f02, c03, f03, z1, c10, f10, c11, f11, z2, c20, f20, z3, c30, f30, c31, f31⟩ := HF2.out.xf6
      go_wp2_with (fail)
      refine (CBE.out _ HD2.out).mono ?_
      rintro e w2 ⟨rfl, hb2⟩
      rw [HBE.out]; have HF3 := h_ (HF2.out.below hb2); have HA3 := h_ (HA2.out.below hb2); have HB3 := h_ (HB2.out.below hb2); have HD3 := h_ (HD2.out.below hb2); clear CBE hb2 HF2 HA2 HB2 HD2; clear z0 c00 f00 c01 f01 c02 f02 c03 f03 z1 c10 f10 c11 f11 z2 c20 f20 z3 c30 f30 c31 f31; obtain ⟨z0, c00, f00, c01, f01, c02, f02, c03, f03, z1, c10, f10, c11, f11, z2, c20, f20, z3, c30, f30, c31, f31⟩ := HF3.out.xf6
      go_wp2_with (fail)
      refine bodyPost_ret (v := .tuple #[.agg #[.int .i64 0, .int .i64 0], .int .i64 k]) (by simp [results, Tryz.results26, go_sem, c30, c31, z3, f30, f31]) rfl (RetN.mk' HWR.out ?_)
      repeat (first | exact HF3.out.b | refine stw ?_ (by omega) | refine alw ?_ (by omega))
end Go.Proofs.YtkaiilmgemaljaaGreat

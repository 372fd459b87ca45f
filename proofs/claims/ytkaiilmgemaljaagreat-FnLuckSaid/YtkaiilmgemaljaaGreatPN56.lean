/- Contract of the program's RaceLuck. There are no conditions. -/
import Derived.Test.YtkaiilmgemaljaaGreatPN55
import Derived.Test.YtkaiilmgemaljaaGreatPN54
namespace Go.Proofs.YtkaiilmgemaljaaGreat
set_option linter.unusedVariables false
set_option linter.unusedSimpArgs false
open Go.RowKit Ps Ra Ex

noncomputable def luckE (s : Nat) (own other : List Int) (a b : Nat) : Option E := match bestS (sq s) (sec s other) (resultsL own a b), win s own other with
 | some (_, _, x), some y => minE (sq s) x y
 | _, _ => none
noncomputable def luckR (p c h s ra rb : Int) (own other : List Int) : Int × Int × Int := if codeK p c h s ra rb own other true = 0 then numR (luckE s.toNat own other ra.toNat rb.toNat) else (0, 0, codeK p c h s ra rb own other true)
set_option maxRecDepth 100000 in
set_option maxHeartbeats 2000000 in
theorem RaceLuck_any (p c h s ra rb : Int) (A B : Option Addr) (n m ca cb : Nat) (own other : List Int) (w : World) (hA : SL w A n own) (hB : SL w B m other) (hca : n ≤ ca) (hcb : m ≤ cb) :
   Calls Tryz.prog 19 #[.agg #[.int .i64 p, .int .i64 c, .int .i64 h, .int .i64 s], .slice A n ca, .slice B m cb, .agg #[.int .i64 ra, .int .i64 rb]] w (RetN w (luckR p c h s ra rb own other)) := by
 have HF1 : Hid (Fr w (((w.alloc (.cells #[.int .i64 p, .int .i64 c, .int .i64 h, .int .i64 s] 25)).alloc (.cells #[.int .i64 ra, .int .i64 rb] 39)).alloc (.cells #[.int .i64 0, .int .i64 0] 35)) [[.int .i64 p, .int .i64 c, .int .i64 h, .int .i64 s], [.int .i64 ra, .int .i64 rb], [.int .i64 0, .int .i64 0]]) := (((Fr.start w).allocT (by simp) _ _).allocT (by simp) _ _).allocT (by simp) _ _
 have HA1 := Lib.hid (hA.below HF1.out.b); have HB1 := Lib.hid (hB.below HF1.out.b); have HAL := Lib.hid hA.1; have HBL := Lib.hid hB.1; have CT := Lib.hid (checkRace_any p c h s ra rb A B n m ca cb own other _ HA1.out HB1.out); clear hA hB
 by_cases hct : codeK p c h s ra rb own other true = 0
 · obtain ⟨ht, hro, hsum⟩ := codeK_ok hct
   obtain ⟨hv, hp1, hp2, hN⟩ := codeT_ok ht; have hvv := isVar_yes hv; obtain ⟨a, b, rfl, rfl, ha1, ha2, hb1, hb2⟩ := rollB_nat hro
   obtain ⟨c', rfl⟩ : ∃ c' : Nat, c = c' := ⟨c.toNat, by omega⟩
   obtain ⟨h', rfl⟩ : ∃ h' : Nat, h = h' := ⟨h.toNat, by omega⟩
   obtain ⟨s', rfl⟩ : ∃ s' : Nat, s = s' := ⟨s.toNat, by omega⟩
   have hs1 : 1 ≤ s' := by omega
   have hs6 : s' ≤ 6 := by omega
   obtain ⟨hq1, hq36, _⟩ := sq_bd hs1 hs6; have HP1 := Lib.hid (posB_pos hp1); have HP2 := Lib.hid (posB_pos hp2)
   have hs0 : own.sum ≠ 0 := fun h0 => hsum (.inr ⟨rfl, .inl h0⟩)
   simp only [Int.toNat_natCast] at hN
   have hnh : h' = n := by rw [← HAL.out]; exact (HP1.out.1).symm
   have hmh : h' = m := by rw [← HBL.out]; exact (HP2.out.1).symm
   subst hnh; subst hmh
   have CNEW := Lib.hid fun (W : World) => newRace_any p c' h' s' W hv hN
   have CROL := Lib.hid fun (W : World) => RollNumber_any p c' h' s' a b W hv ha1 ha2 hb1 hb2
   have CBES := Lib.hid fun (t : RT) (W : World) (hc' : t.c = c') (hh' : t.h = h') (hs' : t.s = s') (hok : t.Ok) (hI : RaceI t t.S W) (hA : SQ t.S W A h' own) (hB : SQ t.S W B h' other) => best_new hc' hh' hs' hok hI HP1.out HP2.out hs0 ha1 (by omega) hb1 hb2 hA hB hca hcb
   have CWIN := Lib.hid fun (t : RT) (W : World) (hc' : t.c = c') (hh' : t.h = h') (hs' : t.s = s') (hok : t.Ok) (hI : RaceI t t.S W) (hA : SQ t.S W A h' own) (hB : SQ t.S W B h' other) => win_at hc' hh' hs' hok hI HP1.out HP2.out hA hB hca hcb
   have HWR0 : Hid (luckR p c' h' s' a b own other = numR (luckE s' own other a b)) := by
     unfold Hid luckR; rw [if_pos hct]
     simp only [Int.toNat_natCast]
   rw [hct] at CT; clear hct ht hro hsum hv hp1 hp2 hN hvv hs0 ha1 ha2 hb1 hb2
   rcases hbs : bestS (sq s') (sec s' other) (resultsL own a b) with _ | ⟨cnt, at', ⟨xn, xd⟩⟩
   · have HWR : Hid (luckR p c' h' s' a b own other = (0, 0, 3)) := by unfold Hid; rw [HWR0.out]; unfold luckE; rw [hbs]; rfl
     have HBS := Lib.hid hbs; clear hbs HWR0
     go_enter Tryz.func19, Tryz.ntmps19
     go_wp2_with (fail)
     refine CT.out.mono ?_
     rintro e w1 ⟨rfl, hb1⟩
     have HF2 := Lib.hid (HF1.out.below hb1); have HA2 := Lib.hid (HA1.out.below hb1); have HB2 := Lib.hid (HB1.out.below hb1); clear CT hb1 HF1 HA1 HB1; obtain ⟨z0, c00, f00, c01, f01, c02, f02, c03, f03, z1, c10, f10, c11, f11, z2, c20, f20, c21, f21⟩ := HF2.out.xf2
     go_wp2_with (fail)
     refine (CNEW.out _).mono ?_
     rintro e w2 ⟨t, _, hc', hh', hs', rfl, hok, hI, hlow, hbt, hb2⟩
     have HLOW : Hid (∀ k, t.S k → w1.heap.size ≤ k) := hlow; have HF3 := Lib.hid (HF2.out.below hb2); have HA3 := Lib.hid ((SQ.of_sl HA2.out hlow).below hb2); have HB3 := Lib.hid ((SQ.of_sl HB2.out hlow).below hb2); have HI3 := Lib.hid hI; have HOK := Lib.hid hok; have HC := Lib.hid hc'; have HH := Lib.hid hh'; have HS := Lib.hid hs'
     have hz1 : w.heap.size + 3 ≤ w1.heap.size := by have := HF2.out.z; simpa using this
     clear hc' hh' hs' hok hI hlow hbt hb2 HA2 HB2 HF2 CNEW; clear z0 c00 f00 c01 f01 c02 f02 c03 f03 z1 c10 f10 c11 f11 z2 c20 f20 c21 f21; obtain ⟨z0, c00, f00, c01, f01, c02, f02, c03, f03, z1, c10, f10, c11, f11, z2, c20, f20, c21, f21⟩ := HF3.out.xf2
     go_wp2_with (fail)
     refine (CROL.out _).mono ?_
     rintro e w3 ⟨rfl, hb3⟩
     have HF4 := Lib.hid (HF3.out.below hb3); have HA4 := Lib.hid (HA3.out.below hb3); have HB4 := Lib.hid (HB3.out.below hb3); have HI4 := Lib.hid (HI3.out.below hb3); clear hb3 HF3 HA3 HB3 HI3 CROL; clear z0 c00 f00 c01 f01 c02 f02 c03 f03 z1 c10 f10 c11 f11 z2 c20 f20 c21 f21; obtain ⟨z0, c00, f00, c01, f01, c02, f02, c03, f03, z1, c10, f10, c11, f11, z2, c20, f20, c21, f21⟩ := HF4.out.xf2
     go_wp2_with (fail)
     refine (CBES.out t _ HC.out HH.out HS.out HOK.out HI4.out HA4.out HB4.out).mono ?_
     rintro e w4 ⟨hI5, hf5, hres⟩
     rw [HBS.out] at hres
     have HF5 := Lib.hid (HF4.out.frm hf5 (fun k hk => by have := HLOW.out k hk; omega) (fun k hk => by have := HLOW.out k hk; simp; omega))
     have HA5 := Lib.hid (HA4.out.frm hf5); have HB5 := Lib.hid (HB4.out.frm hf5); have HI5 := Lib.hid hI5; clear hI5 hf5 HF4 HA4 HB4 HI4 CBES HBS; clear z0 c00 f00 c01 f01 c02 f02 c03 f03 z1 c10 f10 c11 f11 z2 c20 f20 c21 f21; obtain ⟨z0, c00, f00, c01, f01, c02, f02, c03, f03, z1, c10, f10, c11, f11, z2, c20, f20, c21, f21⟩ := HF5.out.xf2
     replace hres := (show e = .returned (.tuple #[.slice none 0 0, .agg #[.int .i64 0, .int .i64 0], .bool false]) from hres)
     subst hres
     go_wp2_with (fail)
     refine (CWIN.out t _ HC.out HH.out HS.out HOK.out (HI5.out.below ((Below.refl _ _).alloc (Nat.le_refl _) _)) (HA5.out.below ((Below.refl _ _).alloc (Nat.le_refl _) _)) (HB5.out.below ((Below.refl _ _).alloc (Nat.le_refl _) _))).mono ?_
     rintro e w5 ⟨rfl, hI6, hf6⟩
     have HF6 := Lib.hid ((HF5.out.alloc _).frm hf6 (fun k hk => by have := HLOW.out k hk; omega) (fun k hk => by have := HLOW.out k hk; simp; omega))
     clear hI6 hf6 HF5 HA5 HB5 HI5 CWIN HLOW HC HH HS HOK; clear z0 c00 f00 c01 f01 c02 f02 c03 f03 z1 c10 f10 c11 f11 z2 c20 f20 c21 f21; unfold exV; generalize ((win s' own other).getD ⟨0, 0⟩).num = yn; generalize (((win s' own other).getD ⟨0, 0⟩).depth : Int) = yd; generalize (win s' own other).isSome = yb; obtain ⟨z0, c00, f00, c01, f01, c02, f02, c03, f03, z1, c10, f10, c11, f11, z2, c20, f20, c21, f21⟩ := HF6.out.xf2
     go_wp2_with (fail)
     refine bodyPost_ret (v := .tuple #[.agg #[.int .i64 0, .int .i64 0], .int .i64 3]) (by simp [results, Tryz.results19, go_sem, c20, c21, z2, f20, f21]) rfl (RetN.mk' HWR.out ?_)
     repeat (first | exact HF6.out.b | refine stw ?_ (by omega) | refine alw ?_ (by omega))
   · have hxv : Val (sq s') ⟨xn, xd⟩ := bestS_val hq1 (fun q x h => sec_val hq1 h) hbs
     have HBS := Lib.hid hbs
     rcases hwi : win s' own other with _ | ⟨yn, yd⟩
     · have HWR : Hid (luckR p c' h' s' a b own other = (0, 0, 3)) := by unfold Hid; rw [HWR0.out]; unfold luckE; rw [hbs, hwi]; rfl
       have HWI := Lib.hid hwi; clear hbs hwi HWR0 hxv
       go_enter Tryz.func19, Tryz.ntmps19
       go_wp2_with (fail)
       refine CT.out.mono ?_
       rintro e w1 ⟨rfl, hb1⟩
       have HF2 := Lib.hid (HF1.out.below hb1); have HA2 := Lib.hid (HA1.out.below hb1); have HB2 := Lib.hid (HB1.out.below hb1); clear CT hb1 HF1 HA1 HB1; obtain ⟨z0, c00, f00, c01, f01, c02, f02, c03, f03, z1, c10, f10, c11, f11, z2, c20, f20, c21, f21⟩ := HF2.out.xf2
       go_wp2_with (fail)
       refine (CNEW.out _).mono ?_
       rintro e w2 ⟨t, _, hc', hh', hs', rfl, hok, hI, hlow, hbt, hb2⟩
       have HLOW : Hid (∀ k, t.S k → w1.heap.size ≤ k) := hlow; have HF3 := Lib.hid (HF2.out.below hb2); have HA3 := Lib.hid ((SQ.of_sl HA2.out hlow).below hb2); have HB3 := Lib.hid ((SQ.of_sl HB2.out hlow).below hb2); have HI3 := Lib.hid hI; have HOK := Lib.hid hok; have HC := Lib.hid hc'; have HH := Lib.hid hh'; have HS := Lib.hid hs'
       have hz1 : w.heap.size + 3 ≤ w1.heap.size := by have := HF2.out.z; simpa using this
       clear hc' hh' hs' hok hI hlow hbt hb2 HA2 HB2 HF2 CNEW; clear z0 c00 f00 c01 f01 c02 f02 c03 f03 z1 c10 f10 c11 f11 z2 c20 f20 c21 f21; obtain ⟨z0, c00, f00, c01, f01, c02, f02, c03, f03, z1, c10, f10, c11, f11, z2, c20, f20, c21, f21⟩ := HF3.out.xf2
       go_wp2_with (fail)
       refine (CROL.out _).mono ?_
       rintro e w3 ⟨rfl, hb3⟩
       have HF4 := Lib.hid (HF3.out.below hb3); have HA4 := Lib.hid (HA3.out.below hb3); have HB4 := Lib.hid (HB3.out.below hb3); have HI4 := Lib.hid (HI3.out.below hb3); clear hb3 HF3 HA3 HB3 HI3 CROL; clear z0 c00 f00 c01 f01 c02 f02 c03 f03 z1 c10 f10 c11 f11 z2 c20 f20 c21 f21; obtain ⟨z0, c00, f00, c01, f01, c02, f02, c03, f03, z1, c10, f10, c11, f11, z2, c20, f20, c21, f21⟩ := HF4.out.xf2
       go_wp2_with (fail)
       refine (CBES.out t _ HC.out HH.out HS.out HOK.out HI4.out HA4.out HB4.out).mono ?_
       rintro e w4 ⟨hI5, hf5, hres⟩
       rw [HBS.out] at hres
       have HF5 := Lib.hid (HF4.out.frm hf5 (fun k hk => by have := HLOW.out k hk; omega) (fun k hk => by have := HLOW.out k hk; simp; omega))
       have HA5 := Lib.hid (HA4.out.frm hf5); have HB5 := Lib.hid (HB4.out.frm hf5); have HI5 := Lib.hid hI5; clear hI5 hf5 HF4 HA4 HB4 HI4 CBES HBS; clear z0 c00 f00 c01 f01 c02 f02 c03 f03 z1 c10 f10 c11 f11 z2 c20 f20 c21 f21; obtain ⟨z0, c00, f00, c01, f01, c02, f02, c03, f03, z1, c10, f10, c11, f11, z2, c20, f20, c21, f21⟩ := HF5.out.xf2
       obtain ⟨v, rfl, _⟩ := (show ∃ v, e = .returned (.tuple #[v, .agg #[.int .i64 xn, .int .i64 (xd : Int)], .bool true]) ∧ _ from hres)
       clear hres
       go_wp2_with (fail)
       refine (CWIN.out t _ HC.out HH.out HS.out HOK.out (HI5.out.below ((Below.refl _ _).alloc (Nat.le_refl _) _)) (HA5.out.below ((Below.refl _ _).alloc (Nat.le_refl _) _)) (HB5.out.below ((Below.refl _ _).alloc (Nat.le_refl _) _))).mono ?_
       rintro e w5 ⟨rfl, hI6, hf6⟩
       have HG5 : Hid (Fr w4 (w4.alloc (.cells #[.int .i64 xn, .int .i64 (xd : Int)] 35)) [[.int .i64 xn, .int .i64 (xd : Int)]]) := (Fr.start w4).allocT (by simp) _ _
       have HF6 := Lib.hid ((HF5.out.alloc _).frm hf6 (fun k hk => by have := HLOW.out k hk; omega) (fun k hk => by have := HLOW.out k hk; simp; omega))
       have hxx : ¬ t.S w4.heap.size := fun hk => by have := HI5.out.ltS _ hk; omega
       have x0 : w5.cell? ⟨w4.heap.size, 0, none⟩ = some (.int .i64 xn) := hf6.cell' (HG5.out.cellA (b := w4.heap.size) 0 0 rfl rfl) hxx; have x1 : w5.cell? ⟨w4.heap.size, 1, none⟩ = some (.int .i64 (xd : Int)) := hf6.cell' (HG5.out.cellA (b := w4.heap.size) 0 1 rfl rfl) hxx; have xl : w4.heap.size < w5.heap.size := World.block_lt_of_cell? w5 _ x0; clear hI6 hf6 HF5 HG5 HA5 HB5 HI5 CWIN HLOW HC HH HS HOK; clear z0 c00 f00 c01 f01 c02 f02 c03 f03 z1 c10 f10 c11 f11 z2 c20 f20 c21 f21; rw [HWI.out]; unfold exV
       simp only [Option.getD_none, Option.isSome_none, Option.getD_some, Option.isSome_some]
       obtain ⟨z0, c00, f00, c01, f01, c02, f02, c03, f03, z1, c10, f10, c11, f11, z2, c20, f20, c21, f21⟩ := HF6.out.xf2
       go_wp2_with (fail)
       refine bodyPost_ret (v := .tuple #[.agg #[.int .i64 0, .int .i64 0], .int .i64 3]) (by simp [results, Tryz.results19, go_sem, c20, c21, z2, f20, f21]) rfl (RetN.mk' HWR.out ?_)
       repeat (first | exact HF6.out.b | refine stw ?_ (by omega) | refine alw ?_ (by omega))
     · have hyv := win_val hq1 hwi
       have HWI := Lib.hid hwi
       have HM := Lib.hid fun (W : World) => minusExact_any p c' h' xn yn s' xd yd W hs1 hs6 hxv hyv
       rcases hm : minE (sq s') ⟨xn, xd⟩ ⟨yn, yd⟩ with _ | ⟨m2, d2⟩
       · have HWR : Hid (luckR p c' h' s' a b own other = (0, 0, 3)) := by unfold Hid; rw [HWR0.out]; unfold luckE; rw [hbs, hwi]; show numR (minE _ _ _) = _; rw [hm]; rfl
         rw [hm] at HM; clear hbs hwi HWR0 hxv hyv hm
         go_enter Tryz.func19, Tryz.ntmps19
         go_wp2_with (fail)
         refine CT.out.mono ?_
         rintro e w1 ⟨rfl, hb1⟩
         have HF2 := Lib.hid (HF1.out.below hb1); have HA2 := Lib.hid (HA1.out.below hb1); have HB2 := Lib.hid (HB1.out.below hb1); clear CT hb1 HF1 HA1 HB1; obtain ⟨z0, c00, f00, c01, f01, c02, f02, c03, f03, z1, c10, f10, c11, f11, z2, c20, f20, c21, f21⟩ := HF2.out.xf2
         go_wp2_with (fail)
         refine (CNEW.out _).mono ?_
         rintro e w2 ⟨t, _, hc', hh', hs', rfl, hok, hI, hlow, hbt, hb2⟩
         have HLOW : Hid (∀ k, t.S k → w1.heap.size ≤ k) := hlow; have HF3 := Lib.hid (HF2.out.below hb2); have HA3 := Lib.hid ((SQ.of_sl HA2.out hlow).below hb2); have HB3 := Lib.hid ((SQ.of_sl HB2.out hlow).below hb2); have HI3 := Lib.hid hI; have HOK := Lib.hid hok; have HC := Lib.hid hc'; have HH := Lib.hid hh'; have HS := Lib.hid hs'
         have hz1 : w.heap.size + 3 ≤ w1.heap.size := by have := HF2.out.z; simpa using this
         clear hc' hh' hs' hok hI hlow hbt hb2 HA2 HB2 HF2 CNEW; clear z0 c00 f00 c01 f01 c02 f02 c03 f03 z1 c10 f10 c11 f11 z2 c20 f20 c21 f21; obtain ⟨z0, c00, f00, c01, f01, c02, f02, c03, f03, z1, c10, f10, c11, f11, z2, c20, f20, c21, f21⟩ := HF3.out.xf2
         go_wp2_with (fail)
         refine (CROL.out _).mono ?_
         rintro e w3 ⟨rfl, hb3⟩
         have HF4 := Lib.hid (HF3.out.below hb3); have HA4 := Lib.hid (HA3.out.below hb3); have HB4 := Lib.hid (HB3.out.below hb3); have HI4 := Lib.hid (HI3.out.below hb3); clear hb3 HF3 HA3 HB3 HI3 CROL; clear z0 c00 f00 c01 f01 c02 f02 c03 f03 z1 c10 f10 c11 f11 z2 c20 f20 c21 f21; obtain ⟨z0, c00, f00, c01, f01, c02, f02, c03, f03, z1, c10, f10, c11, f11, z2, c20, f20, c21, f21⟩ := HF4.out.xf2
         go_wp2_with (fail)
         refine (CBES.out t _ HC.out HH.out HS.out HOK.out HI4.out HA4.out HB4.out).mono ?_
         rintro e w4 ⟨hI5, hf5, hres⟩
         rw [HBS.out] at hres
         have HF5 := Lib.hid (HF4.out.frm hf5 (fun k hk => by have := HLOW.out k hk; omega) (fun k hk => by have := HLOW.out k hk; simp; omega))
         have HA5 := Lib.hid (HA4.out.frm hf5); have HB5 := Lib.hid (HB4.out.frm hf5); have HI5 := Lib.hid hI5; clear hI5 hf5 HF4 HA4 HB4 HI4 CBES HBS; clear z0 c00 f00 c01 f01 c02 f02 c03 f03 z1 c10 f10 c11 f11 z2 c20 f20 c21 f21; obtain ⟨z0, c00, f00, c01, f01, c02, f02, c03, f03, z1, c10, f10, c11, f11, z2, c20, f20, c21, f21⟩ := HF5.out.xf2
         obtain ⟨v, rfl, _⟩ := (show ∃ v, e = .returned (.tuple #[v, .agg #[.int .i64 xn, .int .i64 (xd : Int)], .bool true]) ∧ _ from hres)
         clear hres
         go_wp2_with (fail)
         refine (CWIN.out t _ HC.out HH.out HS.out HOK.out (HI5.out.below ((Below.refl _ _).alloc (Nat.le_refl _) _)) (HA5.out.below ((Below.refl _ _).alloc (Nat.le_refl _) _)) (HB5.out.below ((Below.refl _ _).alloc (Nat.le_refl _) _))).mono ?_
         rintro e w5 ⟨rfl, hI6, hf6⟩
         have HG5 : Hid (Fr w4 (w4.alloc (.cells #[.int .i64 xn, .int .i64 (xd : Int)] 35)) [[.int .i64 xn, .int .i64 (xd : Int)]]) := (Fr.start w4).allocT (by simp) _ _
         have HF6 := Lib.hid ((HF5.out.alloc _).frm hf6 (fun k hk => by have := HLOW.out k hk; omega) (fun k hk => by have := HLOW.out k hk; simp; omega))
         have hxx : ¬ t.S w4.heap.size := fun hk => by have := HI5.out.ltS _ hk; omega
         have x0 : w5.cell? ⟨w4.heap.size, 0, none⟩ = some (.int .i64 xn) := hf6.cell' (HG5.out.cellA (b := w4.heap.size) 0 0 rfl rfl) hxx; have x1 : w5.cell? ⟨w4.heap.size, 1, none⟩ = some (.int .i64 (xd : Int)) := hf6.cell' (HG5.out.cellA (b := w4.heap.size) 0 1 rfl rfl) hxx; have xl : w4.heap.size < w5.heap.size := World.block_lt_of_cell? w5 _ x0; clear hI6 hf6 HF5 HG5 HA5 HB5 HI5 CWIN HLOW HC HH HS HOK; clear z0 c00 f00 c01 f01 c02 f02 c03 f03 z1 c10 f10 c11 f11 z2 c20 f20 c21 f21; rw [HWI.out]; unfold exV
         simp only [Option.getD_none, Option.isSome_none, Option.getD_some, Option.isSome_some]
         obtain ⟨z0, c00, f00, c01, f01, c02, f02, c03, f03, z1, c10, f10, c11, f11, z2, c20, f20, c21, f21⟩ := HF6.out.xf2
         go_wp2_with (fail)
         refine (HM.out _).mono ?_
         rintro e w6 ⟨rfl, hb7⟩
         have HF7 := Lib.hid ((HF6.out.alloc _).below hb7); clear hb7 HM HF6; clear z0 c00 f00 c01 f01 c02 f02 c03 f03 z1 c10 f10 c11 f11 z2 c20 f20 c21 f21
         simp only [Option.getD_none, Option.isSome_none]
         obtain ⟨z0, c00, f00, c01, f01, c02, f02, c03, f03, z1, c10, f10, c11, f11, z2, c20, f20, c21, f21⟩ := HF7.out.xf2
         go_wp2_with (fail)
         refine bodyPost_ret (v := .tuple #[.agg #[.int .i64 0, .int .i64 0], .int .i64 3]) (by simp [results, Tryz.results19, go_sem, c20, c21, z2, f20, f21]) rfl (RetN.mk' HWR.out ?_)
         repeat (first | exact HF7.out.b | refine stw ?_ (by omega) | refine alw ?_ (by omega))
       · have HWR : Hid (luckR p c' h' s' a b own other = (m2, (d2 : Int), 0)) := by unfold Hid; rw [HWR0.out]; unfold luckE; rw [hbs, hwi]; show numR (minE _ _ _) = _; rw [hm]; rfl
         rw [hm] at HM; clear hbs hwi HWR0 hxv hyv hm
         go_enter Tryz.func19, Tryz.ntmps19
         go_wp2_with (fail)
         refine CT.out.mono ?_
         rintro e w1 ⟨rfl, hb1⟩
         have HF2 := Lib.hid (HF1.out.below hb1); have HA2 := Lib.hid (HA1.out.below hb1); have HB2 := Lib.hid (HB1.out.below hb1); clear CT hb1 HF1 HA1 HB1; obtain ⟨z0, c00, f00, c01, f01, c02, f02, c03, f03, z1, c10, f10, c11, f11, z2, c20, f20, c21, f21⟩ := HF2.out.xf2
         go_wp2_with (fail)
         refine (CNEW.out _).mono ?_
         rintro e w2 ⟨t, _, hc', hh', hs', rfl, hok, hI, hlow, hbt, hb2⟩
         have HLOW : Hid (∀ k, t.S k → w1.heap.size ≤ k) := hlow; have HF3 := Lib.hid (HF2.out.below hb2); have HA3 := Lib.hid ((SQ.of_sl HA2.out hlow).below hb2); have HB3 := Lib.hid ((SQ.of_sl HB2.out hlow).below hb2); have HI3 := Lib.hid hI; have HOK := Lib.hid hok; have HC := Lib.hid hc'; have HH := Lib.hid hh'; have HS := Lib.hid hs'
         have hz1 : w.heap.size + 3 ≤ w1.heap.size := by have := HF2.out.z; simpa using this
         clear hc' hh' hs' hok hI hlow hbt hb2 HA2 HB2 HF2 CNEW; clear z0 c00 f00 c01 f01 c02 f02 c03 f03 z1 c10 f10 c11 f11 z2 c20 f20 c21 f21; obtain ⟨z0, c00, f00, c01, f01, c02, f02, c03, f03, z1, c10, f10, c11, f11, z2, c20, f20, c21, f21⟩ := HF3.out.xf2
         go_wp2_with (fail)
         refine (CROL.out _).mono ?_
         rintro e w3 ⟨rfl, hb3⟩
         have HF4 := Lib.hid (HF3.out.below hb3); have HA4 := Lib.hid (HA3.out.below hb3); have HB4 := Lib.hid (HB3.out.below hb3); have HI4 := Lib.hid (HI3.out.below hb3); clear hb3 HF3 HA3 HB3 HI3 CROL; clear z0 c00 f00 c01 f01 c02 f02 c03 f03 z1 c10 f10 c11 f11 z2 c20 f20 c21 f21; obtain ⟨z0, c00, f00, c01, f01, c02, f02, c03, f03, z1, c10, f10, c11, f11, z2, c20, f20, c21, f21⟩ := HF4.out.xf2
         go_wp2_with (fail)
         refine (CBES.out t _ HC.out HH.out HS.out HOK.out HI4.out HA4.out HB4.out).mono ?_
         rintro e w4 ⟨hI5, hf5, hres⟩
         rw [HBS.out] at hres
         have HF5 := Lib.hid (HF4.out.frm hf5 (fun k hk => by have := HLOW.out k hk; omega) (fun k hk => by have := HLOW.out k hk; simp; omega))
         have HA5 := Lib.hid (HA4.out.frm hf5); have HB5 := Lib.hid (HB4.out.frm hf5); have HI5 := Lib.hid hI5; clear hI5 hf5 HF4 HA4 HB4 HI4 CBES HBS; clear z0 c00 f00 c01 f01 c02 f02 c03 f03 z1 c10 f10 c11 f11 z2 c20 f20 c21 f21; obtain ⟨z0, c00, f00, c01, f01, c02, f02, c03, f03, z1, c10, f10, c11, f11, z2, c20, f20, c21, f21⟩ := HF5.out.xf2
         obtain ⟨v, rfl, _⟩ := (show ∃ v, e = .returned (.tuple #[v, .agg #[.int .i64 xn, .int .i64 (xd : Int)], .bool true]) ∧ _ from hres)
         clear hres
         go_wp2_with (fail)
         refine (CWIN.out t _ HC.out HH.out HS.out HOK.out (HI5.out.below ((Below.refl _ _).alloc (Nat.le_refl _) _)) (HA5.out.below ((Below.refl _ _).alloc (Nat.le_refl _) _)) (HB5.out.below ((Below.refl _ _).alloc (Nat.le_refl _) _))).mono ?_
         rintro e w5 ⟨rfl, hI6, hf6⟩
         have HG5 : Hid (Fr w4 (w4.alloc (.cells #[.int .i64 xn, .int .i64 (xd : Int)] 35)) [[.int .i64 xn, .int .i64 (xd : Int)]]) := (Fr.start w4).allocT (by simp) _ _
         have HF6 := Lib.hid ((HF5.out.alloc _).frm hf6 (fun k hk => by have := HLOW.out k hk; omega) (fun k hk => by have := HLOW.out k hk; simp; omega))
         have hxx : ¬ t.S w4.heap.size := fun hk => by have := HI5.out.ltS _ hk; omega
         have x0 : w5.cell? ⟨w4.heap.size, 0, none⟩ = some (.int .i64 xn) := hf6.cell' (HG5.out.cellA (b := w4.heap.size) 0 0 rfl rfl) hxx; have x1 : w5.cell? ⟨w4.heap.size, 1, none⟩ = some (.int .i64 (xd : Int)) := hf6.cell' (HG5.out.cellA (b := w4.heap.size) 0 1 rfl rfl) hxx; have xl : w4.heap.size < w5.heap.size := World.block_lt_of_cell? w5 _ x0; clear hI6 hf6 HF5 HG5 HA5 HB5 HI5 CWIN HLOW HC HH HS HOK; clear z0 c00 f00 c01 f01 c02 f02 c03 f03 z1 c10 f10 c11 f11 z2 c20 f20 c21 f21; rw [HWI.out]; unfold exV
         simp only [Option.getD_none, Option.isSome_none, Option.getD_some, Option.isSome_some]
         obtain ⟨z0, c00, f00, c01, f01, c02, f02, c03, f03, z1, c10, f10, c11, f11, z2, c20, f20, c21, f21⟩ := HF6.out.xf2
         go_wp2_with (fail)
         refine (HM.out _).mono ?_
         rintro e w6 ⟨rfl, hb7⟩
         have HF7 := Lib.hid ((HF6.out.alloc _).below hb7); clear hb7 HM HF6; clear z0 c00 f00 c01 f01 c02 f02 c03 f03 z1 c10 f10 c11 f11 z2 c20 f20 c21 f21
         simp only [Option.getD_some, Option.isSome_some]
         obtain ⟨z0, c00, f00, c01, f01, c02, f02, c03, f03, z1, c10, f10, c11, f11, z2, c20, f20, c21, f21⟩ := HF7.out.xf2
         go_wp2_with (fail)
         refine bodyPost_ret (v := .tuple #[.agg #[.int .i64 m2, .int .i64 (d2 : Int)], .int .i64 0]) (by simp [results, Tryz.results19, go_sem, c20, c21, z2, f20, f21]) rfl (RetN.mk' HWR.out ?_)
         repeat (first | exact HF7.out.b | refine stw ?_ (by omega) | refine alw ?_ (by omega))
 · have HWR : Hid (luckR p c h s ra rb own other = (0, 0, codeK p c h s ra rb own other true)) := by
     unfold Hid luckR; rw [if_neg hct]
   generalize codeK p c h s ra rb own other true = k at *
   have b0 : (k != 0) = true := by simp [hct]
   clear hct
   go_enter Tryz.func19, Tryz.ntmps19
   go_wp2_with (fail)
   refine CT.out.mono ?_
   rintro e w1 ⟨rfl, hb1⟩
   have HF2 := Lib.hid (HF1.out.below hb1); clear CT hb1 HF1 HA1 HB1; obtain ⟨z0, c00, f00, c01, f01, c02, f02, c03, f03, z1, c10, f10, c11, f11, z2, c20, f20, c21, f21⟩ := HF2.out.xf2
   go_wp2_with (fail)
   refine bodyPost_ret (v := .tuple #[.agg #[.int .i64 0, .int .i64 0], .int .i64 k]) (by simp [results, Tryz.results19, go_sem, c20, c21, z2, f20, f21]) rfl (RetN.mk' HWR.out ?_)
   repeat (first | exact HF2.out.b | refine stw ?_ (by omega) | refine alw ?_ (by omega))
end Go.Proofs.YtkaiilmgemaljaaGreat

/- Contract of the program's RollChances. There are no conditions. -/
import Derived.Test.YtkaiilmgemaljaaGreatPZv
import Derived.Test.YtkaiilmgemaljaaGreatPZl
namespace Go.Proofs.YtkaiilmgemaljaaGreat
set_option linter.unusedVariables false
set_option linter.unusedSimpArgs false
open Go.RowKit Ps Ra Ex

theorem best_at {t : RT} {W : World} {T : Nat → Prop} {c h s a b k : Nat} {own other : List Int} {A B : Option Addr} {ca cb : Nat} (hc' : t.c = c) (hh' : t.h = h) (hs' : t.s = s) (hok : t.Ok) (hI : RaceI t T W) (hT : ∀ k, W.heap.size ≤ k → ¬ T k)
   (hp1 : PosP h c own) (hp2 : PosP h c other) (hs0 : own.sum ≠ 0) (hk : k < t.nr) (hab : (rollsN s).getD k (0, 0) = (a, b)) (hA : SQ T W A h own) (hB : SQ T W B h other) (hca : h ≤ ca) (hcb : h ≤ cb) :
   Calls Tryz.prog 76 #[.pointer (some ⟨t.bt, 0, none⟩), .slice A h ca, .slice B h cb, .int .i64 (k : Int)] W (RetBest t T W (resultsL own a b) (bestS (sq s) (sec s other) (resultsL own a b))) := by
 subst hc' hh' hs'; have hv := isVar_yes hok.v
 have hr := mem_rollsN.1 (getD_mem' (rollsN t.s) (0, 0) (k := k) (by rw [hok.r]; exact hk))
 rw [hab] at hr; obtain ⟨r1, r2, r3⟩ := hr
 simp only at r1 r2 r3
 exact best_any t hok hp1 hs0 k a b hk hab (fun q hq => second_any t hok (win_all t hok hp2 (results_pos (by omega) r1 hp1 q hq).1)) T A B ca cb W hT hI hA hca hB hcb
noncomputable def chanR (p c h s : Int) (own other : List Int) : List E × Int := if codeW p c h s own other true = 0 then (match allS (rollE s.toNat own other) (rollsN s.toNat) with
 | none => ([], 3)
 | some xs => (xs, 0)) else ([], codeW p c h s own other true)
def RetEs (w : World) (r : List E × Int) (e : Ending) (w' : World) : Prop := ∃ v base, e = .returned (.tuple #[v, .int .i64 r.2]) ∧ w.heap.size ≤ base ∧ OwnE w' base v r.1 ∧ Below w.heap.size w w'
theorem RetEs.no {w w' : World} {r : List E × Int} {k : Int} (hr : r = ([], k)) (hb : Below w.heap.size w w') : RetEs w r (.returned (.tuple #[.slice none 0 0, .int .i64 k])) w' := by
 subst hr; exact ⟨_, w.heap.size, rfl, Nat.le_refl _, World.ownsRow_nil _ _ _ _, hb⟩
theorem RetEs.yes {w w' : World} {r : List E × Int} {xs : List E} {v : Value} {base : Nat} (hr : r = (xs, 0)) (h0 : w.heap.size ≤ base) (ho : OwnE w' base v xs) (hb : Below w.heap.size w w') : RetEs w r (.returned (.tuple #[v, .int .i64 0])) w' := by
 subst hr; exact ⟨_, base, rfl, h0, ho, hb⟩
theorem frm_low {S : Nat → Prop} {w wr w2 : World} (hb : Below w.heap.size w wr) (hf : Frm S wr w2) (hS : ∀ k, S k → w.heap.size ≤ k) : Below w.heap.size w w2 := hb.trans (hf.below hb.size hS)
set_option maxRecDepth 100000 in
set_option maxHeartbeats 4000000 in
theorem RollChances_any (p c h s : Int) (A B : Option Addr) (n m ca cb : Nat) (own other : List Int) (w : World) (hA : SL w A n own) (hB : SL w B m other) (hca : n ≤ ca) (hcb : m ≤ cb) :
   Calls Tryz.prog 16 #[.agg #[.int .i64 p, .int .i64 c, .int .i64 h, .int .i64 s], .slice A n ca, .slice B m cb] w (RetEs w (chanR p c h s own other)) := by
 obtain ⟨i0, hi, iz0, iz1, iz2⟩ := info_parts Tryz.infoE
 have HF0 : Hid (Fr w (w.alloc (.cells #[.int .i64 p, .int .i64 c, .int .i64 h, .int .i64 s] 25)) [[.int .i64 p, .int .i64 c, .int .i64 h, .int .i64 s]]) := (Fr.start w).allocT (by simp) _ _
 have HA0 := Lib.hid (hA.below HF0.out.b); have HB0 := Lib.hid (hB.below HF0.out.b); have HAW := Lib.hid hA; have HBW := Lib.hid hB
 have CT := Lib.hid (checkTable_any p c h s (some ⟨w.heap.size + 1, 0, none⟩) 2 2 [own, other] _ (by have := plx_two (ca := ca) (cb := cb) HA0.out HB0.out 26; simpa using this) (by omega))
 have HF1 := Lib.hid (HF0.out.alloc (.cells #[.slice A n ca, .slice B m cb] 26)); have HA1 := Lib.hid (HA0.out.alloc (.cells #[.slice A n ca, .slice B m cb] 26)); have HB1 := Lib.hid (HB0.out.alloc (.cells #[.slice A n ca, .slice B m cb] 26)); clear hA hB HF0 HA0 HB0
 by_cases hct : codeT p c h s [own, other] = 0
 · obtain ⟨hv, hp1, hp2, hN⟩ := codeT_ok hct
   have hvv := isVar_yes hv
   obtain ⟨c', rfl⟩ : ∃ c' : Nat, c = c' := ⟨c.toNat, by omega⟩
   obtain ⟨h', rfl⟩ : ∃ h' : Nat, h = h' := ⟨h.toNat, by omega⟩
   obtain ⟨s', rfl⟩ : ∃ s' : Nat, s = s' := ⟨s.toNat, by omega⟩
   have hs1 : 1 ≤ s' := by omega
   have hs6 : s' ≤ 6 := by omega
   obtain ⟨hq1, hq36, _⟩ := sq_bd hs1 hs6; have HP1 := Lib.hid (posB_pos hp1); have HP2 := Lib.hid (posB_pos hp2)
   simp only [Int.toNat_natCast] at hN
   have hnh : h' = n := by rw [← HAW.out.1]; exact (HP1.out.1).symm
   have hmh : h' = m := by rw [← HBW.out.1]; exact (HP2.out.1).symm
   subst hnh; subst hmh; have CT' := CT.out; rw [hct] at CT'; replace CT' := Lib.hid CT'
   have TOA := Lib.hid fun (W : World) (hx : SL W A h' own) => total_any A h' ca own W hx HP1.out.2.1 (by have := HP1.out.2.2; omega) (by omega)
   have TOB := Lib.hid fun (W : World) (hx : SL W B h' other) => total_any B h' cb other W hx HP2.out.2.1 (by have := HP2.out.2.2; omega) (by omega)
   have CNEW := Lib.hid fun (W : World) => newRace_any p c' h' s' W hv hN
   have HW0 : Hid (chanR p c' h' s' own other = if own.sum = 0 ∨ other.sum = 0 then (([], 5) : List E × Int) else match allS (rollE s' own other) (rollsN s') with | none => ([], 3) | some xs => (xs, 0)) := by
     unfold Hid chanR codeW; rw [hct]
     by_cases hss : own.sum = 0 ∨ other.sum = 0
     · simp [hss]
     · have : ¬ (own.sum = 0 ∧ other.sum = 0) := fun h => hss (.inl h.1)
       simp [hss, this]
   have HVAL := Lib.hid (rollE_val hq1 own other); have hlen := rollsN_length s'; clear CT hct hv hp1 hp2 hN hvv
   go_enter Tryz.func16, Tryz.ntmps16
   go_wp2_with (fail)
   refine CT'.out.mono ?_
   rintro e w1 ⟨rfl, hb1⟩
   have HF2 := Lib.hid (HF1.out.below hb1); have HA2 := Lib.hid (HA1.out.below hb1); have HB2 := Lib.hid (HB1.out.below hb1); clear CT' hb1 HF1 HA1 HB1
   by_cases hz1 : own.sum = 0
   · have b1 : (own.sum == 0) = true := by simp [hz1]
     have HWR : Hid (chanR p c' h' s' own other = ([], 5)) := by unfold Hid; rw [HW0.out, if_pos (.inl hz1)]
     clear hz1 HW0; obtain ⟨z0, c00, f00, c01, f01, c02, f02, c03, f03⟩ := HF2.out.xf3
     go_wp2_with (first | (go_at_call_of 74 A; refine (TOA.out _ HA2.out).mono ?_; rintro e w' ⟨rfl, rfl⟩) | (go_at_call_of 74 B; refine (TOB.out _ HB2.out).mono ?_; rintro e w' ⟨rfl, rfl⟩))
     go_ret2
     exact RetEs.no HWR.out HF2.out.b
   have b1 : (own.sum == 0) = false := by simp [hz1]
   by_cases hz2 : other.sum = 0
   · have b2 : (other.sum == 0) = true := by simp [hz2]
     have HWR : Hid (chanR p c' h' s' own other = ([], 5)) := by unfold Hid; rw [HW0.out, if_pos (.inr hz2)]
     clear hz1 hz2 HW0; obtain ⟨z0, c00, f00, c01, f01, c02, f02, c03, f03⟩ := HF2.out.xf3
     go_wp2_with (first | (go_at_call_of 74 A; refine (TOA.out _ HA2.out).mono ?_; rintro e w' ⟨rfl, rfl⟩) | (go_at_call_of 74 B; refine (TOB.out _ HB2.out).mono ?_; rintro e w' ⟨rfl, rfl⟩))
     go_ret2
     exact RetEs.no HWR.out HF2.out.b
   have b2 : (other.sum == 0) = false := by simp [hz2]
   have HW1 : Hid (chanR p c' h' s' own other = match allS (rollE s' own other) (rollsN s') with | none => ([], 3) | some xs => (xs, 0)) := by unfold Hid; rw [HW0.out, if_neg fun h => h.elim hz1 hz2]
   have HZ1 := Lib.hid hz1; clear hz1 hz2 HW0; obtain ⟨z0, c00, f00, c01, f01, c02, f02, c03, f03⟩ := HF2.out.xf3
   go_wp2_with (first | (go_at_call_of 74 A; refine (TOA.out _ HA2.out).mono ?_; rintro e w' ⟨rfl, rfl⟩) | (go_at_call_of 74 B; refine (TOB.out _ HB2.out).mono ?_; rintro e w' ⟨rfl, rfl⟩))
   refine (CNEW.out _).mono ?_
   rintro e w2 ⟨t, _, hc', hh', hs', rfl, hok, hI, hlow, hbt, hb2⟩
   clear z0 c00 f00 c01 f01 c02 f02 c03 f03; have hbb : Below w.heap.size w w2 := HF2.out.b.trans (hb2.mono HF2.out.b.size)
   have hlw : ∀ k, t.S k → w.heap.size ≤ k := fun k hk => Nat.le_trans HF2.out.b.size (hlow k hk)
   have hrr : (rollsN s').length = t.nr := by rw [← hs']; exact hok.r
   have hnr21 : t.nr ≤ 21 := by rw [← hrr]; exact rolls_le hs6
   have CB := Lib.hid fun (T : Nat → Prop) (W : World) (k a b : Nat) (hI : RaceI t T W) (hT : ∀ k, W.heap.size ≤ k → ¬ T k) (hk : k < t.nr) (hab : (rollsN s').getD k (0, 0) = (a, b)) (hA : SQ T W A h' own) (hB : SQ T W B h' other) =>
     best_at hc' hh' hs' hok hI hT HP1.out HP2.out HZ1.out hk hab hA hB hca hcb
   have HLW := Lib.hid hlw; have HR := Lib.hid hrr; have HSZ := Lib.hid hI.ltS
   have HI0 : Hid (RaceI t (wth t.S (.slice none 0 0)) w2) := hI.less (fun k hk => hk.elim id fun h => by cases h) (fun k hk => .inl hk)
   have HB0 := Lib.hid hbb; have hz0 : w.heap.size ≤ w2.heap.size := hbb.size
   have HTN : Hid (∀ (W : World) (v : Value) (xs : List E), w2.heap.size ≤ W.heap.size → OwnE W w2.heap.size v xs → ∀ k, W.heap.size ≤ k → ¬ wth t.S v k) := fun W v xs hz ho k hk => by
     rintro (h | h)
     · have := HSZ.out k h; omega
     · have := (World.ownsRow.lt ho k h).2; omega
   have HUU : Hid (∀ (W : World) (v : Value) (xs : List E), OwnE W w2.heap.size v xs → ∀ k, wth t.S v k → w.heap.size ≤ k) := fun W v xs ho k hk => by
     rcases hk with h | h
     · exact HLW.out k h
     · have := (World.ownsRow.lt ho k h).1; omega
   clear hc' hh' hs' hok hI hlow hbt hb2 HA2 HB2 HF2 CNEW TOA TOB hbb hlw hrr HP1 HP2 HZ1 b1 b2; have e5 := HI0.out.tb 5 _ rfl; have hbt := HI0.out.ltB
   go_wp2_with (fail)
   go_loopw [10, 38] (fun v8 v18 wr => ∃ (k : Nat) (xs : List E), k ≤ t.nr ∧ v18 = .int .i64 k ∧ Hid (allS (rollE s' own other) ((rollsN s').take k) = some xs ∧ xs.length = k) ∧ (∃ vx, vx = v8 ∧ Hid (OwnE wr w2.heap.size vx xs ∧ RaceI t (wth t.S vx) wr)) ∧ Hid (Below w.heap.size w wr ∧ w2.heap.size ≤ wr.heap.size)) (fun _ v18 _ => t.nr - (intOf v18).toNat)
   case atStart => exact ⟨0, [], by omega, rfl, ⟨rfl, rfl⟩, ⟨_, rfl, World.ownsRow_nil _ _ _ _, HI0.out⟩, HB0.out, Nat.le_refl _⟩
   case round =>
     clear e5 hbt HI0 HB0; obtain ⟨k, xs, hk, rfl, hxs, ⟨vx, rfl, hOI⟩, HF⟩ := hrel; have HI := Lib.hid hOI.out.2; have HO := Lib.hid hOI.out.1; clear hOI; have hxk := hxs.out.2; have HXK := Lib.hid hxk; clear hxk
     by_cases hlt : k < t.nr
     · have hki : (k : Int) < (t.nr : Int) := by omega
       have hzr : w2.heap.size ≤ wr.heap.size := HF.out.2; have hUU := HUU.out wr vx xs HO.out
       have HLK : Hid (k < (rollsN s').length) := by unfold Hid; rw [HR.out]; exact hlt
       have HNR := Lib.hid (wth_low HO.out HSZ.out)
       rcases hab : (rollsN s').getD k (0, 0) with ⟨a, b⟩
       have CB1 := Lib.hid (CB.out (wth t.S vx) wr k a b HI.out (HTN.out wr vx xs hzr HO.out) hlt hab ((SQ.of_sl HAW.out hUU).below HF.out.1) ((SQ.of_sl HBW.out hUU).below HF.out.1))
       rcases hbs : bestS (sq s') (sec s' other) (resultsL own a b) with _ | ⟨cnt, at', ⟨xn, xd⟩⟩
       · have HRE : Hid (chanR p c' h' s' own other = ([], 3)) := by
           unfold Hid
           rw [HW1.out, allS_stop HLK.out hxs.out.1 (by rw [hab, rollE_best, hbs]; rfl)]
         rw [hbs] at CB1; clear hab hbs hUU
         go_wp2_with (fail)
         refine CB1.out.mono ?_
         rintro e w3 ⟨hI2, hf2, rfl⟩
         have HF2 := Lib.hid (frm_low HF.out.1 hf2 HLW.out); clear hI2 hf2 HF HI HO CB1
         go_wp2_with (fail)
         go_ret2
         exact RetEs.no HRE.out (alw HF2.out (Nat.le_refl _))
       · have HXS : Hid (allS (rollE s' own other) ((rollsN s').take (k + 1)) = some (xs ++ [⟨xn, xd⟩])) := allS_go HLK.out hxs.out.1 (by rw [hab, rollE_best, hbs]; rfl)
         rw [hbs] at CB1; clear hab hbs hUU
         go_wp2_with (fail)
         refine CB1.out.mono ?_
         rintro e w3 ⟨hI2, hf2, vb, rfl, _⟩
         have HF3 : Hid (Below w.heap.size w ((w3.alloc (.cells #[.int .i64 xn, .int .i64 (xd : Int)] 35)).alloc (.cells #[.int .i64 xn, .int .i64 (xd : Int)] 35))) := alw (alw (frm_low HF.out.1 hf2 HLW.out) (Nat.le_refl _)) (Nat.le_refl _); have HI3 : Hid (RaceI t (wth t.S vx) ((w3.alloc (.cells #[.int .i64 xn, .int .i64 (xd : Int)] 35)).alloc (.cells #[.int .i64 xn, .int .i64 (xd : Int)] 35))) := (hI2.alloc _).alloc _
         have HROW : Hid (((w3.alloc (.cells #[.int .i64 xn, .int .i64 (xd : Int)] 35)).alloc (.cells #[.int .i64 xn, .int .i64 (xd : Int)] 35)).ownsRow w2.heap.size 35 2 vx xs.length (exC xs)) :=
           row_alloc (row_alloc (hf2.row HO.out fun j hj => HNR.out j hj.symm) _) _
         have HVL := Lib.hid fun (j : Nat) (hj : vx.ownBlock = some j) => World.ownsRow.lt HO.out j hj
         have hzs := Lib.hid (Nat.le_trans hzr hf2.size); clear hI2 hf2 HF HI HO CB1; have hzq : w2.heap.size ≤ w3.heap.size := hzs.out
         have hTN : Hid (∀ j u, [Value.int .i64 xn, .int .i64 (xd : Int)][j]? = some u → ((w3.alloc (.cells #[.int .i64 xn, .int .i64 (xd : Int)] 35)).alloc (.cells #[.int .i64 xn, .int .i64 (xd : Int)] 35)).cell? ((⟨w3.heap.size + 1, 0, none⟩ : Addr).add j) = some u) := by
           have h := two_new (w3.alloc (.cells #[.int .i64 xn, .int .i64 (xd : Int)] 35)) xn (xd : Int) 35
           rw [show (w3.alloc (.cells #[.int .i64 xn, .int .i64 (xd : Int)] 35)).heap.size = w3.heap.size + 1 by simp] at h
           exact h
         go_wp2_with (at_builtin; (refine wpList_append_own_at _ rfl _ _ 29 rfl w2.heap.size 35 i0 (.agg #[.int .i64 0, .int .i64 0]) 2 16 Tryz.underlying29 hi iz0 iz1 iz2 rfl (by decide) _ _ _ rfl HROW.out ⟨w3.heap.size + 1, 0, none⟩ 1 1 [.int .i64 xn, .int .i64 (xd : Int)] rfl rfl hTN.out (two_cells _ _) (by have := HXK.out; unfold maxLen; omega) (by have := HXK.out; omega) (by simp; omega) ?_); intro v' w4 hown hgrow _ hat)
         have HI4 : Hid (RaceI t (wth t.S v') w4) := HI3.out.grew hgrow hat HNR.out
         have HF4 : Hid (Below w.heap.size w w4 ∧ w2.heap.size ≤ w4.heap.size) := ⟨frm_low HF3.out (Frm.of_grown hgrow) (fun j hj => by have := (HVL.out j hj.symm).1; omega), by have := hgrow.size; simp at this; omega⟩
         have HO4 : Hid (OwnE w4 w2.heap.size v' (xs ++ [⟨xn, xd⟩])) := by
           unfold Hid OwnE; rw [exC_snoc, List.length_append]
           exact hown
         have HL4 : Hid ((xs ++ [(⟨xn, xd⟩ : E)]).length = k + 1) := by unfold Hid; rw [List.length_append, HXK.out]; rfl
         clear hown hgrow hat HI3 HF3 HROW
         go_wp2_with (fail)
         go_roundw
         case rel => exact ⟨k + 1, xs ++ [⟨xn, xd⟩], by omega, by go_num, ⟨HXS.out, HL4.out⟩, ⟨_, rfl, HO4.out, HI4.out⟩, HF4.out⟩
         case measure => (simp [intOf]) <;> omega
     · have hke : k = t.nr := by omega
       have HRE : Hid (chanR p c' h' s' own other = (xs, 0)) := by
         have h := hxs.out.1
         rw [List.take_of_length_le (by rw [HR.out]; omega)] at h
         unfold Hid; rw [HW1.out, h]
       clear hxs HI
       go_wp2_with (fail)
       go_ret2
       exact RetEs.yes HRE.out hz0 HO.out HF.out.1
 · have HWR : Hid (chanR p c h s own other = ([], codeT p c h s [own, other])) := by
     unfold Hid chanR codeW; rw [if_neg hct, if_neg hct]
   generalize codeT p c h s [own, other] = k at *
   have b0 : (k != 0) = true := by simp [hct]
   clear hct
   go_enter Tryz.func16, Tryz.ntmps16
   go_wp2_with (fail)
   refine CT.out.mono ?_
   rintro e w1 ⟨rfl, hb1⟩
   have HF2 := Lib.hid (HF1.out.below hb1); clear CT hb1 HF1 HA1 HB1; obtain ⟨z0, c00, f00, c01, f01, c02, f02, c03, f03⟩ := HF2.out.xf3
   go_wp2_with (fail)
   go_ret2
   exact RetEs.no HWR.out HF2.out.b
end Go.Proofs.YtkaiilmgemaljaaGreat

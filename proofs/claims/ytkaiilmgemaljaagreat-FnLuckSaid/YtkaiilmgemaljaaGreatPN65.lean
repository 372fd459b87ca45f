/- Contracts of the reference's RollChances and ResultChances. There are no conditions. -/
import Derived.Test.YtkaiilmgemaljaaGreatPN55
import Derived.Test.YtkaiilmgemaljaaGreatPN62
import Derived.Test.YtkaiilmgemaljaaGreatPZv
import Derived.Test.YtkaiilmgemaljaaGreatPN63
import Derived.Test.YtkaiilmgemaljaaGreatPN52
namespace Go.Proofs.YtkaiilmgemaljaaGreat
set_option linter.unusedVariables false
set_option linter.unusedSimpArgs false
open Go.RowKit Ps Ra Ex

theorem codeW_sums {p c h s : Int} {own other : List Int} (H : codeW p c h s own other true = 0) : own.sum ≠ 0 ∧ other.sum ≠ 0 := by
 have h0 := codeW_T H; unfold codeW at H; rw [if_pos h0] at H
 by_cases hss : own.sum = 0 ∨ other.sum = 0
 · simp [hss] at H
 · exact ⟨fun h => hss (.inl h), fun h => hss (.inr h)⟩
set_option maxRecDepth 100000 in
theorem sRollChances_any (p c h s : Int) (A B : Option Addr) (n m ca cb : Nat) (own other : List Int) (w : World) (hA : SL w A n own) (hB : SL w B m other) (hca : n ≤ ca) (hcb : m ≤ cb) :
   Calls Tryz.prog 17 #[.agg #[.int .i64 p, .int .i64 c, .int .i64 h, .int .i64 s], .slice A n ca, .slice B m cb] w (RetEs w (chanR p c h s own other)) := by
 have HF1 : Hid (Fr w (w.alloc (.cells #[.int .i64 p, .int .i64 c, .int .i64 h, .int .i64 s] 25)) [[.int .i64 p, .int .i64 c, .int .i64 h, .int .i64 s]]) := (Fr.start w).allocT (by simp) _ _
 have HA1 := Lib.hid (hA.below HF1.out.b); have HB1 := Lib.hid (hB.below HF1.out.b); have HAW := Lib.hid hA; have HBW := Lib.hid hB; have CT := Lib.hid (l12Code_no p c h s 0 0 A B n m ca cb own other true _ HA1.out HB1.out); clear hA hB
 by_cases hct : codeW p c h s own other true = 0
 · obtain ⟨hs0, ht0⟩ := codeW_sums hct
   obtain ⟨hv, hp1, hp2, hN⟩ := codeT_ok (codeW_T hct); have hvv := isVar_yes hv
   obtain ⟨c', rfl⟩ : ∃ c' : Nat, c = c' := ⟨c.toNat, by omega⟩
   obtain ⟨h', rfl⟩ : ∃ h' : Nat, h = h' := ⟨h.toNat, by omega⟩
   obtain ⟨s', rfl⟩ : ∃ s' : Nat, s = s' := ⟨s.toNat, by omega⟩
   have HP1 := Lib.hid (posB_pos hp1); have HP2 := Lib.hid (posB_pos hp2)
   simp only [Int.toNat_natCast] at hN
   have hnh : h' = n := by rw [← HAW.out.1]; exact (HP1.out.1).symm
   have hmh : h' = m := by rw [← HBW.out.1]; exact (HP2.out.1).symm
   subst hnh; subst hmh
   have CNEW := Lib.hid fun (W : World) => l12New_any p c' h' s' W hv hN
   have HW1 : Hid (chanR p c' h' s' own other = match allS (rollE s' own other) (rollsN s') with | none => ([], 3) | some xs => (xs, 0)) := by
     unfold Hid chanR; rw [if_pos hct, Int.toNat_natCast]
     rfl
   rw [hct] at CT; have HS0 := Lib.hid hs0; have HT0 := Lib.hid ht0; clear hct hv hp1 hp2 hN hvv hs0 ht0
   go_enter Tryz.func17, Tryz.ntmps17
   go_wp2_with (fail)
   refine CT.out.mono ?_
   rintro e w1 ⟨rfl, hb1⟩
   have HF2 := Lib.hid (HF1.out.below hb1); clear CT hb1 HF1 HA1 HB1; obtain ⟨z0, c00, f00, c01, f01, c02, f02, c03, f03⟩ := HF2.out.xf3
   go_wp2_with (fail)
   refine (CNEW.out _).mono ?_
   rintro e w2 ⟨t, _, hc', hh', hs', rfl, hok, hI, hlow, hbt, hb2⟩
   clear z0 c00 f00 c01 f01 c02 f02 c03 f03; have HF3 := Lib.hid (HF2.out.below hb2)
   have HLW : Hid (∀ k, t.S k → w.heap.size ≤ k) := fun k hk => Nat.le_trans HF2.out.b.size (hlow k hk)
   have CH : Hid (Calls Tryz.prog 78 #[.pointer (some ⟨t.bt, 0, none⟩), .slice A h' ca, .slice B h' cb] w2 (RetCh t w2 (allS (rollE s' own other) (rollsN s')))) := by
     have hA2 := (SQ.of_sl HAW.out HLW.out).below HF3.out.b; have hB2 := (SQ.of_sl HBW.out HLW.out).below HF3.out.b; have hpp1 := HP1.out; have hpp2 := HP2.out; subst hc' hh' hs'
     exact l12Chances_any t hok hpp1 hpp2 HS0.out HT0.out A B ca cb w2 hI hA2 hca hB2 hcb
   have HB3 := Lib.hid HF3.out.b; clear HF2 HF3 hb2 hI hlow hbt hok hc' hh' hs' CNEW HP1 HP2 HS0 HT0
   go_wp2_with (fail)
   refine CH.out.mono ?_
   rintro e w3 ⟨_, hf3, hres⟩
   have HB4 := Lib.hid (frm_low HB3.out hf3 HLW.out); have hz2 : w.heap.size ≤ w2.heap.size := HB3.out.size; clear CH hf3 HB3
   rcases hal : allS (rollE s' own other) (rollsN s') with _ | xs
   · have HWR : Hid (chanR p c' h' s' own other = ([], 3)) := by unfold Hid; rw [HW1.out, hal]
     rw [hal] at hres
     replace hres := (show e = .returned (.tuple #[.slice none 0 0, .bool false]) from hres)
     subst hres; clear hal
     go_wp2_with (fail)
     go_ret2
     exact RetEs.no HWR.out HB4.out
   · have HWR : Hid (chanR p c' h' s' own other = (xs, 0)) := by unfold Hid; rw [HW1.out, hal]
     rw [hal] at hres
     obtain ⟨v, rfl, ho⟩ := (show ∃ v, e = .returned (.tuple #[v, .bool true]) ∧ OwnE w3 w2.heap.size v xs from hres)
     have HO := Lib.hid ho; clear hal ho
     go_wp2_with (fail)
     go_ret2
     exact RetEs.yes HWR.out hz2 HO.out HB4.out
 · have HWR : Hid (chanR p c h s own other = ([], codeW p c h s own other true)) := by
     unfold Hid chanR; rw [if_neg hct]
   generalize codeW p c h s own other true = k at *
   have b0 : (k != 0) = true := by simp [hct]
   clear hct
   go_enter Tryz.func17, Tryz.ntmps17
   go_wp2_with (fail)
   refine CT.out.mono ?_
   rintro e w1 ⟨rfl, hb1⟩
   have HF2 := Lib.hid (HF1.out.below hb1); clear CT hb1 HF1 HA1 HB1; obtain ⟨z0, c00, f00, c01, f01, c02, f02, c03, f03⟩ := HF2.out.xf3
   go_wp2_with (fail)
   go_ret2
   exact RetEs.no HWR.out HF2.out.b
end Go.Proofs.YtkaiilmgemaljaaGreat

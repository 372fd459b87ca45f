/- Contracts of the reference's RollChances and ResultChances. There are no conditions. -/
import Derived.Test.YtlbkfhdnhalpbaaGreatN64
import Derived.Test.YtlbkfhdnhalpbaaGreatN63
import Derived.Test.YtlbkfhdnhalpbaaGreatN57
import Derived.Test.YtlbkfhdnhalpbaaGreatN53
namespace Go.Proofs.YtlbkfhdnhalpbaaGreat
set_option linter.unusedVariables false
set_option linter.unusedSimpArgs false
open Go.RowKit Ps Ra Ex

theorem after_at {t : RT2} {W : World} {c h s : Nat} {q other : List Int} {A B : Option Addr} {ca cb : Nat} (hc' : t.c = c) (hh' : t.h = h) (hs' : t.s = s) (hok : t.Ok) (hI : TabI t W)
    (hp1 : PosP h c q) (hp2 : PosP h c other) (hs0 : other.sum ≠ 0) (hA : SQ t.S W A h q) (hB : SQ t.S W B h other) (hca : h ≤ ca) (hcb : h ≤ cb) :
    Calls Tryz.prog 124 #[.pointer (some ⟨t.bt, 0, none⟩), .slice A h ca, .slice B h cb] W (RetTn t W (sec s other q)) := by
  subst hc' hh' hs'
  exact l12After_any t hok hp1 hs0 (l12Value_all t hok hp2 hp1) A B ca cb W hI hA hca hB hcb
theorem chanR_len (p c h s : Int) (own other : List Int) : (chanR p c h s own other).1.length ≤ 1000000 := by
  unfold chanR
  by_cases hct : codeW p c h s own other true = 0
  · rw [if_pos hct]
    obtain ⟨hv, _, _, _⟩ := codeT_ok (codeW_T hct)
    have := isVar_yes hv
    cases hal : allS (rollE s.toNat own other) (rollsN s.toNat) with
    | none => simp
    | some xs =>
      have h1 := allS_length hal
      have h2 : (rollsN s.toNat).length ≤ 21 := rolls_le (by omega)
      show xs.length ≤ 1000000
      omega
  · rw [if_neg hct]; simp
theorem chsR_len (p c h s ra rb : Int) (own other : List Int) : (chsR p c h s ra rb own other).1.length ≤ 1000000 := by
  unfold chsR
  by_cases hct : codeK p c h s ra rb own other true = 0
  · rw [if_pos hct]
    obtain ⟨ht, hro, hsum⟩ := codeK_ok hct
    obtain ⟨hv, hp1, hp2, hN⟩ := codeT_ok ht
    have hvv := isVar_yes hv
    obtain ⟨a, b, rfl, rfl, ha1, ha2, hb1, hb2⟩ := rollB_nat hro
    obtain ⟨c', rfl⟩ : ∃ c' : Nat, c = c' := ⟨c.toNat, by omega⟩
    obtain ⟨h', rfl⟩ : ∃ h' : Nat, h = h' := ⟨h.toNat, by omega⟩
    have hl := results_len (a := a) (b := b) (by omega) hb1 (posB_pos hp1) (by omega)
    simp only [Int.toNat_natCast]
    cases hal : allQ (sec s.toNat other) (resultsL own a b) with
    | none => simp
    | some xs =>
      have h1 := allQ_length hal
      show xs.length ≤ 1000000
      omega
  · rw [if_neg hct]; simp
theorem codeW_sums {p c h s : Int} {own other : List Int} (H : codeW p c h s own other true = 0) : own.sum ≠ 0 ∧ other.sum ≠ 0 := by
  have h0 := codeW_T H
  unfold codeW at H
  rw [if_pos h0] at H
  by_cases hss : own.sum = 0 ∨ other.sum = 0
  · simp [hss] at H
  · exact ⟨fun h => hss (.inl h), fun h => hss (.inr h)⟩
set_option maxRecDepth 100000 in
theorem sRollChances_any (p c h s : Int) (A B : Option Addr) (n m ca cb : Nat) (own other : List Int) (w : World) (hA : SL w A n own) (hB : SL w B m other) (hca : n ≤ ca) (hcb : m ≤ cb) :
    Calls Tryz.prog 47 #[.agg #[.int .i64 p, .int .i64 c, .int .i64 h, .int .i64 s], .slice A n ca, .slice B m cb] w (RetEs w (chanR p c h s own other)) := by
  have HF1 : Hid (Fr w (w.alloc (.cells #[.int .i64 p, .int .i64 c, .int .i64 h, .int .i64 s] 29)) [[.int .i64 p, .int .i64 c, .int .i64 h, .int .i64 s]]) := (Fr.start w).allocT (by simp) _ _
  have HA1 := Lib.hid (hA.below HF1.out.b)
  have HB1 := Lib.hid (hB.below HF1.out.b)
  have HAW := Lib.hid hA
  have HBW := Lib.hid hB
  have CT := Lib.hid (l12Code_no p c h s 0 0 A B n m ca cb own other true _ HA1.out HB1.out)
  clear hA hB
  by_cases hct : codeW p c h s own other true = 0
  · obtain ⟨hs0, ht0⟩ := codeW_sums hct
    obtain ⟨hv, hp1, hp2, hN⟩ := codeT_ok (codeW_T hct)
    have hvv := isVar_yes hv
    obtain ⟨c', rfl⟩ : ∃ c' : Nat, c = c' := ⟨c.toNat, by omega⟩
    obtain ⟨h', rfl⟩ : ∃ h' : Nat, h = h' := ⟨h.toNat, by omega⟩
    obtain ⟨s', rfl⟩ : ∃ s' : Nat, s = s' := ⟨s.toNat, by omega⟩
    have HP1 := Lib.hid (posB_pos hp1)
    have HP2 := Lib.hid (posB_pos hp2)
    simp only [Int.toNat_natCast] at hN
    have hnh : h' = n := by rw [← HAW.out.1]; exact (HP1.out.1).symm
    have hmh : h' = m := by rw [← HBW.out.1]; exact (HP2.out.1).symm
    subst hnh
    subst hmh
    have CNEW := Lib.hid fun (W : World) => l12New_any p c' h' s' W hv hN
    have HW1 : Hid (chanR p c' h' s' own other = match allS (rollE s' own other) (rollsN s') with | none => ([], 3) | some xs => (xs, 0)) := by
      unfold Hid chanR
      rw [if_pos hct, Int.toNat_natCast]
      rfl
    rw [hct] at CT
    have HS0 := Lib.hid hs0
    have HT0 := Lib.hid ht0
    clear hct hv hp1 hp2 hN hvv hs0 ht0
    go_enter Tryz.func47, Tryz.ntmps47
    go_wp2_with (fail)
    refine CT.out.mono ?_
    rintro e w1 ⟨rfl, hb1⟩
    have HF2 := Lib.hid (HF1.out.below hb1)
    clear CT hb1 HF1 HA1 HB1
    have z0 : w.heap.size < w1.heap.size := HF2.out.ltA 0 rfl (by simp)
    have c00 := HF2.out.cellA (b := w.heap.size) 0 0 rfl rfl
    have f00 := HF2.out.frozA (b := w.heap.size) 0 0 rfl rfl
    have c01 := HF2.out.cellA (b := w.heap.size) 0 1 rfl rfl
    have f01 := HF2.out.frozA (b := w.heap.size) 0 1 rfl rfl
    have c02 := HF2.out.cellA (b := w.heap.size) 0 2 rfl rfl
    have f02 := HF2.out.frozA (b := w.heap.size) 0 2 rfl rfl
    have c03 := HF2.out.cellA (b := w.heap.size) 0 3 rfl rfl
    have f03 := HF2.out.frozA (b := w.heap.size) 0 3 rfl rfl
    go_wp2_with (fail)
    refine (CNEW.out _).mono ?_
    rintro e w2 ⟨t, _, hc', hh', hs', rfl, hok, hI, hlow, hbt, hb2⟩
    clear z0 c00 f00 c01 f01 c02 f02 c03 f03
    have HF3 := Lib.hid (HF2.out.below hb2)
    have HLW : Hid (∀ k, t.S k → w.heap.size ≤ k) := fun k hk => Nat.le_trans HF2.out.b.size (hlow k hk)
    have CH : Hid (Calls Tryz.prog 120 #[.pointer (some ⟨t.bt, 0, none⟩), .slice A h' ca, .slice B h' cb] w2 (RetCh t w2 (allS (rollE s' own other) (rollsN s')))) := by
      have hA2 := (SQ.of_sl HAW.out HLW.out).below HF3.out.b
      have hB2 := (SQ.of_sl HBW.out HLW.out).below HF3.out.b
      have hpp1 := HP1.out
      have hpp2 := HP2.out
      subst hc' hh' hs'
      exact l12Chances_any t hok hpp1 hpp2 HS0.out HT0.out A B ca cb w2 hI hA2 hca hB2 hcb
    have HB3 := Lib.hid HF3.out.b
    clear HF2 HF3 hb2 hI hlow hbt hok hc' hh' hs' CNEW HP1 HP2 HS0 HT0
    go_wp2_with (fail)
    refine CH.out.mono ?_
    rintro e w3 ⟨_, hf3, hres⟩
    have HB4 := Lib.hid (frm_low HB3.out hf3 HLW.out)
    have hz2 : w.heap.size ≤ w2.heap.size := HB3.out.size
    clear CH hf3 HB3
    rcases hal : allS (rollE s' own other) (rollsN s') with _ | xs
    · have HWR : Hid (chanR p c' h' s' own other = ([], 3)) := by unfold Hid; rw [HW1.out, hal]
      rw [hal] at hres
      replace hres := (show e = .returned (.tuple #[.slice none 0 0, .bool false]) from hres)
      subst hres
      clear hal
      go_wp2_with (fail)
      go_ret2
      exact RetEs.no HWR.out HB4.out
    · have HWR : Hid (chanR p c' h' s' own other = (xs, 0)) := by unfold Hid; rw [HW1.out, hal]
      rw [hal] at hres
      obtain ⟨v, rfl, ho⟩ := (show ∃ v, e = .returned (.tuple #[v, .bool true]) ∧ OwnE w3 w2.heap.size v xs from hres)
      have HO := Lib.hid ho
      clear hal ho
      go_wp2_with (fail)
      go_ret2
      exact RetEs.yes HWR.out hz2 HO.out HB4.out
  · have HWR : Hid (chanR p c h s own other = ([], codeW p c h s own other true)) := by
      unfold Hid chanR
      rw [if_neg hct]
    generalize codeW p c h s own other true = k at *
    have b0 : (k != 0) = true := by simp [hct]
    clear hct
    go_enter Tryz.func47, Tryz.ntmps47
    go_wp2_with (fail)
    refine CT.out.mono ?_
    rintro e w1 ⟨rfl, hb1⟩
    have HF2 := Lib.hid (HF1.out.below hb1)
    clear CT hb1 HF1 HA1 HB1
    have z0 : w.heap.size < w1.heap.size := HF2.out.ltA 0 rfl (by simp)
    have c00 := HF2.out.cellA (b := w.heap.size) 0 0 rfl rfl
    have f00 := HF2.out.frozA (b := w.heap.size) 0 0 rfl rfl
    have c01 := HF2.out.cellA (b := w.heap.size) 0 1 rfl rfl
    have f01 := HF2.out.frozA (b := w.heap.size) 0 1 rfl rfl
    have c02 := HF2.out.cellA (b := w.heap.size) 0 2 rfl rfl
    have f02 := HF2.out.frozA (b := w.heap.size) 0 2 rfl rfl
    have c03 := HF2.out.cellA (b := w.heap.size) 0 3 rfl rfl
    have f03 := HF2.out.frozA (b := w.heap.size) 0 3 rfl rfl
    go_wp2_with (fail)
    go_ret2
    exact RetEs.no HWR.out HF2.out.b
set_option maxRecDepth 100000 in
set_option maxHeartbeats 4000000 in
theorem sResultChances_any (p c h s ra rb : Int) (A B : Option Addr) (n m ca cb : Nat) (own other : List Int) (w : World) (hA : SL w A n own) (hB : SL w B m other) (hca : n ≤ ca) (hcb : m ≤ cb) :
    Calls Tryz.prog 54 #[.agg #[.int .i64 p, .int .i64 c, .int .i64 h, .int .i64 s], .slice A n ca, .slice B m cb, .agg #[.int .i64 ra, .int .i64 rb]] w (RetEs w (chsR p c h s ra rb own other)) := by
  obtain ⟨i0, hi, iz0, iz1, iz2⟩ := info_parts Tryz.infoE
  have HF1 : Hid (Fr w ((w.alloc (.cells #[.int .i64 p, .int .i64 c, .int .i64 h, .int .i64 s] 29)).alloc (.cells #[.int .i64 ra, .int .i64 rb] 39)) [[.int .i64 p, .int .i64 c, .int .i64 h, .int .i64 s], [.int .i64 ra, .int .i64 rb]]) := ((Fr.start w).allocT (by simp) _ _).allocT (by simp) _ _
  have HA1 := Lib.hid (hA.below HF1.out.b)
  have HB1 := Lib.hid (hB.below HF1.out.b)
  have HAW := Lib.hid hA
  have HBW := Lib.hid hB
  have CT := Lib.hid (l12Code_yes p c h s ra rb A B n m ca cb own other true _ HA1.out HB1.out)
  clear hA hB
  by_cases hct : codeK p c h s ra rb own other true = 0
  · obtain ⟨ht, hro, hsum⟩ := codeK_ok hct
    obtain ⟨hv, hp1, hp2, hN⟩ := codeT_ok ht
    have hvv := isVar_yes hv
    obtain ⟨a, b, rfl, rfl, ha1, ha2, hb1, hb2⟩ := rollB_nat hro
    obtain ⟨c', rfl⟩ : ∃ c' : Nat, c = c' := ⟨c.toNat, by omega⟩
    obtain ⟨h', rfl⟩ : ∃ h' : Nat, h = h' := ⟨h.toNat, by omega⟩
    obtain ⟨s', rfl⟩ : ∃ s' : Nat, s = s' := ⟨s.toNat, by omega⟩
    have hs1 : 1 ≤ s' := by omega
    have hs6 : s' ≤ 6 := by omega
    have hh1 : 0 < h' := by omega
    have hh24 : h' ≤ 24 := by omega
    obtain ⟨hq1, hq36, _⟩ := sq_bd hs1 hs6
    have HP1 := Lib.hid (posB_pos hp1)
    have HP2 := Lib.hid (posB_pos hp2)
    simp only [Int.toNat_natCast] at hN
    have hnh : h' = n := by rw [← HAW.out.1]; exact (HP1.out.1).symm
    have hmh : h' = m := by rw [← HBW.out.1]; exact (HP2.out.1).symm
    subst hnh
    subst hmh
    have CNEW := Lib.hid fun (W : World) => l12New_any p c' h' s' W hv hN
    have HPP := HP1.out
    have hs0 : other.sum ≠ 0 := fun h0 => hsum (.inr ⟨rfl, .inr h0⟩)
    have HS0 := Lib.hid hs0
    have CRES := Lib.hid fun (t : RT2) (W : World) (hx : SQ t.S W A h' own) (hS : ∀ k, W.heap.size ≤ k → ¬ t.S k) => l10Results_any t.S p c' h' s' A h' ca a b own W hx.1 hca ⟨HPP.1, HPP.2.1, by have := HPP.2.2; omega⟩ hh24 hh1 hb1 hb2 (by omega) hS
    have HRP : Hid (∀ q ∈ resultsL own a b, PosP h' c' q) := fun q h => (results_pos (by omega) hb1 HPP q h).1
    have hlen : (resultsL own a b).length ≤ 1000000 := Nat.le_trans (results_len (by omega) hb1 HPP hh24) (by omega)
    have HW0 : Hid (chsR p c' h' s' a b own other = match allQ (sec s' other) (resultsL own a b) with | none => ([], 3) | some xs => (xs, 0)) := by
      unfold Hid chsR
      rw [if_pos hct]
      simp only [Int.toNat_natCast]
      rfl
    rw [hct] at CT
    clear hct ht hro hsum hv hp1 hp2 hN hvv HPP ha1 ha2 hb1 hb2 hs0
    generalize resultsL own a b = L at *
    generalize hnl : L.length = nl at *
    have HNL := Lib.hid hnl
    clear hnl
    go_enter Tryz.func54, Tryz.ntmps54
    go_wp2_with (fail)
    refine CT.out.mono ?_
    rintro e w1 ⟨rfl, hb1⟩
    have HF2 := Lib.hid (HF1.out.below hb1)
    clear CT hb1 HF1 HA1 HB1
    have z0 : w.heap.size < w1.heap.size := HF2.out.ltA 0 rfl (by simp)
    have c00 := HF2.out.cellA (b := w.heap.size) 0 0 rfl rfl
    have f00 := HF2.out.frozA (b := w.heap.size) 0 0 rfl rfl
    have c01 := HF2.out.cellA (b := w.heap.size) 0 1 rfl rfl
    have f01 := HF2.out.frozA (b := w.heap.size) 0 1 rfl rfl
    have c02 := HF2.out.cellA (b := w.heap.size) 0 2 rfl rfl
    have f02 := HF2.out.frozA (b := w.heap.size) 0 2 rfl rfl
    have c03 := HF2.out.cellA (b := w.heap.size) 0 3 rfl rfl
    have f03 := HF2.out.frozA (b := w.heap.size) 0 3 rfl rfl
    have z1 : w.heap.size + 1 < w1.heap.size := HF2.out.ltA 1 rfl (by simp)
    have c10 := HF2.out.cellA (b := w.heap.size + 1) 1 0 rfl rfl
    have f10 := HF2.out.frozA (b := w.heap.size + 1) 1 0 rfl rfl
    have c11 := HF2.out.cellA (b := w.heap.size + 1) 1 1 rfl rfl
    have f11 := HF2.out.frozA (b := w.heap.size + 1) 1 1 rfl rfl
    go_wp2_with (fail)
    refine (CNEW.out _).mono ?_
    rintro e w2 ⟨t, _, hc', hh', hs', rfl, hok, hI, hlow, hbt, hb2⟩
    clear z0 c00 f00 c01 f01 c02 f02 c03 f03 z1 c10 f10 c11 f11
    have HF3 := Lib.hid (HF2.out.below hb2)
    have HLW : Hid (∀ k, t.S k → w.heap.size ≤ k) := fun k hk => Nat.le_trans HF2.out.b.size (hlow k hk)
    have HA3 := Lib.hid ((SQ.of_sl HAW.out HLW.out).below HF3.out.b)
    have CRES1 := Lib.hid (CRES.out t w2 HA3.out (fun k hk h => by have := hI.ltS k h; omega))
    have z0 : w.heap.size < w2.heap.size := HF3.out.ltA 0 rfl (by simp)
    have c00 := HF3.out.cellA (b := w.heap.size) 0 0 rfl rfl
    have f00 := HF3.out.frozA (b := w.heap.size) 0 0 rfl rfl
    have c01 := HF3.out.cellA (b := w.heap.size) 0 1 rfl rfl
    have f01 := HF3.out.frozA (b := w.heap.size) 0 1 rfl rfl
    have c02 := HF3.out.cellA (b := w.heap.size) 0 2 rfl rfl
    have f02 := HF3.out.frozA (b := w.heap.size) 0 2 rfl rfl
    have c03 := HF3.out.cellA (b := w.heap.size) 0 3 rfl rfl
    have f03 := HF3.out.frozA (b := w.heap.size) 0 3 rfl rfl
    have z1 : w.heap.size + 1 < w2.heap.size := HF3.out.ltA 1 rfl (by simp)
    have c10 := HF3.out.cellA (b := w.heap.size + 1) 1 0 rfl rfl
    have f10 := HF3.out.frozA (b := w.heap.size + 1) 1 0 rfl rfl
    have c11 := HF3.out.cellA (b := w.heap.size + 1) 1 1 rfl rfl
    have f11 := HF3.out.frozA (b := w.heap.size + 1) 1 1 rfl rfl
    clear HF2 hb2 CRES HA3
    have HI2 := Lib.hid hI
    clear hI hlow hbt
    go_wp2_with (fail)
    refine CRES1.out.mono ?_
    rintro e w3 ⟨bl, ol, n3, cl, rfl, hpl, hcl, hb3⟩
    clear z0 c00 f00 c01 f01 c02 f02 c03 f03 z1 c10 f10 c11 f11
    have hln := hpl.len
    rw [HNL.out] at hln
    subst hln
    have HPL := Lib.hid hpl
    have HSZ : Hid (∀ k, t.S k → k < w3.heap.size) := fun k hk => Nat.lt_of_lt_of_le (HI2.out.ltS k hk) hb3.size
    have HI0 : Hid (TabI t (w3.alloc (.cells #[] 26))) := (HI2.out.below hb3).alloc _
    have HB0 : Hid (Below w.heap.size w w3) := HF3.out.b.trans (hb3.mono HF3.out.b.size)
    have hz0 : w.heap.size ≤ w3.heap.size := HB0.out.size
    have CB := Lib.hid fun (W : World) (q : List Int) (Aq : Option Addr) (cq : Nat) (hI : TabI t W) (hq : PosP h' c' q) (hA : SQ t.S W Aq h' q) (hB : SQ t.S W B h' other) (hcq : h' ≤ cq) =>
      after_at hc' hh' hs' hok hI hq HP2.out HS0.out hA hB hcq hcb
    have HBT : Hid (t.bt < w3.heap.size) := Nat.lt_of_lt_of_le HI2.out.ltB hb3.size
    have HO0 : Hid (OwnE (w3.alloc (.cells #[] 26)) w3.heap.size (.slice (some ⟨w3.heap.size, 0, none⟩) 0 0) []) := by
      have := row_made w3 (base := w3.heap.size) 26 (z := 2) (n := 0) #[] (Nat.le_refl _) (by unfold maxLen; omega) rfl
      exact this
    have HFA : Hid (Frm t.S w3 (w3.alloc (.cells #[] 26))) := (Frm.refl _ _).alloc _
    clear hc' hh' hs' hok HF3 CNEW HI2 hb3 hpl CRES1 HP1 HP2 HS0
    go_wp2_with (fail)
    go_loopw [13, 14] (fun v12 v31 wr => ∃ (k : Nat) (xs : List E), k ≤ nl ∧ v31 = .int .i64 k ∧ Hid (allQ (sec s' other) (L.take k) = some xs ∧ xs.length = k) ∧ (∃ vx, vx = v12 ∧ Hid (OwnE wr w3.heap.size vx xs)) ∧ Hid (TabI t wr) ∧ Hid (Frm t.S w3 wr)) (fun _ v31 _ => nl - (intOf v31).toNat)
    case atStart => exact ⟨0, [], by omega, rfl, ⟨rfl, rfl⟩, ⟨_, rfl, HO0.out⟩, HI0.out, HFA.out⟩
    case round =>
      clear HI0 HO0 HFA
      obtain ⟨k, xs, hk, rfl, hxs, ⟨vx, rfl, HO⟩, HI, HFw⟩ := hrel
      have hxk := hxs.out.2
      have HXK := Lib.hid hxk
      clear hxk
      by_cases hlt : k < nl
      · have hki : (k : Int) < (nl : Int) := by omega
        have hzr : w3.heap.size ≤ wr.heap.size := HFw.out.size
        have HLK : Hid (k < L.length) := by unfold Hid; rw [HNL.out]; exact hlt
        have HNR : Hid (∀ j, some j = vx.ownBlock → ¬ t.S j) := fun j hj h => by have := (World.ownsRow.lt HO.out j hj.symm).1; have := HSZ.out j h; omega
        obtain ⟨_, _, Bq, mq, cq, hA3, hzl, hcq, hsq, hmq⟩ := HPL.out.atF HFw.out hlt
        injection hA3 with hA3
        injection hA3 with hA4 hA5
        subst hA4 hA5
        have hqp := HRP.out _ (getD_mem' L [] HLK.out)
        have hmh : h' = mq := by rw [← hsq.1.1]; exact hqp.1.symm
        subst hmh
        have hBW : Below w.heap.size w wr := frm_low HB0.out HFw.out HLW.out
        have CB1 := Lib.hid (CB.out wr _ _ _ HI.out hqp (hsq.frm HFw.out) ((SQ.of_sl HBW.out HLW.out).below hBW) hmq)
        clear hsq hqp
        rcases hbs : sec s' other (L.getD k []) with _ | ⟨xn, xd⟩
        · have HRE : Hid (chsR p c' h' s' a b own other = ([], 3)) := by
            unfold Hid
            rw [HW0.out, allQ_stop HLK.out hxs.out.1 hbs]
          rw [hbs] at CB1
          clear hbs
          go_wp2_with (fail)
          refine CB1.out.mono ?_
          rintro e w4 ⟨rfl, hI2, hf2⟩
          have HF2 := Lib.hid (frm_low hBW hf2 HLW.out)
          unfold exV
          simp only [Option.getD_none, Option.isSome_none]
          clear hI2 hf2 HFw HI HO CB1 hBW
          go_wp2_with (fail)
          go_ret2
          exact RetEs.no HRE.out (alw HF2.out (Nat.le_refl _))
        · have HXS : Hid (allQ (sec s' other) (L.take (k + 1)) = some (xs ++ [⟨xn, xd⟩])) := allQ_go HLK.out hxs.out.1 hbs
          rw [hbs] at CB1
          clear hbs hBW
          go_wp2_with (fail)
          refine CB1.out.mono ?_
          rintro e w4 ⟨rfl, hI2, hf2⟩
          have HF3 : Hid (Frm t.S w3 ((w4.alloc (.cells #[.int .i64 xn, .int .i64 (xd : Int)] 26)).alloc (.cells #[.int .i64 xn, .int .i64 (xd : Int)] 26))) := ((HFw.out.trans hf2).alloc _).alloc _
          have HI3 : Hid (TabI t ((w4.alloc (.cells #[.int .i64 xn, .int .i64 (xd : Int)] 26)).alloc (.cells #[.int .i64 xn, .int .i64 (xd : Int)] 26))) := (hI2.alloc _).alloc _
          have HROW : Hid (((w4.alloc (.cells #[.int .i64 xn, .int .i64 (xd : Int)] 26)).alloc (.cells #[.int .i64 xn, .int .i64 (xd : Int)] 26)).ownsRow w3.heap.size 26 2 vx xs.length (exC xs)) :=
            row_alloc (row_alloc (hf2.row HO.out fun j hj => HNR.out j hj.symm) _) _
          have HVL := Lib.hid fun (j : Nat) (hj : vx.ownBlock = some j) => World.ownsRow.lt HO.out j hj
          have hzs := Lib.hid (Nat.le_trans hzr hf2.size)
          unfold exV
          simp only [Option.getD_some, Option.isSome_some]
          clear hI2 hf2 HFw HI HO CB1
          have hzq : w3.heap.size ≤ w4.heap.size := hzs.out
          have hTN : Hid (∀ j u, [Value.int .i64 xn, .int .i64 (xd : Int)][j]? = some u → ((w4.alloc (.cells #[.int .i64 xn, .int .i64 (xd : Int)] 26)).alloc (.cells #[.int .i64 xn, .int .i64 (xd : Int)] 26)).cell? ((⟨w4.heap.size + 1, 0, none⟩ : Addr).add j) = some u) := by
            have h := two_new (w4.alloc (.cells #[.int .i64 xn, .int .i64 (xd : Int)] 26)) xn (xd : Int) 26
            rw [show (w4.alloc (.cells #[.int .i64 xn, .int .i64 (xd : Int)] 26)).heap.size = w4.heap.size + 1 by simp] at h
            exact h
          go_wp2_with (at_builtin; (refine wpList_append_own_at _ rfl _ _ 54 rfl w3.heap.size 26 i0 (.agg #[.int .i64 0, .int .i64 0]) 2 16 Tryz.underlying54 hi iz0 iz1 iz2 rfl (by decide) _ _ _ rfl HROW.out ⟨w4.heap.size + 1, 0, none⟩ 1 1 [.int .i64 xn, .int .i64 (xd : Int)] rfl rfl hTN.out (two_cells _ _) (by have := HXK.out; unfold maxLen; omega) (by have := HXK.out; omega) (by simp; omega) ?_); intro v' w5 hown hgrow _ hat)
          have HI4 : Hid (TabI t w5) := HI3.out.frm (Frm.of_grown hgrow) (fun x hx h => by have := (HVL.out x hx.symm).1; have := HSZ.out x h; omega) (fun h => by have := (HVL.out _ h.symm).1; have := HBT.out; omega)
          have HF4 : Hid (Frm t.S w3 w5) := HF3.out.outs (Frm.of_grown hgrow) fun x hx => (HVL.out x hx.symm).1
          have HO4 : Hid (OwnE w5 w3.heap.size v' (xs ++ [⟨xn, xd⟩])) := by
            unfold Hid OwnE
            rw [exC_snoc, List.length_append]
            exact hown
          have HL4 : Hid ((xs ++ [(⟨xn, xd⟩ : E)]).length = k + 1) := by unfold Hid; rw [List.length_append, HXK.out]; rfl
          clear hown hgrow hat HI3 HF3 HROW
          go_wp2_with (fail)
          go_roundw
          case rel => exact ⟨k + 1, xs ++ [⟨xn, xd⟩], by omega, by go_num, ⟨HXS.out, HL4.out⟩, ⟨_, rfl, HO4⟩, HI4, HF4⟩
          case measure => (simp [intOf]) <;> omega
      · have hke : k = nl := by omega
        have HRE : Hid (chsR p c' h' s' a b own other = (xs, 0)) := by
          have h := hxs.out.1
          rw [List.take_of_length_le (by rw [HNL.out]; omega)] at h
          unfold Hid
          rw [HW0.out, h]
        have HBW2 := Lib.hid (frm_low HB0.out HFw.out HLW.out)
        clear hxs HI HFw
        go_wp2_with (fail)
        go_ret2
        exact RetEs.yes HRE.out hz0 HO.out HBW2.out
  · have HWR : Hid (chsR p c h s ra rb own other = ([], codeK p c h s ra rb own other true)) := by
      unfold Hid chsR
      rw [if_neg hct]
    generalize codeK p c h s ra rb own other true = k at *
    have b0 : (k != 0) = true := by simp [hct]
    clear hct
    go_enter Tryz.func54, Tryz.ntmps54
    go_wp2_with (fail)
    refine CT.out.mono ?_
    rintro e w1 ⟨rfl, hb1⟩
    have HF2 := Lib.hid (HF1.out.below hb1)
    clear CT hb1 HF1 HA1 HB1
    have z0 : w.heap.size < w1.heap.size := HF2.out.ltA 0 rfl (by simp)
    have c00 := HF2.out.cellA (b := w.heap.size) 0 0 rfl rfl
    have f00 := HF2.out.frozA (b := w.heap.size) 0 0 rfl rfl
    have c01 := HF2.out.cellA (b := w.heap.size) 0 1 rfl rfl
    have f01 := HF2.out.frozA (b := w.heap.size) 0 1 rfl rfl
    have c02 := HF2.out.cellA (b := w.heap.size) 0 2 rfl rfl
    have f02 := HF2.out.frozA (b := w.heap.size) 0 2 rfl rfl
    have c03 := HF2.out.cellA (b := w.heap.size) 0 3 rfl rfl
    have f03 := HF2.out.frozA (b := w.heap.size) 0 3 rfl rfl
    have z1 : w.heap.size + 1 < w1.heap.size := HF2.out.ltA 1 rfl (by simp)
    have c10 := HF2.out.cellA (b := w.heap.size + 1) 1 0 rfl rfl
    have f10 := HF2.out.frozA (b := w.heap.size + 1) 1 0 rfl rfl
    have c11 := HF2.out.cellA (b := w.heap.size + 1) 1 1 rfl rfl
    have f11 := HF2.out.frozA (b := w.heap.size + 1) 1 1 rfl rfl
    go_wp2_with (fail)
    go_ret2
    exact RetEs.no HWR.out HF2.out.b
end Go.Proofs.YtlbkfhdnhalpbaaGreat

/- Contracts of NewDesk and of what the laws do with desks. There are no conditions. -/
import Derived.Test.YtlbkfhdnhalpbaaBase2
namespace Go.Proofs.Ytlbkfhdnhalpbaa
set_option linter.unusedVariables false
set_option linter.unusedSimpArgs false
open Go.RowKit

/-- A call hands back a new desk: two slices of its own that share nothing, no past. -/
def RetD (w : World) (p ch h s seed : Int) (own : List Int) (en : Ending) (w' : World) : Prop := ∃ A1 c1 A2 c2 A3 c3, en = .returned (.tuple #[.agg #[.int .i64 p, .int .i64 ch, .int .i64 h, .int .i64 s, .slice A1 own.length c1, .slice A2 own.length c2, .int .i64 0, .int .i64 0, .int .i64 seed, .slice A3 0 c3], .int .i64 0]) ∧
  OwnS w' w.heap.size 2 (.slice A1 own.length c1) own ∧ OwnS w' w.heap.size 2 (.slice A2 own.length c2) own ∧
  ((Value.slice A1 own.length c1).ownBlock = none ∨ (Value.slice A1 own.length c1).ownBlock ≠ (Value.slice A2 own.length c2).ownBlock) ∧ Below w.heap.size w w'

/-- A variant with a first board. -/
def startB (p c h s : Int) : Bool := isVar p c h s && decide (4 ≤ p)
theorem l34Start_any (p ch h s : Int) (w : World) :
    Calls Try.prog 22 #[.agg #[.int .i64 p, .int .i64 ch, .int .i64 h, .int .i64 s]] w fun e w' => e = .returned (.bool (startB p ch h s)) ∧ Below w.heap.size w w' := by
  have HB : Hid (Below w.heap.size w (w.alloc (.cells #[.int .i64 p, .int .i64 ch, .int .i64 h, .int .i64 s] 24))) := (Below.refl _ _).alloc (Nat.le_refl _) _
  by_cases hv : isVar p ch h s = true
  · by_cases hp : 4 ≤ p
    · have HF : Hid (startB p ch h s = true) := by simp [startB, hv, hp, Hid]
      go_enter Try.func22, Try.ntmps22
      go_wp2_with (go_at_call 21; refine (more_first (sIsVariant_any _ _ _ _ _)).mono ?_; rintro e w' ⟨rfl, t, rfl⟩)
      go_ret
      exact ⟨by rw [HF.out]; rfl, HB.out.trans ((below_more _ _).mono HB.out.size)⟩
    · have HF : Hid (startB p ch h s = false) := by simp [startB, hp, Hid]
      have hd : decide (4 ≤ p) = false := by simp; omega
      go_enter Try.func22, Try.ntmps22
      go_wp2_with (go_at_call 21; refine (more_first (sIsVariant_any _ _ _ _ _)).mono ?_; rintro e w' ⟨rfl, t, rfl⟩)
      go_ret
      exact ⟨by rw [HF.out]; rfl, HB.out.trans ((below_more _ _).mono HB.out.size)⟩
  · replace hv : isVar p ch h s = false := by simpa using hv
    have HF : Hid (startB p ch h s = false) := by simp [startB, hv, Hid]
    go_enter Try.func22, Try.ntmps22
    go_wp2_with (go_at_call 21; refine (more_first (sIsVariant_any _ _ _ _ _)).mono ?_; rintro e w' ⟨rfl, t, rfl⟩)
    go_ret
    exact ⟨by rw [HF.out]; rfl, HB.out.trans ((below_more _ _).mono HB.out.size)⟩

set_option maxRecDepth 100000 in
theorem NewDesk_yes (P : Nat) (ch h s seed : Int) (w : World) (hv : isVar P ch h s = true) (hP4 : 4 ≤ P) (hs : seedB seed = true) :
    Calls Try.prog 8 #[.agg #[.int .i64 P, .int .i64 ch, .int .i64 h, .int .i64 s], .int .i64 seed] w (RetD w P ch h s seed (startL P ch h s)) := by
  go_enter Try.func8, Try.ntmps8
  go_wp2_with (first | (go_at_call 25; refine (more_first (IsVariant_any _ _ _ _ _)).mono ?_; rintro e w' ⟨rfl, t, rfl⟩) | (go_at_call 26; refine (StartBoard_yes P ch h s _ hv hP4).mono ?_; rintro e w1 ⟨A1, k1, A2, k2, rfl, ho1, ho2, hap, hb⟩; have HO1 := Lib.hid ho1; have HO2 := Lib.hid ho2; have HA := Lib.hid hap; obtain ⟨t1, rfl⟩ := more_step hb; clear ho1 ho2 hap hb) | (go_at_call 27; refine (isSeed_any _ _).mono ?_; rintro e w2 ⟨rfl, rfl⟩))
  refine bodyPost_ret (v := .tuple #[.agg #[.int .i64 (P : Int), .int .i64 ch, .int .i64 h, .int .i64 s, .slice A1 (startL P ch h s).length k1, .slice A2 (startL P ch h s).length k2, .int .i64 0, .int .i64 0, .int .i64 seed, .slice none 0 0], .int .i64 0]) (by simp (config := { maxDischargeDepth := 6 }) [results, Try.results8, go_sem]) rfl ?_
  have hlt : w.heap.size + 1 < (more ((w.alloc (.cells #[.int .i64 (P : Int), .int .i64 ch, .int .i64 h, .int .i64 s] 24)).alloc (.cells #[.int .i64 0, .int .i64 0, .int .i64 0, .int .i64 0, .slice none 0 0, .slice none 0 0, .int .i64 0, .int .i64 0, .int .i64 0, .slice none 0 0] 32)) t).heap.size := by have := size_more ((w.alloc (.cells #[.int .i64 (P : Int), .int .i64 ch, .int .i64 h, .int .i64 s] 24)).alloc (.cells #[.int .i64 0, .int .i64 0, .int .i64 0, .int .i64 0, .slice none 0 0, .slice none 0 0, .int .i64 0, .int .i64 0, .int .i64 0, .slice none 0 0] 32)) t; simp at this ⊢; omega
  have hle : w.heap.size ≤ (more ((w.alloc (.cells #[.int .i64 (P : Int), .int .i64 ch, .int .i64 h, .int .i64 s] 24)).alloc (.cells #[.int .i64 0, .int .i64 0, .int .i64 0, .int .i64 0, .slice none 0 0, .slice none 0 0, .int .i64 0, .int .i64 0, .int .i64 0, .slice none 0 0] 32)) t).heap.size := by omega
  have HB : Below w.heap.size w (more ((w.alloc (.cells #[.int .i64 (P : Int), .int .i64 ch, .int .i64 h, .int .i64 s] 24)).alloc (.cells #[.int .i64 0, .int .i64 0, .int .i64 0, .int .i64 0, .slice none 0 0, .slice none 0 0, .int .i64 0, .int .i64 0, .int .i64 0, .slice none 0 0] 32)) t1) := (((Below.refl _ _).alloc (Nat.le_refl _) _).alloc (by simp) _).trans ((below_more _ t1).mono (by simp; omega))
  have hle1 : w.heap.size ≤ (more ((w.alloc (.cells #[.int .i64 (P : Int), .int .i64 ch, .int .i64 h, .int .i64 s] 24)).alloc (.cells #[.int .i64 0, .int .i64 0, .int .i64 0, .int .i64 0, .slice none 0 0, .slice none 0 0, .int .i64 0, .int .i64 0, .int .i64 0, .slice none 0 0] 32)) t1).heap.size := HB.size
  exact ⟨A1, k1, A2, k2, _, _, rfl, (((((((((((HO1.out.setLow (a := ⟨w.heap.size + 1, 0, none⟩) (by exact hlt) _).setLow (a := ⟨w.heap.size + 1, 1, none⟩) (by exact hlt) _).setLow (a := ⟨w.heap.size + 1, 2, none⟩) (by exact hlt) _).setLow (a := ⟨w.heap.size + 1, 3, none⟩) (by exact hlt) _).setLow (a := ⟨w.heap.size + 1, 4, none⟩) (by exact hlt) _).setLow (a := ⟨w.heap.size + 1, 5, none⟩) (by exact hlt) _).setLow (a := ⟨w.heap.size + 1, 6, none⟩) (by exact hlt) _).setLow (a := ⟨w.heap.size + 1, 7, none⟩) (by exact hlt) _).setLow (a := ⟨w.heap.size + 1, 8, none⟩) (by exact hlt) _).setLow (a := ⟨w.heap.size + 1, 9, none⟩) (by exact hlt) _).alloc _).mono hle, (((((((((((HO2.out.setLow (a := ⟨w.heap.size + 1, 0, none⟩) (by exact hlt) _).setLow (a := ⟨w.heap.size + 1, 1, none⟩) (by exact hlt) _).setLow (a := ⟨w.heap.size + 1, 2, none⟩) (by exact hlt) _).setLow (a := ⟨w.heap.size + 1, 3, none⟩) (by exact hlt) _).setLow (a := ⟨w.heap.size + 1, 4, none⟩) (by exact hlt) _).setLow (a := ⟨w.heap.size + 1, 5, none⟩) (by exact hlt) _).setLow (a := ⟨w.heap.size + 1, 6, none⟩) (by exact hlt) _).setLow (a := ⟨w.heap.size + 1, 7, none⟩) (by exact hlt) _).setLow (a := ⟨w.heap.size + 1, 8, none⟩) (by exact hlt) _).setLow (a := ⟨w.heap.size + 1, 9, none⟩) (by exact hlt) _).alloc _).mono hle, HA.out, ((((((((((HB.setCell (p := ⟨w.heap.size + 1, 0, none⟩) (by simp) _).setCell (p := ⟨w.heap.size + 1, 1, none⟩) (by simp) _).setCell (p := ⟨w.heap.size + 1, 2, none⟩) (by simp) _).setCell (p := ⟨w.heap.size + 1, 3, none⟩) (by simp) _).setCell (p := ⟨w.heap.size + 1, 4, none⟩) (by simp) _).setCell (p := ⟨w.heap.size + 1, 5, none⟩) (by simp) _).setCell (p := ⟨w.heap.size + 1, 6, none⟩) (by simp) _).setCell (p := ⟨w.heap.size + 1, 7, none⟩) (by simp) _).setCell (p := ⟨w.heap.size + 1, 8, none⟩) (by simp) _).setCell (p := ⟨w.heap.size + 1, 9, none⟩) (by simp) _).alloc (by simp; exact hle1) _⟩

set_option maxRecDepth 100000 in
theorem sNewDesk_yes (P : Nat) (ch h s seed : Int) (w : World) (hv : isVar P ch h s = true) (hP4 : 4 ≤ P) (hs : seedB seed = true) :
    Calls Try.prog 6 #[.agg #[.int .i64 P, .int .i64 ch, .int .i64 h, .int .i64 s], .int .i64 seed] w (RetD w P ch h s seed (startL P ch h s)) := by
  have hst : startB P ch h s = true := by simp [startB, hv]; omega
  go_enter Try.func6, Try.ntmps6
  go_wp2_with (first | (go_at_call 21; refine (more_first (sIsVariant_any _ _ _ _ _)).mono ?_; rintro e w' ⟨rfl, t, rfl⟩) | (go_at_call 22; refine (more_call (l34Start_any _ _ _ _ _)).mono ?_; rintro e w' ⟨rfl, t, rfl⟩) | (go_at_call 24; refine (sStartBoard_yes P ch h s _ hv hP4).mono ?_; rintro e w1 ⟨A1, k1, A2, k2, rfl, ho1, ho2, hap, hb⟩; have HO1 := Lib.hid ho1; have HO2 := Lib.hid ho2; have HA := Lib.hid hap; obtain ⟨t1, rfl⟩ := more_step hb; clear ho1 ho2 hap hb) | (go_at_call 23; refine (l07Seed_any _ _).mono ?_; rintro e w2 ⟨rfl, rfl⟩))
  refine bodyPost_ret (v := .tuple #[.agg #[.int .i64 (P : Int), .int .i64 ch, .int .i64 h, .int .i64 s, .slice A1 (startL P ch h s).length k1, .slice A2 (startL P ch h s).length k2, .int .i64 0, .int .i64 0, .int .i64 seed, .slice (some ⟨(more ((w.alloc (.cells #[.int .i64 (P : Int), .int .i64 ch, .int .i64 h, .int .i64 s] 24)).alloc (.cells #[.int .i64 0, .int .i64 0, .int .i64 0, .int .i64 0, .slice none 0 0, .slice none 0 0, .int .i64 0, .int .i64 0, .int .i64 0, .slice none 0 0] 32)) t1).heap.size + 1, 0, none⟩) 0 0], .int .i64 0]) (by simp (config := { maxDischargeDepth := 6 }) [results, Try.results6, go_sem]) rfl ?_
  have hlt : w.heap.size + 1 < (more ((w.alloc (.cells #[.int .i64 (P : Int), .int .i64 ch, .int .i64 h, .int .i64 s] 24)).alloc (.cells #[.int .i64 0, .int .i64 0, .int .i64 0, .int .i64 0, .slice none 0 0, .slice none 0 0, .int .i64 0, .int .i64 0, .int .i64 0, .slice none 0 0] 32)) t).heap.size := by have := size_more ((w.alloc (.cells #[.int .i64 (P : Int), .int .i64 ch, .int .i64 h, .int .i64 s] 24)).alloc (.cells #[.int .i64 0, .int .i64 0, .int .i64 0, .int .i64 0, .slice none 0 0, .slice none 0 0, .int .i64 0, .int .i64 0, .int .i64 0, .slice none 0 0] 32)) t; simp at this ⊢; omega
  have hle : w.heap.size ≤ (more ((w.alloc (.cells #[.int .i64 (P : Int), .int .i64 ch, .int .i64 h, .int .i64 s] 24)).alloc (.cells #[.int .i64 0, .int .i64 0, .int .i64 0, .int .i64 0, .slice none 0 0, .slice none 0 0, .int .i64 0, .int .i64 0, .int .i64 0, .slice none 0 0] 32)) t).heap.size := by omega
  have HB : Below w.heap.size w (more ((w.alloc (.cells #[.int .i64 (P : Int), .int .i64 ch, .int .i64 h, .int .i64 s] 24)).alloc (.cells #[.int .i64 0, .int .i64 0, .int .i64 0, .int .i64 0, .slice none 0 0, .slice none 0 0, .int .i64 0, .int .i64 0, .int .i64 0, .slice none 0 0] 32)) t1) := (((Below.refl _ _).alloc (Nat.le_refl _) _).alloc (by simp) _).trans ((below_more _ t1).mono (by simp; omega))
  have hle1 : w.heap.size ≤ (more ((w.alloc (.cells #[.int .i64 (P : Int), .int .i64 ch, .int .i64 h, .int .i64 s] 24)).alloc (.cells #[.int .i64 0, .int .i64 0, .int .i64 0, .int .i64 0, .slice none 0 0, .slice none 0 0, .int .i64 0, .int .i64 0, .int .i64 0, .slice none 0 0] 32)) t1).heap.size := HB.size
  exact ⟨A1, k1, A2, k2, _, _, rfl, ((((((((((((HO1.out.alloc _).alloc _).setLow (a := ⟨w.heap.size + 1, 0, none⟩) (by exact hlt) _).setLow (a := ⟨w.heap.size + 1, 1, none⟩) (by exact hlt) _).setLow (a := ⟨w.heap.size + 1, 2, none⟩) (by exact hlt) _).setLow (a := ⟨w.heap.size + 1, 3, none⟩) (by exact hlt) _).setLow (a := ⟨w.heap.size + 1, 4, none⟩) (by exact hlt) _).setLow (a := ⟨w.heap.size + 1, 5, none⟩) (by exact hlt) _).setLow (a := ⟨w.heap.size + 1, 6, none⟩) (by exact hlt) _).setLow (a := ⟨w.heap.size + 1, 7, none⟩) (by exact hlt) _).setLow (a := ⟨w.heap.size + 1, 8, none⟩) (by exact hlt) _).setLow (a := ⟨w.heap.size + 1, 9, none⟩) (by exact hlt) _).mono hle, ((((((((((((HO2.out.alloc _).alloc _).setLow (a := ⟨w.heap.size + 1, 0, none⟩) (by exact hlt) _).setLow (a := ⟨w.heap.size + 1, 1, none⟩) (by exact hlt) _).setLow (a := ⟨w.heap.size + 1, 2, none⟩) (by exact hlt) _).setLow (a := ⟨w.heap.size + 1, 3, none⟩) (by exact hlt) _).setLow (a := ⟨w.heap.size + 1, 4, none⟩) (by exact hlt) _).setLow (a := ⟨w.heap.size + 1, 5, none⟩) (by exact hlt) _).setLow (a := ⟨w.heap.size + 1, 6, none⟩) (by exact hlt) _).setLow (a := ⟨w.heap.size + 1, 7, none⟩) (by exact hlt) _).setLow (a := ⟨w.heap.size + 1, 8, none⟩) (by exact hlt) _).setLow (a := ⟨w.heap.size + 1, 9, none⟩) (by exact hlt) _).mono hle, HA.out, ((((((((((((HB.alloc hle1 _).alloc (by simp; omega) _).setCell (p := ⟨w.heap.size + 1, 0, none⟩) (by simp) _).setCell (p := ⟨w.heap.size + 1, 1, none⟩) (by simp) _).setCell (p := ⟨w.heap.size + 1, 2, none⟩) (by simp) _).setCell (p := ⟨w.heap.size + 1, 3, none⟩) (by simp) _).setCell (p := ⟨w.heap.size + 1, 4, none⟩) (by simp) _).setCell (p := ⟨w.heap.size + 1, 5, none⟩) (by simp) _).setCell (p := ⟨w.heap.size + 1, 6, none⟩) (by simp) _).setCell (p := ⟨w.heap.size + 1, 7, none⟩) (by simp) _).setCell (p := ⟨w.heap.size + 1, 8, none⟩) (by simp) _).setCell (p := ⟨w.heap.size + 1, 9, none⟩) (by simp) _)⟩

def ndCode (p c h s seed : Int) : Int := if isVar p c h s = true then (if 4 ≤ p ∧ seedB seed = true then 0 else 2) else 1
set_option maxHeartbeats 600000 in
set_option maxRecDepth 100000 in
theorem NewDesk_no (p ch h s seed : Int) (w : World) (hno : ¬ (isVar p ch h s = true ∧ 4 ≤ p ∧ seedB seed = true)) :
    Calls Try.prog 8 #[.agg #[.int .i64 p, .int .i64 ch, .int .i64 h, .int .i64 s], .int .i64 seed] w fun e w' => e = .returned (.tuple #[.agg #[.int .i64 0, .int .i64 0, .int .i64 0, .int .i64 0, .slice none 0 0, .slice none 0 0, .int .i64 0, .int .i64 0, .int .i64 0, .slice none 0 0], .int .i64 (ndCode p ch h s seed)]) ∧ Below w.heap.size w w' := by
  have HB : Hid (Below w.heap.size w ((w.alloc (.cells #[.int .i64 p, .int .i64 ch, .int .i64 h, .int .i64 s] 24)).alloc (.cells #[.int .i64 0, .int .i64 0, .int .i64 0, .int .i64 0, .slice none 0 0, .slice none 0 0, .int .i64 0, .int .i64 0, .int .i64 0, .slice none 0 0] 32))) := ((Below.refl _ _).alloc (Nat.le_refl _) _).alloc (by simp) _
  by_cases hv : isVar p ch h s = true
  · have HC : Hid (ndCode p ch h s seed = 2) := by
      unfold ndCode Hid
      rw [if_pos hv, if_neg fun h => hno ⟨hv, h⟩]
    by_cases hp : 4 ≤ p
    · have hs : seedB seed = false := by
        cases hs : seedB seed with
        | false => rfl
        | true => exact absurd ⟨hv, hp, hs⟩ hno
      have hst : startB p ch h s = true := by simp [startB, hv]; omega
      have hp0 : 0 ≤ p := by omega
      clear hno
      obtain ⟨P, rfl⟩ := Int.eq_ofNat_of_zero_le hp0
      have hP4 : 4 ≤ P := by omega
      go_enter Try.func8, Try.ntmps8
      go_wp2_with (first | (go_at_call 25; refine (more_first (IsVariant_any _ _ _ _ _)).mono ?_; rintro e w' ⟨rfl, t, rfl⟩) | (go_at_call 26; refine (StartBoard_yes P ch h s _ hv hP4).mono ?_; rintro e w1 ⟨A1, k1, A2, k2, rfl, ho1, ho2, hap, hb⟩; obtain ⟨t1, rfl⟩ := more_step hb; clear ho1 ho2 hap hb) | (go_at_call 26; refine (more_call (StartBoard_no _ _ _ _ _ HV.out)).mono ?_; rintro e w' ⟨rfl, t, rfl⟩) | (go_at_call 27; refine (isSeed_any _ _).mono ?_; rintro e w2 ⟨rfl, rfl⟩))
      refine bodyPost_ret (v := .tuple #[.agg #[.int .i64 0, .int .i64 0, .int .i64 0, .int .i64 0, .slice none 0 0, .slice none 0 0, .int .i64 0, .int .i64 0, .int .i64 0, .slice none 0 0], .int .i64 2]) (by simp (config := { maxDischargeDepth := 6 }) [results, Try.results8, go_sem]) rfl ⟨by rw [HC.out], ?_⟩
      have hsz := HB.out.size
      have HBt := fun t => HB.out.trans ((below_more _ t).mono HB.out.size)
      have hst := fun t => (HBt t).size
      repeat (with_reducible first | exact HBt _ | refine Below.setCell ?_ (by simp) _ | refine Below.alloc ?_ (by simp; exact hst _) _)
    · have hst : startB p ch h s = false := by simp [startB]; omega
      have HV := Lib.hid (fun h => hp h.2 : ¬ (isVar p ch h s = true ∧ 4 ≤ p))
      clear hno
      go_enter Try.func8, Try.ntmps8
      go_wp2_with (first | (go_at_call 25; refine (more_first (IsVariant_any _ _ _ _ _)).mono ?_; rintro e w' ⟨rfl, t, rfl⟩) | (go_at_call 26; refine (StartBoard_yes P ch h s _ hv hP4).mono ?_; rintro e w1 ⟨A1, k1, A2, k2, rfl, ho1, ho2, hap, hb⟩; obtain ⟨t1, rfl⟩ := more_step hb; clear ho1 ho2 hap hb) | (go_at_call 26; refine (more_call (StartBoard_no _ _ _ _ _ HV.out)).mono ?_; rintro e w' ⟨rfl, t, rfl⟩) | (go_at_call 27; refine (isSeed_any _ _).mono ?_; rintro e w2 ⟨rfl, rfl⟩))
      refine bodyPost_ret (v := .tuple #[.agg #[.int .i64 0, .int .i64 0, .int .i64 0, .int .i64 0, .slice none 0 0, .slice none 0 0, .int .i64 0, .int .i64 0, .int .i64 0, .slice none 0 0], .int .i64 2]) (by simp (config := { maxDischargeDepth := 6 }) [results, Try.results8, go_sem]) rfl ⟨by rw [HC.out], ?_⟩
      have hsz := HB.out.size
      have HBt := fun t => HB.out.trans ((below_more _ t).mono HB.out.size)
      have hst := fun t => (HBt t).size
      repeat (with_reducible first | exact HBt _ | refine Below.setCell ?_ (by simp) _ | refine Below.alloc ?_ (by simp; exact hst _) _)
  · have hv : isVar p ch h s = false := by simpa using hv
    have HC : Hid (ndCode p ch h s seed = 1) := by
      unfold ndCode Hid
      rw [if_neg (by simp [hv])]
    have hst : startB p ch h s = false := by simp [startB, hv]
    clear hno
    go_enter Try.func8, Try.ntmps8
    go_wp2_with (first | (go_at_call 25; refine (more_first (IsVariant_any _ _ _ _ _)).mono ?_; rintro e w' ⟨rfl, t, rfl⟩) | (go_at_call 26; refine (StartBoard_yes P ch h s _ hv hP4).mono ?_; rintro e w1 ⟨A1, k1, A2, k2, rfl, ho1, ho2, hap, hb⟩; obtain ⟨t1, rfl⟩ := more_step hb; clear ho1 ho2 hap hb) | (go_at_call 26; refine (more_call (StartBoard_no _ _ _ _ _ HV.out)).mono ?_; rintro e w' ⟨rfl, t, rfl⟩) | (go_at_call 27; refine (isSeed_any _ _).mono ?_; rintro e w2 ⟨rfl, rfl⟩))
    refine bodyPost_ret (v := .tuple #[.agg #[.int .i64 0, .int .i64 0, .int .i64 0, .int .i64 0, .slice none 0 0, .slice none 0 0, .int .i64 0, .int .i64 0, .int .i64 0, .slice none 0 0], .int .i64 1]) (by simp (config := { maxDischargeDepth := 6 }) [results, Try.results8, go_sem]) rfl ⟨by rw [HC.out], ?_⟩
    have hsz := HB.out.size
    have HBt := fun t => HB.out.trans ((below_more _ t).mono HB.out.size)
    have hst := fun t => (HBt t).size
    repeat (with_reducible first | exact HBt _ | refine Below.setCell ?_ (by simp) _ | refine Below.alloc ?_ (by simp; exact hst _) _)
set_option maxHeartbeats 600000 in
set_option maxRecDepth 100000 in
theorem sNewDesk_no (p ch h s seed : Int) (w : World) (hno : ¬ (isVar p ch h s = true ∧ 4 ≤ p ∧ seedB seed = true)) :
    Calls Try.prog 6 #[.agg #[.int .i64 p, .int .i64 ch, .int .i64 h, .int .i64 s], .int .i64 seed] w fun e w' => e = .returned (.tuple #[.agg #[.int .i64 0, .int .i64 0, .int .i64 0, .int .i64 0, .slice none 0 0, .slice none 0 0, .int .i64 0, .int .i64 0, .int .i64 0, .slice none 0 0], .int .i64 (ndCode p ch h s seed)]) ∧ Below w.heap.size w w' := by
  have HB : Hid (Below w.heap.size w ((w.alloc (.cells #[.int .i64 p, .int .i64 ch, .int .i64 h, .int .i64 s] 24)).alloc (.cells #[.int .i64 0, .int .i64 0, .int .i64 0, .int .i64 0, .slice none 0 0, .slice none 0 0, .int .i64 0, .int .i64 0, .int .i64 0, .slice none 0 0] 32))) := ((Below.refl _ _).alloc (Nat.le_refl _) _).alloc (by simp) _
  by_cases hv : isVar p ch h s = true
  · have HC : Hid (ndCode p ch h s seed = 2) := by
      unfold ndCode Hid
      rw [if_pos hv, if_neg fun h => hno ⟨hv, h⟩]
    by_cases hp : 4 ≤ p
    · have hs : seedB seed = false := by
        cases hs : seedB seed with
        | false => rfl
        | true => exact absurd ⟨hv, hp, hs⟩ hno
      have hst : startB p ch h s = true := by simp [startB, hv]; omega
      have hp0 : 0 ≤ p := by omega
      clear hno
      obtain ⟨P, rfl⟩ := Int.eq_ofNat_of_zero_le hp0
      have hP4 : 4 ≤ P := by omega
      go_enter Try.func6, Try.ntmps6
      go_wp2_with (first | (go_at_call 21; refine (more_first (sIsVariant_any _ _ _ _ _)).mono ?_; rintro e w' ⟨rfl, t, rfl⟩) | (go_at_call 22; refine (more_call (l34Start_any _ _ _ _ _)).mono ?_; rintro e w' ⟨rfl, t, rfl⟩) | (go_at_call 23; refine (l07Seed_any _ _).mono ?_; rintro e w2 ⟨rfl, rfl⟩))
      refine bodyPost_ret (v := .tuple #[.agg #[.int .i64 0, .int .i64 0, .int .i64 0, .int .i64 0, .slice none 0 0, .slice none 0 0, .int .i64 0, .int .i64 0, .int .i64 0, .slice none 0 0], .int .i64 2]) (by simp (config := { maxDischargeDepth := 6 }) [results, Try.results6, go_sem]) rfl ⟨by rw [HC.out], ?_⟩
      have hsz := HB.out.size
      have HBt := fun t => HB.out.trans ((below_more _ t).mono HB.out.size)
      have hst := fun t => (HBt t).size
      repeat (with_reducible first | exact HBt _ | refine Below.setCell ?_ (by simp) _ | refine Below.alloc ?_ (by simp; exact hst _) _)
    · have hst : startB p ch h s = false := by simp [startB]; omega
      have HV := Lib.hid (fun h => hp h.2 : ¬ (isVar p ch h s = true ∧ 4 ≤ p))
      clear hno
      go_enter Try.func6, Try.ntmps6
      go_wp2_with (first | (go_at_call 21; refine (more_first (sIsVariant_any _ _ _ _ _)).mono ?_; rintro e w' ⟨rfl, t, rfl⟩) | (go_at_call 22; refine (more_call (l34Start_any _ _ _ _ _)).mono ?_; rintro e w' ⟨rfl, t, rfl⟩) | (go_at_call 23; refine (l07Seed_any _ _).mono ?_; rintro e w2 ⟨rfl, rfl⟩))
      refine bodyPost_ret (v := .tuple #[.agg #[.int .i64 0, .int .i64 0, .int .i64 0, .int .i64 0, .slice none 0 0, .slice none 0 0, .int .i64 0, .int .i64 0, .int .i64 0, .slice none 0 0], .int .i64 2]) (by simp (config := { maxDischargeDepth := 6 }) [results, Try.results6, go_sem]) rfl ⟨by rw [HC.out], ?_⟩
      have hsz := HB.out.size
      have HBt := fun t => HB.out.trans ((below_more _ t).mono HB.out.size)
      have hst := fun t => (HBt t).size
      repeat (with_reducible first | exact HBt _ | refine Below.setCell ?_ (by simp) _ | refine Below.alloc ?_ (by simp; exact hst _) _)
  · have hv : isVar p ch h s = false := by simpa using hv
    have HC : Hid (ndCode p ch h s seed = 1) := by
      unfold ndCode Hid
      rw [if_neg (by simp [hv])]
    have hst : startB p ch h s = false := by simp [startB, hv]
    clear hno
    go_enter Try.func6, Try.ntmps6
    go_wp2_with (first | (go_at_call 21; refine (more_first (sIsVariant_any _ _ _ _ _)).mono ?_; rintro e w' ⟨rfl, t, rfl⟩) | (go_at_call 22; refine (more_call (l34Start_any _ _ _ _ _)).mono ?_; rintro e w' ⟨rfl, t, rfl⟩) | (go_at_call 23; refine (l07Seed_any _ _).mono ?_; rintro e w2 ⟨rfl, rfl⟩))
    refine bodyPost_ret (v := .tuple #[.agg #[.int .i64 0, .int .i64 0, .int .i64 0, .int .i64 0, .slice none 0 0, .slice none 0 0, .int .i64 0, .int .i64 0, .int .i64 0, .slice none 0 0], .int .i64 1]) (by simp (config := { maxDischargeDepth := 6 }) [results, Try.results6, go_sem]) rfl ⟨by rw [HC.out], ?_⟩
    have hsz := HB.out.size
    have HBt := fun t => HB.out.trans ((below_more _ t).mono HB.out.size)
    have hst := fun t => (HBt t).size
    repeat (with_reducible first | exact HBt _ | refine Below.setCell ?_ (by simp) _ | refine Below.alloc ?_ (by simp; exact hst _) _)
end Go.Proofs.Ytlbkfhdnhalpbaa

/- Contracts of IsBoard, the program's and the reference's. There are no conditions. -/
import Derived.Test.YtkjlafcnmniomaaDoorA2
namespace Go.Proofs.YtkjlafcnmniomaaDoor
set_option linter.unusedVariables false
set_option linter.unusedSimpArgs false
open Go.RowKit



set_option maxHeartbeats 1000000 in
theorem IsBoard_any (p ch h s : Int) (A1 A2 : Option Addr) (n1 c1 n2 c2 : Nat) (own other : List Int) (w : World) (h1 : SL w A1 n1 own) (h2 : SL w A2 n2 other) (hn1 : n1 ≤ 2000000) (hn2 : n2 ≤ 2000000) :
    Calls Tryd.prog 43 #[.agg #[.int .i64 p, .int .i64 ch, .int .i64 h, .int .i64 s], .agg #[.slice A1 n1 c1, .slice A2 n2 c2]] w fun e w' => e = .returned (.bool (boardB p ch h s own other)) ∧ Below w.heap.size w w' := by
  have HB : Hid (Below w.heap.size w ((w.alloc (.cells #[.int .i64 p, .int .i64 ch, .int .i64 h, .int .i64 s] 34)).alloc (.cells #[.slice A1 n1 c1, .slice A2 n2 c2] 35))) := ((Below.refl _ _).alloc (Nat.le_refl _) _).alloc (by simp) _
  have H1 := Lib.hid (h1.below HB.out)
  have H2 := Lib.hid (h2.below HB.out)
  clear h1 h2
  by_cases hv : isVar p ch h s = true
  · obtain ⟨hp0, hp24, hc0, hc15, _⟩ := isVar_yes hv
    replace hp0 : 0 ≤ p := by omega
    replace hc0 : 0 ≤ ch := by omega
    by_cases hs1 : sideB p ch own = true
    · by_cases hs2 : sideB p ch other = true
      · obtain ⟨P, rfl⟩ := Int.eq_ofNat_of_zero_le hp0
        obtain ⟨hl1, hq1, hm1⟩ := sideB_yes hs1
        obtain ⟨hl2, hq2, hm2⟩ := sideB_yes hs2
        have e1 : n1 = P + 1 := by rw [← H1.out.1]; omega
        have e2 : n2 = P + 1 := by rw [← H2.out.1]; omega
        have CT1 := Lib.hid fun t => total_any A1 n1 c1 own (more _ t) (H1.out.more t) hq1 (by omega) hn1
        have CT2 := Lib.hid fun t => total_any A2 n2 c2 other (more _ t) (H2.out.more t) hq2 (by omega) hn2
        have g1 := sum_nonneg own hq1
        have g2 := sum_nonneg other hq2
        have HZ := Lib.hid (board_zero (p := P) (c := ch) (h := h) (s := s) (own := own) (other := other))
        have HH := Lib.hid fun k => board_hit (c := ch) (h := h) (s := s) (P := P) (own := own) (other := other) (k := k)
        have HM := Lib.hid (board_mk (s := s) hv hs1 hs2)
        clear hl1 hl2 hm1 hm2 hq1 hq2
        subst e1 e2
        generalize hS1 : own.sum = S1 at *
        generalize hS2 : other.sum = S2 at *
        clear hS1 hS2
        by_cases hz1 : S1 = 0
        · by_cases hz2 : S2 = 0
          · have HF := Lib.hid (HZ.out (by omega))
            have b1 : (S1 == 0) = true := by simp [hz1]
            have b2 : (S2 == 0) = true := by simp [hz2]
            clear hz1 hz2
            go_enter Tryd.func43, Tryd.ntmps43
            go_wp2_with (first | (go_at_call 42; refine (more_first (IsVariant_any _ _ _ _ _)).mono ?_; rintro e w' ⟨rfl, t, rfl⟩) | (go_at_call_of 59 A1; refine (more_call (isSide_any _ _ _ _ _ _ _ _ _ (H1.out.more _) hn1 hp0 (by omega) hc0 hc15)).mono ?_; rintro e w' ⟨rfl, t, rfl⟩) | (go_at_call_of 59 A2; refine (more_call (isSide_any _ _ _ _ _ _ _ _ _ (H2.out.more _) hn2 hp0 (by omega) hc0 hc15)).mono ?_; rintro e w' ⟨rfl, t, rfl⟩) | (go_at_call_of 60 A1; refine (CT1.out _).mono ?_; rintro e w' ⟨rfl, rfl⟩) | (go_at_call_of 60 A2; refine (CT2.out _).mono ?_; rintro e w' ⟨rfl, rfl⟩))
            go_ret
            exact ⟨by rw [HF.out]; rfl, HB.out.trans ((below_more _ _).mono HB.out.size)⟩
          · have hne : S1 + S2 ≠ 0 := by omega
            have HM := Lib.hid (HM.out hne)
            have b1 : (S1 == 0) = true := by simp [hz1]
            have b2 : (S2 == 0) = false := by simp [hz2]
            clear hz1 hz2 hne HZ
            go_enter Tryd.func43, Tryd.ntmps43
            go_wp2_with (first | (go_at_call 42; refine (more_first (IsVariant_any _ _ _ _ _)).mono ?_; rintro e w' ⟨rfl, t, rfl⟩) | (go_at_call_of 59 A1; refine (more_call (isSide_any _ _ _ _ _ _ _ _ _ (H1.out.more _) hn1 hp0 (by omega) hc0 hc15)).mono ?_; rintro e w' ⟨rfl, t, rfl⟩) | (go_at_call_of 59 A2; refine (more_call (isSide_any _ _ _ _ _ _ _ _ _ (H2.out.more _) hn2 hp0 (by omega) hc0 hc15)).mono ?_; rintro e w' ⟨rfl, t, rfl⟩) | (go_at_call_of 60 A1; refine (CT1.out _).mono ?_; rintro e w' ⟨rfl, rfl⟩) | (go_at_call_of 60 A2; refine (CT2.out _).mono ?_; rintro e w' ⟨rfl, rfl⟩))
            go_loop [37] (fun i => ∃ k : Nat, k ≤ P ∧ i = .int .i64 k ∧ Hid (∀ i, i < k → ¬ (0 < own.getD i 0 ∧ 0 < other.getD (P - 1 - i) 0))) (fun i => P - (intOf i).toNat)
            case atStart => exact ⟨0, by omega, rfl, by intro i hi; omega⟩
            case round =>
              obtain ⟨k, hk, rfl, hall⟩ := hrel
              by_cases hlt : k < P
              · obtain ⟨x1, o1, rfl, hb1, hcl1⟩ := (H1.out.more t).2 (by omega)
                obtain ⟨x2, o2, rfl, hb2, hcl2⟩ := (H2.out.more t).2 (by omega)
                have q1 := hcl1 k (by omega)
                have q2 := hcl2 (P - 1 - k) (by omega)
                have HK := Lib.hid (HH.out k hlt)
                have HS : Hid (¬ (0 < own.getD k 0 ∧ 0 < other.getD (P - 1 - k) 0) → ∀ i, i < k + 1 → ¬ (0 < own.getD i 0 ∧ 0 < other.getD (P - 1 - i) 0)) := by
                  intro hn i hi
                  by_cases e : i = k
                  · subst e; exact hn
                  · exact hall.out i (by omega)
                have a0 : (P : Int) - 1 - (k : Int) < (P : Int) + 1 := by omega
                have a1 : 0 ≤ (P : Int) - 1 - (k : Int) := by omega
                have a2 : ((P : Int) - 1 - (k : Int)).toNat = P - 1 - k := by omega
                clear hcl1 hcl2 hall
                generalize own.getD k 0 = u1 at *
                generalize other.getD (P - 1 - k) 0 = u2 at *
                by_cases g1 : 0 < u1
                · by_cases g2 : 0 < u2
                  · have HF := Lib.hid (HK.out g1 g2)
                    go_wp2
                    go_ret
                    exact ⟨by rw [HF.out]; rfl, HB.out.trans ((below_more _ _).mono HB.out.size)⟩
                  · have HS' := HS.out (by omega)
                    go_wp2
                    go_round
                    case rel => exact ⟨k + 1, by omega, by go_num, HS'⟩
                    case measure => simp [intOf]; omega
                · have HS' := HS.out (by omega)
                  go_wp2
                  go_round
                  case rel => exact ⟨k + 1, by omega, by go_num, HS'⟩
                  case measure => simp [intOf]; omega
              · obtain rfl : k = P := by omega
                have HF := Lib.hid (HM.out hall.out)
                go_wp2
                go_ret
                exact ⟨by rw [HF.out]; rfl, HB.out.trans ((below_more _ _).mono HB.out.size)⟩
        · have hne : S1 + S2 ≠ 0 := by omega
          have HM := Lib.hid (HM.out hne)
          have b1 : (S1 == 0) = false := by simp [hz1]
          clear hz1 hne HZ
          go_enter Tryd.func43, Tryd.ntmps43
          go_wp2_with (first | (go_at_call 42; refine (more_first (IsVariant_any _ _ _ _ _)).mono ?_; rintro e w' ⟨rfl, t, rfl⟩) | (go_at_call_of 59 A1; refine (more_call (isSide_any _ _ _ _ _ _ _ _ _ (H1.out.more _) hn1 hp0 (by omega) hc0 hc15)).mono ?_; rintro e w' ⟨rfl, t, rfl⟩) | (go_at_call_of 59 A2; refine (more_call (isSide_any _ _ _ _ _ _ _ _ _ (H2.out.more _) hn2 hp0 (by omega) hc0 hc15)).mono ?_; rintro e w' ⟨rfl, t, rfl⟩) | (go_at_call_of 60 A1; refine (CT1.out _).mono ?_; rintro e w' ⟨rfl, rfl⟩) | (go_at_call_of 60 A2; refine (CT2.out _).mono ?_; rintro e w' ⟨rfl, rfl⟩))
          go_loop [37] (fun i => ∃ k : Nat, k ≤ P ∧ i = .int .i64 k ∧ Hid (∀ i, i < k → ¬ (0 < own.getD i 0 ∧ 0 < other.getD (P - 1 - i) 0))) (fun i => P - (intOf i).toNat)
          case atStart => exact ⟨0, by omega, rfl, by intro i hi; omega⟩
          case round =>
            obtain ⟨k, hk, rfl, hall⟩ := hrel
            by_cases hlt : k < P
            · obtain ⟨x1, o1, rfl, hb1, hcl1⟩ := (H1.out.more t).2 (by omega)
              obtain ⟨x2, o2, rfl, hb2, hcl2⟩ := (H2.out.more t).2 (by omega)
              have q1 := hcl1 k (by omega)
              have q2 := hcl2 (P - 1 - k) (by omega)
              have HK := Lib.hid (HH.out k hlt)
              have HS : Hid (¬ (0 < own.getD k 0 ∧ 0 < other.getD (P - 1 - k) 0) → ∀ i, i < k + 1 → ¬ (0 < own.getD i 0 ∧ 0 < other.getD (P - 1 - i) 0)) := by
                intro hn i hi
                by_cases e : i = k
                · subst e; exact hn
                · exact hall.out i (by omega)
              have a0 : (P : Int) - 1 - (k : Int) < (P : Int) + 1 := by omega
              have a1 : 0 ≤ (P : Int) - 1 - (k : Int) := by omega
              have a2 : ((P : Int) - 1 - (k : Int)).toNat = P - 1 - k := by omega
              clear hcl1 hcl2 hall
              generalize own.getD k 0 = u1 at *
              generalize other.getD (P - 1 - k) 0 = u2 at *
              by_cases g1 : 0 < u1
              · by_cases g2 : 0 < u2
                · have HF := Lib.hid (HK.out g1 g2)
                  go_wp2
                  go_ret
                  exact ⟨by rw [HF.out]; rfl, HB.out.trans ((below_more _ _).mono HB.out.size)⟩
                · have HS' := HS.out (by omega)
                  go_wp2
                  go_round
                  case rel => exact ⟨k + 1, by omega, by go_num, HS'⟩
                  case measure => simp [intOf]; omega
              · have HS' := HS.out (by omega)
                go_wp2
                go_round
                case rel => exact ⟨k + 1, by omega, by go_num, HS'⟩
                case measure => simp [intOf]; omega
            · obtain rfl : k = P := by omega
              have HF := Lib.hid (HM.out hall.out)
              go_wp2
              go_ret
              exact ⟨by rw [HF.out]; rfl, HB.out.trans ((below_more _ _).mono HB.out.size)⟩
      · replace hs2 : sideB p ch other = false := by simpa using hs2
        have HF := Lib.hid (board_noother (h := h) (s := s) (own := own) hs2)
        go_enter Tryd.func43, Tryd.ntmps43
        go_wp2_with (first | (go_at_call 42; refine (more_first (IsVariant_any _ _ _ _ _)).mono ?_; rintro e w' ⟨rfl, t, rfl⟩) | (go_at_call_of 59 A1; refine (more_call (isSide_any _ _ _ _ _ _ _ _ _ (H1.out.more _) hn1 hp0 (by omega) hc0 hc15)).mono ?_; rintro e w' ⟨rfl, t, rfl⟩) | (go_at_call_of 59 A2; refine (more_call (isSide_any _ _ _ _ _ _ _ _ _ (H2.out.more _) hn2 hp0 (by omega) hc0 hc15)).mono ?_; rintro e w' ⟨rfl, t, rfl⟩) | (go_at_call_of 60 A1; refine (CT1.out _).mono ?_; rintro e w' ⟨rfl, rfl⟩) | (go_at_call_of 60 A2; refine (CT2.out _).mono ?_; rintro e w' ⟨rfl, rfl⟩))
        go_ret
        exact ⟨by rw [HF.out]; rfl, HB.out.trans ((below_more _ _).mono HB.out.size)⟩
    · replace hs1 : sideB p ch own = false := by simpa using hs1
      have HF := Lib.hid (board_noown (h := h) (s := s) (other := other) hs1)
      go_enter Tryd.func43, Tryd.ntmps43
      go_wp2_with (first | (go_at_call 42; refine (more_first (IsVariant_any _ _ _ _ _)).mono ?_; rintro e w' ⟨rfl, t, rfl⟩) | (go_at_call_of 59 A1; refine (more_call (isSide_any _ _ _ _ _ _ _ _ _ (H1.out.more _) hn1 hp0 (by omega) hc0 hc15)).mono ?_; rintro e w' ⟨rfl, t, rfl⟩) | (go_at_call_of 59 A2; refine (more_call (isSide_any _ _ _ _ _ _ _ _ _ (H2.out.more _) hn2 hp0 (by omega) hc0 hc15)).mono ?_; rintro e w' ⟨rfl, t, rfl⟩) | (go_at_call_of 60 A1; refine (CT1.out _).mono ?_; rintro e w' ⟨rfl, rfl⟩) | (go_at_call_of 60 A2; refine (CT2.out _).mono ?_; rintro e w' ⟨rfl, rfl⟩))
      go_ret
      exact ⟨by rw [HF.out]; rfl, HB.out.trans ((below_more _ _).mono HB.out.size)⟩
  · replace hv : isVar p ch h s = false := by simpa using hv
    have HF := Lib.hid (board_novar (own := own) (other := other) hv)
    go_enter Tryd.func43, Tryd.ntmps43
    go_wp2_with (first | (go_at_call 42; refine (more_first (IsVariant_any _ _ _ _ _)).mono ?_; rintro e w' ⟨rfl, t, rfl⟩) | (go_at_call_of 59 A1; refine (more_call (isSide_any _ _ _ _ _ _ _ _ _ (H1.out.more _) hn1 hp0 (by omega) hc0 hc15)).mono ?_; rintro e w' ⟨rfl, t, rfl⟩) | (go_at_call_of 59 A2; refine (more_call (isSide_any _ _ _ _ _ _ _ _ _ (H2.out.more _) hn2 hp0 (by omega) hc0 hc15)).mono ?_; rintro e w' ⟨rfl, t, rfl⟩) | (go_at_call_of 60 A1; refine (CT1.out _).mono ?_; rintro e w' ⟨rfl, rfl⟩) | (go_at_call_of 60 A2; refine (CT2.out _).mono ?_; rintro e w' ⟨rfl, rfl⟩))
    go_ret
    exact ⟨by rw [HF.out]; rfl, HB.out.trans ((below_more _ _).mono HB.out.size)⟩


set_option maxHeartbeats 1000000 in
theorem sIsBoard_any (p ch h s : Int) (A1 A2 : Option Addr) (n1 c1 n2 c2 : Nat) (own other : List Int) (w : World) (h1 : SL w A1 n1 own) (h2 : SL w A2 n2 other) (hn1 : n1 ≤ 2000000) (hn2 : n2 ≤ 2000000) :
    Calls Tryd.prog 33 #[.agg #[.int .i64 p, .int .i64 ch, .int .i64 h, .int .i64 s], .agg #[.slice A1 n1 c1, .slice A2 n2 c2]] w fun e w' => e = .returned (.bool (boardB p ch h s own other)) ∧ Below w.heap.size w w' := by
  have HB : Hid (Below w.heap.size w ((w.alloc (.cells #[.int .i64 p, .int .i64 ch, .int .i64 h, .int .i64 s] 34)).alloc (.cells #[.slice A1 n1 c1, .slice A2 n2 c2] 35))) := ((Below.refl _ _).alloc (Nat.le_refl _) _).alloc (by simp) _
  have H1 := Lib.hid (h1.below HB.out)
  have H2 := Lib.hid (h2.below HB.out)
  clear h1 h2
  by_cases hv : isVar p ch h s = true
  · obtain ⟨hp0, hp24, hc0, hc15, _⟩ := isVar_yes hv
    replace hp0 : 0 ≤ p := by omega
    replace hc0 : 0 ≤ ch := by omega
    by_cases hs1 : sideB p ch own = true
    · by_cases hs2 : sideB p ch other = true
      · obtain ⟨P, rfl⟩ := Int.eq_ofNat_of_zero_le hp0
        obtain ⟨hl1, hq1, hm1⟩ := sideB_yes hs1
        obtain ⟨hl2, hq2, hm2⟩ := sideB_yes hs2
        have e1 : n1 = P + 1 := by rw [← H1.out.1]; omega
        have e2 : n2 = P + 1 := by rw [← H2.out.1]; omega
        have CT1 := Lib.hid fun t => l02Sum_any A1 n1 c1 own (more _ t) (H1.out.more t) hq1 (by omega) hn1
        have CT2 := Lib.hid fun t => l02Sum_any A2 n2 c2 other (more _ t) (H2.out.more t) hq2 (by omega) hn2
        have g1 := sum_nonneg own hq1
        have g2 := sum_nonneg other hq2
        have HZ := Lib.hid (board_zero (p := P) (c := ch) (h := h) (s := s) (own := own) (other := other))
        have HH := Lib.hid fun k => board_hit (c := ch) (h := h) (s := s) (P := P) (own := own) (other := other) (k := k)
        have HM := Lib.hid (board_mk (s := s) hv hs1 hs2)
        have hm1' : own.sum ≤ 15 := by omega
        have hm2' : other.sum ≤ 15 := by omega
        clear hl1 hl2 hm1 hm2 hq1 hq2
        subst e1 e2
        generalize hS1 : own.sum = S1 at *
        generalize hS2 : other.sum = S2 at *
        clear hS1 hS2
        have hg1 : S1 ≤ 2000000 := by omega
        have hg2 : S2 ≤ 2000000 := by omega
        by_cases hz : S1 + S2 = 0
        · have HF := Lib.hid (HZ.out hz)
          have b1 : (S1 + S2 == 0) = true := by simp [hz]
          clear hz
          go_enter Tryd.func33, Tryd.ntmps33
          go_wp2_with (fail)
          refine wp_region_more (by kernel_rfl) (by kernel_rfl) ?_
          repeat (first | go_big_quiet_step ((first | (go_at_call 38; exact more_call (sIsVariant_any _ _ _ _ _)) | (go_at_call_of 53 A1; exact more_call (l02Side_any _ _ _ _ _ _ _ _ _ (H1.out.more _) hn1 hp0 (by omega) hc0 hc15)) | (go_at_call_of 53 A2; exact more_call (l02Side_any _ _ _ _ _ _ _ _ _ (H2.out.more _) hn2 hp0 (by omega) hc0 hc15)) | (go_at_call_of 54 A1; exact more_same (CT1.out _)) | (go_at_call_of 54 A2; exact more_same (CT2.out _)))) | quiet_step ((first | (go_at_call 38; exact more_call (sIsVariant_any _ _ _ _ _)) | (go_at_call_of 53 A1; exact more_call (l02Side_any _ _ _ _ _ _ _ _ _ (H1.out.more _) hn1 hp0 (by omega) hc0 hc15)) | (go_at_call_of 53 A2; exact more_call (l02Side_any _ _ _ _ _ _ _ _ _ (H2.out.more _) hn2 hp0 (by omega) hc0 hc15)) | (go_at_call_of 54 A1; exact more_same (CT1.out _)) | (go_at_call_of 54 A2; exact more_same (CT2.out _)))))
          refine wpQuiet_nil ?_
          intro _ hw'
          obtain ⟨t, hw''⟩ := hw'
          subst hw''
          go_wp2
          go_ret
          exact ⟨by rw [HF.out]; rfl, HB.out.trans ((below_more _ _).mono HB.out.size)⟩
        · have HM := Lib.hid (HM.out hz)
          have b1 : (S1 + S2 == 0) = false := by simp [hz]
          clear hz HZ
          go_enter Tryd.func33, Tryd.ntmps33
          go_wp2_with (fail)
          refine wp_region_more (by kernel_rfl) (by kernel_rfl) ?_
          repeat (first | go_big_quiet_step ((first | (go_at_call 38; exact more_call (sIsVariant_any _ _ _ _ _)) | (go_at_call_of 53 A1; exact more_call (l02Side_any _ _ _ _ _ _ _ _ _ (H1.out.more _) hn1 hp0 (by omega) hc0 hc15)) | (go_at_call_of 53 A2; exact more_call (l02Side_any _ _ _ _ _ _ _ _ _ (H2.out.more _) hn2 hp0 (by omega) hc0 hc15)) | (go_at_call_of 54 A1; exact more_same (CT1.out _)) | (go_at_call_of 54 A2; exact more_same (CT2.out _)))) | quiet_step ((first | (go_at_call 38; exact more_call (sIsVariant_any _ _ _ _ _)) | (go_at_call_of 53 A1; exact more_call (l02Side_any _ _ _ _ _ _ _ _ _ (H1.out.more _) hn1 hp0 (by omega) hc0 hc15)) | (go_at_call_of 53 A2; exact more_call (l02Side_any _ _ _ _ _ _ _ _ _ (H2.out.more _) hn2 hp0 (by omega) hc0 hc15)) | (go_at_call_of 54 A1; exact more_same (CT1.out _)) | (go_at_call_of 54 A2; exact more_same (CT2.out _)))))
          refine wpQuiet_nil ?_
          intro _ hw'
          obtain ⟨t, hw''⟩ := hw'
          subst hw''
          go_wp2
          go_loop [5] (fun i => ∃ k : Nat, k ≤ P ∧ i = .int .i64 k ∧ Hid (∀ i, i < k → ¬ (0 < own.getD i 0 ∧ 0 < other.getD (P - 1 - i) 0))) (fun i => P - (intOf i).toNat)
          case atStart => exact ⟨0, by omega, rfl, by intro i hi; omega⟩
          case round =>
            obtain ⟨k, hk, rfl, hall⟩ := hrel
            by_cases hlt : k < P
            · obtain ⟨x1, o1, rfl, hb1, hcl1⟩ := (H1.out.more t).2 (by omega)
              obtain ⟨x2, o2, rfl, hb2, hcl2⟩ := (H2.out.more t).2 (by omega)
              have q1 := hcl1 k (by omega)
              have q2 := hcl2 (P - 1 - k) (by omega)
              have HK := Lib.hid (HH.out k hlt)
              have HS : Hid (¬ (0 < own.getD k 0 ∧ 0 < other.getD (P - 1 - k) 0) → ∀ i, i < k + 1 → ¬ (0 < own.getD i 0 ∧ 0 < other.getD (P - 1 - i) 0)) := by
                intro hn i hi
                by_cases e : i = k
                · subst e; exact hn
                · exact hall.out i (by omega)
              have a0 : (P : Int) - 1 - (k : Int) < (P : Int) + 1 := by omega
              have a1 : 0 ≤ (P : Int) - 1 - (k : Int) := by omega
              have a2 : ((P : Int) - 1 - (k : Int)).toNat = P - 1 - k := by omega
              clear hcl1 hcl2 hall
              generalize own.getD k 0 = u1 at *
              generalize other.getD (P - 1 - k) 0 = u2 at *
              by_cases g1 : 0 < u1
              · by_cases g2 : 0 < u2
                · have HF := Lib.hid (HK.out g1 g2)
                  go_wp2
                  go_ret
                  exact ⟨by rw [HF.out]; rfl, HB.out.trans ((below_more _ _).mono HB.out.size)⟩
                · have HS' := HS.out (by omega)
                  go_wp2
                  go_round
                  case rel => exact ⟨k + 1, by omega, by go_num, HS'⟩
                  case measure => simp [intOf]; omega
              · have HS' := HS.out (by omega)
                go_wp2
                go_round
                case rel => exact ⟨k + 1, by omega, by go_num, HS'⟩
                case measure => simp [intOf]; omega
            · obtain rfl : k = P := by omega
              have HF := Lib.hid (HM.out hall.out)
              go_wp2
              go_ret
              exact ⟨by rw [HF.out]; rfl, HB.out.trans ((below_more _ _).mono HB.out.size)⟩
      · replace hs2 : sideB p ch other = false := by simpa using hs2
        have HF := Lib.hid (board_noother (h := h) (s := s) (own := own) hs2)
        go_enter Tryd.func33, Tryd.ntmps33
        go_wp2_with (fail)
        refine wp_region_more (by kernel_rfl) (by kernel_rfl) ?_
        repeat (first | go_big_quiet_step ((first | (go_at_call 38; exact more_call (sIsVariant_any _ _ _ _ _)) | (go_at_call_of 53 A1; exact more_call (l02Side_any _ _ _ _ _ _ _ _ _ (H1.out.more _) hn1 hp0 (by omega) hc0 hc15)) | (go_at_call_of 53 A2; exact more_call (l02Side_any _ _ _ _ _ _ _ _ _ (H2.out.more _) hn2 hp0 (by omega) hc0 hc15)) | (go_at_call_of 54 A1; exact more_same (CT1.out _)) | (go_at_call_of 54 A2; exact more_same (CT2.out _)))) | quiet_step ((first | (go_at_call 38; exact more_call (sIsVariant_any _ _ _ _ _)) | (go_at_call_of 53 A1; exact more_call (l02Side_any _ _ _ _ _ _ _ _ _ (H1.out.more _) hn1 hp0 (by omega) hc0 hc15)) | (go_at_call_of 53 A2; exact more_call (l02Side_any _ _ _ _ _ _ _ _ _ (H2.out.more _) hn2 hp0 (by omega) hc0 hc15)) | (go_at_call_of 54 A1; exact more_same (CT1.out _)) | (go_at_call_of 54 A2; exact more_same (CT2.out _)))))
        refine wpQuiet_nil ?_
        intro _ hw'
        obtain ⟨t, hw''⟩ := hw'
        subst hw''
        go_wp2
        go_ret
        exact ⟨by rw [HF.out]; rfl, HB.out.trans ((below_more _ _).mono HB.out.size)⟩
    · replace hs1 : sideB p ch own = false := by simpa using hs1
      have HF := Lib.hid (board_noown (h := h) (s := s) (other := other) hs1)
      go_enter Tryd.func33, Tryd.ntmps33
      go_wp2_with (fail)
      refine wp_region_more (by kernel_rfl) (by kernel_rfl) ?_
      repeat (first | go_big_quiet_step ((first | (go_at_call 38; exact more_call (sIsVariant_any _ _ _ _ _)) | (go_at_call_of 53 A1; exact more_call (l02Side_any _ _ _ _ _ _ _ _ _ (H1.out.more _) hn1 hp0 (by omega) hc0 hc15)) | (go_at_call_of 53 A2; exact more_call (l02Side_any _ _ _ _ _ _ _ _ _ (H2.out.more _) hn2 hp0 (by omega) hc0 hc15)) | (go_at_call_of 54 A1; exact more_same (CT1.out _)) | (go_at_call_of 54 A2; exact more_same (CT2.out _)))) | quiet_step ((first | (go_at_call 38; exact more_call (sIsVariant_any _ _ _ _ _)) | (go_at_call_of 53 A1; exact more_call (l02Side_any _ _ _ _ _ _ _ _ _ (H1.out.more _) hn1 hp0 (by omega) hc0 hc15)) | (go_at_call_of 53 A2; exact more_call (l02Side_any _ _ _ _ _ _ _ _ _ (H2.out.more _) hn2 hp0 (by omega) hc0 hc15)) | (go_at_call_of 54 A1; exact more_same (CT1.out _)) | (go_at_call_of 54 A2; exact more_same (CT2.out _)))))
      refine wpQuiet_nil ?_
      intro _ hw'
      obtain ⟨t, hw''⟩ := hw'
      subst hw''
      go_wp2
      go_ret
      exact ⟨by rw [HF.out]; rfl, HB.out.trans ((below_more _ _).mono HB.out.size)⟩
  · replace hv : isVar p ch h s = false := by simpa using hv
    have HF := Lib.hid (board_novar (own := own) (other := other) hv)
    go_enter Tryd.func33, Tryd.ntmps33
    go_wp2_with (fail)
    refine wp_region_more (by kernel_rfl) (by kernel_rfl) ?_
    repeat (first | go_big_quiet_step ((first | (go_at_call 38; exact more_call (sIsVariant_any _ _ _ _ _)) | (go_at_call_of 53 A1; exact more_call (l02Side_any _ _ _ _ _ _ _ _ _ (H1.out.more _) hn1 hp0 (by omega) hc0 hc15)) | (go_at_call_of 53 A2; exact more_call (l02Side_any _ _ _ _ _ _ _ _ _ (H2.out.more _) hn2 hp0 (by omega) hc0 hc15)) | (go_at_call_of 54 A1; exact more_same (CT1.out _)) | (go_at_call_of 54 A2; exact more_same (CT2.out _)))) | quiet_step ((first | (go_at_call 38; exact more_call (sIsVariant_any _ _ _ _ _)) | (go_at_call_of 53 A1; exact more_call (l02Side_any _ _ _ _ _ _ _ _ _ (H1.out.more _) hn1 hp0 (by omega) hc0 hc15)) | (go_at_call_of 53 A2; exact more_call (l02Side_any _ _ _ _ _ _ _ _ _ (H2.out.more _) hn2 hp0 (by omega) hc0 hc15)) | (go_at_call_of 54 A1; exact more_same (CT1.out _)) | (go_at_call_of 54 A2; exact more_same (CT2.out _)))))
    refine wpQuiet_nil ?_
    intro _ hw'
    obtain ⟨t, hw''⟩ := hw'
    subst hw''
    go_wp2
    go_ret
    exact ⟨by rw [HF.out]; rfl, HB.out.trans ((below_more _ _).mono HB.out.size)⟩
end Go.Proofs.YtkjlafcnmniomaaDoor

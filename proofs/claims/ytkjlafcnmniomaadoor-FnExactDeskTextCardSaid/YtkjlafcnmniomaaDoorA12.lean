/- Contract of the program's IsDesk. There are no conditions. -/
import Derived.Test.YtkjlafcnmniomaaDoorA11
namespace Go.Proofs.YtkjlafcnmniomaaDoor
set_option linter.unusedVariables false
set_option linter.unusedSimpArgs false
open Go.RowKit

set_option maxHeartbeats 2000000 in
set_option maxRecDepth 100000 in
theorem IsDesk_any (p c h s ra rb seed : Int) (A1 A2 A3 : Option Addr) (n1 c1 n2 c2 n3 c3 : Nat) (own other : List Int) (past : List (List Int × List Int)) (w : World) (h1 : SL w A1 n1 own) (h2 : SL w A2 n2 other) (h3 : SBs w A3 n3 past)
    (hn1 : n1 ≤ 2000000) (hn2 : n2 ≤ 2000000) (hn3 : n3 ≤ 2000000) (hm : ∀ b ∈ past, b.1.length ≤ 2000000 ∧ b.2.length ≤ 2000000) :
    Calls Tryd.prog 21 #[.agg #[.int .i64 p, .int .i64 c, .int .i64 h, .int .i64 s, .slice A1 n1 c1, .slice A2 n2 c2, .int .i64 ra, .int .i64 rb, .int .i64 seed, .slice A3 n3 c3]] w
      fun e w' => e = .returned (.bool (deskB p c h s own other ra rb seed past)) ∧ Below w.heap.size w w' := by
  have HB : Hid (Below w.heap.size w ((w.alloc (.cells #[.int .i64 p, .int .i64 c, .int .i64 h, .int .i64 s, .slice A1 n1 c1, .slice A2 n2 c2, .int .i64 ra, .int .i64 rb, .int .i64 seed, .slice A3 n3 c3] 39)).alloc (.cells #[.int .i64 p, .int .i64 c, .int .i64 h, .int .i64 s] 34))) := ((Below.refl _ _).alloc (Nat.le_refl _) _).alloc (by simp) _
  have H1 := Lib.hid (h1.below HB.out)
  have H2 := Lib.hid (h2.below HB.out)
  have H3 := Lib.hid h3
  have HM := Lib.hid hm
  have hq : ∀ W : World, (binOp .neq 36 (.agg #[.int .i64 ra, .int .i64 rb]) (.agg #[.int .i64 0, .int .i64 0])).run Tryd.prog W = .ok (.bool (!noneB ra rb)) W := fun W => neq_roll ra rb 0 0 W
  clear h1 h2 h3 hm
  by_cases g1 : isVar p c h s = true
  · by_cases g0 : 4 ≤ p
    · have hd4 : decide (p < 4) = false := by simp; omega
      have gs : Hid (startB p c h s = true) := by simp [startB, g1, g0, Hid]
      by_cases g2 : boardB p c h s own other = true
      · by_cases g4 : seedB seed = true
        · by_cases g5 : n3 ≤ 30
          · have hd5 : decide ((30 : Int) < (n3 : Int)) = false := by simp; omega
            have R : Hid (noneB ra rb = true ∨ rollB s ra rb = true) ∨ (noneB ra rb = false ∧ rollB s ra rb = false) := by
              cases noneB ra rb <;> cases rollB s ra rb <;> simp [Hid]
            rcases R with R | ⟨R1, R2⟩
            · have HY := Lib.hid (desk_yes (own := own) (other := other) (past := past) gs.out g2 R.out g4 (by rw [H3.out.1]; exact g5))
              cases R1 : noneB ra rb
              · have R2 : rollB s ra rb = true := by have := R.out; rw [R1] at this; simpa using this
                clear R
                rw [R1] at hq
                go_enter Tryd.func21, Tryd.ntmps21
                go_wp2_with (first | (go_at_call 42; refine (more_first (IsVariant_any _ _ _ _ _)).mono ?_; rintro e w' ⟨rfl, t, rfl⟩) | (go_at_call 43; refine (more_call (IsBoard_any _ _ _ _ _ _ _ _ _ _ _ _ _ (H1.out.more _) (H2.out.more _) hn1 hn2)).mono ?_; rintro e w' ⟨rfl, t, rfl⟩) | (go_at_call 45; refine (more_call (IsRoll_any _ _ _ _ _ _ _)).mono ?_; rintro e w' ⟨rfl, t, rfl⟩) | (go_at_call 44; refine (isSeed_any _ _).mono ?_; rintro e w2 ⟨rfl, rfl⟩))
                obtain ⟨W0, hW0⟩ : ∃ W, W = more ((w.alloc (.cells #[.int .i64 p, .int .i64 c, .int .i64 h, .int .i64 s, .slice A1 n1 c1, .slice A2 n2 c2, .int .i64 ra, .int .i64 rb, .int .i64 seed, .slice A3 n3 c3] 39)).alloc (.cells #[.int .i64 p, .int .i64 c, .int .i64 h, .int .i64 s] 34)) t := ⟨_, rfl⟩
                rw [← hW0]
                have HW : Hid (Below (w.heap.size + 2) ((w.alloc (.cells #[.int .i64 p, .int .i64 c, .int .i64 h, .int .i64 s, .slice A1 n1 c1, .slice A2 n2 c2, .int .i64 ra, .int .i64 rb, .int .i64 seed, .slice A3 n3 c3] 39)).alloc (.cells #[.int .i64 p, .int .i64 c, .int .i64 h, .int .i64 s] 34)) W0) := by rw [hW0]; exact (below_more _ t).mono (by simp)
                clear hW0
                go_loopw [49] (fun i wr => ∃ k : Nat, k ≤ n3 ∧ i = .int .i64 k ∧ Hid (∀ j, j < k → boardB p c h s (past.getD j ([], [])).1 (past.getD j ([], [])).2 = true) ∧ Below (w.heap.size + 2) ((w.alloc (.cells #[.int .i64 p, .int .i64 c, .int .i64 h, .int .i64 s, .slice A1 n1 c1, .slice A2 n2 c2, .int .i64 ra, .int .i64 rb, .int .i64 seed, .slice A3 n3 c3] 39)).alloc (.cells #[.int .i64 p, .int .i64 c, .int .i64 h, .int .i64 s] 34)) wr) (fun i _ => n3 - (intOf i).toNat)
                case atStart => exact ⟨0, by omega, rfl, by intro j hj; omega, HW.out⟩
                case round =>
                  clear HW
                  obtain ⟨k, hk, rfl, hall, hb⟩ := hrel
                  have hb0 : Below w.heap.size w wr := HB.out.trans (hb.mono (by omega))
                  have hz : w.heap.size < wr.heap.size := by have := hb.size; simp at this; omega
                  have hz1 : w.heap.size + 1 < wr.heap.size := by have := hb.size; simp at this; omega
                  have e0 : wr.cell? ⟨w.heap.size + 1, 0, none⟩ = some (.int .i64 p) := by rw [hb.cell (by simp)]; simp [go_sem]
                  have e1 : wr.cell? ⟨w.heap.size + 1, 1, none⟩ = some (.int .i64 c) := by rw [hb.cell (by simp)]; simp [go_sem]
                  have e2 : wr.cell? ⟨w.heap.size + 1, 2, none⟩ = some (.int .i64 h) := by rw [hb.cell (by simp)]; simp [go_sem]
                  have e3 : wr.cell? ⟨w.heap.size + 1, 3, none⟩ = some (.int .i64 s) := by rw [hb.cell (by simp)]; simp [go_sem]
                  have e9 : wr.cell? ⟨w.heap.size, 9, none⟩ = some (.slice A3 n3 c3) := by rw [hb.cell (by simp)]; simp [go_sem]
                  by_cases hlt : k < n3
                  · obtain ⟨b, off, rfl, hbl, hcl⟩ := (H3.out.below hb0).2 (by omega)
                    obtain ⟨B1, m1, d1, B2, m2, d2, q1, q2, s1, s2, _, _⟩ := hcl k hlt
                    have hki : (k : Int) < (n3 : Int) := by omega
                    have hk0 : (0 : Int) ≤ (k : Int) := by omega
                    have hlen : k < past.length := by rw [H3.out.1]; exact hlt
                    have hmk := HM.out (past.getD k ([], [])) (by simp [List.getD, hlen])
                    have hm1 : m1 ≤ 2000000 := by rw [← s1.1]; exact hmk.1
                    have hm2 : m2 ≤ 2000000 := by rw [← s2.1]; exact hmk.2
                    have S1 := Lib.hid s1
                    have S2 := Lib.hid s2
                    have HN := Lib.hid (desk_no6 (p := p) (c := c) (h := h) (s := s) (own := own) (other := other) (ra := ra) (rb := rb) (seed := seed) hlen)
                    have HB0 := Lib.hid hb0
                    have HBr := Lib.hid hb
                    clear hcl s1 s2 hmk hlen hb0 hb
                    by_cases hbd : boardB p c h s (past.getD k ([], [])).1 (past.getD k ([], [])).2 = true
                    · have HA : Hid (∀ j, j < k + 1 → boardB p c h s (past.getD j ([], [])).1 (past.getD j ([], [])).2 = true) := by
                        intro j hj
                        by_cases e : j = k
                        · rw [e]; exact hbd
                        · exact hall.out j (by omega)
                      clear HN
                      generalize (past.getD k ([], [])).1 = ow at *
                      generalize (past.getD k ([], [])).2 = ot at *
                      go_wp2_with (fail)
                      have SA1 := Lib.hid (S1.out.alloc (.cells #[.slice B1 m1 d1, .slice B2 m2 d2] 35))
                      have SA2 := Lib.hid (S2.out.alloc (.cells #[.slice B1 m1 d1, .slice B2 m2 d2] 35))
                      refine (more_first (IsBoard_any _ _ _ _ _ _ _ _ _ _ _ _ _ SA1.out SA2.out hm1 hm2)).mono ?_
                      rintro e w' ⟨rfl, tq, rfl⟩
                      have HQ : Hid (Below wr.heap.size wr (more (wr.alloc (.cells #[.slice B1 m1 d1, .slice B2 m2 d2] 35)) tq)) := ((Below.refl _ _).alloc (Nat.le_refl _) _).trans ((below_more _ tq).mono (by simp))
                      go_wp2_with (fail)
                      go_roundw
                      case rel => exact ⟨k + 1, by omega, by go_num, HA, HBr.out.trans (HQ.out.mono (by omega))⟩
                      case measure => simp [intOf]; omega
                    · replace hbd : boardB p c h s (past.getD k ([], [])).1 (past.getD k ([], [])).2 = false := by simpa using hbd
                      have HF := Lib.hid (HN.out hbd)
                      clear HN
                      generalize (past.getD k ([], [])).1 = ow at *
                      generalize (past.getD k ([], [])).2 = ot at *
                      go_wp2_with (fail)
                      have SA1 := Lib.hid (S1.out.alloc (.cells #[.slice B1 m1 d1, .slice B2 m2 d2] 35))
                      have SA2 := Lib.hid (S2.out.alloc (.cells #[.slice B1 m1 d1, .slice B2 m2 d2] 35))
                      refine (more_first (IsBoard_any _ _ _ _ _ _ _ _ _ _ _ _ _ SA1.out SA2.out hm1 hm2)).mono ?_
                      rintro e w' ⟨rfl, tq, rfl⟩
                      have HQ : Hid (Below wr.heap.size wr (more (wr.alloc (.cells #[.slice B1 m1 d1, .slice B2 m2 d2] 35)) tq)) := ((Below.refl _ _).alloc (Nat.le_refl _) _).trans ((below_more _ tq).mono (by simp))
                      go_wp2_with (fail)
                      go_ret
                      exact ⟨by rw [HF.out]; rfl, HB0.out.trans (HQ.out.mono (by omega))⟩
                  · obtain rfl : k = n3 := by omega
                    have HF := Lib.hid (HY.out fun j hj => hall.out j (by rw [← H3.out.1]; exact hj))
                    clear hall
                    go_wp2_with (fail)
                    go_ret
                    exact ⟨by rw [HF.out]; rfl, hb0⟩
              · clear R
                rw [R1] at hq
                go_enter Tryd.func21, Tryd.ntmps21
                go_wp2_with (first | (go_at_call 42; refine (more_first (IsVariant_any _ _ _ _ _)).mono ?_; rintro e w' ⟨rfl, t, rfl⟩) | (go_at_call 43; refine (more_call (IsBoard_any _ _ _ _ _ _ _ _ _ _ _ _ _ (H1.out.more _) (H2.out.more _) hn1 hn2)).mono ?_; rintro e w' ⟨rfl, t, rfl⟩) | (go_at_call 45; refine (more_call (IsRoll_any _ _ _ _ _ _ _)).mono ?_; rintro e w' ⟨rfl, t, rfl⟩) | (go_at_call 44; refine (isSeed_any _ _).mono ?_; rintro e w2 ⟨rfl, rfl⟩))
                obtain ⟨W0, hW0⟩ : ∃ W, W = more ((w.alloc (.cells #[.int .i64 p, .int .i64 c, .int .i64 h, .int .i64 s, .slice A1 n1 c1, .slice A2 n2 c2, .int .i64 ra, .int .i64 rb, .int .i64 seed, .slice A3 n3 c3] 39)).alloc (.cells #[.int .i64 p, .int .i64 c, .int .i64 h, .int .i64 s] 34)) t := ⟨_, rfl⟩
                rw [← hW0]
                have HW : Hid (Below (w.heap.size + 2) ((w.alloc (.cells #[.int .i64 p, .int .i64 c, .int .i64 h, .int .i64 s, .slice A1 n1 c1, .slice A2 n2 c2, .int .i64 ra, .int .i64 rb, .int .i64 seed, .slice A3 n3 c3] 39)).alloc (.cells #[.int .i64 p, .int .i64 c, .int .i64 h, .int .i64 s] 34)) W0) := by rw [hW0]; exact (below_more _ t).mono (by simp)
                clear hW0
                go_loopw [49] (fun i wr => ∃ k : Nat, k ≤ n3 ∧ i = .int .i64 k ∧ Hid (∀ j, j < k → boardB p c h s (past.getD j ([], [])).1 (past.getD j ([], [])).2 = true) ∧ Below (w.heap.size + 2) ((w.alloc (.cells #[.int .i64 p, .int .i64 c, .int .i64 h, .int .i64 s, .slice A1 n1 c1, .slice A2 n2 c2, .int .i64 ra, .int .i64 rb, .int .i64 seed, .slice A3 n3 c3] 39)).alloc (.cells #[.int .i64 p, .int .i64 c, .int .i64 h, .int .i64 s] 34)) wr) (fun i _ => n3 - (intOf i).toNat)
                case atStart => exact ⟨0, by omega, rfl, by intro j hj; omega, HW.out⟩
                case round =>
                  clear HW
                  obtain ⟨k, hk, rfl, hall, hb⟩ := hrel
                  have hb0 : Below w.heap.size w wr := HB.out.trans (hb.mono (by omega))
                  have hz : w.heap.size < wr.heap.size := by have := hb.size; simp at this; omega
                  have hz1 : w.heap.size + 1 < wr.heap.size := by have := hb.size; simp at this; omega
                  have e0 : wr.cell? ⟨w.heap.size + 1, 0, none⟩ = some (.int .i64 p) := by rw [hb.cell (by simp)]; simp [go_sem]
                  have e1 : wr.cell? ⟨w.heap.size + 1, 1, none⟩ = some (.int .i64 c) := by rw [hb.cell (by simp)]; simp [go_sem]
                  have e2 : wr.cell? ⟨w.heap.size + 1, 2, none⟩ = some (.int .i64 h) := by rw [hb.cell (by simp)]; simp [go_sem]
                  have e3 : wr.cell? ⟨w.heap.size + 1, 3, none⟩ = some (.int .i64 s) := by rw [hb.cell (by simp)]; simp [go_sem]
                  have e9 : wr.cell? ⟨w.heap.size, 9, none⟩ = some (.slice A3 n3 c3) := by rw [hb.cell (by simp)]; simp [go_sem]
                  by_cases hlt : k < n3
                  · obtain ⟨b, off, rfl, hbl, hcl⟩ := (H3.out.below hb0).2 (by omega)
                    obtain ⟨B1, m1, d1, B2, m2, d2, q1, q2, s1, s2, _, _⟩ := hcl k hlt
                    have hki : (k : Int) < (n3 : Int) := by omega
                    have hk0 : (0 : Int) ≤ (k : Int) := by omega
                    have hlen : k < past.length := by rw [H3.out.1]; exact hlt
                    have hmk := HM.out (past.getD k ([], [])) (by simp [List.getD, hlen])
                    have hm1 : m1 ≤ 2000000 := by rw [← s1.1]; exact hmk.1
                    have hm2 : m2 ≤ 2000000 := by rw [← s2.1]; exact hmk.2
                    have S1 := Lib.hid s1
                    have S2 := Lib.hid s2
                    have HN := Lib.hid (desk_no6 (p := p) (c := c) (h := h) (s := s) (own := own) (other := other) (ra := ra) (rb := rb) (seed := seed) hlen)
                    have HB0 := Lib.hid hb0
                    have HBr := Lib.hid hb
                    clear hcl s1 s2 hmk hlen hb0 hb
                    by_cases hbd : boardB p c h s (past.getD k ([], [])).1 (past.getD k ([], [])).2 = true
                    · have HA : Hid (∀ j, j < k + 1 → boardB p c h s (past.getD j ([], [])).1 (past.getD j ([], [])).2 = true) := by
                        intro j hj
                        by_cases e : j = k
                        · rw [e]; exact hbd
                        · exact hall.out j (by omega)
                      clear HN
                      generalize (past.getD k ([], [])).1 = ow at *
                      generalize (past.getD k ([], [])).2 = ot at *
                      go_wp2_with (fail)
                      have SA1 := Lib.hid (S1.out.alloc (.cells #[.slice B1 m1 d1, .slice B2 m2 d2] 35))
                      have SA2 := Lib.hid (S2.out.alloc (.cells #[.slice B1 m1 d1, .slice B2 m2 d2] 35))
                      refine (more_first (IsBoard_any _ _ _ _ _ _ _ _ _ _ _ _ _ SA1.out SA2.out hm1 hm2)).mono ?_
                      rintro e w' ⟨rfl, tq, rfl⟩
                      have HQ : Hid (Below wr.heap.size wr (more (wr.alloc (.cells #[.slice B1 m1 d1, .slice B2 m2 d2] 35)) tq)) := ((Below.refl _ _).alloc (Nat.le_refl _) _).trans ((below_more _ tq).mono (by simp))
                      go_wp2_with (fail)
                      go_roundw
                      case rel => exact ⟨k + 1, by omega, by go_num, HA, HBr.out.trans (HQ.out.mono (by omega))⟩
                      case measure => simp [intOf]; omega
                    · replace hbd : boardB p c h s (past.getD k ([], [])).1 (past.getD k ([], [])).2 = false := by simpa using hbd
                      have HF := Lib.hid (HN.out hbd)
                      clear HN
                      generalize (past.getD k ([], [])).1 = ow at *
                      generalize (past.getD k ([], [])).2 = ot at *
                      go_wp2_with (fail)
                      have SA1 := Lib.hid (S1.out.alloc (.cells #[.slice B1 m1 d1, .slice B2 m2 d2] 35))
                      have SA2 := Lib.hid (S2.out.alloc (.cells #[.slice B1 m1 d1, .slice B2 m2 d2] 35))
                      refine (more_first (IsBoard_any _ _ _ _ _ _ _ _ _ _ _ _ _ SA1.out SA2.out hm1 hm2)).mono ?_
                      rintro e w' ⟨rfl, tq, rfl⟩
                      have HQ : Hid (Below wr.heap.size wr (more (wr.alloc (.cells #[.slice B1 m1 d1, .slice B2 m2 d2] 35)) tq)) := ((Below.refl _ _).alloc (Nat.le_refl _) _).trans ((below_more _ tq).mono (by simp))
                      go_wp2_with (fail)
                      go_ret
                      exact ⟨by rw [HF.out]; rfl, HB0.out.trans (HQ.out.mono (by omega))⟩
                  · obtain rfl : k = n3 := by omega
                    have HF := Lib.hid (HY.out fun j hj => hall.out j (by rw [← H3.out.1]; exact hj))
                    clear hall
                    go_wp2_with (fail)
                    go_ret
                    exact ⟨by rw [HF.out]; rfl, hb0⟩
            · have HF := Lib.hid (desk_no3 (p := p) (c := c) (h := h) (own := own) (other := other) (seed := seed) (past := past) R1 R2)
              rw [R1] at hq
              go_enter Tryd.func21, Tryd.ntmps21
              go_wp2_with (first | (go_at_call 42; refine (more_first (IsVariant_any _ _ _ _ _)).mono ?_; rintro e w' ⟨rfl, t, rfl⟩) | (go_at_call 43; refine (more_call (IsBoard_any _ _ _ _ _ _ _ _ _ _ _ _ _ (H1.out.more _) (H2.out.more _) hn1 hn2)).mono ?_; rintro e w' ⟨rfl, t, rfl⟩) | (go_at_call 45; refine (more_call (IsRoll_any _ _ _ _ _ _ _)).mono ?_; rintro e w' ⟨rfl, t, rfl⟩) | (go_at_call 44; refine (isSeed_any _ _).mono ?_; rintro e w2 ⟨rfl, rfl⟩))
              go_ret
              exact ⟨by rw [HF.out]; rfl, HB.out.trans ((below_more _ _).mono HB.out.size)⟩
          · have hd5 : decide ((30 : Int) < (n3 : Int)) = true := by simp; omega
            have HF := Lib.hid (desk_no5 (p := p) (c := c) (h := h) (s := s) (own := own) (other := other) (ra := ra) (rb := rb) (seed := seed) (past := past) (by rw [H3.out.1]; exact g5))
            go_enter Tryd.func21, Tryd.ntmps21
            go_wp2_with (first | (go_at_call 42; refine (more_first (IsVariant_any _ _ _ _ _)).mono ?_; rintro e w' ⟨rfl, t, rfl⟩) | (go_at_call 43; refine (more_call (IsBoard_any _ _ _ _ _ _ _ _ _ _ _ _ _ (H1.out.more _) (H2.out.more _) hn1 hn2)).mono ?_; rintro e w' ⟨rfl, t, rfl⟩) | (go_at_call 45; refine (more_call (IsRoll_any _ _ _ _ _ _ _)).mono ?_; rintro e w' ⟨rfl, t, rfl⟩) | (go_at_call 44; refine (isSeed_any _ _).mono ?_; rintro e w2 ⟨rfl, rfl⟩))
            go_ret
            exact ⟨by rw [HF.out]; rfl, HB.out.trans ((below_more _ _).mono HB.out.size)⟩
        · replace g4 : seedB seed = false := by simpa using g4
          have HF := Lib.hid (desk_no4 (p := p) (c := c) (h := h) (s := s) (own := own) (other := other) (ra := ra) (rb := rb) (past := past) g4)
          go_enter Tryd.func21, Tryd.ntmps21
          go_wp2_with (first | (go_at_call 42; refine (more_first (IsVariant_any _ _ _ _ _)).mono ?_; rintro e w' ⟨rfl, t, rfl⟩) | (go_at_call 43; refine (more_call (IsBoard_any _ _ _ _ _ _ _ _ _ _ _ _ _ (H1.out.more _) (H2.out.more _) hn1 hn2)).mono ?_; rintro e w' ⟨rfl, t, rfl⟩) | (go_at_call 45; refine (more_call (IsRoll_any _ _ _ _ _ _ _)).mono ?_; rintro e w' ⟨rfl, t, rfl⟩) | (go_at_call 44; refine (isSeed_any _ _).mono ?_; rintro e w2 ⟨rfl, rfl⟩))
          go_ret
          exact ⟨by rw [HF.out]; rfl, HB.out.trans ((below_more _ _).mono HB.out.size)⟩
      · replace g2 : boardB p c h s own other = false := by simpa using g2
        have HF := Lib.hid (desk_no2 (ra := ra) (rb := rb) (seed := seed) (past := past) g2)
        go_enter Tryd.func21, Tryd.ntmps21
        go_wp2_with (first | (go_at_call 42; refine (more_first (IsVariant_any _ _ _ _ _)).mono ?_; rintro e w' ⟨rfl, t, rfl⟩) | (go_at_call 43; refine (more_call (IsBoard_any _ _ _ _ _ _ _ _ _ _ _ _ _ (H1.out.more _) (H2.out.more _) hn1 hn2)).mono ?_; rintro e w' ⟨rfl, t, rfl⟩) | (go_at_call 45; refine (more_call (IsRoll_any _ _ _ _ _ _ _)).mono ?_; rintro e w' ⟨rfl, t, rfl⟩) | (go_at_call 44; refine (isSeed_any _ _).mono ?_; rintro e w2 ⟨rfl, rfl⟩))
        go_ret
        exact ⟨by rw [HF.out]; rfl, HB.out.trans ((below_more _ _).mono HB.out.size)⟩
    · have hd4 : decide (p < 4) = true := by simp; omega
      have HF := Lib.hid (desk_no1 (own := own) (other := other) (ra := ra) (rb := rb) (seed := seed) (past := past) (by simp [startB]; omega : startB p c h s = false))
      go_enter Tryd.func21, Tryd.ntmps21
      go_wp2_with (first | (go_at_call 42; refine (more_first (IsVariant_any _ _ _ _ _)).mono ?_; rintro e w' ⟨rfl, t, rfl⟩) | (go_at_call 43; refine (more_call (IsBoard_any _ _ _ _ _ _ _ _ _ _ _ _ _ (H1.out.more _) (H2.out.more _) hn1 hn2)).mono ?_; rintro e w' ⟨rfl, t, rfl⟩) | (go_at_call 45; refine (more_call (IsRoll_any _ _ _ _ _ _ _)).mono ?_; rintro e w' ⟨rfl, t, rfl⟩) | (go_at_call 44; refine (isSeed_any _ _).mono ?_; rintro e w2 ⟨rfl, rfl⟩))
      go_ret
      exact ⟨by rw [HF.out]; rfl, HB.out.trans ((below_more _ _).mono HB.out.size)⟩
  · replace g1 : isVar p c h s = false := by simpa using g1
    have HF := Lib.hid (desk_no1 (own := own) (other := other) (ra := ra) (rb := rb) (seed := seed) (past := past) (by simp [startB, g1] : startB p c h s = false))
    go_enter Tryd.func21, Tryd.ntmps21
    go_wp2_with (first | (go_at_call 42; refine (more_first (IsVariant_any _ _ _ _ _)).mono ?_; rintro e w' ⟨rfl, t, rfl⟩) | (go_at_call 43; refine (more_call (IsBoard_any _ _ _ _ _ _ _ _ _ _ _ _ _ (H1.out.more _) (H2.out.more _) hn1 hn2)).mono ?_; rintro e w' ⟨rfl, t, rfl⟩) | (go_at_call 45; refine (more_call (IsRoll_any _ _ _ _ _ _ _)).mono ?_; rintro e w' ⟨rfl, t, rfl⟩) | (go_at_call 44; refine (isSeed_any _ _).mono ?_; rintro e w2 ⟨rfl, rfl⟩))
    go_ret
    exact ⟨by rw [HF.out]; rfl, HB.out.trans ((below_more _ _).mono HB.out.size)⟩
end Go.Proofs.YtkjlafcnmniomaaDoor

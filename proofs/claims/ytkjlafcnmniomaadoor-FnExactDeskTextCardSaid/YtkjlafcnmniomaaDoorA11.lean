/- Contracts of IsDesk, the program's and the reference's. There are no conditions. -/
import Derived.Test.YtkjlafcnmniomaaDoorA10
namespace Go.Proofs.YtkjlafcnmniomaaDoor
set_option linter.unusedVariables false
set_option linter.unusedSimpArgs false
open Go.RowKit

def deskB (p c h s : Int) (own other : List Int) (ra rb seed : Int) (past : List (List Int × List Int)) : Bool :=
  startB p c h s && boardB p c h s own other && (noneB ra rb || rollB s ra rb) && seedB seed && decide (past.length ≤ 30) && past.all fun b => boardB p c h s b.1 b.2

section
variable {p c h s ra rb seed : Int} {own other : List Int} {past : List (List Int × List Int)}
theorem desk_no1 (H : startB p c h s = false) : deskB p c h s own other ra rb seed past = false := by simp [deskB, H]
theorem desk_no2 (H : boardB p c h s own other = false) : deskB p c h s own other ra rb seed past = false := by simp [deskB, H]
theorem desk_no3 (H : noneB ra rb = false) (H' : rollB s ra rb = false) : deskB p c h s own other ra rb seed past = false := by simp [deskB, H, H']
theorem desk_no4 (H : seedB seed = false) : deskB p c h s own other ra rb seed past = false := by simp [deskB, H]
theorem desk_no5 (H : ¬ past.length ≤ 30) : deskB p c h s own other ra rb seed past = false := by simp [deskB]; omega
theorem desk_no6 {k : Nat} (hk : k < past.length) (H : boardB p c h s (past.getD k ([], [])).1 (past.getD k ([], [])).2 = false) : deskB p c h s own other ra rb seed past = false := by
  have : (past.all fun b => boardB p c h s b.1 b.2) = false := by
    rw [List.all_eq_false]
    exact ⟨past.getD k ([], []), by simp [List.getD, hk], by rw [H]; simp⟩
  simp only [deskB, this, Bool.and_false]
theorem desk_yes (h1 : startB p c h s = true) (h2 : boardB p c h s own other = true) (h3 : noneB ra rb = true ∨ rollB s ra rb = true) (h4 : seedB seed = true) (h5 : past.length ≤ 30)
    (h6 : ∀ k, k < past.length → boardB p c h s (past.getD k ([], [])).1 (past.getD k ([], [])).2 = true) : deskB p c h s own other ra rb seed past = true := by
  have h3' : (noneB ra rb || rollB s ra rb) = true := by simpa using h3
  have h6' : (past.all fun b => boardB p c h s b.1 b.2) = true := by
    rw [List.all_eq_true]
    intro b hb
    obtain ⟨k, hk, rfl⟩ := List.mem_iff_getElem.1 hb
    have := h6 k hk
    simpa [List.getD, hk] using this
  simp [deskB, h1, h2, h3', h4, h5, h6']
end

set_option maxHeartbeats 2000000 in
set_option maxRecDepth 100000 in
theorem sIsDesk_any (p c h s ra rb seed : Int) (A1 A2 A3 : Option Addr) (n1 c1 n2 c2 n3 c3 : Nat) (own other : List Int) (past : List (List Int × List Int)) (w : World) (h1 : SL w A1 n1 own) (h2 : SL w A2 n2 other) (h3 : SBs w A3 n3 past)
    (hn1 : n1 ≤ 2000000) (hn2 : n2 ≤ 2000000) (hn3 : n3 ≤ 2000000) (hm : ∀ b ∈ past, b.1.length ≤ 2000000 ∧ b.2.length ≤ 2000000) :
    Calls Tryd.prog 11 #[.agg #[.int .i64 p, .int .i64 c, .int .i64 h, .int .i64 s, .slice A1 n1 c1, .slice A2 n2 c2, .int .i64 ra, .int .i64 rb, .int .i64 seed, .slice A3 n3 c3]] w
      fun e w' => e = .returned (.bool (deskB p c h s own other ra rb seed past)) ∧ Below w.heap.size w w' := by
  have HB : Hid (Below w.heap.size w (w.alloc (.cells #[.int .i64 p, .int .i64 c, .int .i64 h, .int .i64 s, .slice A1 n1 c1, .slice A2 n2 c2, .int .i64 ra, .int .i64 rb, .int .i64 seed, .slice A3 n3 c3] 39))) := (Below.refl _ _).alloc (Nat.le_refl _) _
  have H1 := Lib.hid (h1.below HB.out)
  have H2 := Lib.hid (h2.below HB.out)
  have H3 := Lib.hid h3
  have HM := Lib.hid hm
  clear h1 h2 h3 hm
  by_cases g1 : startB p c h s = true
  · by_cases g2 : boardB p c h s own other = true
    · have R : Hid (noneB ra rb = true ∨ rollB s ra rb = true) ∨ (noneB ra rb = false ∧ rollB s ra rb = false) := by
        cases noneB ra rb <;> cases rollB s ra rb <;> simp [Hid]
      rcases R with R | ⟨R1, R2⟩
      · by_cases g4 : seedB seed = true
        · by_cases g5 : n3 ≤ 30
          · have hd5 : decide ((30 : Int) < (n3 : Int)) = false := by simp; omega
            have HY := Lib.hid (desk_yes (own := own) (other := other) (past := past) g1 g2 R.out g4 (by rw [H3.out.1]; exact g5))
            cases R1 : noneB ra rb
            · have R2 : rollB s ra rb = true := by have := R.out; rw [R1] at this; simpa using this
              clear R
              go_enter Tryd.func11, Tryd.ntmps11
              go_wp2_with (first | (go_at_call 32; refine (more_first (l34Start_any _ _ _ _ _)).mono ?_; rintro e w' ⟨rfl, t, rfl⟩) | (go_at_call 33; refine (more_call (sIsBoard_any _ _ _ _ _ _ _ _ _ _ _ _ _ (H1.out.more _) (H2.out.more _) hn1 hn2)).mono ?_; rintro e w' ⟨rfl, t, rfl⟩) | (go_at_call 12; refine (more_call (l34None_any _ _ _)).mono ?_; rintro e w' ⟨rfl, t, rfl⟩) | (go_at_call 34; refine (more_call (l10Roll_any _ _ _ _ _ _ _)).mono ?_; rintro e w' ⟨rfl, t, rfl⟩) | (go_at_call 35; refine (l07Seed_any _ _).mono ?_; rintro e w2 ⟨rfl, rfl⟩))
              obtain ⟨W0, hW0⟩ : ∃ W, W = more (w.alloc (.cells #[.int .i64 p, .int .i64 c, .int .i64 h, .int .i64 s, .slice A1 n1 c1, .slice A2 n2 c2, .int .i64 ra, .int .i64 rb, .int .i64 seed, .slice A3 n3 c3] 39)) t := ⟨_, rfl⟩
              rw [← hW0]
              have HW : Hid (Below (w.heap.size + 1) (w.alloc (.cells #[.int .i64 p, .int .i64 c, .int .i64 h, .int .i64 s, .slice A1 n1 c1, .slice A2 n2 c2, .int .i64 ra, .int .i64 rb, .int .i64 seed, .slice A3 n3 c3] 39)) W0) := by rw [hW0]; exact (below_more _ t).mono (by simp)
              have e9 : W0.cell? ⟨w.heap.size, 9, none⟩ = some (.slice A3 n3 c3) := by rw [hW0, cell_more _ _ _ (by simp)]; simp [go_sem]
              clear hW0
              go_loopw [3] (fun i wr => ∃ k : Nat, k ≤ n3 ∧ i = .int .i64 k ∧ Hid (∀ j, j < k → boardB p c h s (past.getD j ([], [])).1 (past.getD j ([], [])).2 = true) ∧ Below (w.heap.size + 1) (w.alloc (.cells #[.int .i64 p, .int .i64 c, .int .i64 h, .int .i64 s, .slice A1 n1 c1, .slice A2 n2 c2, .int .i64 ra, .int .i64 rb, .int .i64 seed, .slice A3 n3 c3] 39)) wr) (fun i _ => n3 - (intOf i).toNat)
              case atStart => exact ⟨0, by omega, rfl, by intro j hj; omega, HW.out⟩
              case round =>
                clear e9 HW
                obtain ⟨k, hk, rfl, hall, hb⟩ := hrel
                have hb0 : Below w.heap.size w wr := ((Below.refl _ _).alloc (Nat.le_refl _) _).trans (hb.mono (by omega))
                have hz : w.heap.size < wr.heap.size := by have := hb.size; simp at this; omega
                have e0 : wr.cell? ⟨w.heap.size, 0, none⟩ = some (.int .i64 p) := by rw [hb.cell (by simp)]; simp [go_sem]
                have e1 : wr.cell? ⟨w.heap.size, 1, none⟩ = some (.int .i64 c) := by rw [hb.cell (by simp)]; simp [go_sem]
                have e2 : wr.cell? ⟨w.heap.size, 2, none⟩ = some (.int .i64 h) := by rw [hb.cell (by simp)]; simp [go_sem]
                have e3 : wr.cell? ⟨w.heap.size, 3, none⟩ = some (.int .i64 s) := by rw [hb.cell (by simp)]; simp [go_sem]
                have e9 : wr.cell? ⟨w.heap.size, 9, none⟩ = some (.slice A3 n3 c3) := by rw [hb.cell (by simp)]; simp [go_sem]
                by_cases hlt : k < n3
                · obtain ⟨b, off, rfl, hbl, hcl⟩ := (H3.out.below hb0).2 (by omega)
                  obtain ⟨B1, m1, d1, B2, m2, d2, q1, q2, s1, s2, _, _⟩ := hcl k hlt
                  have hki : (k : Int) < (n3 : Int) := by omega
                  have hk0 : (0 : Int) ≤ (k : Int) := by omega
                  have hlen : k < past.length := by rw [H3.out.1]; exact hlt
                  have hmk := HM.out (past.getD k ([], [])) (by simp [List.getD, hlen])
                  have hm1 : m1 ≤ 2000000 := by rw [← s1.1]; exact hmk.1
                  have hm2 : m2 ≤ 2000000 := by rw [← s2.1]; exact hmk.2
                  have S1 := Lib.hid s1
                  have S2 := Lib.hid s2
                  have HN := Lib.hid (desk_no6 (p := p) (c := c) (h := h) (s := s) (own := own) (other := other) (ra := ra) (rb := rb) (seed := seed) hlen)
                  have HB0 := Lib.hid hb0
                  have HBr := Lib.hid hb
                  clear hcl s1 s2 hmk hlen hb0 hb
                  by_cases hbd : boardB p c h s (past.getD k ([], [])).1 (past.getD k ([], [])).2 = true
                  · have HA : Hid (∀ j, j < k + 1 → boardB p c h s (past.getD j ([], [])).1 (past.getD j ([], [])).2 = true) := by
                      intro j hj
                      by_cases e : j = k
                      · rw [e]; exact hbd
                      · exact hall.out j (by omega)
                    clear HN
                    generalize (past.getD k ([], [])).1 = ow at *
                    generalize (past.getD k ([], [])).2 = ot at *
                    go_wp2_with (fail)
                    refine wp_region_more (by kernel_rfl) (by kernel_rfl) ?_
                    repeat (first | go_big_quiet_step (((go_at_call 33; exact more_call (sIsBoard_any _ _ _ _ _ _ _ _ _ _ _ _ _ (S1.out.more _) (S2.out.more _) hm1 hm2)))) | quiet_step (((go_at_call 33; exact more_call (sIsBoard_any _ _ _ _ _ _ _ _ _ _ _ _ _ (S1.out.more _) (S2.out.more _) hm1 hm2)))))
                    refine wpQuiet_nil ?_
                    intro _ hw'
                    obtain ⟨tq, hw''⟩ := hw'
                    subst hw''
                    have HQ := Lib.hid (below_more wr tq)
                    go_wp2_with (fail)
                    go_roundw
                    case rel => exact ⟨k + 1, by omega, by go_num, HA, HBr.out.trans (HQ.out.mono (by omega))⟩
                    case measure => simp [intOf]; omega
                  · replace hbd : boardB p c h s (past.getD k ([], [])).1 (past.getD k ([], [])).2 = false := by simpa using hbd
                    have HF := Lib.hid (HN.out hbd)
                    clear HN
                    generalize (past.getD k ([], [])).1 = ow at *
                    generalize (past.getD k ([], [])).2 = ot at *
                    go_wp2_with (fail)
                    refine wp_region_more (by kernel_rfl) (by kernel_rfl) ?_
                    repeat (first | go_big_quiet_step (((go_at_call 33; exact more_call (sIsBoard_any _ _ _ _ _ _ _ _ _ _ _ _ _ (S1.out.more _) (S2.out.more _) hm1 hm2)))) | quiet_step (((go_at_call 33; exact more_call (sIsBoard_any _ _ _ _ _ _ _ _ _ _ _ _ _ (S1.out.more _) (S2.out.more _) hm1 hm2)))))
                    refine wpQuiet_nil ?_
                    intro _ hw'
                    obtain ⟨tq, hw''⟩ := hw'
                    subst hw''
                    have HQ := Lib.hid (below_more wr tq)
                    go_wp2_with (fail)
                    go_ret
                    exact ⟨by rw [HF.out]; rfl, HB0.out.trans (HQ.out.mono (by omega))⟩
                · obtain rfl : k = n3 := by omega
                  have HF := Lib.hid (HY.out fun j hj => hall.out j (by rw [← H3.out.1]; exact hj))
                  clear hall
                  go_wp2_with (fail)
                  go_ret
                  exact ⟨by rw [HF.out]; rfl, hb0⟩
            · clear R
              go_enter Tryd.func11, Tryd.ntmps11
              go_wp2_with (first | (go_at_call 32; refine (more_first (l34Start_any _ _ _ _ _)).mono ?_; rintro e w' ⟨rfl, t, rfl⟩) | (go_at_call 33; refine (more_call (sIsBoard_any _ _ _ _ _ _ _ _ _ _ _ _ _ (H1.out.more _) (H2.out.more _) hn1 hn2)).mono ?_; rintro e w' ⟨rfl, t, rfl⟩) | (go_at_call 12; refine (more_call (l34None_any _ _ _)).mono ?_; rintro e w' ⟨rfl, t, rfl⟩) | (go_at_call 34; refine (more_call (l10Roll_any _ _ _ _ _ _ _)).mono ?_; rintro e w' ⟨rfl, t, rfl⟩) | (go_at_call 35; refine (l07Seed_any _ _).mono ?_; rintro e w2 ⟨rfl, rfl⟩))
              obtain ⟨W0, hW0⟩ : ∃ W, W = more (w.alloc (.cells #[.int .i64 p, .int .i64 c, .int .i64 h, .int .i64 s, .slice A1 n1 c1, .slice A2 n2 c2, .int .i64 ra, .int .i64 rb, .int .i64 seed, .slice A3 n3 c3] 39)) t := ⟨_, rfl⟩
              rw [← hW0]
              have HW : Hid (Below (w.heap.size + 1) (w.alloc (.cells #[.int .i64 p, .int .i64 c, .int .i64 h, .int .i64 s, .slice A1 n1 c1, .slice A2 n2 c2, .int .i64 ra, .int .i64 rb, .int .i64 seed, .slice A3 n3 c3] 39)) W0) := by rw [hW0]; exact (below_more _ t).mono (by simp)
              have e9 : W0.cell? ⟨w.heap.size, 9, none⟩ = some (.slice A3 n3 c3) := by rw [hW0, cell_more _ _ _ (by simp)]; simp [go_sem]
              clear hW0
              go_loopw [3] (fun i wr => ∃ k : Nat, k ≤ n3 ∧ i = .int .i64 k ∧ Hid (∀ j, j < k → boardB p c h s (past.getD j ([], [])).1 (past.getD j ([], [])).2 = true) ∧ Below (w.heap.size + 1) (w.alloc (.cells #[.int .i64 p, .int .i64 c, .int .i64 h, .int .i64 s, .slice A1 n1 c1, .slice A2 n2 c2, .int .i64 ra, .int .i64 rb, .int .i64 seed, .slice A3 n3 c3] 39)) wr) (fun i _ => n3 - (intOf i).toNat)
              case atStart => exact ⟨0, by omega, rfl, by intro j hj; omega, HW.out⟩
              case round =>
                clear e9 HW
                obtain ⟨k, hk, rfl, hall, hb⟩ := hrel
                have hb0 : Below w.heap.size w wr := ((Below.refl _ _).alloc (Nat.le_refl _) _).trans (hb.mono (by omega))
                have hz : w.heap.size < wr.heap.size := by have := hb.size; simp at this; omega
                have e0 : wr.cell? ⟨w.heap.size, 0, none⟩ = some (.int .i64 p) := by rw [hb.cell (by simp)]; simp [go_sem]
                have e1 : wr.cell? ⟨w.heap.size, 1, none⟩ = some (.int .i64 c) := by rw [hb.cell (by simp)]; simp [go_sem]
                have e2 : wr.cell? ⟨w.heap.size, 2, none⟩ = some (.int .i64 h) := by rw [hb.cell (by simp)]; simp [go_sem]
                have e3 : wr.cell? ⟨w.heap.size, 3, none⟩ = some (.int .i64 s) := by rw [hb.cell (by simp)]; simp [go_sem]
                have e9 : wr.cell? ⟨w.heap.size, 9, none⟩ = some (.slice A3 n3 c3) := by rw [hb.cell (by simp)]; simp [go_sem]
                by_cases hlt : k < n3
                · obtain ⟨b, off, rfl, hbl, hcl⟩ := (H3.out.below hb0).2 (by omega)
                  obtain ⟨B1, m1, d1, B2, m2, d2, q1, q2, s1, s2, _, _⟩ := hcl k hlt
                  have hki : (k : Int) < (n3 : Int) := by omega
                  have hk0 : (0 : Int) ≤ (k : Int) := by omega
                  have hlen : k < past.length := by rw [H3.out.1]; exact hlt
                  have hmk := HM.out (past.getD k ([], [])) (by simp [List.getD, hlen])
                  have hm1 : m1 ≤ 2000000 := by rw [← s1.1]; exact hmk.1
                  have hm2 : m2 ≤ 2000000 := by rw [← s2.1]; exact hmk.2
                  have S1 := Lib.hid s1
                  have S2 := Lib.hid s2
                  have HN := Lib.hid (desk_no6 (p := p) (c := c) (h := h) (s := s) (own := own) (other := other) (ra := ra) (rb := rb) (seed := seed) hlen)
                  have HB0 := Lib.hid hb0
                  have HBr := Lib.hid hb
                  clear hcl s1 s2 hmk hlen hb0 hb
                  by_cases hbd : boardB p c h s (past.getD k ([], [])).1 (past.getD k ([], [])).2 = true
                  · have HA : Hid (∀ j, j < k + 1 → boardB p c h s (past.getD j ([], [])).1 (past.getD j ([], [])).2 = true) := by
                      intro j hj
                      by_cases e : j = k
                      · rw [e]; exact hbd
                      · exact hall.out j (by omega)
                    clear HN
                    generalize (past.getD k ([], [])).1 = ow at *
                    generalize (past.getD k ([], [])).2 = ot at *
                    go_wp2_with (fail)
                    refine wp_region_more (by kernel_rfl) (by kernel_rfl) ?_
                    repeat (first | go_big_quiet_step (((go_at_call 33; exact more_call (sIsBoard_any _ _ _ _ _ _ _ _ _ _ _ _ _ (S1.out.more _) (S2.out.more _) hm1 hm2)))) | quiet_step (((go_at_call 33; exact more_call (sIsBoard_any _ _ _ _ _ _ _ _ _ _ _ _ _ (S1.out.more _) (S2.out.more _) hm1 hm2)))))
                    refine wpQuiet_nil ?_
                    intro _ hw'
                    obtain ⟨tq, hw''⟩ := hw'
                    subst hw''
                    have HQ := Lib.hid (below_more wr tq)
                    go_wp2_with (fail)
                    go_roundw
                    case rel => exact ⟨k + 1, by omega, by go_num, HA, HBr.out.trans (HQ.out.mono (by omega))⟩
                    case measure => simp [intOf]; omega
                  · replace hbd : boardB p c h s (past.getD k ([], [])).1 (past.getD k ([], [])).2 = false := by simpa using hbd
                    have HF := Lib.hid (HN.out hbd)
                    clear HN
                    generalize (past.getD k ([], [])).1 = ow at *
                    generalize (past.getD k ([], [])).2 = ot at *
                    go_wp2_with (fail)
                    refine wp_region_more (by kernel_rfl) (by kernel_rfl) ?_
                    repeat (first | go_big_quiet_step (((go_at_call 33; exact more_call (sIsBoard_any _ _ _ _ _ _ _ _ _ _ _ _ _ (S1.out.more _) (S2.out.more _) hm1 hm2)))) | quiet_step (((go_at_call 33; exact more_call (sIsBoard_any _ _ _ _ _ _ _ _ _ _ _ _ _ (S1.out.more _) (S2.out.more _) hm1 hm2)))))
                    refine wpQuiet_nil ?_
                    intro _ hw'
                    obtain ⟨tq, hw''⟩ := hw'
                    subst hw''
                    have HQ := Lib.hid (below_more wr tq)
                    go_wp2_with (fail)
                    go_ret
                    exact ⟨by rw [HF.out]; rfl, HB0.out.trans (HQ.out.mono (by omega))⟩
                · obtain rfl : k = n3 := by omega
                  have HF := Lib.hid (HY.out fun j hj => hall.out j (by rw [← H3.out.1]; exact hj))
                  clear hall
                  go_wp2_with (fail)
                  go_ret
                  exact ⟨by rw [HF.out]; rfl, hb0⟩
          · have hd5 : decide ((30 : Int) < (n3 : Int)) = true := by simp; omega
            have HF := Lib.hid (desk_no5 (p := p) (c := c) (h := h) (s := s) (own := own) (other := other) (ra := ra) (rb := rb) (seed := seed) (past := past) (by rw [H3.out.1]; exact g5))
            cases R1 : noneB ra rb
            · have R2 : rollB s ra rb = true := by have := R.out; rw [R1] at this; simpa using this
              clear R
              go_enter Tryd.func11, Tryd.ntmps11
              go_wp2_with (first | (go_at_call 32; refine (more_first (l34Start_any _ _ _ _ _)).mono ?_; rintro e w' ⟨rfl, t, rfl⟩) | (go_at_call 33; refine (more_call (sIsBoard_any _ _ _ _ _ _ _ _ _ _ _ _ _ (H1.out.more _) (H2.out.more _) hn1 hn2)).mono ?_; rintro e w' ⟨rfl, t, rfl⟩) | (go_at_call 12; refine (more_call (l34None_any _ _ _)).mono ?_; rintro e w' ⟨rfl, t, rfl⟩) | (go_at_call 34; refine (more_call (l10Roll_any _ _ _ _ _ _ _)).mono ?_; rintro e w' ⟨rfl, t, rfl⟩) | (go_at_call 35; refine (l07Seed_any _ _).mono ?_; rintro e w2 ⟨rfl, rfl⟩))
              go_ret
              exact ⟨by rw [HF.out]; rfl, HB.out.trans ((below_more _ _).mono HB.out.size)⟩
            · clear R
              go_enter Tryd.func11, Tryd.ntmps11
              go_wp2_with (first | (go_at_call 32; refine (more_first (l34Start_any _ _ _ _ _)).mono ?_; rintro e w' ⟨rfl, t, rfl⟩) | (go_at_call 33; refine (more_call (sIsBoard_any _ _ _ _ _ _ _ _ _ _ _ _ _ (H1.out.more _) (H2.out.more _) hn1 hn2)).mono ?_; rintro e w' ⟨rfl, t, rfl⟩) | (go_at_call 12; refine (more_call (l34None_any _ _ _)).mono ?_; rintro e w' ⟨rfl, t, rfl⟩) | (go_at_call 34; refine (more_call (l10Roll_any _ _ _ _ _ _ _)).mono ?_; rintro e w' ⟨rfl, t, rfl⟩) | (go_at_call 35; refine (l07Seed_any _ _).mono ?_; rintro e w2 ⟨rfl, rfl⟩))
              go_ret
              exact ⟨by rw [HF.out]; rfl, HB.out.trans ((below_more _ _).mono HB.out.size)⟩
        · replace g4 : seedB seed = false := by simpa using g4
          have HF := Lib.hid (desk_no4 (p := p) (c := c) (h := h) (s := s) (own := own) (other := other) (ra := ra) (rb := rb) (past := past) g4)
          cases R1 : noneB ra rb
          · have R2 : rollB s ra rb = true := by have := R.out; rw [R1] at this; simpa using this
            clear R
            go_enter Tryd.func11, Tryd.ntmps11
            go_wp2_with (first | (go_at_call 32; refine (more_first (l34Start_any _ _ _ _ _)).mono ?_; rintro e w' ⟨rfl, t, rfl⟩) | (go_at_call 33; refine (more_call (sIsBoard_any _ _ _ _ _ _ _ _ _ _ _ _ _ (H1.out.more _) (H2.out.more _) hn1 hn2)).mono ?_; rintro e w' ⟨rfl, t, rfl⟩) | (go_at_call 12; refine (more_call (l34None_any _ _ _)).mono ?_; rintro e w' ⟨rfl, t, rfl⟩) | (go_at_call 34; refine (more_call (l10Roll_any _ _ _ _ _ _ _)).mono ?_; rintro e w' ⟨rfl, t, rfl⟩) | (go_at_call 35; refine (l07Seed_any _ _).mono ?_; rintro e w2 ⟨rfl, rfl⟩))
            go_ret
            exact ⟨by rw [HF.out]; rfl, HB.out.trans ((below_more _ _).mono HB.out.size)⟩
          · clear R
            go_enter Tryd.func11, Tryd.ntmps11
            go_wp2_with (first | (go_at_call 32; refine (more_first (l34Start_any _ _ _ _ _)).mono ?_; rintro e w' ⟨rfl, t, rfl⟩) | (go_at_call 33; refine (more_call (sIsBoard_any _ _ _ _ _ _ _ _ _ _ _ _ _ (H1.out.more _) (H2.out.more _) hn1 hn2)).mono ?_; rintro e w' ⟨rfl, t, rfl⟩) | (go_at_call 12; refine (more_call (l34None_any _ _ _)).mono ?_; rintro e w' ⟨rfl, t, rfl⟩) | (go_at_call 34; refine (more_call (l10Roll_any _ _ _ _ _ _ _)).mono ?_; rintro e w' ⟨rfl, t, rfl⟩) | (go_at_call 35; refine (l07Seed_any _ _).mono ?_; rintro e w2 ⟨rfl, rfl⟩))
            go_ret
            exact ⟨by rw [HF.out]; rfl, HB.out.trans ((below_more _ _).mono HB.out.size)⟩
      · have HF := Lib.hid (desk_no3 (p := p) (c := c) (h := h) (own := own) (other := other) (seed := seed) (past := past) R1 R2)
        go_enter Tryd.func11, Tryd.ntmps11
        go_wp2_with (first | (go_at_call 32; refine (more_first (l34Start_any _ _ _ _ _)).mono ?_; rintro e w' ⟨rfl, t, rfl⟩) | (go_at_call 33; refine (more_call (sIsBoard_any _ _ _ _ _ _ _ _ _ _ _ _ _ (H1.out.more _) (H2.out.more _) hn1 hn2)).mono ?_; rintro e w' ⟨rfl, t, rfl⟩) | (go_at_call 12; refine (more_call (l34None_any _ _ _)).mono ?_; rintro e w' ⟨rfl, t, rfl⟩) | (go_at_call 34; refine (more_call (l10Roll_any _ _ _ _ _ _ _)).mono ?_; rintro e w' ⟨rfl, t, rfl⟩) | (go_at_call 35; refine (l07Seed_any _ _).mono ?_; rintro e w2 ⟨rfl, rfl⟩))
        go_ret
        exact ⟨by rw [HF.out]; rfl, HB.out.trans ((below_more _ _).mono HB.out.size)⟩
    · replace g2 : boardB p c h s own other = false := by simpa using g2
      have HF := Lib.hid (desk_no2 (ra := ra) (rb := rb) (seed := seed) (past := past) g2)
      go_enter Tryd.func11, Tryd.ntmps11
      go_wp2_with (first | (go_at_call 32; refine (more_first (l34Start_any _ _ _ _ _)).mono ?_; rintro e w' ⟨rfl, t, rfl⟩) | (go_at_call 33; refine (more_call (sIsBoard_any _ _ _ _ _ _ _ _ _ _ _ _ _ (H1.out.more _) (H2.out.more _) hn1 hn2)).mono ?_; rintro e w' ⟨rfl, t, rfl⟩) | (go_at_call 12; refine (more_call (l34None_any _ _ _)).mono ?_; rintro e w' ⟨rfl, t, rfl⟩) | (go_at_call 34; refine (more_call (l10Roll_any _ _ _ _ _ _ _)).mono ?_; rintro e w' ⟨rfl, t, rfl⟩) | (go_at_call 35; refine (l07Seed_any _ _).mono ?_; rintro e w2 ⟨rfl, rfl⟩))
      go_ret
      exact ⟨by rw [HF.out]; rfl, HB.out.trans ((below_more _ _).mono HB.out.size)⟩
  · replace g1 : startB p c h s = false := by simpa using g1
    have HF := Lib.hid (desk_no1 (own := own) (other := other) (ra := ra) (rb := rb) (seed := seed) (past := past) g1)
    go_enter Tryd.func11, Tryd.ntmps11
    go_wp2_with (first | (go_at_call 32; refine (more_first (l34Start_any _ _ _ _ _)).mono ?_; rintro e w' ⟨rfl, t, rfl⟩) | (go_at_call 33; refine (more_call (sIsBoard_any _ _ _ _ _ _ _ _ _ _ _ _ _ (H1.out.more _) (H2.out.more _) hn1 hn2)).mono ?_; rintro e w' ⟨rfl, t, rfl⟩) | (go_at_call 12; refine (more_call (l34None_any _ _ _)).mono ?_; rintro e w' ⟨rfl, t, rfl⟩) | (go_at_call 34; refine (more_call (l10Roll_any _ _ _ _ _ _ _)).mono ?_; rintro e w' ⟨rfl, t, rfl⟩) | (go_at_call 35; refine (l07Seed_any _ _).mono ?_; rintro e w2 ⟨rfl, rfl⟩))
    go_ret
    exact ⟨by rw [HF.out]; rfl, HB.out.trans ((below_more _ _).mono HB.out.size)⟩
end Go.Proofs.YtkjlafcnmniomaaDoor

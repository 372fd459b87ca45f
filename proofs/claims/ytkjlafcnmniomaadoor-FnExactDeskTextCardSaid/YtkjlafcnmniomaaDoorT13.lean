/- The statement FnExactDeskText, the law's walk. There are no conditions. -/
import Derived.Test.YtkjlafcnmniomaaDoorL3
import Derived.Test.YtkjlafcnmniomaaDoorA9
import Derived.Test.YtkjlafcnmniomaaDoorT12
namespace Go.Proofs.YtkjlafcnmniomaaDoor
set_option linter.unusedVariables false
set_option linter.unusedSimpArgs false
open Go.RowKit


set_option maxRecDepth 100000 in
theorem eqBoardS_yes (A B : Option Addr) (n c d : Nat) (bs : List (List Int × List Int)) (w : World) (h1 : SBs w A n bs) (h2 : SBs w B n bs) (hn : n ≤ 2000000) (hm : ∀ b ∈ bs, b.1.length ≤ 2000000 ∧ b.2.length ≤ 2000000) :
    Calls Tryd.prog 30 #[.slice A n c, .slice B n d] w fun e w' => e = .returned (.bool true) ∧ Below w.heap.size w w' := by
  have H1 := Lib.hid h1
  have H2 := Lib.hid h2
  have HM := Lib.hid hm
  clear h1 h2 hm
  have hne : ((n : Int) != (n : Int)) = false := by simp
  go_enter Tryd.func30, Tryd.ntmps30
  go_wp2_with (fail)
  go_loopw [5] (fun i wr => ∃ k : Nat, k ≤ n ∧ i = .int .i64 k ∧ Below w.heap.size w wr) (fun i _ => n - (intOf i).toNat)
  case atStart => exact ⟨0, by omega, rfl, Below.refl _ _⟩
  case round =>
    obtain ⟨k, hk, rfl, hb⟩ := hrel
    by_cases hlt : k < n
    · obtain ⟨x1, o1, rfl, hl1, hc1⟩ := (H1.out.below hb).2 (by omega)
      obtain ⟨x2, o2, rfl, hl2, hc2⟩ := (H2.out.below hb).2 (by omega)
      obtain ⟨B1, m1, e1, B2, m2, e2, q1, q2, s1, s2, _, _⟩ := hc1 k hlt
      obtain ⟨D1, p1, f1, D2, p2, f2, r1, r2, t1, t2, _, _⟩ := hc2 k hlt
      obtain rfl : p1 = m1 := by rw [← t1.1, s1.1]
      obtain rfl : p2 = m2 := by rw [← t2.1, s2.1]
      have hmk := HM.out (bs.getD k ([], [])) (by simp [List.getD, show k < bs.length by rw [H1.out.1]; exact hlt])
      have hm1 : p1 ≤ 2000000 := by rw [← s1.1]; exact hmk.1
      have hm2 : p2 ≤ 2000000 := by rw [← s2.1]; exact hmk.2
      have hki : (k : Int) < (n : Int) := by omega
      have hk0 : (0 : Int) ≤ (k : Int) := by omega
      have S1 := Lib.hid s1
      have S2 := Lib.hid s2
      have T1 := Lib.hid t1
      have T2 := Lib.hid t2
      have HBr := Lib.hid hb
      clear hc1 hc2 s1 s2 t1 t2 hmk hb
      go_wp2_with (fail)
      refine wp_region_more (by kernel_rfl) (by kernel_rfl) ?_
      repeat (first | go_big_quiet_step (((go_at_call 28; exact more_call (eqBoard_yes _ _ _ _ _ _ _ _ _ _ _ _ _ (S1.out.more _) (S2.out.more _) (T1.out.more _) (T2.out.more _) hm1 hm2)))) | quiet_step (((go_at_call 28; exact more_call (eqBoard_yes _ _ _ _ _ _ _ _ _ _ _ _ _ (S1.out.more _) (S2.out.more _) (T1.out.more _) (T2.out.more _) hm1 hm2)))))
      refine wpQuiet_nil ?_
      intro _ hw'
      obtain ⟨tq, hw''⟩ := hw'
      subst hw''
      have HQ := Lib.hid (below_more wr tq)
      go_wp2_with (fail)
      go_roundw
      case rel => exact ⟨k + 1, by omega, by go_num, HBr.out.trans (HQ.out.mono HBr.out.size)⟩
      case measure => simp [intOf]; omega
    · go_wp2
      go_ret
      exact ⟨rfl, hb⟩

theorem ba_ne (G : ByteArray) : (G != G) = false := by
  obtain ⟨d⟩ := G
  unfold bne
  show (!(BEq.beq d d)) = false
  simp
theorem szDesk_any (p c h s ra rb seed : Int) (A1 A2 A3 : Option Addr) (n1 a1 n2 a2 n3 a3 : Nat) (past : List (List Int × List Int)) (left : Int) (w : World) (h3 : SBs w A3 n3 past)
    (hn1 : n1 ≤ 9223372036854775807) (hn2 : n2 ≤ 9223372036854775807) (hn3 : n3 ≤ 9223372036854775807) (hl : 0 ≤ left) (hl2 : left ≤ 1048576) :
    Calls Tryd.prog 4 #[.agg #[.int .i64 p, .int .i64 c, .int .i64 h, .int .i64 s, .slice A1 n1 a1, .slice A2 n2 a2, .int .i64 ra, .int .i64 rb, .int .i64 seed, .slice A3 n3 a3], .int .i64 left] w (RetZ w left ((n1 + n2) + (n3 + totB past))) := by
  have HB : Hid (Below w.heap.size w (w.alloc (.cells #[.int .i64 p, .int .i64 c, .int .i64 h, .int .i64 s, .slice A1 n1 a1, .slice A2 n2 a2, .int .i64 ra, .int .i64 rb, .int .i64 seed, .slice A3 n3 a3] 31))) := (Below.refl _ _).alloc (Nat.le_refl _) _
  have H3 := Lib.hid h3
  clear h3
  go_enter Tryd.func4, Tryd.ntmps4
  go_wp2_with (fail)
  refine (szBoard_any A1 A2 n1 a1 n2 a2 left _ hn1 hn2 hl hl2).mono ?_
  rintro e w1 ⟨r, rfl, hr1, hr2, hr3, hb1⟩
  have d9 : w1.cell? ⟨w.heap.size, 9, none⟩ = some (.slice A3 n3 a3) := keep_cell (by simp [go_sem]) hb1
  have HB1 := Lib.hid (HB.out.trans (hb1.mono HB.out.size))
  have Q3 := Lib.hid hr3
  clear hb1 hr3
  by_cases h0 : r < 0
  · have HF : Hid (∀ W, Below w.heap.size w W → RetZ w left ((n1 + n2) + (n3 + totB past)) (.returned (.int .i64 (-1))) W) := fun W hW => ⟨-1, rfl, by omega, by omega, by omega, hW⟩
    go_wp2_with (fail)
    go_ret
    exact HF.out _ HB1.out
  · go_wp2_with (fail)
    refine (szBoardS_any A3 n3 a3 past r _ (H3.out.below HB1.out) hn3 (by omega) (by omega)).mono ?_
    rintro e w2 ⟨r2, rfl, hq1, hq2, hq3, hb2⟩
    have HB2 := Lib.hid (HB1.out.trans (hb2.mono HB1.out.size))
    have HF : Hid (RetZ w left ((n1 + n2) + (n3 + totB past)) (.returned (.int .i64 r2)) w2) := ⟨r2, rfl, hq1, by omega, fun h => by have := hq3 h; have := Q3.out (by omega); omega, HB2.out⟩
    have HF' : Hid (RetZ w left ((n1 + n2) + (n3 + totB past)) (.returned (.int .i64 (-1))) w2) := ⟨-1, rfl, by omega, by omega, by omega, HB2.out⟩
    clear hb2 hq3
    by_cases h2 : r2 < 0
    · go_wp2_with (fail)
      go_ret
      exact HF'.out
    · go_wp2_with (fail)
      go_ret
      exact HF.out

set_option maxHeartbeats 4000000 in
set_option maxRecDepth 100000 in
theorem deskText_law (p c h s ra rb seed : Int) (A1 A2 A3 : Option Addr) (n1 a1 n2 a2 n3 a3 : Nat) (xs ys : List Int) (past : List (List Int × List Int)) (w : World) (h1 : SL w A1 n1 xs) (h2 : SL w A2 n2 ys) (h3 : SBs w A3 n3 past)
    (hn1 : n1 ≤ 9223372036854775807) (hn2 : n2 ≤ 9223372036854775807) (hn3 : n3 ≤ 9223372036854775807) (ht : TBok w) :
    Calls Tryd.prog 3 #[.agg #[.int .i64 p, .int .i64 c, .int .i64 h, .int .i64 s, .slice A1 n1 a1, .slice A2 n2 a2, .int .i64 ra, .int .i64 rb, .int .i64 seed, .slice A3 n3 a3]] w fun e w' => e = .returned (.bool true) ∧ Below w.heap.size w w' := by
  have H1 := Lib.hid h1
  have H2 := Lib.hid h2
  have H3 := Lib.hid h3
  have HTB := Lib.hid ht
  clear h1 h2 h3 ht
  go_enter Tryd.func3, Tryd.ntmps3
  go_wp2_with (fail)
  obtain ⟨V1, hV⟩ : ∃ V, V = (w.alloc (.cells #[.int .i64 p, .int .i64 c, .int .i64 h, .int .i64 s, .slice A1 n1 a1, .slice A2 n2 a2, .int .i64 ra, .int .i64 rb, .int .i64 seed, .slice A3 n3 a3] 31)) := ⟨_, rfl⟩
  try rw [← hV]
  have b0_0 : V1.cell? ⟨w.heap.size, 0, none⟩ = some (.int .i64 p) := by rw [hV]; simp [go_sem]
  have b0_1 : V1.cell? ⟨w.heap.size, 1, none⟩ = some (.int .i64 c) := by rw [hV]; simp [go_sem]
  have b0_2 : V1.cell? ⟨w.heap.size, 2, none⟩ = some (.int .i64 h) := by rw [hV]; simp [go_sem]
  have b0_3 : V1.cell? ⟨w.heap.size, 3, none⟩ = some (.int .i64 s) := by rw [hV]; simp [go_sem]
  have b0_4 : V1.cell? ⟨w.heap.size, 4, none⟩ = some (.slice A1 n1 a1) := by rw [hV]; simp [go_sem]
  have b0_5 : V1.cell? ⟨w.heap.size, 5, none⟩ = some (.slice A2 n2 a2) := by rw [hV]; simp [go_sem]
  have b0_6 : V1.cell? ⟨w.heap.size, 6, none⟩ = some (.int .i64 ra) := by rw [hV]; simp [go_sem]
  have b0_7 : V1.cell? ⟨w.heap.size, 7, none⟩ = some (.int .i64 rb) := by rw [hV]; simp [go_sem]
  have b0_8 : V1.cell? ⟨w.heap.size, 8, none⟩ = some (.int .i64 seed) := by rw [hV]; simp [go_sem]
  have b0_9 : V1.cell? ⟨w.heap.size, 9, none⟩ = some (.slice A3 n3 a3) := by rw [hV]; simp [go_sem]
  have HB : Hid (Below w.heap.size w V1) := by rw [hV]; exact (Below.refl _ _).alloc (by simp <;> omega) _
  clear hV
  have lb0_0 : w.heap.size < V1.heap.size := World.block_lt_of_cell? V1 _ b0_0
  refine (szDesk_any p c h s ra rb seed A1 A2 A3 n1 a1 n2 a2 n3 a3 past 1048576 _ (H3.out.below HB.out) hn1 hn2 hn3 (by omega) (by omega)).mono ?_
  rintro e V2 ⟨r, rfl, hr1, hr2, hr3, hb⟩
  clear lb0_0
  replace b0_0 : V2.cell? ⟨w.heap.size, 0, none⟩ = some (.int .i64 p) := keep_cell b0_0 hb
  replace b0_1 : V2.cell? ⟨w.heap.size, 1, none⟩ = some (.int .i64 c) := keep_cell b0_1 hb
  replace b0_2 : V2.cell? ⟨w.heap.size, 2, none⟩ = some (.int .i64 h) := keep_cell b0_2 hb
  replace b0_3 : V2.cell? ⟨w.heap.size, 3, none⟩ = some (.int .i64 s) := keep_cell b0_3 hb
  replace b0_4 : V2.cell? ⟨w.heap.size, 4, none⟩ = some (.slice A1 n1 a1) := keep_cell b0_4 hb
  replace b0_5 : V2.cell? ⟨w.heap.size, 5, none⟩ = some (.slice A2 n2 a2) := keep_cell b0_5 hb
  replace b0_6 : V2.cell? ⟨w.heap.size, 6, none⟩ = some (.int .i64 ra) := keep_cell b0_6 hb
  replace b0_7 : V2.cell? ⟨w.heap.size, 7, none⟩ = some (.int .i64 rb) := keep_cell b0_7 hb
  replace b0_8 : V2.cell? ⟨w.heap.size, 8, none⟩ = some (.int .i64 seed) := keep_cell b0_8 hb
  replace b0_9 : V2.cell? ⟨w.heap.size, 9, none⟩ = some (.slice A3 n3 a3) := keep_cell b0_9 hb
  replace HB : Hid (Below w.heap.size w V2) := HB.out.trans (hb.mono HB.out.size)
  have lb0_0 : w.heap.size < V2.heap.size := World.block_lt_of_cell? V2 _ b0_0
  clear hb
  have R3 := Lib.hid hr3
  clear hr3
  by_cases h0 : r < 0
  · go_wp2_with (fail)
    go_ret
    exact ⟨rfl, HB.out⟩
  have hT := R3.out (by omega)
  clear R3
  have e1 := H1.out.1
  have e2 := H2.out.1
  have e3 := H3.out.1
  have m1 : n1 ≤ 2000000 := by omega
  have m2 : n2 ≤ 2000000 := by omega
  have m3 : n3 ≤ 2000000 := by omega
  have hmm : ∀ b ∈ past, b.1.length ≤ 2000000 ∧ b.2.length ≤ 2000000 := fun b hb => by have := totB_mem past b hb; omega
  have HM := Lib.hid hmm
  have L1 := Lib.hid e1
  have L2 := Lib.hid e2
  have L3 := Lib.hid e3
  clear hmm e1 e2 e3 hT
  have hge : ¬ r < 0 := h0
  have hge0 : 0 ≤ r := by omega
  go_wp2_with (fail)
  refine (toDesk_any p c h s ra rb seed A1 A2 A3 n1 a1 n2 a2 n3 a3 xs ys past _ (H1.out.keep (Nat.le_refl _) HB.out) (H2.out.keep (Nat.le_refl _) HB.out) (H3.out.keep (Nat.le_refl _) HB.out) m1 m2 m3 HM.out).mono ?_
  rintro e V3 ⟨B1, k1, B2, k2, gb, rfl, ho1, ho2, _, _, hsb, hb⟩
  have SB1 := Lib.hid (ho1.sl rfl).1
  have SB2 := Lib.hid (ho2.sl rfl).1
  have SB3 := Lib.hid hsb
  clear ho1 ho2 hsb
  clear lb0_0
  replace b0_0 : V3.cell? ⟨w.heap.size, 0, none⟩ = some (.int .i64 p) := keep_cell b0_0 hb
  replace b0_1 : V3.cell? ⟨w.heap.size, 1, none⟩ = some (.int .i64 c) := keep_cell b0_1 hb
  replace b0_2 : V3.cell? ⟨w.heap.size, 2, none⟩ = some (.int .i64 h) := keep_cell b0_2 hb
  replace b0_3 : V3.cell? ⟨w.heap.size, 3, none⟩ = some (.int .i64 s) := keep_cell b0_3 hb
  replace b0_4 : V3.cell? ⟨w.heap.size, 4, none⟩ = some (.slice A1 n1 a1) := keep_cell b0_4 hb
  replace b0_5 : V3.cell? ⟨w.heap.size, 5, none⟩ = some (.slice A2 n2 a2) := keep_cell b0_5 hb
  replace b0_6 : V3.cell? ⟨w.heap.size, 6, none⟩ = some (.int .i64 ra) := keep_cell b0_6 hb
  replace b0_7 : V3.cell? ⟨w.heap.size, 7, none⟩ = some (.int .i64 rb) := keep_cell b0_7 hb
  replace b0_8 : V3.cell? ⟨w.heap.size, 8, none⟩ = some (.int .i64 seed) := keep_cell b0_8 hb
  replace b0_9 : V3.cell? ⟨w.heap.size, 9, none⟩ = some (.slice A3 n3 a3) := keep_cell b0_9 hb
  replace HB : Hid (Below w.heap.size w V3) := HB.out.trans (hb.mono HB.out.size)
  have lb0_0 : w.heap.size < V3.heap.size := World.block_lt_of_cell? V3 _ b0_0
  clear hb
  go_wp2_with (fail)
  refine (sDeskText_any p c h s ra rb seed B1 B2 _ xs.length _ ys.length _ past.length _ xs ys past _ SB1.out SB2.out SB3.out (by rw [L1.out]; exact m1) (by rw [L2.out]; exact m2) (by rw [L3.out]; exact m3) HM.out).mono ?_
  rintro e V4 ⟨rfl, hb⟩
  clear lb0_0
  replace b0_0 : V4.cell? ⟨w.heap.size, 0, none⟩ = some (.int .i64 p) := keep_cell b0_0 hb
  replace b0_1 : V4.cell? ⟨w.heap.size, 1, none⟩ = some (.int .i64 c) := keep_cell b0_1 hb
  replace b0_2 : V4.cell? ⟨w.heap.size, 2, none⟩ = some (.int .i64 h) := keep_cell b0_2 hb
  replace b0_3 : V4.cell? ⟨w.heap.size, 3, none⟩ = some (.int .i64 s) := keep_cell b0_3 hb
  replace b0_4 : V4.cell? ⟨w.heap.size, 4, none⟩ = some (.slice A1 n1 a1) := keep_cell b0_4 hb
  replace b0_5 : V4.cell? ⟨w.heap.size, 5, none⟩ = some (.slice A2 n2 a2) := keep_cell b0_5 hb
  replace b0_6 : V4.cell? ⟨w.heap.size, 6, none⟩ = some (.int .i64 ra) := keep_cell b0_6 hb
  replace b0_7 : V4.cell? ⟨w.heap.size, 7, none⟩ = some (.int .i64 rb) := keep_cell b0_7 hb
  replace b0_8 : V4.cell? ⟨w.heap.size, 8, none⟩ = some (.int .i64 seed) := keep_cell b0_8 hb
  replace b0_9 : V4.cell? ⟨w.heap.size, 9, none⟩ = some (.slice A3 n3 a3) := keep_cell b0_9 hb
  replace SB1 : Hid (SL V4 B1 xs.length xs) := SB1.out.below hb
  replace SB2 : Hid (SL V4 B2 ys.length ys) := SB2.out.below hb
  replace SB3 : Hid (SBs V4 (some ⟨gb, 0, none⟩) past.length past) := SB3.out.below hb
  replace HB : Hid (Below w.heap.size w V4) := HB.out.trans (hb.mono HB.out.size)
  have lb0_0 : w.heap.size < V4.heap.size := World.block_lt_of_cell? V4 _ b0_0
  clear hb
  go_wp2_with (fail)
  refine (toDesk_any p c h s ra rb seed A1 A2 A3 n1 a1 n2 a2 n3 a3 xs ys past _ (H1.out.keep (Nat.le_refl _) HB.out) (H2.out.keep (Nat.le_refl _) HB.out) (H3.out.keep (Nat.le_refl _) HB.out) m1 m2 m3 HM.out).mono ?_
  rintro e V5 ⟨D1, l1, D2, l2, gd, rfl, ho1, ho2, _, _, hsb, hb⟩
  have SD1 := Lib.hid (ho1.sl rfl).1
  have SD2 := Lib.hid (ho2.sl rfl).1
  have SD3 := Lib.hid hsb
  clear ho1 ho2 hsb
  clear lb0_0
  replace b0_0 : V5.cell? ⟨w.heap.size, 0, none⟩ = some (.int .i64 p) := keep_cell b0_0 hb
  replace b0_1 : V5.cell? ⟨w.heap.size, 1, none⟩ = some (.int .i64 c) := keep_cell b0_1 hb
  replace b0_2 : V5.cell? ⟨w.heap.size, 2, none⟩ = some (.int .i64 h) := keep_cell b0_2 hb
  replace b0_3 : V5.cell? ⟨w.heap.size, 3, none⟩ = some (.int .i64 s) := keep_cell b0_3 hb
  replace b0_4 : V5.cell? ⟨w.heap.size, 4, none⟩ = some (.slice A1 n1 a1) := keep_cell b0_4 hb
  replace b0_5 : V5.cell? ⟨w.heap.size, 5, none⟩ = some (.slice A2 n2 a2) := keep_cell b0_5 hb
  replace b0_6 : V5.cell? ⟨w.heap.size, 6, none⟩ = some (.int .i64 ra) := keep_cell b0_6 hb
  replace b0_7 : V5.cell? ⟨w.heap.size, 7, none⟩ = some (.int .i64 rb) := keep_cell b0_7 hb
  replace b0_8 : V5.cell? ⟨w.heap.size, 8, none⟩ = some (.int .i64 seed) := keep_cell b0_8 hb
  replace b0_9 : V5.cell? ⟨w.heap.size, 9, none⟩ = some (.slice A3 n3 a3) := keep_cell b0_9 hb
  replace SB1 : Hid (SL V5 B1 xs.length xs) := SB1.out.below hb
  replace SB2 : Hid (SL V5 B2 ys.length ys) := SB2.out.below hb
  replace SB3 : Hid (SBs V5 (some ⟨gb, 0, none⟩) past.length past) := SB3.out.below hb
  replace HB : Hid (Below w.heap.size w V5) := HB.out.trans (hb.mono HB.out.size)
  have lb0_0 : w.heap.size < V5.heap.size := World.block_lt_of_cell? V5 _ b0_0
  clear hb
  go_wp2_with (fail)
  obtain ⟨V6, hV⟩ : ∃ V, V = V5.alloc (.cells #[.int .i64 p, .int .i64 c, .int .i64 h, .int .i64 s, .slice D1 xs.length l1, .slice D2 ys.length l2, .int .i64 ra, .int .i64 rb, .int .i64 seed, .slice (some ⟨gd, 0, none⟩) past.length past.length] 39) := ⟨_, rfl⟩
  obtain ⟨gx, hg⟩ : ∃ g, g = V5.heap.size := ⟨_, rfl⟩
  rw [← hV, ← hg]
  replace b0_0 : V6.cell? ⟨w.heap.size, 0, none⟩ = some (.int .i64 p) := by rw [hV]; exact (cell_alloc_lt _ _ _ lb0_0).trans b0_0
  replace b0_1 : V6.cell? ⟨w.heap.size, 1, none⟩ = some (.int .i64 c) := by rw [hV]; exact (cell_alloc_lt _ _ _ lb0_0).trans b0_1
  replace b0_2 : V6.cell? ⟨w.heap.size, 2, none⟩ = some (.int .i64 h) := by rw [hV]; exact (cell_alloc_lt _ _ _ lb0_0).trans b0_2
  replace b0_3 : V6.cell? ⟨w.heap.size, 3, none⟩ = some (.int .i64 s) := by rw [hV]; exact (cell_alloc_lt _ _ _ lb0_0).trans b0_3
  replace b0_4 : V6.cell? ⟨w.heap.size, 4, none⟩ = some (.slice A1 n1 a1) := by rw [hV]; exact (cell_alloc_lt _ _ _ lb0_0).trans b0_4
  replace b0_5 : V6.cell? ⟨w.heap.size, 5, none⟩ = some (.slice A2 n2 a2) := by rw [hV]; exact (cell_alloc_lt _ _ _ lb0_0).trans b0_5
  replace b0_6 : V6.cell? ⟨w.heap.size, 6, none⟩ = some (.int .i64 ra) := by rw [hV]; exact (cell_alloc_lt _ _ _ lb0_0).trans b0_6
  replace b0_7 : V6.cell? ⟨w.heap.size, 7, none⟩ = some (.int .i64 rb) := by rw [hV]; exact (cell_alloc_lt _ _ _ lb0_0).trans b0_7
  replace b0_8 : V6.cell? ⟨w.heap.size, 8, none⟩ = some (.int .i64 seed) := by rw [hV]; exact (cell_alloc_lt _ _ _ lb0_0).trans b0_8
  replace b0_9 : V6.cell? ⟨w.heap.size, 9, none⟩ = some (.slice A3 n3 a3) := by rw [hV]; exact (cell_alloc_lt _ _ _ lb0_0).trans b0_9
  replace SB1 : Hid (SL V6 B1 xs.length xs) := by rw [hV]; exact SB1.out.alloc _
  replace SB2 : Hid (SL V6 B2 ys.length ys) := by rw [hV]; exact SB2.out.alloc _
  replace SD1 : Hid (SL V6 D1 xs.length xs) := by rw [hV]; exact SD1.out.alloc _
  replace SD2 : Hid (SL V6 D2 ys.length ys) := by rw [hV]; exact SD2.out.alloc _
  replace SB3 : Hid (SBs V6 (some ⟨gb, 0, none⟩) past.length past) := by rw [hV]; exact SB3.out.alloc _
  replace SD3 : Hid (SBs V6 (some ⟨gd, 0, none⟩) past.length past) := by rw [hV]; exact SD3.out.alloc _
  have nb0_0_gx : w.heap.size < gx := by rw [hg]; exact lb0_0
  have zgx : w.heap.size ≤ gx := by rw [hg]; exact HB.out.size
  have x0 : V6.cell? ⟨gx, 0, none⟩ = some (.int .i64 p) := by rw [hV, hg]; simp [go_sem]
  have x1 : V6.cell? ⟨gx, 1, none⟩ = some (.int .i64 c) := by rw [hV, hg]; simp [go_sem]
  have x2 : V6.cell? ⟨gx, 2, none⟩ = some (.int .i64 h) := by rw [hV, hg]; simp [go_sem]
  have x3 : V6.cell? ⟨gx, 3, none⟩ = some (.int .i64 s) := by rw [hV, hg]; simp [go_sem]
  have x4 : V6.cell? ⟨gx, 4, none⟩ = some (.slice D1 xs.length l1) := by rw [hV, hg]; simp [go_sem]
  have x5 : V6.cell? ⟨gx, 5, none⟩ = some (.slice D2 ys.length l2) := by rw [hV, hg]; simp [go_sem]
  have x6 : V6.cell? ⟨gx, 6, none⟩ = some (.int .i64 ra) := by rw [hV, hg]; simp [go_sem]
  have x7 : V6.cell? ⟨gx, 7, none⟩ = some (.int .i64 rb) := by rw [hV, hg]; simp [go_sem]
  have x8 : V6.cell? ⟨gx, 8, none⟩ = some (.int .i64 seed) := by rw [hV, hg]; simp [go_sem]
  have x9 : V6.cell? ⟨gx, 9, none⟩ = some (.slice (some ⟨gd, 0, none⟩) past.length past.length) := by rw [hV, hg]; simp [go_sem]
  replace HB : Hid (Below w.heap.size w V6) := by rw [hV]; exact HB.out.alloc HB.out.size _
  clear hV hg lb0_0
  have lb0_0 : w.heap.size < V6.heap.size := World.block_lt_of_cell? V6 _ b0_0
  have lx0 : gx < V6.heap.size := World.block_lt_of_cell? V6 _ x0
  go_wp2_with (fail)
  refine (DeskText_any p c h s ra rb seed D1 D2 _ xs.length _ ys.length _ past.length _ xs ys past _ SD1.out SD2.out SD3.out (by rw [L1.out]; exact m1) (by rw [L2.out]; exact m2) (by rw [L3.out]; exact m3) HM.out (HTB.out.below HB.out)).mono ?_
  rintro e V7 ⟨rfl, hb⟩
  clear lb0_0 lx0
  replace b0_0 : V7.cell? ⟨w.heap.size, 0, none⟩ = some (.int .i64 p) := keep_cell b0_0 hb
  replace b0_1 : V7.cell? ⟨w.heap.size, 1, none⟩ = some (.int .i64 c) := keep_cell b0_1 hb
  replace b0_2 : V7.cell? ⟨w.heap.size, 2, none⟩ = some (.int .i64 h) := keep_cell b0_2 hb
  replace b0_3 : V7.cell? ⟨w.heap.size, 3, none⟩ = some (.int .i64 s) := keep_cell b0_3 hb
  replace b0_4 : V7.cell? ⟨w.heap.size, 4, none⟩ = some (.slice A1 n1 a1) := keep_cell b0_4 hb
  replace b0_5 : V7.cell? ⟨w.heap.size, 5, none⟩ = some (.slice A2 n2 a2) := keep_cell b0_5 hb
  replace b0_6 : V7.cell? ⟨w.heap.size, 6, none⟩ = some (.int .i64 ra) := keep_cell b0_6 hb
  replace b0_7 : V7.cell? ⟨w.heap.size, 7, none⟩ = some (.int .i64 rb) := keep_cell b0_7 hb
  replace b0_8 : V7.cell? ⟨w.heap.size, 8, none⟩ = some (.int .i64 seed) := keep_cell b0_8 hb
  replace b0_9 : V7.cell? ⟨w.heap.size, 9, none⟩ = some (.slice A3 n3 a3) := keep_cell b0_9 hb
  replace x0 : V7.cell? ⟨gx, 0, none⟩ = some (.int .i64 p) := keep_cell x0 hb
  replace x1 : V7.cell? ⟨gx, 1, none⟩ = some (.int .i64 c) := keep_cell x1 hb
  replace x2 : V7.cell? ⟨gx, 2, none⟩ = some (.int .i64 h) := keep_cell x2 hb
  replace x3 : V7.cell? ⟨gx, 3, none⟩ = some (.int .i64 s) := keep_cell x3 hb
  replace x4 : V7.cell? ⟨gx, 4, none⟩ = some (.slice D1 xs.length l1) := keep_cell x4 hb
  replace x5 : V7.cell? ⟨gx, 5, none⟩ = some (.slice D2 ys.length l2) := keep_cell x5 hb
  replace x6 : V7.cell? ⟨gx, 6, none⟩ = some (.int .i64 ra) := keep_cell x6 hb
  replace x7 : V7.cell? ⟨gx, 7, none⟩ = some (.int .i64 rb) := keep_cell x7 hb
  replace x8 : V7.cell? ⟨gx, 8, none⟩ = some (.int .i64 seed) := keep_cell x8 hb
  replace x9 : V7.cell? ⟨gx, 9, none⟩ = some (.slice (some ⟨gd, 0, none⟩) past.length past.length) := keep_cell x9 hb
  replace SB1 : Hid (SL V7 B1 xs.length xs) := SB1.out.below hb
  replace SB2 : Hid (SL V7 B2 ys.length ys) := SB2.out.below hb
  replace SD1 : Hid (SL V7 D1 xs.length xs) := SD1.out.below hb
  replace SD2 : Hid (SL V7 D2 ys.length ys) := SD2.out.below hb
  replace SB3 : Hid (SBs V7 (some ⟨gb, 0, none⟩) past.length past) := SB3.out.below hb
  replace SD3 : Hid (SBs V7 (some ⟨gd, 0, none⟩) past.length past) := SD3.out.below hb
  replace HB : Hid (Below w.heap.size w V7) := HB.out.trans (hb.mono HB.out.size)
  have lb0_0 : w.heap.size < V7.heap.size := World.block_lt_of_cell? V7 _ b0_0
  have lx0 : gx < V7.heap.size := World.block_lt_of_cell? V7 _ x0
  clear hb
  unfold strV
  generalize ByteArray.mk (deskTx p c h s xs ys ra rb seed past).toArray = G
  have hGG : (G != G) = false := ba_ne G
  go_wp2_with (fail)
  go_region_held3 (fun w' => w'.cell? ⟨w.heap.size, 0, none⟩ = some (.int .i64 p) ∧ w'.cell? ⟨w.heap.size, 1, none⟩ = some (.int .i64 c) ∧ w'.cell? ⟨w.heap.size, 2, none⟩ = some (.int .i64 h) ∧ w'.cell? ⟨w.heap.size, 3, none⟩ = some (.int .i64 s) ∧ w'.cell? ⟨w.heap.size, 4, none⟩ = some (.slice A1 n1 a1) ∧ w'.cell? ⟨w.heap.size, 5, none⟩ = some (.slice A2 n2 a2) ∧ w'.cell? ⟨w.heap.size, 6, none⟩ = some (.int .i64 ra) ∧ w'.cell? ⟨w.heap.size, 7, none⟩ = some (.int .i64 rb) ∧ w'.cell? ⟨w.heap.size, 8, none⟩ = some (.int .i64 seed) ∧ w'.cell? ⟨w.heap.size, 9, none⟩ = some (.slice A3 n3 a3) ∧ w'.cell? ⟨gx, 0, none⟩ = some (.int .i64 p) ∧ w'.cell? ⟨gx, 1, none⟩ = some (.int .i64 c) ∧ w'.cell? ⟨gx, 2, none⟩ = some (.int .i64 h) ∧ w'.cell? ⟨gx, 3, none⟩ = some (.int .i64 s) ∧ w'.cell? ⟨gx, 4, none⟩ = some (.slice D1 xs.length l1) ∧ w'.cell? ⟨gx, 5, none⟩ = some (.slice D2 ys.length l2) ∧ w'.cell? ⟨gx, 6, none⟩ = some (.int .i64 ra) ∧ w'.cell? ⟨gx, 7, none⟩ = some (.int .i64 rb) ∧ w'.cell? ⟨gx, 8, none⟩ = some (.int .i64 seed) ∧ w'.cell? ⟨gx, 9, none⟩ = some (.slice (some ⟨gd, 0, none⟩) past.length past.length))
  (first | (go_split_ands; exact ⟨keep_cell (keep_cell (by exact b0_0) hbE) hbF, keep_cell (keep_cell (by exact b0_1) hbE) hbF, keep_cell (keep_cell (by exact b0_2) hbE) hbF, keep_cell (keep_cell (by exact b0_3) hbE) hbF, keep_cell (keep_cell (by exact b0_4) hbE) hbF, keep_cell (keep_cell (by exact b0_5) hbE) hbF, keep_cell (keep_cell (by exact b0_6) hbE) hbF, keep_cell (keep_cell (by exact b0_7) hbE) hbF, keep_cell (keep_cell (by exact b0_8) hbE) hbF, keep_cell (keep_cell (by exact b0_9) hbE) hbF, keep_cell (keep_cell (by exact x0) hbE) hbF, keep_cell (keep_cell (by exact x1) hbE) hbF, keep_cell (keep_cell (by exact x2) hbE) hbF, keep_cell (keep_cell (by exact x3) hbE) hbF, keep_cell (keep_cell (by exact x4) hbE) hbF, keep_cell (keep_cell (by exact x5) hbE) hbF, keep_cell (keep_cell (by exact x6) hbE) hbF, keep_cell (keep_cell (by exact x7) hbE) hbF, keep_cell (keep_cell (by exact x8) hbE) hbF, keep_cell (keep_cell (by exact x9) hbE) hbF⟩) | (go_split_ands; exact ⟨keep_cell (by exact b0_0) hbE, keep_cell (by exact b0_1) hbE, keep_cell (by exact b0_2) hbE, keep_cell (by exact b0_3) hbE, keep_cell (by exact b0_4) hbE, keep_cell (by exact b0_5) hbE, keep_cell (by exact b0_6) hbE, keep_cell (by exact b0_7) hbE, keep_cell (by exact b0_8) hbE, keep_cell (by exact b0_9) hbE, keep_cell (by exact x0) hbE, keep_cell (by exact x1) hbE, keep_cell (by exact x2) hbE, keep_cell (by exact x3) hbE, keep_cell (by exact x4) hbE, keep_cell (by exact x5) hbE, keep_cell (by exact x6) hbE, keep_cell (by exact x7) hbE, keep_cell (by exact x8) hbE, keep_cell (by exact x9) hbE⟩) | go_keep)
  (first
    | (go_at_call 6; refine (toDesk_any p c h s ra rb seed A1 A2 A3 n1 a1 n2 a2 n3 a3 xs ys past _ (by exact H1.out.keep (Nat.le_refl _) HB.out.drew) (by exact H2.out.keep (Nat.le_refl _) HB.out.drew) (by exact H3.out.keep (Nat.le_refl _) HB.out.drew) m1 m2 m3 HM.out).mono ?_; rintro e wE ⟨E1, e1, E2, e2, ge, rfl, hoE1, hoE2, _, _, hsE, hbE⟩)
    | (go_at_call 8; refine (eqDesk_yes p c h s ra rb seed D1 D2 _ E1 E2 _ xs.length l1 ys.length l2 past.length past.length e1 e2 past.length xs ys _ (by exact SD1.out.drew.below hbE) (by exact SD2.out.drew.below hbE) (by exact (hoE1.sl rfl).1) (by exact (hoE2.sl rfl).1) (by rw [L1.out]; exact m1) (by rw [L2.out]; exact m2) (by intro W hW; exact eqBoardS_yes _ _ _ _ _ past W ((show SBs V7.drew _ _ _ from SD3.out).below (hbE.trans (hW.mono hbE.size))) (hsE.below hW) (by rw [L3.out]; exact m3) HM.out)).mono ?_; rintro e wF ⟨rfl, hbF⟩))
  have hbEs : w.heap.size ≤ wE.heap.size := Nat.le_trans HB.out.size hbE.size
  have HF := Lib.hid ((HB.out.drew.trans (hbE.mono HB.out.size)).trans (hbF.mono hbEs))
  clear hbE hbF
  go_wp2_with (fail)
  go_ret
  exact ⟨rfl, HF.out⟩
end Go.Proofs.YtkjlafcnmniomaaDoor

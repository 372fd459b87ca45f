/- How the laws copy a desk. There are no conditions. -/
import Derived.Test.YtkjlafcnmniomaaDoorA8
namespace Go.Proofs.YtkjlafcnmniomaaDoor
set_option linter.unusedVariables false
set_option linter.unusedSimpArgs false
open Go.RowKit

theorem SBs.keep {w w' : World} {A : Option Addr} {n : Nat} {bs : List (List Int × List Int)} {B : Nat} (h : SBs w A n bs) (hw : w.heap.size ≤ B) (hb : Below B w w') : SBs w' A n bs := h.below (hb.mono hw)
theorem OwnBs.setLow {w : World} {base g n k : Nat} {bs : List (List Int × List Int)} (h : OwnBs w base g n bs k) {a : Addr} (ha : a.block < base) (u : Value) : OwnBs (w.setCell a u) base g n bs k := by
  have hg := h.lt.1
  obtain ⟨cs, h1, h2⟩ := h
  refine ⟨cs, ownsRow_setCell_below h1 ha u, fun i hi => ?_⟩
  obtain ⟨A1, c1, A2, c2, q1, q2, o1, o2⟩ := h2 i hi
  exact ⟨A1, c1, A2, c2, q1, q2, o1.setLow (by omega) u, o2.setLow (by omega) u⟩
theorem OwnBs.mono {w : World} {base base' g n k : Nat} {bs : List (List Int × List Int)} (h : OwnBs w base g n bs k) (hb : base' ≤ base) : OwnBs w base' g n bs k := by
  obtain ⟨cs, h1, h2⟩ := h
  exact ⟨cs, own_base h1 hb, h2⟩

/-- A call hands back a desk of the call's own. -/
def RetDk (w : World) (p c h s ra rb seed : Int) (own other : List Int) (past : List (List Int × List Int)) (en : Ending) (w' : World) : Prop := ∃ A1 c1 A2 c2 g,
  en = .returned (.agg #[.int .i64 p, .int .i64 c, .int .i64 h, .int .i64 s, .slice A1 own.length c1, .slice A2 other.length c2, .int .i64 ra, .int .i64 rb, .int .i64 seed, .slice (some ⟨g, 0, none⟩) past.length past.length]) ∧
  OwnS w' w.heap.size 2 (.slice A1 own.length c1) own ∧ OwnS w' w.heap.size 2 (.slice A2 other.length c2) other ∧
  ((Value.slice A1 own.length c1).ownBlock = none ∨ (Value.slice A1 own.length c1).ownBlock ≠ (Value.slice A2 other.length c2).ownBlock) ∧ OwnBs w' w.heap.size g past.length past past.length ∧ SBs w' (some ⟨g, 0, none⟩) past.length past ∧ Below w.heap.size w w'

set_option maxHeartbeats 2000000 in
set_option maxRecDepth 100000 in
theorem toDesk_any (p c h s ra rb seed : Int) (A1 A2 A3 : Option Addr) (n1 a1 n2 a2 n3 a3 : Nat) (xs ys : List Int) (past : List (List Int × List Int)) (w : World) (h1 : SL w A1 n1 xs) (h2 : SL w A2 n2 ys) (h3 : SBs w A3 n3 past)
    (hn1 : n1 ≤ 2000000) (hn2 : n2 ≤ 2000000) (hn3 : n3 ≤ 2000000) (hm : ∀ b ∈ past, b.1.length ≤ 2000000 ∧ b.2.length ≤ 2000000) :
    Calls Tryd.prog 6 #[.agg #[.int .i64 p, .int .i64 c, .int .i64 h, .int .i64 s, .slice A1 n1 a1, .slice A2 n2 a2, .int .i64 ra, .int .i64 rb, .int .i64 seed, .slice A3 n3 a3]] w (RetDk w p c h s ra rb seed xs ys past) := by
  have H1 := Lib.hid h1
  have H2 := Lib.hid h2
  have H3 := Lib.hid h3
  have HM := Lib.hid hm
  clear h1 h2 h3 hm
  go_enter Tryd.func6, Tryd.ntmps6
  go_wp2_with (fail)
  obtain ⟨V1, hV⟩ : ∃ V, V = (((w.alloc (.cells #[.int .i64 p, .int .i64 c, .int .i64 h, .int .i64 s, .slice A1 n1 a1, .slice A2 n2 a2, .int .i64 ra, .int .i64 rb, .int .i64 seed, .slice A3 n3 a3] 31)).alloc (.cells #[.int .i64 0, .int .i64 0, .int .i64 0, .int .i64 0, .slice none 0 0, .slice none 0 0, .int .i64 0, .int .i64 0, .int .i64 0, .slice none 0 0] 39)).alloc (.cells #[.int .i64 0, .int .i64 0, .int .i64 0, .int .i64 0, .slice none 0 0, .slice none 0 0, .int .i64 0, .int .i64 0, .int .i64 0, .slice none 0 0] 39)) := ⟨_, rfl⟩
  try rw [← hV]
  have b0_0 : V1.cell? ⟨w.heap.size, 0, none⟩ = some (.int .i64 p) := by rw [hV]; simp [go_sem]
  have b0_1 : V1.cell? ⟨w.heap.size, 1, none⟩ = some (.int .i64 c) := by rw [hV]; simp [go_sem]
  have b0_2 : V1.cell? ⟨w.heap.size, 2, none⟩ = some (.int .i64 h) := by rw [hV]; simp [go_sem]
  have b0_3 : V1.cell? ⟨w.heap.size, 3, none⟩ = some (.int .i64 s) := by rw [hV]; simp [go_sem]
  have b0_4 : V1.cell? ⟨w.heap.size, 4, none⟩ = some (.slice A1 n1 a1) := by rw [hV]; simp [go_sem]
  have b0_5 : V1.cell? ⟨w.heap.size, 5, none⟩ = some (.slice A2 n2 a2) := by rw [hV]; simp [go_sem]
  have b0_6 : V1.cell? ⟨w.heap.size, 6, none⟩ = some (.int .i64 ra) := by rw [hV]; simp [go_sem]
  have b0_7 : V1.cell? ⟨w.heap.size, 7, none⟩ = some (.int .i64 rb) := by rw [hV]; simp [go_sem]
  have b0_8 : V1.cell? ⟨w.heap.size, 8, none⟩ = some (.int .i64 seed) := by rw [hV]; simp [go_sem]
  have b0_9 : V1.cell? ⟨w.heap.size, 9, none⟩ = some (.slice A3 n3 a3) := by rw [hV]; simp [go_sem]
  have b1_0 : V1.cell? ⟨w.heap.size + 1, 0, none⟩ = some (.int .i64 0) := by rw [hV]; simp [go_sem]
  have b1_1 : V1.cell? ⟨w.heap.size + 1, 1, none⟩ = some (.int .i64 0) := by rw [hV]; simp [go_sem]
  have b1_2 : V1.cell? ⟨w.heap.size + 1, 2, none⟩ = some (.int .i64 0) := by rw [hV]; simp [go_sem]
  have b1_3 : V1.cell? ⟨w.heap.size + 1, 3, none⟩ = some (.int .i64 0) := by rw [hV]; simp [go_sem]
  have b1_4 : V1.cell? ⟨w.heap.size + 1, 4, none⟩ = some (.slice none 0 0) := by rw [hV]; simp [go_sem]
  have b1_5 : V1.cell? ⟨w.heap.size + 1, 5, none⟩ = some (.slice none 0 0) := by rw [hV]; simp [go_sem]
  have b1_6 : V1.cell? ⟨w.heap.size + 1, 6, none⟩ = some (.int .i64 0) := by rw [hV]; simp [go_sem]
  have b1_7 : V1.cell? ⟨w.heap.size + 1, 7, none⟩ = some (.int .i64 0) := by rw [hV]; simp [go_sem]
  have b1_8 : V1.cell? ⟨w.heap.size + 1, 8, none⟩ = some (.int .i64 0) := by rw [hV]; simp [go_sem]
  have b1_9 : V1.cell? ⟨w.heap.size + 1, 9, none⟩ = some (.slice none 0 0) := by rw [hV]; simp [go_sem]
  have b2_0 : V1.cell? ⟨w.heap.size + 1 + 1, 0, none⟩ = some (.int .i64 0) := by rw [hV]; simp [go_sem]
  have b2_1 : V1.cell? ⟨w.heap.size + 1 + 1, 1, none⟩ = some (.int .i64 0) := by rw [hV]; simp [go_sem]
  have b2_2 : V1.cell? ⟨w.heap.size + 1 + 1, 2, none⟩ = some (.int .i64 0) := by rw [hV]; simp [go_sem]
  have b2_3 : V1.cell? ⟨w.heap.size + 1 + 1, 3, none⟩ = some (.int .i64 0) := by rw [hV]; simp [go_sem]
  have b2_4 : V1.cell? ⟨w.heap.size + 1 + 1, 4, none⟩ = some (.slice none 0 0) := by rw [hV]; simp [go_sem]
  have b2_5 : V1.cell? ⟨w.heap.size + 1 + 1, 5, none⟩ = some (.slice none 0 0) := by rw [hV]; simp [go_sem]
  have b2_6 : V1.cell? ⟨w.heap.size + 1 + 1, 6, none⟩ = some (.int .i64 0) := by rw [hV]; simp [go_sem]
  have b2_7 : V1.cell? ⟨w.heap.size + 1 + 1, 7, none⟩ = some (.int .i64 0) := by rw [hV]; simp [go_sem]
  have b2_8 : V1.cell? ⟨w.heap.size + 1 + 1, 8, none⟩ = some (.int .i64 0) := by rw [hV]; simp [go_sem]
  have b2_9 : V1.cell? ⟨w.heap.size + 1 + 1, 9, none⟩ = some (.slice none 0 0) := by rw [hV]; simp [go_sem]
  have f1_0 : V1.frozen? ⟨w.heap.size + 1, 0, none⟩ = false := by rw [hV]; simp [go_sem]
  have f1_1 : V1.frozen? ⟨w.heap.size + 1, 1, none⟩ = false := by rw [hV]; simp [go_sem]
  have f1_2 : V1.frozen? ⟨w.heap.size + 1, 2, none⟩ = false := by rw [hV]; simp [go_sem]
  have f1_3 : V1.frozen? ⟨w.heap.size + 1, 3, none⟩ = false := by rw [hV]; simp [go_sem]
  have f1_4 : V1.frozen? ⟨w.heap.size + 1, 4, none⟩ = false := by rw [hV]; simp [go_sem]
  have f1_5 : V1.frozen? ⟨w.heap.size + 1, 5, none⟩ = false := by rw [hV]; simp [go_sem]
  have f1_6 : V1.frozen? ⟨w.heap.size + 1, 6, none⟩ = false := by rw [hV]; simp [go_sem]
  have f1_7 : V1.frozen? ⟨w.heap.size + 1, 7, none⟩ = false := by rw [hV]; simp [go_sem]
  have f1_8 : V1.frozen? ⟨w.heap.size + 1, 8, none⟩ = false := by rw [hV]; simp [go_sem]
  have f1_9 : V1.frozen? ⟨w.heap.size + 1, 9, none⟩ = false := by rw [hV]; simp [go_sem]
  have f2_0 : V1.frozen? ⟨w.heap.size + 1 + 1, 0, none⟩ = false := by rw [hV]; simp [go_sem]
  have f2_1 : V1.frozen? ⟨w.heap.size + 1 + 1, 1, none⟩ = false := by rw [hV]; simp [go_sem]
  have f2_2 : V1.frozen? ⟨w.heap.size + 1 + 1, 2, none⟩ = false := by rw [hV]; simp [go_sem]
  have f2_3 : V1.frozen? ⟨w.heap.size + 1 + 1, 3, none⟩ = false := by rw [hV]; simp [go_sem]
  have f2_4 : V1.frozen? ⟨w.heap.size + 1 + 1, 4, none⟩ = false := by rw [hV]; simp [go_sem]
  have f2_5 : V1.frozen? ⟨w.heap.size + 1 + 1, 5, none⟩ = false := by rw [hV]; simp [go_sem]
  have f2_6 : V1.frozen? ⟨w.heap.size + 1 + 1, 6, none⟩ = false := by rw [hV]; simp [go_sem]
  have f2_7 : V1.frozen? ⟨w.heap.size + 1 + 1, 7, none⟩ = false := by rw [hV]; simp [go_sem]
  have f2_8 : V1.frozen? ⟨w.heap.size + 1 + 1, 8, none⟩ = false := by rw [hV]; simp [go_sem]
  have f2_9 : V1.frozen? ⟨w.heap.size + 1 + 1, 9, none⟩ = false := by rw [hV]; simp [go_sem]
  have HB : Hid (Below w.heap.size w V1) := by rw [hV]; exact (((Below.refl _ _).alloc (by simp <;> omega) _).alloc (by simp <;> omega) _).alloc (by simp <;> omega) _
  clear hV
  have lb0_0 : w.heap.size < V1.heap.size := World.block_lt_of_cell? V1 _ b0_0
  have lb1_0 : w.heap.size + 1 < V1.heap.size := World.block_lt_of_cell? V1 _ b1_0
  have lb2_0 : w.heap.size + 1 + 1 < V1.heap.size := World.block_lt_of_cell? V1 _ b2_0
  have HZ := Lib.hid lb2_0
  refine (toVariant_any _ _ _ _ _).mono ?_
  rintro e V2 ⟨rfl, hb⟩
  clear lb0_0 lb1_0 lb2_0
  replace f1_0 : V2.frozen? ⟨w.heap.size + 1, 0, none⟩ = false := keep_froz f1_0 b1_0 hb
  replace f1_1 : V2.frozen? ⟨w.heap.size + 1, 1, none⟩ = false := keep_froz f1_1 b1_1 hb
  replace f1_2 : V2.frozen? ⟨w.heap.size + 1, 2, none⟩ = false := keep_froz f1_2 b1_2 hb
  replace f1_3 : V2.frozen? ⟨w.heap.size + 1, 3, none⟩ = false := keep_froz f1_3 b1_3 hb
  replace f1_4 : V2.frozen? ⟨w.heap.size + 1, 4, none⟩ = false := keep_froz f1_4 b1_4 hb
  replace f1_5 : V2.frozen? ⟨w.heap.size + 1, 5, none⟩ = false := keep_froz f1_5 b1_5 hb
  replace f1_6 : V2.frozen? ⟨w.heap.size + 1, 6, none⟩ = false := keep_froz f1_6 b1_6 hb
  replace f1_7 : V2.frozen? ⟨w.heap.size + 1, 7, none⟩ = false := keep_froz f1_7 b1_7 hb
  replace f1_8 : V2.frozen? ⟨w.heap.size + 1, 8, none⟩ = false := keep_froz f1_8 b1_8 hb
  replace f1_9 : V2.frozen? ⟨w.heap.size + 1, 9, none⟩ = false := keep_froz f1_9 b1_9 hb
  replace f2_0 : V2.frozen? ⟨w.heap.size + 1 + 1, 0, none⟩ = false := keep_froz f2_0 b2_0 hb
  replace f2_1 : V2.frozen? ⟨w.heap.size + 1 + 1, 1, none⟩ = false := keep_froz f2_1 b2_1 hb
  replace f2_2 : V2.frozen? ⟨w.heap.size + 1 + 1, 2, none⟩ = false := keep_froz f2_2 b2_2 hb
  replace f2_3 : V2.frozen? ⟨w.heap.size + 1 + 1, 3, none⟩ = false := keep_froz f2_3 b2_3 hb
  replace f2_4 : V2.frozen? ⟨w.heap.size + 1 + 1, 4, none⟩ = false := keep_froz f2_4 b2_4 hb
  replace f2_5 : V2.frozen? ⟨w.heap.size + 1 + 1, 5, none⟩ = false := keep_froz f2_5 b2_5 hb
  replace f2_6 : V2.frozen? ⟨w.heap.size + 1 + 1, 6, none⟩ = false := keep_froz f2_6 b2_6 hb
  replace f2_7 : V2.frozen? ⟨w.heap.size + 1 + 1, 7, none⟩ = false := keep_froz f2_7 b2_7 hb
  replace f2_8 : V2.frozen? ⟨w.heap.size + 1 + 1, 8, none⟩ = false := keep_froz f2_8 b2_8 hb
  replace f2_9 : V2.frozen? ⟨w.heap.size + 1 + 1, 9, none⟩ = false := keep_froz f2_9 b2_9 hb
  replace b0_0 : V2.cell? ⟨w.heap.size, 0, none⟩ = some (.int .i64 p) := keep_cell b0_0 hb
  replace b0_1 : V2.cell? ⟨w.heap.size, 1, none⟩ = some (.int .i64 c) := keep_cell b0_1 hb
  replace b0_2 : V2.cell? ⟨w.heap.size, 2, none⟩ = some (.int .i64 h) := keep_cell b0_2 hb
  replace b0_3 : V2.cell? ⟨w.heap.size, 3, none⟩ = some (.int .i64 s) := keep_cell b0_3 hb
  replace b0_4 : V2.cell? ⟨w.heap.size, 4, none⟩ = some (.slice A1 n1 a1) := keep_cell b0_4 hb
  replace b0_5 : V2.cell? ⟨w.heap.size, 5, none⟩ = some (.slice A2 n2 a2) := keep_cell b0_5 hb
  replace b0_6 : V2.cell? ⟨w.heap.size, 6, none⟩ = some (.int .i64 ra) := keep_cell b0_6 hb
  replace b0_7 : V2.cell? ⟨w.heap.size, 7, none⟩ = some (.int .i64 rb) := keep_cell b0_7 hb
  replace b0_8 : V2.cell? ⟨w.heap.size, 8, none⟩ = some (.int .i64 seed) := keep_cell b0_8 hb
  replace b0_9 : V2.cell? ⟨w.heap.size, 9, none⟩ = some (.slice A3 n3 a3) := keep_cell b0_9 hb
  replace b1_0 : V2.cell? ⟨w.heap.size + 1, 0, none⟩ = some (.int .i64 0) := keep_cell b1_0 hb
  replace b1_1 : V2.cell? ⟨w.heap.size + 1, 1, none⟩ = some (.int .i64 0) := keep_cell b1_1 hb
  replace b1_2 : V2.cell? ⟨w.heap.size + 1, 2, none⟩ = some (.int .i64 0) := keep_cell b1_2 hb
  replace b1_3 : V2.cell? ⟨w.heap.size + 1, 3, none⟩ = some (.int .i64 0) := keep_cell b1_3 hb
  replace b1_4 : V2.cell? ⟨w.heap.size + 1, 4, none⟩ = some (.slice none 0 0) := keep_cell b1_4 hb
  replace b1_5 : V2.cell? ⟨w.heap.size + 1, 5, none⟩ = some (.slice none 0 0) := keep_cell b1_5 hb
  replace b1_6 : V2.cell? ⟨w.heap.size + 1, 6, none⟩ = some (.int .i64 0) := keep_cell b1_6 hb
  replace b1_7 : V2.cell? ⟨w.heap.size + 1, 7, none⟩ = some (.int .i64 0) := keep_cell b1_7 hb
  replace b1_8 : V2.cell? ⟨w.heap.size + 1, 8, none⟩ = some (.int .i64 0) := keep_cell b1_8 hb
  replace b1_9 : V2.cell? ⟨w.heap.size + 1, 9, none⟩ = some (.slice none 0 0) := keep_cell b1_9 hb
  replace b2_0 : V2.cell? ⟨w.heap.size + 1 + 1, 0, none⟩ = some (.int .i64 0) := keep_cell b2_0 hb
  replace b2_1 : V2.cell? ⟨w.heap.size + 1 + 1, 1, none⟩ = some (.int .i64 0) := keep_cell b2_1 hb
  replace b2_2 : V2.cell? ⟨w.heap.size + 1 + 1, 2, none⟩ = some (.int .i64 0) := keep_cell b2_2 hb
  replace b2_3 : V2.cell? ⟨w.heap.size + 1 + 1, 3, none⟩ = some (.int .i64 0) := keep_cell b2_3 hb
  replace b2_4 : V2.cell? ⟨w.heap.size + 1 + 1, 4, none⟩ = some (.slice none 0 0) := keep_cell b2_4 hb
  replace b2_5 : V2.cell? ⟨w.heap.size + 1 + 1, 5, none⟩ = some (.slice none 0 0) := keep_cell b2_5 hb
  replace b2_6 : V2.cell? ⟨w.heap.size + 1 + 1, 6, none⟩ = some (.int .i64 0) := keep_cell b2_6 hb
  replace b2_7 : V2.cell? ⟨w.heap.size + 1 + 1, 7, none⟩ = some (.int .i64 0) := keep_cell b2_7 hb
  replace b2_8 : V2.cell? ⟨w.heap.size + 1 + 1, 8, none⟩ = some (.int .i64 0) := keep_cell b2_8 hb
  replace b2_9 : V2.cell? ⟨w.heap.size + 1 + 1, 9, none⟩ = some (.slice none 0 0) := keep_cell b2_9 hb
  replace HB : Hid (Below w.heap.size w V2) := HB.out.trans (hb.mono HB.out.size)
  have lb0_0 : w.heap.size < V2.heap.size := World.block_lt_of_cell? V2 _ b0_0
  have lb1_0 : w.heap.size + 1 < V2.heap.size := World.block_lt_of_cell? V2 _ b1_0
  have lb2_0 : w.heap.size + 1 + 1 < V2.heap.size := World.block_lt_of_cell? V2 _ b2_0
  clear hb
  go_wp2_with (fail)
  obtain ⟨V3, hV⟩ : ∃ V, V = ((((V2.setCell ⟨w.heap.size + 1 + 1, 0, none⟩ (.int .i64 p)).setCell ⟨w.heap.size + 1 + 1, 1, none⟩ (.int .i64 c)).setCell ⟨w.heap.size + 1 + 1, 2, none⟩ (.int .i64 h)).setCell ⟨w.heap.size + 1 + 1, 3, none⟩ (.int .i64 s)) := ⟨_, rfl⟩
  rw [← hV]
  clear lb0_0 lb1_0 lb2_0
  replace f1_0 : V3.frozen? ⟨w.heap.size + 1, 0, none⟩ = false := by rw [hV]; simp [go_sem, f1_0]
  replace f1_1 : V3.frozen? ⟨w.heap.size + 1, 1, none⟩ = false := by rw [hV]; simp [go_sem, f1_1]
  replace f1_2 : V3.frozen? ⟨w.heap.size + 1, 2, none⟩ = false := by rw [hV]; simp [go_sem, f1_2]
  replace f1_3 : V3.frozen? ⟨w.heap.size + 1, 3, none⟩ = false := by rw [hV]; simp [go_sem, f1_3]
  replace f1_4 : V3.frozen? ⟨w.heap.size + 1, 4, none⟩ = false := by rw [hV]; simp [go_sem, f1_4]
  replace f1_5 : V3.frozen? ⟨w.heap.size + 1, 5, none⟩ = false := by rw [hV]; simp [go_sem, f1_5]
  replace f1_6 : V3.frozen? ⟨w.heap.size + 1, 6, none⟩ = false := by rw [hV]; simp [go_sem, f1_6]
  replace f1_7 : V3.frozen? ⟨w.heap.size + 1, 7, none⟩ = false := by rw [hV]; simp [go_sem, f1_7]
  replace f1_8 : V3.frozen? ⟨w.heap.size + 1, 8, none⟩ = false := by rw [hV]; simp [go_sem, f1_8]
  replace f1_9 : V3.frozen? ⟨w.heap.size + 1, 9, none⟩ = false := by rw [hV]; simp [go_sem, f1_9]
  replace f2_0 : V3.frozen? ⟨w.heap.size + 1 + 1, 0, none⟩ = false := by rw [hV]; simp [go_sem, f2_0]
  replace f2_1 : V3.frozen? ⟨w.heap.size + 1 + 1, 1, none⟩ = false := by rw [hV]; simp [go_sem, f2_1]
  replace f2_2 : V3.frozen? ⟨w.heap.size + 1 + 1, 2, none⟩ = false := by rw [hV]; simp [go_sem, f2_2]
  replace f2_3 : V3.frozen? ⟨w.heap.size + 1 + 1, 3, none⟩ = false := by rw [hV]; simp [go_sem, f2_3]
  replace f2_4 : V3.frozen? ⟨w.heap.size + 1 + 1, 4, none⟩ = false := by rw [hV]; simp [go_sem, f2_4]
  replace f2_5 : V3.frozen? ⟨w.heap.size + 1 + 1, 5, none⟩ = false := by rw [hV]; simp [go_sem, f2_5]
  replace f2_6 : V3.frozen? ⟨w.heap.size + 1 + 1, 6, none⟩ = false := by rw [hV]; simp [go_sem, f2_6]
  replace f2_7 : V3.frozen? ⟨w.heap.size + 1 + 1, 7, none⟩ = false := by rw [hV]; simp [go_sem, f2_7]
  replace f2_8 : V3.frozen? ⟨w.heap.size + 1 + 1, 8, none⟩ = false := by rw [hV]; simp [go_sem, f2_8]
  replace f2_9 : V3.frozen? ⟨w.heap.size + 1 + 1, 9, none⟩ = false := by rw [hV]; simp [go_sem, f2_9]
  replace b0_0 : V3.cell? ⟨w.heap.size, 0, none⟩ = some (.int .i64 p) := by rw [hV]; simp [go_sem, b0_0]
  replace b0_1 : V3.cell? ⟨w.heap.size, 1, none⟩ = some (.int .i64 c) := by rw [hV]; simp [go_sem, b0_1]
  replace b0_2 : V3.cell? ⟨w.heap.size, 2, none⟩ = some (.int .i64 h) := by rw [hV]; simp [go_sem, b0_2]
  replace b0_3 : V3.cell? ⟨w.heap.size, 3, none⟩ = some (.int .i64 s) := by rw [hV]; simp [go_sem, b0_3]
  replace b0_4 : V3.cell? ⟨w.heap.size, 4, none⟩ = some (.slice A1 n1 a1) := by rw [hV]; simp [go_sem, b0_4]
  replace b0_5 : V3.cell? ⟨w.heap.size, 5, none⟩ = some (.slice A2 n2 a2) := by rw [hV]; simp [go_sem, b0_5]
  replace b0_6 : V3.cell? ⟨w.heap.size, 6, none⟩ = some (.int .i64 ra) := by rw [hV]; simp [go_sem, b0_6]
  replace b0_7 : V3.cell? ⟨w.heap.size, 7, none⟩ = some (.int .i64 rb) := by rw [hV]; simp [go_sem, b0_7]
  replace b0_8 : V3.cell? ⟨w.heap.size, 8, none⟩ = some (.int .i64 seed) := by rw [hV]; simp [go_sem, b0_8]
  replace b0_9 : V3.cell? ⟨w.heap.size, 9, none⟩ = some (.slice A3 n3 a3) := by rw [hV]; simp [go_sem, b0_9]
  replace b1_0 : V3.cell? ⟨w.heap.size + 1, 0, none⟩ = some (.int .i64 0) := by rw [hV]; simp [go_sem, b1_0]
  replace b1_1 : V3.cell? ⟨w.heap.size + 1, 1, none⟩ = some (.int .i64 0) := by rw [hV]; simp [go_sem, b1_1]
  replace b1_2 : V3.cell? ⟨w.heap.size + 1, 2, none⟩ = some (.int .i64 0) := by rw [hV]; simp [go_sem, b1_2]
  replace b1_3 : V3.cell? ⟨w.heap.size + 1, 3, none⟩ = some (.int .i64 0) := by rw [hV]; simp [go_sem, b1_3]
  replace b1_4 : V3.cell? ⟨w.heap.size + 1, 4, none⟩ = some (.slice none 0 0) := by rw [hV]; simp [go_sem, b1_4]
  replace b1_5 : V3.cell? ⟨w.heap.size + 1, 5, none⟩ = some (.slice none 0 0) := by rw [hV]; simp [go_sem, b1_5]
  replace b1_6 : V3.cell? ⟨w.heap.size + 1, 6, none⟩ = some (.int .i64 0) := by rw [hV]; simp [go_sem, b1_6]
  replace b1_7 : V3.cell? ⟨w.heap.size + 1, 7, none⟩ = some (.int .i64 0) := by rw [hV]; simp [go_sem, b1_7]
  replace b1_8 : V3.cell? ⟨w.heap.size + 1, 8, none⟩ = some (.int .i64 0) := by rw [hV]; simp [go_sem, b1_8]
  replace b1_9 : V3.cell? ⟨w.heap.size + 1, 9, none⟩ = some (.slice none 0 0) := by rw [hV]; simp [go_sem, b1_9]
  replace b2_0 : V3.cell? ⟨w.heap.size + 1 + 1, 0, none⟩ = some (.int .i64 p) := by rw [hV]; simp [go_sem, b2_0]
  replace b2_1 : V3.cell? ⟨w.heap.size + 1 + 1, 1, none⟩ = some (.int .i64 c) := by rw [hV]; simp [go_sem, b2_1]
  replace b2_2 : V3.cell? ⟨w.heap.size + 1 + 1, 2, none⟩ = some (.int .i64 h) := by rw [hV]; simp [go_sem, b2_2]
  replace b2_3 : V3.cell? ⟨w.heap.size + 1 + 1, 3, none⟩ = some (.int .i64 s) := by rw [hV]; simp [go_sem, b2_3]
  replace b2_4 : V3.cell? ⟨w.heap.size + 1 + 1, 4, none⟩ = some (.slice none 0 0) := by rw [hV]; simp [go_sem, b2_4]
  replace b2_5 : V3.cell? ⟨w.heap.size + 1 + 1, 5, none⟩ = some (.slice none 0 0) := by rw [hV]; simp [go_sem, b2_5]
  replace b2_6 : V3.cell? ⟨w.heap.size + 1 + 1, 6, none⟩ = some (.int .i64 0) := by rw [hV]; simp [go_sem, b2_6]
  replace b2_7 : V3.cell? ⟨w.heap.size + 1 + 1, 7, none⟩ = some (.int .i64 0) := by rw [hV]; simp [go_sem, b2_7]
  replace b2_8 : V3.cell? ⟨w.heap.size + 1 + 1, 8, none⟩ = some (.int .i64 0) := by rw [hV]; simp [go_sem, b2_8]
  replace b2_9 : V3.cell? ⟨w.heap.size + 1 + 1, 9, none⟩ = some (.slice none 0 0) := by rw [hV]; simp [go_sem, b2_9]
  replace HB : Hid (Below w.heap.size w V3) := by rw [hV]; exact ((((HB.out.setCell (p := ⟨w.heap.size + 1 + 1, 0, none⟩) (by simp <;> omega) _).setCell (p := ⟨w.heap.size + 1 + 1, 1, none⟩) (by simp <;> omega) _).setCell (p := ⟨w.heap.size + 1 + 1, 2, none⟩) (by simp <;> omega) _).setCell (p := ⟨w.heap.size + 1 + 1, 3, none⟩) (by simp <;> omega) _)
  clear hV
  have lb0_0 : w.heap.size < V3.heap.size := World.block_lt_of_cell? V3 _ b0_0
  have lb1_0 : w.heap.size + 1 < V3.heap.size := World.block_lt_of_cell? V3 _ b1_0
  have lb2_0 : w.heap.size + 1 + 1 < V3.heap.size := World.block_lt_of_cell? V3 _ b2_0
  refine (toBoard_any A1 A2 n1 a1 n2 a2 xs ys _ (H1.out.keep (Nat.le_refl _) HB.out) (H2.out.keep (Nat.le_refl _) HB.out) hn1 hn2).mono ?_
  rintro e V4 ⟨B1, k1, B2, k2, rfl, ho1, ho2, hap, hb⟩
  replace ho1 := Lib.hid (ho1.mono (base' := w.heap.size + 1 + 1 + 1) lb2_0)
  replace ho2 := Lib.hid (ho2.mono (base' := w.heap.size + 1 + 1 + 1) lb2_0)
  have HA := Lib.hid hap
  clear hap
  clear lb0_0 lb1_0 lb2_0
  replace f1_0 : V4.frozen? ⟨w.heap.size + 1, 0, none⟩ = false := keep_froz f1_0 b1_0 hb
  replace f1_1 : V4.frozen? ⟨w.heap.size + 1, 1, none⟩ = false := keep_froz f1_1 b1_1 hb
  replace f1_2 : V4.frozen? ⟨w.heap.size + 1, 2, none⟩ = false := keep_froz f1_2 b1_2 hb
  replace f1_3 : V4.frozen? ⟨w.heap.size + 1, 3, none⟩ = false := keep_froz f1_3 b1_3 hb
  replace f1_4 : V4.frozen? ⟨w.heap.size + 1, 4, none⟩ = false := keep_froz f1_4 b1_4 hb
  replace f1_5 : V4.frozen? ⟨w.heap.size + 1, 5, none⟩ = false := keep_froz f1_5 b1_5 hb
  replace f1_6 : V4.frozen? ⟨w.heap.size + 1, 6, none⟩ = false := keep_froz f1_6 b1_6 hb
  replace f1_7 : V4.frozen? ⟨w.heap.size + 1, 7, none⟩ = false := keep_froz f1_7 b1_7 hb
  replace f1_8 : V4.frozen? ⟨w.heap.size + 1, 8, none⟩ = false := keep_froz f1_8 b1_8 hb
  replace f1_9 : V4.frozen? ⟨w.heap.size + 1, 9, none⟩ = false := keep_froz f1_9 b1_9 hb
  replace f2_0 : V4.frozen? ⟨w.heap.size + 1 + 1, 0, none⟩ = false := keep_froz f2_0 b2_0 hb
  replace f2_1 : V4.frozen? ⟨w.heap.size + 1 + 1, 1, none⟩ = false := keep_froz f2_1 b2_1 hb
  replace f2_2 : V4.frozen? ⟨w.heap.size + 1 + 1, 2, none⟩ = false := keep_froz f2_2 b2_2 hb
  replace f2_3 : V4.frozen? ⟨w.heap.size + 1 + 1, 3, none⟩ = false := keep_froz f2_3 b2_3 hb
  replace f2_4 : V4.frozen? ⟨w.heap.size + 1 + 1, 4, none⟩ = false := keep_froz f2_4 b2_4 hb
  replace f2_5 : V4.frozen? ⟨w.heap.size + 1 + 1, 5, none⟩ = false := keep_froz f2_5 b2_5 hb
  replace f2_6 : V4.frozen? ⟨w.heap.size + 1 + 1, 6, none⟩ = false := keep_froz f2_6 b2_6 hb
  replace f2_7 : V4.frozen? ⟨w.heap.size + 1 + 1, 7, none⟩ = false := keep_froz f2_7 b2_7 hb
  replace f2_8 : V4.frozen? ⟨w.heap.size + 1 + 1, 8, none⟩ = false := keep_froz f2_8 b2_8 hb
  replace f2_9 : V4.frozen? ⟨w.heap.size + 1 + 1, 9, none⟩ = false := keep_froz f2_9 b2_9 hb
  replace b0_0 : V4.cell? ⟨w.heap.size, 0, none⟩ = some (.int .i64 p) := keep_cell b0_0 hb
  replace b0_1 : V4.cell? ⟨w.heap.size, 1, none⟩ = some (.int .i64 c) := keep_cell b0_1 hb
  replace b0_2 : V4.cell? ⟨w.heap.size, 2, none⟩ = some (.int .i64 h) := keep_cell b0_2 hb
  replace b0_3 : V4.cell? ⟨w.heap.size, 3, none⟩ = some (.int .i64 s) := keep_cell b0_3 hb
  replace b0_4 : V4.cell? ⟨w.heap.size, 4, none⟩ = some (.slice A1 n1 a1) := keep_cell b0_4 hb
  replace b0_5 : V4.cell? ⟨w.heap.size, 5, none⟩ = some (.slice A2 n2 a2) := keep_cell b0_5 hb
  replace b0_6 : V4.cell? ⟨w.heap.size, 6, none⟩ = some (.int .i64 ra) := keep_cell b0_6 hb
  replace b0_7 : V4.cell? ⟨w.heap.size, 7, none⟩ = some (.int .i64 rb) := keep_cell b0_7 hb
  replace b0_8 : V4.cell? ⟨w.heap.size, 8, none⟩ = some (.int .i64 seed) := keep_cell b0_8 hb
  replace b0_9 : V4.cell? ⟨w.heap.size, 9, none⟩ = some (.slice A3 n3 a3) := keep_cell b0_9 hb
  replace b1_0 : V4.cell? ⟨w.heap.size + 1, 0, none⟩ = some (.int .i64 0) := keep_cell b1_0 hb
  replace b1_1 : V4.cell? ⟨w.heap.size + 1, 1, none⟩ = some (.int .i64 0) := keep_cell b1_1 hb
  replace b1_2 : V4.cell? ⟨w.heap.size + 1, 2, none⟩ = some (.int .i64 0) := keep_cell b1_2 hb
  replace b1_3 : V4.cell? ⟨w.heap.size + 1, 3, none⟩ = some (.int .i64 0) := keep_cell b1_3 hb
  replace b1_4 : V4.cell? ⟨w.heap.size + 1, 4, none⟩ = some (.slice none 0 0) := keep_cell b1_4 hb
  replace b1_5 : V4.cell? ⟨w.heap.size + 1, 5, none⟩ = some (.slice none 0 0) := keep_cell b1_5 hb
  replace b1_6 : V4.cell? ⟨w.heap.size + 1, 6, none⟩ = some (.int .i64 0) := keep_cell b1_6 hb
  replace b1_7 : V4.cell? ⟨w.heap.size + 1, 7, none⟩ = some (.int .i64 0) := keep_cell b1_7 hb
  replace b1_8 : V4.cell? ⟨w.heap.size + 1, 8, none⟩ = some (.int .i64 0) := keep_cell b1_8 hb
  replace b1_9 : V4.cell? ⟨w.heap.size + 1, 9, none⟩ = some (.slice none 0 0) := keep_cell b1_9 hb
  replace b2_0 : V4.cell? ⟨w.heap.size + 1 + 1, 0, none⟩ = some (.int .i64 p) := keep_cell b2_0 hb
  replace b2_1 : V4.cell? ⟨w.heap.size + 1 + 1, 1, none⟩ = some (.int .i64 c) := keep_cell b2_1 hb
  replace b2_2 : V4.cell? ⟨w.heap.size + 1 + 1, 2, none⟩ = some (.int .i64 h) := keep_cell b2_2 hb
  replace b2_3 : V4.cell? ⟨w.heap.size + 1 + 1, 3, none⟩ = some (.int .i64 s) := keep_cell b2_3 hb
  replace b2_4 : V4.cell? ⟨w.heap.size + 1 + 1, 4, none⟩ = some (.slice none 0 0) := keep_cell b2_4 hb
  replace b2_5 : V4.cell? ⟨w.heap.size + 1 + 1, 5, none⟩ = some (.slice none 0 0) := keep_cell b2_5 hb
  replace b2_6 : V4.cell? ⟨w.heap.size + 1 + 1, 6, none⟩ = some (.int .i64 0) := keep_cell b2_6 hb
  replace b2_7 : V4.cell? ⟨w.heap.size + 1 + 1, 7, none⟩ = some (.int .i64 0) := keep_cell b2_7 hb
  replace b2_8 : V4.cell? ⟨w.heap.size + 1 + 1, 8, none⟩ = some (.int .i64 0) := keep_cell b2_8 hb
  replace b2_9 : V4.cell? ⟨w.heap.size + 1 + 1, 9, none⟩ = some (.slice none 0 0) := keep_cell b2_9 hb
  replace HB : Hid (Below w.heap.size w V4) := HB.out.trans (hb.mono HB.out.size)
  have lb0_0 : w.heap.size < V4.heap.size := World.block_lt_of_cell? V4 _ b0_0
  have lb1_0 : w.heap.size + 1 < V4.heap.size := World.block_lt_of_cell? V4 _ b1_0
  have lb2_0 : w.heap.size + 1 + 1 < V4.heap.size := World.block_lt_of_cell? V4 _ b2_0
  clear hb
  go_wp2_with (fail)
  obtain ⟨V5, hV⟩ : ∃ V, V = ((V4.setCell ⟨w.heap.size + 1 + 1, 4, none⟩ (.slice B1 xs.length k1)).setCell ⟨w.heap.size + 1 + 1, 5, none⟩ (.slice B2 ys.length k2)) := ⟨_, rfl⟩
  rw [← hV]
  clear lb0_0 lb1_0 lb2_0
  replace f1_0 : V5.frozen? ⟨w.heap.size + 1, 0, none⟩ = false := by rw [hV]; simp [go_sem, f1_0]
  replace f1_1 : V5.frozen? ⟨w.heap.size + 1, 1, none⟩ = false := by rw [hV]; simp [go_sem, f1_1]
  replace f1_2 : V5.frozen? ⟨w.heap.size + 1, 2, none⟩ = false := by rw [hV]; simp [go_sem, f1_2]
  replace f1_3 : V5.frozen? ⟨w.heap.size + 1, 3, none⟩ = false := by rw [hV]; simp [go_sem, f1_3]
  replace f1_4 : V5.frozen? ⟨w.heap.size + 1, 4, none⟩ = false := by rw [hV]; simp [go_sem, f1_4]
  replace f1_5 : V5.frozen? ⟨w.heap.size + 1, 5, none⟩ = false := by rw [hV]; simp [go_sem, f1_5]
  replace f1_6 : V5.frozen? ⟨w.heap.size + 1, 6, none⟩ = false := by rw [hV]; simp [go_sem, f1_6]
  replace f1_7 : V5.frozen? ⟨w.heap.size + 1, 7, none⟩ = false := by rw [hV]; simp [go_sem, f1_7]
  replace f1_8 : V5.frozen? ⟨w.heap.size + 1, 8, none⟩ = false := by rw [hV]; simp [go_sem, f1_8]
  replace f1_9 : V5.frozen? ⟨w.heap.size + 1, 9, none⟩ = false := by rw [hV]; simp [go_sem, f1_9]
  replace f2_0 : V5.frozen? ⟨w.heap.size + 1 + 1, 0, none⟩ = false := by rw [hV]; simp [go_sem, f2_0]
  replace f2_1 : V5.frozen? ⟨w.heap.size + 1 + 1, 1, none⟩ = false := by rw [hV]; simp [go_sem, f2_1]
  replace f2_2 : V5.frozen? ⟨w.heap.size + 1 + 1, 2, none⟩ = false := by rw [hV]; simp [go_sem, f2_2]
  replace f2_3 : V5.frozen? ⟨w.heap.size + 1 + 1, 3, none⟩ = false := by rw [hV]; simp [go_sem, f2_3]
  replace f2_4 : V5.frozen? ⟨w.heap.size + 1 + 1, 4, none⟩ = false := by rw [hV]; simp [go_sem, f2_4]
  replace f2_5 : V5.frozen? ⟨w.heap.size + 1 + 1, 5, none⟩ = false := by rw [hV]; simp [go_sem, f2_5]
  replace f2_6 : V5.frozen? ⟨w.heap.size + 1 + 1, 6, none⟩ = false := by rw [hV]; simp [go_sem, f2_6]
  replace f2_7 : V5.frozen? ⟨w.heap.size + 1 + 1, 7, none⟩ = false := by rw [hV]; simp [go_sem, f2_7]
  replace f2_8 : V5.frozen? ⟨w.heap.size + 1 + 1, 8, none⟩ = false := by rw [hV]; simp [go_sem, f2_8]
  replace f2_9 : V5.frozen? ⟨w.heap.size + 1 + 1, 9, none⟩ = false := by rw [hV]; simp [go_sem, f2_9]
  replace b0_0 : V5.cell? ⟨w.heap.size, 0, none⟩ = some (.int .i64 p) := by rw [hV]; simp [go_sem, b0_0]
  replace b0_1 : V5.cell? ⟨w.heap.size, 1, none⟩ = some (.int .i64 c) := by rw [hV]; simp [go_sem, b0_1]
  replace b0_2 : V5.cell? ⟨w.heap.size, 2, none⟩ = some (.int .i64 h) := by rw [hV]; simp [go_sem, b0_2]
  replace b0_3 : V5.cell? ⟨w.heap.size, 3, none⟩ = some (.int .i64 s) := by rw [hV]; simp [go_sem, b0_3]
  replace b0_4 : V5.cell? ⟨w.heap.size, 4, none⟩ = some (.slice A1 n1 a1) := by rw [hV]; simp [go_sem, b0_4]
  replace b0_5 : V5.cell? ⟨w.heap.size, 5, none⟩ = some (.slice A2 n2 a2) := by rw [hV]; simp [go_sem, b0_5]
  replace b0_6 : V5.cell? ⟨w.heap.size, 6, none⟩ = some (.int .i64 ra) := by rw [hV]; simp [go_sem, b0_6]
  replace b0_7 : V5.cell? ⟨w.heap.size, 7, none⟩ = some (.int .i64 rb) := by rw [hV]; simp [go_sem, b0_7]
  replace b0_8 : V5.cell? ⟨w.heap.size, 8, none⟩ = some (.int .i64 seed) := by rw [hV]; simp [go_sem, b0_8]
  replace b0_9 : V5.cell? ⟨w.heap.size, 9, none⟩ = some (.slice A3 n3 a3) := by rw [hV]; simp [go_sem, b0_9]
  replace b1_0 : V5.cell? ⟨w.heap.size + 1, 0, none⟩ = some (.int .i64 0) := by rw [hV]; simp [go_sem, b1_0]
  replace b1_1 : V5.cell? ⟨w.heap.size + 1, 1, none⟩ = some (.int .i64 0) := by rw [hV]; simp [go_sem, b1_1]
  replace b1_2 : V5.cell? ⟨w.heap.size + 1, 2, none⟩ = some (.int .i64 0) := by rw [hV]; simp [go_sem, b1_2]
  replace b1_3 : V5.cell? ⟨w.heap.size + 1, 3, none⟩ = some (.int .i64 0) := by rw [hV]; simp [go_sem, b1_3]
  replace b1_4 : V5.cell? ⟨w.heap.size + 1, 4, none⟩ = some (.slice none 0 0) := by rw [hV]; simp [go_sem, b1_4]
  replace b1_5 : V5.cell? ⟨w.heap.size + 1, 5, none⟩ = some (.slice none 0 0) := by rw [hV]; simp [go_sem, b1_5]
  replace b1_6 : V5.cell? ⟨w.heap.size + 1, 6, none⟩ = some (.int .i64 0) := by rw [hV]; simp [go_sem, b1_6]
  replace b1_7 : V5.cell? ⟨w.heap.size + 1, 7, none⟩ = some (.int .i64 0) := by rw [hV]; simp [go_sem, b1_7]
  replace b1_8 : V5.cell? ⟨w.heap.size + 1, 8, none⟩ = some (.int .i64 0) := by rw [hV]; simp [go_sem, b1_8]
  replace b1_9 : V5.cell? ⟨w.heap.size + 1, 9, none⟩ = some (.slice none 0 0) := by rw [hV]; simp [go_sem, b1_9]
  replace b2_0 : V5.cell? ⟨w.heap.size + 1 + 1, 0, none⟩ = some (.int .i64 p) := by rw [hV]; simp [go_sem, b2_0]
  replace b2_1 : V5.cell? ⟨w.heap.size + 1 + 1, 1, none⟩ = some (.int .i64 c) := by rw [hV]; simp [go_sem, b2_1]
  replace b2_2 : V5.cell? ⟨w.heap.size + 1 + 1, 2, none⟩ = some (.int .i64 h) := by rw [hV]; simp [go_sem, b2_2]
  replace b2_3 : V5.cell? ⟨w.heap.size + 1 + 1, 3, none⟩ = some (.int .i64 s) := by rw [hV]; simp [go_sem, b2_3]
  replace b2_4 : V5.cell? ⟨w.heap.size + 1 + 1, 4, none⟩ = some (.slice B1 xs.length k1) := by rw [hV]; simp [go_sem, b2_4]
  replace b2_5 : V5.cell? ⟨w.heap.size + 1 + 1, 5, none⟩ = some (.slice B2 ys.length k2) := by rw [hV]; simp [go_sem, b2_5]
  replace b2_6 : V5.cell? ⟨w.heap.size + 1 + 1, 6, none⟩ = some (.int .i64 0) := by rw [hV]; simp [go_sem, b2_6]
  replace b2_7 : V5.cell? ⟨w.heap.size + 1 + 1, 7, none⟩ = some (.int .i64 0) := by rw [hV]; simp [go_sem, b2_7]
  replace b2_8 : V5.cell? ⟨w.heap.size + 1 + 1, 8, none⟩ = some (.int .i64 0) := by rw [hV]; simp [go_sem, b2_8]
  replace b2_9 : V5.cell? ⟨w.heap.size + 1 + 1, 9, none⟩ = some (.slice none 0 0) := by rw [hV]; simp [go_sem, b2_9]
  replace ho1 : Hid (OwnS V5 (w.heap.size + 1 + 1 + 1) 2 (.slice B1 xs.length k1) xs) := by rw [hV]; exact ((ho1.out.setLow (a := ⟨w.heap.size + 1 + 1, 4, none⟩) (by simp <;> omega) _).setLow (a := ⟨w.heap.size + 1 + 1, 5, none⟩) (by simp <;> omega) _)
  replace ho2 : Hid (OwnS V5 (w.heap.size + 1 + 1 + 1) 2 (.slice B2 ys.length k2) ys) := by rw [hV]; exact ((ho2.out.setLow (a := ⟨w.heap.size + 1 + 1, 4, none⟩) (by simp <;> omega) _).setLow (a := ⟨w.heap.size + 1 + 1, 5, none⟩) (by simp <;> omega) _)
  replace HB : Hid (Below w.heap.size w V5) := by rw [hV]; exact ((HB.out.setCell (p := ⟨w.heap.size + 1 + 1, 4, none⟩) (by simp <;> omega) _).setCell (p := ⟨w.heap.size + 1 + 1, 5, none⟩) (by simp <;> omega) _)
  clear hV
  have lb0_0 : w.heap.size < V5.heap.size := World.block_lt_of_cell? V5 _ b0_0
  have lb1_0 : w.heap.size + 1 < V5.heap.size := World.block_lt_of_cell? V5 _ b1_0
  have lb2_0 : w.heap.size + 1 + 1 < V5.heap.size := World.block_lt_of_cell? V5 _ b2_0
  refine (toRoll_any _ _ _).mono ?_
  rintro e V6 ⟨rfl, hb⟩
  clear lb0_0 lb1_0 lb2_0
  replace f1_0 : V6.frozen? ⟨w.heap.size + 1, 0, none⟩ = false := keep_froz f1_0 b1_0 hb
  replace f1_1 : V6.frozen? ⟨w.heap.size + 1, 1, none⟩ = false := keep_froz f1_1 b1_1 hb
  replace f1_2 : V6.frozen? ⟨w.heap.size + 1, 2, none⟩ = false := keep_froz f1_2 b1_2 hb
  replace f1_3 : V6.frozen? ⟨w.heap.size + 1, 3, none⟩ = false := keep_froz f1_3 b1_3 hb
  replace f1_4 : V6.frozen? ⟨w.heap.size + 1, 4, none⟩ = false := keep_froz f1_4 b1_4 hb
  replace f1_5 : V6.frozen? ⟨w.heap.size + 1, 5, none⟩ = false := keep_froz f1_5 b1_5 hb
  replace f1_6 : V6.frozen? ⟨w.heap.size + 1, 6, none⟩ = false := keep_froz f1_6 b1_6 hb
  replace f1_7 : V6.frozen? ⟨w.heap.size + 1, 7, none⟩ = false := keep_froz f1_7 b1_7 hb
  replace f1_8 : V6.frozen? ⟨w.heap.size + 1, 8, none⟩ = false := keep_froz f1_8 b1_8 hb
  replace f1_9 : V6.frozen? ⟨w.heap.size + 1, 9, none⟩ = false := keep_froz f1_9 b1_9 hb
  replace f2_0 : V6.frozen? ⟨w.heap.size + 1 + 1, 0, none⟩ = false := keep_froz f2_0 b2_0 hb
  replace f2_1 : V6.frozen? ⟨w.heap.size + 1 + 1, 1, none⟩ = false := keep_froz f2_1 b2_1 hb
  replace f2_2 : V6.frozen? ⟨w.heap.size + 1 + 1, 2, none⟩ = false := keep_froz f2_2 b2_2 hb
  replace f2_3 : V6.frozen? ⟨w.heap.size + 1 + 1, 3, none⟩ = false := keep_froz f2_3 b2_3 hb
  replace f2_4 : V6.frozen? ⟨w.heap.size + 1 + 1, 4, none⟩ = false := keep_froz f2_4 b2_4 hb
  replace f2_5 : V6.frozen? ⟨w.heap.size + 1 + 1, 5, none⟩ = false := keep_froz f2_5 b2_5 hb
  replace f2_6 : V6.frozen? ⟨w.heap.size + 1 + 1, 6, none⟩ = false := keep_froz f2_6 b2_6 hb
  replace f2_7 : V6.frozen? ⟨w.heap.size + 1 + 1, 7, none⟩ = false := keep_froz f2_7 b2_7 hb
  replace f2_8 : V6.frozen? ⟨w.heap.size + 1 + 1, 8, none⟩ = false := keep_froz f2_8 b2_8 hb
  replace f2_9 : V6.frozen? ⟨w.heap.size + 1 + 1, 9, none⟩ = false := keep_froz f2_9 b2_9 hb
  replace b0_0 : V6.cell? ⟨w.heap.size, 0, none⟩ = some (.int .i64 p) := keep_cell b0_0 hb
  replace b0_1 : V6.cell? ⟨w.heap.size, 1, none⟩ = some (.int .i64 c) := keep_cell b0_1 hb
  replace b0_2 : V6.cell? ⟨w.heap.size, 2, none⟩ = some (.int .i64 h) := keep_cell b0_2 hb
  replace b0_3 : V6.cell? ⟨w.heap.size, 3, none⟩ = some (.int .i64 s) := keep_cell b0_3 hb
  replace b0_4 : V6.cell? ⟨w.heap.size, 4, none⟩ = some (.slice A1 n1 a1) := keep_cell b0_4 hb
  replace b0_5 : V6.cell? ⟨w.heap.size, 5, none⟩ = some (.slice A2 n2 a2) := keep_cell b0_5 hb
  replace b0_6 : V6.cell? ⟨w.heap.size, 6, none⟩ = some (.int .i64 ra) := keep_cell b0_6 hb
  replace b0_7 : V6.cell? ⟨w.heap.size, 7, none⟩ = some (.int .i64 rb) := keep_cell b0_7 hb
  replace b0_8 : V6.cell? ⟨w.heap.size, 8, none⟩ = some (.int .i64 seed) := keep_cell b0_8 hb
  replace b0_9 : V6.cell? ⟨w.heap.size, 9, none⟩ = some (.slice A3 n3 a3) := keep_cell b0_9 hb
  replace b1_0 : V6.cell? ⟨w.heap.size + 1, 0, none⟩ = some (.int .i64 0) := keep_cell b1_0 hb
  replace b1_1 : V6.cell? ⟨w.heap.size + 1, 1, none⟩ = some (.int .i64 0) := keep_cell b1_1 hb
  replace b1_2 : V6.cell? ⟨w.heap.size + 1, 2, none⟩ = some (.int .i64 0) := keep_cell b1_2 hb
  replace b1_3 : V6.cell? ⟨w.heap.size + 1, 3, none⟩ = some (.int .i64 0) := keep_cell b1_3 hb
  replace b1_4 : V6.cell? ⟨w.heap.size + 1, 4, none⟩ = some (.slice none 0 0) := keep_cell b1_4 hb
  replace b1_5 : V6.cell? ⟨w.heap.size + 1, 5, none⟩ = some (.slice none 0 0) := keep_cell b1_5 hb
  replace b1_6 : V6.cell? ⟨w.heap.size + 1, 6, none⟩ = some (.int .i64 0) := keep_cell b1_6 hb
  replace b1_7 : V6.cell? ⟨w.heap.size + 1, 7, none⟩ = some (.int .i64 0) := keep_cell b1_7 hb
  replace b1_8 : V6.cell? ⟨w.heap.size + 1, 8, none⟩ = some (.int .i64 0) := keep_cell b1_8 hb
  replace b1_9 : V6.cell? ⟨w.heap.size + 1, 9, none⟩ = some (.slice none 0 0) := keep_cell b1_9 hb
  replace b2_0 : V6.cell? ⟨w.heap.size + 1 + 1, 0, none⟩ = some (.int .i64 p) := keep_cell b2_0 hb
  replace b2_1 : V6.cell? ⟨w.heap.size + 1 + 1, 1, none⟩ = some (.int .i64 c) := keep_cell b2_1 hb
  replace b2_2 : V6.cell? ⟨w.heap.size + 1 + 1, 2, none⟩ = some (.int .i64 h) := keep_cell b2_2 hb
  replace b2_3 : V6.cell? ⟨w.heap.size + 1 + 1, 3, none⟩ = some (.int .i64 s) := keep_cell b2_3 hb
  replace b2_4 : V6.cell? ⟨w.heap.size + 1 + 1, 4, none⟩ = some (.slice B1 xs.length k1) := keep_cell b2_4 hb
  replace b2_5 : V6.cell? ⟨w.heap.size + 1 + 1, 5, none⟩ = some (.slice B2 ys.length k2) := keep_cell b2_5 hb
  replace b2_6 : V6.cell? ⟨w.heap.size + 1 + 1, 6, none⟩ = some (.int .i64 0) := keep_cell b2_6 hb
  replace b2_7 : V6.cell? ⟨w.heap.size + 1 + 1, 7, none⟩ = some (.int .i64 0) := keep_cell b2_7 hb
  replace b2_8 : V6.cell? ⟨w.heap.size + 1 + 1, 8, none⟩ = some (.int .i64 0) := keep_cell b2_8 hb
  replace b2_9 : V6.cell? ⟨w.heap.size + 1 + 1, 9, none⟩ = some (.slice none 0 0) := keep_cell b2_9 hb
  replace ho1 : Hid (OwnS V6 (w.heap.size + 1 + 1 + 1) 2 (.slice B1 xs.length k1) xs) := ho1.out.below hb
  replace ho2 : Hid (OwnS V6 (w.heap.size + 1 + 1 + 1) 2 (.slice B2 ys.length k2) ys) := ho2.out.below hb
  replace HB : Hid (Below w.heap.size w V6) := HB.out.trans (hb.mono HB.out.size)
  have lb0_0 : w.heap.size < V6.heap.size := World.block_lt_of_cell? V6 _ b0_0
  have lb1_0 : w.heap.size + 1 < V6.heap.size := World.block_lt_of_cell? V6 _ b1_0
  have lb2_0 : w.heap.size + 1 + 1 < V6.heap.size := World.block_lt_of_cell? V6 _ b2_0
  clear hb
  go_wp2_with (fail)
  obtain ⟨V7, hV⟩ : ∃ V, V = (((V6.setCell ⟨w.heap.size + 1 + 1, 6, none⟩ (.int .i64 ra)).setCell ⟨w.heap.size + 1 + 1, 7, none⟩ (.int .i64 rb)).setCell ⟨w.heap.size + 1 + 1, 8, none⟩ (.int .i64 seed)) := ⟨_, rfl⟩
  rw [← hV]
  clear lb0_0 lb1_0 lb2_0
  replace f1_0 : V7.frozen? ⟨w.heap.size + 1, 0, none⟩ = false := by rw [hV]; simp [go_sem, f1_0]
  replace f1_1 : V7.frozen? ⟨w.heap.size + 1, 1, none⟩ = false := by rw [hV]; simp [go_sem, f1_1]
  replace f1_2 : V7.frozen? ⟨w.heap.size + 1, 2, none⟩ = false := by rw [hV]; simp [go_sem, f1_2]
  replace f1_3 : V7.frozen? ⟨w.heap.size + 1, 3, none⟩ = false := by rw [hV]; simp [go_sem, f1_3]
  replace f1_4 : V7.frozen? ⟨w.heap.size + 1, 4, none⟩ = false := by rw [hV]; simp [go_sem, f1_4]
  replace f1_5 : V7.frozen? ⟨w.heap.size + 1, 5, none⟩ = false := by rw [hV]; simp [go_sem, f1_5]
  replace f1_6 : V7.frozen? ⟨w.heap.size + 1, 6, none⟩ = false := by rw [hV]; simp [go_sem, f1_6]
  replace f1_7 : V7.frozen? ⟨w.heap.size + 1, 7, none⟩ = false := by rw [hV]; simp [go_sem, f1_7]
  replace f1_8 : V7.frozen? ⟨w.heap.size + 1, 8, none⟩ = false := by rw [hV]; simp [go_sem, f1_8]
  replace f1_9 : V7.frozen? ⟨w.heap.size + 1, 9, none⟩ = false := by rw [hV]; simp [go_sem, f1_9]
  replace f2_0 : V7.frozen? ⟨w.heap.size + 1 + 1, 0, none⟩ = false := by rw [hV]; simp [go_sem, f2_0]
  replace f2_1 : V7.frozen? ⟨w.heap.size + 1 + 1, 1, none⟩ = false := by rw [hV]; simp [go_sem, f2_1]
  replace f2_2 : V7.frozen? ⟨w.heap.size + 1 + 1, 2, none⟩ = false := by rw [hV]; simp [go_sem, f2_2]
  replace f2_3 : V7.frozen? ⟨w.heap.size + 1 + 1, 3, none⟩ = false := by rw [hV]; simp [go_sem, f2_3]
  replace f2_4 : V7.frozen? ⟨w.heap.size + 1 + 1, 4, none⟩ = false := by rw [hV]; simp [go_sem, f2_4]
  replace f2_5 : V7.frozen? ⟨w.heap.size + 1 + 1, 5, none⟩ = false := by rw [hV]; simp [go_sem, f2_5]
  replace f2_6 : V7.frozen? ⟨w.heap.size + 1 + 1, 6, none⟩ = false := by rw [hV]; simp [go_sem, f2_6]
  replace f2_7 : V7.frozen? ⟨w.heap.size + 1 + 1, 7, none⟩ = false := by rw [hV]; simp [go_sem, f2_7]
  replace f2_8 : V7.frozen? ⟨w.heap.size + 1 + 1, 8, none⟩ = false := by rw [hV]; simp [go_sem, f2_8]
  replace f2_9 : V7.frozen? ⟨w.heap.size + 1 + 1, 9, none⟩ = false := by rw [hV]; simp [go_sem, f2_9]
  replace b0_0 : V7.cell? ⟨w.heap.size, 0, none⟩ = some (.int .i64 p) := by rw [hV]; simp [go_sem, b0_0]
  replace b0_1 : V7.cell? ⟨w.heap.size, 1, none⟩ = some (.int .i64 c) := by rw [hV]; simp [go_sem, b0_1]
  replace b0_2 : V7.cell? ⟨w.heap.size, 2, none⟩ = some (.int .i64 h) := by rw [hV]; simp [go_sem, b0_2]
  replace b0_3 : V7.cell? ⟨w.heap.size, 3, none⟩ = some (.int .i64 s) := by rw [hV]; simp [go_sem, b0_3]
  replace b0_4 : V7.cell? ⟨w.heap.size, 4, none⟩ = some (.slice A1 n1 a1) := by rw [hV]; simp [go_sem, b0_4]
  replace b0_5 : V7.cell? ⟨w.heap.size, 5, none⟩ = some (.slice A2 n2 a2) := by rw [hV]; simp [go_sem, b0_5]
  replace b0_6 : V7.cell? ⟨w.heap.size, 6, none⟩ = some (.int .i64 ra) := by rw [hV]; simp [go_sem, b0_6]
  replace b0_7 : V7.cell? ⟨w.heap.size, 7, none⟩ = some (.int .i64 rb) := by rw [hV]; simp [go_sem, b0_7]
  replace b0_8 : V7.cell? ⟨w.heap.size, 8, none⟩ = some (.int .i64 seed) := by rw [hV]; simp [go_sem, b0_8]
  replace b0_9 : V7.cell? ⟨w.heap.size, 9, none⟩ = some (.slice A3 n3 a3) := by rw [hV]; simp [go_sem, b0_9]
  replace b1_0 : V7.cell? ⟨w.heap.size + 1, 0, none⟩ = some (.int .i64 0) := by rw [hV]; simp [go_sem, b1_0]
  replace b1_1 : V7.cell? ⟨w.heap.size + 1, 1, none⟩ = some (.int .i64 0) := by rw [hV]; simp [go_sem, b1_1]
  replace b1_2 : V7.cell? ⟨w.heap.size + 1, 2, none⟩ = some (.int .i64 0) := by rw [hV]; simp [go_sem, b1_2]
  replace b1_3 : V7.cell? ⟨w.heap.size + 1, 3, none⟩ = some (.int .i64 0) := by rw [hV]; simp [go_sem, b1_3]
  replace b1_4 : V7.cell? ⟨w.heap.size + 1, 4, none⟩ = some (.slice none 0 0) := by rw [hV]; simp [go_sem, b1_4]
  replace b1_5 : V7.cell? ⟨w.heap.size + 1, 5, none⟩ = some (.slice none 0 0) := by rw [hV]; simp [go_sem, b1_5]
  replace b1_6 : V7.cell? ⟨w.heap.size + 1, 6, none⟩ = some (.int .i64 0) := by rw [hV]; simp [go_sem, b1_6]
  replace b1_7 : V7.cell? ⟨w.heap.size + 1, 7, none⟩ = some (.int .i64 0) := by rw [hV]; simp [go_sem, b1_7]
  replace b1_8 : V7.cell? ⟨w.heap.size + 1, 8, none⟩ = some (.int .i64 0) := by rw [hV]; simp [go_sem, b1_8]
  replace b1_9 : V7.cell? ⟨w.heap.size + 1, 9, none⟩ = some (.slice none 0 0) := by rw [hV]; simp [go_sem, b1_9]
  replace b2_0 : V7.cell? ⟨w.heap.size + 1 + 1, 0, none⟩ = some (.int .i64 p) := by rw [hV]; simp [go_sem, b2_0]
  replace b2_1 : V7.cell? ⟨w.heap.size + 1 + 1, 1, none⟩ = some (.int .i64 c) := by rw [hV]; simp [go_sem, b2_1]
  replace b2_2 : V7.cell? ⟨w.heap.size + 1 + 1, 2, none⟩ = some (.int .i64 h) := by rw [hV]; simp [go_sem, b2_2]
  replace b2_3 : V7.cell? ⟨w.heap.size + 1 + 1, 3, none⟩ = some (.int .i64 s) := by rw [hV]; simp [go_sem, b2_3]
  replace b2_4 : V7.cell? ⟨w.heap.size + 1 + 1, 4, none⟩ = some (.slice B1 xs.length k1) := by rw [hV]; simp [go_sem, b2_4]
  replace b2_5 : V7.cell? ⟨w.heap.size + 1 + 1, 5, none⟩ = some (.slice B2 ys.length k2) := by rw [hV]; simp [go_sem, b2_5]
  replace b2_6 : V7.cell? ⟨w.heap.size + 1 + 1, 6, none⟩ = some (.int .i64 ra) := by rw [hV]; simp [go_sem, b2_6]
  replace b2_7 : V7.cell? ⟨w.heap.size + 1 + 1, 7, none⟩ = some (.int .i64 rb) := by rw [hV]; simp [go_sem, b2_7]
  replace b2_8 : V7.cell? ⟨w.heap.size + 1 + 1, 8, none⟩ = some (.int .i64 seed) := by rw [hV]; simp [go_sem, b2_8]
  replace b2_9 : V7.cell? ⟨w.heap.size + 1 + 1, 9, none⟩ = some (.slice none 0 0) := by rw [hV]; simp [go_sem, b2_9]
  replace ho1 : Hid (OwnS V7 (w.heap.size + 1 + 1 + 1) 2 (.slice B1 xs.length k1) xs) := by rw [hV]; exact (((ho1.out.setLow (a := ⟨w.heap.size + 1 + 1, 6, none⟩) (by simp <;> omega) _).setLow (a := ⟨w.heap.size + 1 + 1, 7, none⟩) (by simp <;> omega) _).setLow (a := ⟨w.heap.size + 1 + 1, 8, none⟩) (by simp <;> omega) _)
  replace ho2 : Hid (OwnS V7 (w.heap.size + 1 + 1 + 1) 2 (.slice B2 ys.length k2) ys) := by rw [hV]; exact (((ho2.out.setLow (a := ⟨w.heap.size + 1 + 1, 6, none⟩) (by simp <;> omega) _).setLow (a := ⟨w.heap.size + 1 + 1, 7, none⟩) (by simp <;> omega) _).setLow (a := ⟨w.heap.size + 1 + 1, 8, none⟩) (by simp <;> omega) _)
  replace HB : Hid (Below w.heap.size w V7) := by rw [hV]; exact (((HB.out.setCell (p := ⟨w.heap.size + 1 + 1, 6, none⟩) (by simp <;> omega) _).setCell (p := ⟨w.heap.size + 1 + 1, 7, none⟩) (by simp <;> omega) _).setCell (p := ⟨w.heap.size + 1 + 1, 8, none⟩) (by simp <;> omega) _)
  clear hV
  have lb0_0 : w.heap.size < V7.heap.size := World.block_lt_of_cell? V7 _ b0_0
  have lb1_0 : w.heap.size + 1 < V7.heap.size := World.block_lt_of_cell? V7 _ b1_0
  have lb2_0 : w.heap.size + 1 + 1 < V7.heap.size := World.block_lt_of_cell? V7 _ b2_0
  refine (toBoardS_any A3 n3 a3 past _ ((H3.out.keep (Nat.le_refl _) HB.out)) hn3 HM.out).mono ?_
  rintro e V8 ⟨g3, rfl, hob, _, hb⟩
  replace hob := Lib.hid (hob.mono (base' := w.heap.size + 1 + 1 + 1) lb2_0)
  clear lb0_0 lb1_0 lb2_0
  replace f1_0 : V8.frozen? ⟨w.heap.size + 1, 0, none⟩ = false := keep_froz f1_0 b1_0 hb
  replace f1_1 : V8.frozen? ⟨w.heap.size + 1, 1, none⟩ = false := keep_froz f1_1 b1_1 hb
  replace f1_2 : V8.frozen? ⟨w.heap.size + 1, 2, none⟩ = false := keep_froz f1_2 b1_2 hb
  replace f1_3 : V8.frozen? ⟨w.heap.size + 1, 3, none⟩ = false := keep_froz f1_3 b1_3 hb
  replace f1_4 : V8.frozen? ⟨w.heap.size + 1, 4, none⟩ = false := keep_froz f1_4 b1_4 hb
  replace f1_5 : V8.frozen? ⟨w.heap.size + 1, 5, none⟩ = false := keep_froz f1_5 b1_5 hb
  replace f1_6 : V8.frozen? ⟨w.heap.size + 1, 6, none⟩ = false := keep_froz f1_6 b1_6 hb
  replace f1_7 : V8.frozen? ⟨w.heap.size + 1, 7, none⟩ = false := keep_froz f1_7 b1_7 hb
  replace f1_8 : V8.frozen? ⟨w.heap.size + 1, 8, none⟩ = false := keep_froz f1_8 b1_8 hb
  replace f1_9 : V8.frozen? ⟨w.heap.size + 1, 9, none⟩ = false := keep_froz f1_9 b1_9 hb
  replace f2_0 : V8.frozen? ⟨w.heap.size + 1 + 1, 0, none⟩ = false := keep_froz f2_0 b2_0 hb
  replace f2_1 : V8.frozen? ⟨w.heap.size + 1 + 1, 1, none⟩ = false := keep_froz f2_1 b2_1 hb
  replace f2_2 : V8.frozen? ⟨w.heap.size + 1 + 1, 2, none⟩ = false := keep_froz f2_2 b2_2 hb
  replace f2_3 : V8.frozen? ⟨w.heap.size + 1 + 1, 3, none⟩ = false := keep_froz f2_3 b2_3 hb
  replace f2_4 : V8.frozen? ⟨w.heap.size + 1 + 1, 4, none⟩ = false := keep_froz f2_4 b2_4 hb
  replace f2_5 : V8.frozen? ⟨w.heap.size + 1 + 1, 5, none⟩ = false := keep_froz f2_5 b2_5 hb
  replace f2_6 : V8.frozen? ⟨w.heap.size + 1 + 1, 6, none⟩ = false := keep_froz f2_6 b2_6 hb
  replace f2_7 : V8.frozen? ⟨w.heap.size + 1 + 1, 7, none⟩ = false := keep_froz f2_7 b2_7 hb
  replace f2_8 : V8.frozen? ⟨w.heap.size + 1 + 1, 8, none⟩ = false := keep_froz f2_8 b2_8 hb
  replace f2_9 : V8.frozen? ⟨w.heap.size + 1 + 1, 9, none⟩ = false := keep_froz f2_9 b2_9 hb
  replace b0_0 : V8.cell? ⟨w.heap.size, 0, none⟩ = some (.int .i64 p) := keep_cell b0_0 hb
  replace b0_1 : V8.cell? ⟨w.heap.size, 1, none⟩ = some (.int .i64 c) := keep_cell b0_1 hb
  replace b0_2 : V8.cell? ⟨w.heap.size, 2, none⟩ = some (.int .i64 h) := keep_cell b0_2 hb
  replace b0_3 : V8.cell? ⟨w.heap.size, 3, none⟩ = some (.int .i64 s) := keep_cell b0_3 hb
  replace b0_4 : V8.cell? ⟨w.heap.size, 4, none⟩ = some (.slice A1 n1 a1) := keep_cell b0_4 hb
  replace b0_5 : V8.cell? ⟨w.heap.size, 5, none⟩ = some (.slice A2 n2 a2) := keep_cell b0_5 hb
  replace b0_6 : V8.cell? ⟨w.heap.size, 6, none⟩ = some (.int .i64 ra) := keep_cell b0_6 hb
  replace b0_7 : V8.cell? ⟨w.heap.size, 7, none⟩ = some (.int .i64 rb) := keep_cell b0_7 hb
  replace b0_8 : V8.cell? ⟨w.heap.size, 8, none⟩ = some (.int .i64 seed) := keep_cell b0_8 hb
  replace b0_9 : V8.cell? ⟨w.heap.size, 9, none⟩ = some (.slice A3 n3 a3) := keep_cell b0_9 hb
  replace b1_0 : V8.cell? ⟨w.heap.size + 1, 0, none⟩ = some (.int .i64 0) := keep_cell b1_0 hb
  replace b1_1 : V8.cell? ⟨w.heap.size + 1, 1, none⟩ = some (.int .i64 0) := keep_cell b1_1 hb
  replace b1_2 : V8.cell? ⟨w.heap.size + 1, 2, none⟩ = some (.int .i64 0) := keep_cell b1_2 hb
  replace b1_3 : V8.cell? ⟨w.heap.size + 1, 3, none⟩ = some (.int .i64 0) := keep_cell b1_3 hb
  replace b1_4 : V8.cell? ⟨w.heap.size + 1, 4, none⟩ = some (.slice none 0 0) := keep_cell b1_4 hb
  replace b1_5 : V8.cell? ⟨w.heap.size + 1, 5, none⟩ = some (.slice none 0 0) := keep_cell b1_5 hb
  replace b1_6 : V8.cell? ⟨w.heap.size + 1, 6, none⟩ = some (.int .i64 0) := keep_cell b1_6 hb
  replace b1_7 : V8.cell? ⟨w.heap.size + 1, 7, none⟩ = some (.int .i64 0) := keep_cell b1_7 hb
  replace b1_8 : V8.cell? ⟨w.heap.size + 1, 8, none⟩ = some (.int .i64 0) := keep_cell b1_8 hb
  replace b1_9 : V8.cell? ⟨w.heap.size + 1, 9, none⟩ = some (.slice none 0 0) := keep_cell b1_9 hb
  replace b2_0 : V8.cell? ⟨w.heap.size + 1 + 1, 0, none⟩ = some (.int .i64 p) := keep_cell b2_0 hb
  replace b2_1 : V8.cell? ⟨w.heap.size + 1 + 1, 1, none⟩ = some (.int .i64 c) := keep_cell b2_1 hb
  replace b2_2 : V8.cell? ⟨w.heap.size + 1 + 1, 2, none⟩ = some (.int .i64 h) := keep_cell b2_2 hb
  replace b2_3 : V8.cell? ⟨w.heap.size + 1 + 1, 3, none⟩ = some (.int .i64 s) := keep_cell b2_3 hb
  replace b2_4 : V8.cell? ⟨w.heap.size + 1 + 1, 4, none⟩ = some (.slice B1 xs.length k1) := keep_cell b2_4 hb
  replace b2_5 : V8.cell? ⟨w.heap.size + 1 + 1, 5, none⟩ = some (.slice B2 ys.length k2) := keep_cell b2_5 hb
  replace b2_6 : V8.cell? ⟨w.heap.size + 1 + 1, 6, none⟩ = some (.int .i64 ra) := keep_cell b2_6 hb
  replace b2_7 : V8.cell? ⟨w.heap.size + 1 + 1, 7, none⟩ = some (.int .i64 rb) := keep_cell b2_7 hb
  replace b2_8 : V8.cell? ⟨w.heap.size + 1 + 1, 8, none⟩ = some (.int .i64 seed) := keep_cell b2_8 hb
  replace b2_9 : V8.cell? ⟨w.heap.size + 1 + 1, 9, none⟩ = some (.slice none 0 0) := keep_cell b2_9 hb
  replace ho1 : Hid (OwnS V8 (w.heap.size + 1 + 1 + 1) 2 (.slice B1 xs.length k1) xs) := ho1.out.below hb
  replace ho2 : Hid (OwnS V8 (w.heap.size + 1 + 1 + 1) 2 (.slice B2 ys.length k2) ys) := ho2.out.below hb
  replace HB : Hid (Below w.heap.size w V8) := HB.out.trans (hb.mono HB.out.size)
  have lb0_0 : w.heap.size < V8.heap.size := World.block_lt_of_cell? V8 _ b0_0
  have lb1_0 : w.heap.size + 1 < V8.heap.size := World.block_lt_of_cell? V8 _ b1_0
  have lb2_0 : w.heap.size + 1 + 1 < V8.heap.size := World.block_lt_of_cell? V8 _ b2_0
  clear hb
  go_wp2_with (fail)
  obtain ⟨V9, hV⟩ : ∃ V, V = (((((((((((V8.setCell ⟨w.heap.size + 1 + 1, 9, none⟩ (.slice (some ⟨g3, 0, none⟩) past.length past.length)).setCell ⟨w.heap.size + 1, 0, none⟩ (.int .i64 p)).setCell ⟨w.heap.size + 1, 1, none⟩ (.int .i64 c)).setCell ⟨w.heap.size + 1, 2, none⟩ (.int .i64 h)).setCell ⟨w.heap.size + 1, 3, none⟩ (.int .i64 s)).setCell ⟨w.heap.size + 1, 4, none⟩ (.slice B1 xs.length k1)).setCell ⟨w.heap.size + 1, 5, none⟩ (.slice B2 ys.length k2)).setCell ⟨w.heap.size + 1, 6, none⟩ (.int .i64 ra)).setCell ⟨w.heap.size + 1, 7, none⟩ (.int .i64 rb)).setCell ⟨w.heap.size + 1, 8, none⟩ (.int .i64 seed)).setCell ⟨w.heap.size + 1, 9, none⟩ (.slice (some ⟨g3, 0, none⟩) past.length past.length)) := ⟨_, rfl⟩
  rw [← hV]
  clear lb0_0 lb1_0 lb2_0
  replace f1_0 : V9.frozen? ⟨w.heap.size + 1, 0, none⟩ = false := by rw [hV]; simp [go_sem, f1_0]
  replace f1_1 : V9.frozen? ⟨w.heap.size + 1, 1, none⟩ = false := by rw [hV]; simp [go_sem, f1_1]
  replace f1_2 : V9.frozen? ⟨w.heap.size + 1, 2, none⟩ = false := by rw [hV]; simp [go_sem, f1_2]
  replace f1_3 : V9.frozen? ⟨w.heap.size + 1, 3, none⟩ = false := by rw [hV]; simp [go_sem, f1_3]
  replace f1_4 : V9.frozen? ⟨w.heap.size + 1, 4, none⟩ = false := by rw [hV]; simp [go_sem, f1_4]
  replace f1_5 : V9.frozen? ⟨w.heap.size + 1, 5, none⟩ = false := by rw [hV]; simp [go_sem, f1_5]
  replace f1_6 : V9.frozen? ⟨w.heap.size + 1, 6, none⟩ = false := by rw [hV]; simp [go_sem, f1_6]
  replace f1_7 : V9.frozen? ⟨w.heap.size + 1, 7, none⟩ = false := by rw [hV]; simp [go_sem, f1_7]
  replace f1_8 : V9.frozen? ⟨w.heap.size + 1, 8, none⟩ = false := by rw [hV]; simp [go_sem, f1_8]
  replace f1_9 : V9.frozen? ⟨w.heap.size + 1, 9, none⟩ = false := by rw [hV]; simp [go_sem, f1_9]
  replace f2_0 : V9.frozen? ⟨w.heap.size + 1 + 1, 0, none⟩ = false := by rw [hV]; simp [go_sem, f2_0]
  replace f2_1 : V9.frozen? ⟨w.heap.size + 1 + 1, 1, none⟩ = false := by rw [hV]; simp [go_sem, f2_1]
  replace f2_2 : V9.frozen? ⟨w.heap.size + 1 + 1, 2, none⟩ = false := by rw [hV]; simp [go_sem, f2_2]
  replace f2_3 : V9.frozen? ⟨w.heap.size + 1 + 1, 3, none⟩ = false := by rw [hV]; simp [go_sem, f2_3]
  replace f2_4 : V9.frozen? ⟨w.heap.size + 1 + 1, 4, none⟩ = false := by rw [hV]; simp [go_sem, f2_4]
  replace f2_5 : V9.frozen? ⟨w.heap.size + 1 + 1, 5, none⟩ = false := by rw [hV]; simp [go_sem, f2_5]
  replace f2_6 : V9.frozen? ⟨w.heap.size + 1 + 1, 6, none⟩ = false := by rw [hV]; simp [go_sem, f2_6]
  replace f2_7 : V9.frozen? ⟨w.heap.size + 1 + 1, 7, none⟩ = false := by rw [hV]; simp [go_sem, f2_7]
  replace f2_8 : V9.frozen? ⟨w.heap.size + 1 + 1, 8, none⟩ = false := by rw [hV]; simp [go_sem, f2_8]
  replace f2_9 : V9.frozen? ⟨w.heap.size + 1 + 1, 9, none⟩ = false := by rw [hV]; simp [go_sem, f2_9]
  replace b0_0 : V9.cell? ⟨w.heap.size, 0, none⟩ = some (.int .i64 p) := by rw [hV]; simp [go_sem, b0_0]
  replace b0_1 : V9.cell? ⟨w.heap.size, 1, none⟩ = some (.int .i64 c) := by rw [hV]; simp [go_sem, b0_1]
  replace b0_2 : V9.cell? ⟨w.heap.size, 2, none⟩ = some (.int .i64 h) := by rw [hV]; simp [go_sem, b0_2]
  replace b0_3 : V9.cell? ⟨w.heap.size, 3, none⟩ = some (.int .i64 s) := by rw [hV]; simp [go_sem, b0_3]
  replace b0_4 : V9.cell? ⟨w.heap.size, 4, none⟩ = some (.slice A1 n1 a1) := by rw [hV]; simp [go_sem, b0_4]
  replace b0_5 : V9.cell? ⟨w.heap.size, 5, none⟩ = some (.slice A2 n2 a2) := by rw [hV]; simp [go_sem, b0_5]
  replace b0_6 : V9.cell? ⟨w.heap.size, 6, none⟩ = some (.int .i64 ra) := by rw [hV]; simp [go_sem, b0_6]
  replace b0_7 : V9.cell? ⟨w.heap.size, 7, none⟩ = some (.int .i64 rb) := by rw [hV]; simp [go_sem, b0_7]
  replace b0_8 : V9.cell? ⟨w.heap.size, 8, none⟩ = some (.int .i64 seed) := by rw [hV]; simp [go_sem, b0_8]
  replace b0_9 : V9.cell? ⟨w.heap.size, 9, none⟩ = some (.slice A3 n3 a3) := by rw [hV]; simp [go_sem, b0_9]
  replace b1_0 : V9.cell? ⟨w.heap.size + 1, 0, none⟩ = some (.int .i64 p) := by rw [hV]; simp [go_sem, b1_0]
  replace b1_1 : V9.cell? ⟨w.heap.size + 1, 1, none⟩ = some (.int .i64 c) := by rw [hV]; simp [go_sem, b1_1]
  replace b1_2 : V9.cell? ⟨w.heap.size + 1, 2, none⟩ = some (.int .i64 h) := by rw [hV]; simp [go_sem, b1_2]
  replace b1_3 : V9.cell? ⟨w.heap.size + 1, 3, none⟩ = some (.int .i64 s) := by rw [hV]; simp [go_sem, b1_3]
  replace b1_4 : V9.cell? ⟨w.heap.size + 1, 4, none⟩ = some (.slice B1 xs.length k1) := by rw [hV]; simp [go_sem, b1_4]
  replace b1_5 : V9.cell? ⟨w.heap.size + 1, 5, none⟩ = some (.slice B2 ys.length k2) := by rw [hV]; simp [go_sem, b1_5]
  replace b1_6 : V9.cell? ⟨w.heap.size + 1, 6, none⟩ = some (.int .i64 ra) := by rw [hV]; simp [go_sem, b1_6]
  replace b1_7 : V9.cell? ⟨w.heap.size + 1, 7, none⟩ = some (.int .i64 rb) := by rw [hV]; simp [go_sem, b1_7]
  replace b1_8 : V9.cell? ⟨w.heap.size + 1, 8, none⟩ = some (.int .i64 seed) := by rw [hV]; simp [go_sem, b1_8]
  replace b1_9 : V9.cell? ⟨w.heap.size + 1, 9, none⟩ = some (.slice (some ⟨g3, 0, none⟩) past.length past.length) := by rw [hV]; simp [go_sem, b1_9]
  replace b2_0 : V9.cell? ⟨w.heap.size + 1 + 1, 0, none⟩ = some (.int .i64 p) := by rw [hV]; simp [go_sem, b2_0]
  replace b2_1 : V9.cell? ⟨w.heap.size + 1 + 1, 1, none⟩ = some (.int .i64 c) := by rw [hV]; simp [go_sem, b2_1]
  replace b2_2 : V9.cell? ⟨w.heap.size + 1 + 1, 2, none⟩ = some (.int .i64 h) := by rw [hV]; simp [go_sem, b2_2]
  replace b2_3 : V9.cell? ⟨w.heap.size + 1 + 1, 3, none⟩ = some (.int .i64 s) := by rw [hV]; simp [go_sem, b2_3]
  replace b2_4 : V9.cell? ⟨w.heap.size + 1 + 1, 4, none⟩ = some (.slice B1 xs.length k1) := by rw [hV]; simp [go_sem, b2_4]
  replace b2_5 : V9.cell? ⟨w.heap.size + 1 + 1, 5, none⟩ = some (.slice B2 ys.length k2) := by rw [hV]; simp [go_sem, b2_5]
  replace b2_6 : V9.cell? ⟨w.heap.size + 1 + 1, 6, none⟩ = some (.int .i64 ra) := by rw [hV]; simp [go_sem, b2_6]
  replace b2_7 : V9.cell? ⟨w.heap.size + 1 + 1, 7, none⟩ = some (.int .i64 rb) := by rw [hV]; simp [go_sem, b2_7]
  replace b2_8 : V9.cell? ⟨w.heap.size + 1 + 1, 8, none⟩ = some (.int .i64 seed) := by rw [hV]; simp [go_sem, b2_8]
  replace b2_9 : V9.cell? ⟨w.heap.size + 1 + 1, 9, none⟩ = some (.slice (some ⟨g3, 0, none⟩) past.length past.length) := by rw [hV]; simp [go_sem, b2_9]
  replace ho1 : Hid (OwnS V9 (w.heap.size + 1 + 1 + 1) 2 (.slice B1 xs.length k1) xs) := by rw [hV]; exact (((((((((((ho1.out.setLow (a := ⟨w.heap.size + 1 + 1, 9, none⟩) (by simp <;> omega) _).setLow (a := ⟨w.heap.size + 1, 0, none⟩) (by simp <;> omega) _).setLow (a := ⟨w.heap.size + 1, 1, none⟩) (by simp <;> omega) _).setLow (a := ⟨w.heap.size + 1, 2, none⟩) (by simp <;> omega) _).setLow (a := ⟨w.heap.size + 1, 3, none⟩) (by simp <;> omega) _).setLow (a := ⟨w.heap.size + 1, 4, none⟩) (by simp <;> omega) _).setLow (a := ⟨w.heap.size + 1, 5, none⟩) (by simp <;> omega) _).setLow (a := ⟨w.heap.size + 1, 6, none⟩) (by simp <;> omega) _).setLow (a := ⟨w.heap.size + 1, 7, none⟩) (by simp <;> omega) _).setLow (a := ⟨w.heap.size + 1, 8, none⟩) (by simp <;> omega) _).setLow (a := ⟨w.heap.size + 1, 9, none⟩) (by simp <;> omega) _)
  replace ho2 : Hid (OwnS V9 (w.heap.size + 1 + 1 + 1) 2 (.slice B2 ys.length k2) ys) := by rw [hV]; exact (((((((((((ho2.out.setLow (a := ⟨w.heap.size + 1 + 1, 9, none⟩) (by simp <;> omega) _).setLow (a := ⟨w.heap.size + 1, 0, none⟩) (by simp <;> omega) _).setLow (a := ⟨w.heap.size + 1, 1, none⟩) (by simp <;> omega) _).setLow (a := ⟨w.heap.size + 1, 2, none⟩) (by simp <;> omega) _).setLow (a := ⟨w.heap.size + 1, 3, none⟩) (by simp <;> omega) _).setLow (a := ⟨w.heap.size + 1, 4, none⟩) (by simp <;> omega) _).setLow (a := ⟨w.heap.size + 1, 5, none⟩) (by simp <;> omega) _).setLow (a := ⟨w.heap.size + 1, 6, none⟩) (by simp <;> omega) _).setLow (a := ⟨w.heap.size + 1, 7, none⟩) (by simp <;> omega) _).setLow (a := ⟨w.heap.size + 1, 8, none⟩) (by simp <;> omega) _).setLow (a := ⟨w.heap.size + 1, 9, none⟩) (by simp <;> omega) _)
  replace hob : Hid (OwnBs V9 (w.heap.size + 1 + 1 + 1) g3 past.length past past.length) := by rw [hV]; exact (((((((((((hob.out.setLow (a := ⟨w.heap.size + 1 + 1, 9, none⟩) (by simp <;> omega) _).setLow (a := ⟨w.heap.size + 1, 0, none⟩) (by simp <;> omega) _).setLow (a := ⟨w.heap.size + 1, 1, none⟩) (by simp <;> omega) _).setLow (a := ⟨w.heap.size + 1, 2, none⟩) (by simp <;> omega) _).setLow (a := ⟨w.heap.size + 1, 3, none⟩) (by simp <;> omega) _).setLow (a := ⟨w.heap.size + 1, 4, none⟩) (by simp <;> omega) _).setLow (a := ⟨w.heap.size + 1, 5, none⟩) (by simp <;> omega) _).setLow (a := ⟨w.heap.size + 1, 6, none⟩) (by simp <;> omega) _).setLow (a := ⟨w.heap.size + 1, 7, none⟩) (by simp <;> omega) _).setLow (a := ⟨w.heap.size + 1, 8, none⟩) (by simp <;> omega) _).setLow (a := ⟨w.heap.size + 1, 9, none⟩) (by simp <;> omega) _)
  replace HB : Hid (Below w.heap.size w V9) := by rw [hV]; exact (((((((((((HB.out.setCell (p := ⟨w.heap.size + 1 + 1, 9, none⟩) (by simp <;> omega) _).setCell (p := ⟨w.heap.size + 1, 0, none⟩) (by simp <;> omega) _).setCell (p := ⟨w.heap.size + 1, 1, none⟩) (by simp <;> omega) _).setCell (p := ⟨w.heap.size + 1, 2, none⟩) (by simp <;> omega) _).setCell (p := ⟨w.heap.size + 1, 3, none⟩) (by simp <;> omega) _).setCell (p := ⟨w.heap.size + 1, 4, none⟩) (by simp <;> omega) _).setCell (p := ⟨w.heap.size + 1, 5, none⟩) (by simp <;> omega) _).setCell (p := ⟨w.heap.size + 1, 6, none⟩) (by simp <;> omega) _).setCell (p := ⟨w.heap.size + 1, 7, none⟩) (by simp <;> omega) _).setCell (p := ⟨w.heap.size + 1, 8, none⟩) (by simp <;> omega) _).setCell (p := ⟨w.heap.size + 1, 9, none⟩) (by simp <;> omega) _)
  clear hV
  have lb0_0 : w.heap.size < V9.heap.size := World.block_lt_of_cell? V9 _ b0_0
  have lb1_0 : w.heap.size + 1 < V9.heap.size := World.block_lt_of_cell? V9 _ b1_0
  have lb2_0 : w.heap.size + 1 + 1 < V9.heap.size := World.block_lt_of_cell? V9 _ b2_0
  refine bodyPost_ret (v := .agg #[.int .i64 p, .int .i64 c, .int .i64 h, .int .i64 s, .slice B1 xs.length k1, .slice B2 ys.length k2, .int .i64 ra, .int .i64 rb, .int .i64 seed, .slice (some ⟨g3, 0, none⟩) past.length past.length]) (by simp [results, Tryd.results6, go_sem, b1_0, b1_1, b1_2, b1_3, b1_4, b1_5, b1_6, b1_7, b1_8, b1_9]) rfl ?_
  exact ⟨B1, k1, B2, k2, g3, rfl, ho1.out.mono (by omega), ho2.out.mono (by omega), HA.out, hob.out.mono (by omega), hob.out.reads rfl HM.out, HB.out⟩
end Go.Proofs.YtkjlafcnmniomaaDoor

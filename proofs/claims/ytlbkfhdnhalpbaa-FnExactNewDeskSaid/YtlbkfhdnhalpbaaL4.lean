/- The statement FnExactNewDesk: the program's NewDesk returns what the reference's returns: the law's own walk, from what both return. There are no conditions. -/
import Derived.Test.YtlbkfhdnhalpbaaL3
import Derived.Test.YtlbkfhdnhalpbaaA5
namespace Go.Proofs.Ytlbkfhdnhalpbaa
set_option linter.unusedVariables false
set_option linter.unusedSimpArgs false
open Go.RowKit

/-- What both functions return: a desk without a past, its two slices of the call's own, and a code. -/
def RetG (w : World) (p ch h s seed code : Int) (n : Nat) (L : List Int) (en : Ending) (w' : World) : Prop := ∃ A1 c1 A2 c2 A3 c3, en = .returned (.tuple #[.agg #[.int .i64 p, .int .i64 ch, .int .i64 h, .int .i64 s, .slice A1 n c1, .slice A2 n c2, .int .i64 0, .int .i64 0, .int .i64 seed, .slice A3 0 c3], .int .i64 code]) ∧
  OwnS w' w.heap.size 2 (.slice A1 n c1) L ∧ OwnS w' w.heap.size 2 (.slice A2 n c2) L ∧ Apart (.slice A1 n c1) (.slice A2 n c2) ∧ Below w.heap.size w w'

set_option maxHeartbeats 4000000 in
set_option maxRecDepth 100000 in
theorem newDesk_core (p0 c0 h0 s0 seed0 p ch h s seed code : Int) (n : Nat) (L : List Int) (hn : n ≤ 1000) (w : World)
    (hS : ∀ W, Calls Try.prog 6 #[.agg #[.int .i64 p0, .int .i64 c0, .int .i64 h0, .int .i64 s0], .int .i64 seed0] W (RetG W p ch h s seed code n L))
    (hI : ∀ W, Calls Try.prog 8 #[.agg #[.int .i64 p0, .int .i64 c0, .int .i64 h0, .int .i64 s0], .int .i64 seed0] W (RetG W p ch h s seed code n L)) :
    Calls Try.prog 3 #[.agg #[.int .i64 p0, .int .i64 c0, .int .i64 h0, .int .i64 s0], .int .i64 seed0] w fun e w' => e = .returned (.bool true) ∧ Below w.heap.size w w' := by
  have HS := Lib.hid hS
  have HI := Lib.hid hI
  clear hS hI
  have hc : (code != code) = false := by simp
  have hn2 : n ≤ 2000000 := by omega
  obtain ⟨K, hK⟩ : ∃ K : Int, ((1 + n + n : Nat) : Int) = K := ⟨_, rfl⟩
  have HK := Lib.hid hK
  have hK0 : 0 ≤ K := by omega
  have hKK : (K != K) = false := by simp
  clear hK
  go_enter Try.func3, Try.ntmps3
  go_wp2_with (fail)
  obtain ⟨V1, hV⟩ : ∃ V, V = (w.alloc (.cells #[.int .i64 p0, .int .i64 c0, .int .i64 h0, .int .i64 s0] 23)) := ⟨_, rfl⟩
  try rw [← hV]
  have b0_0 : V1.cell? ⟨w.heap.size, 0, none⟩ = some (.int .i64 p0) := by rw [hV]; simp [go_sem]
  have b0_1 : V1.cell? ⟨w.heap.size, 1, none⟩ = some (.int .i64 c0) := by rw [hV]; simp [go_sem]
  have b0_2 : V1.cell? ⟨w.heap.size, 2, none⟩ = some (.int .i64 h0) := by rw [hV]; simp [go_sem]
  have b0_3 : V1.cell? ⟨w.heap.size, 3, none⟩ = some (.int .i64 s0) := by rw [hV]; simp [go_sem]
  have HB : Hid (Below w.heap.size w V1) := by rw [hV]; exact (Below.refl _ _).alloc (by simp) _
  clear hV
  have lb0_0 : w.heap.size < V1.heap.size := World.block_lt_of_cell? V1 _ b0_0
  refine (toVariant_any _ _ _ _ _).mono ?_
  rintro e V2 ⟨rfl, hb⟩
  clear lb0_0
  replace b0_0 : V2.cell? ⟨w.heap.size, 0, none⟩ = some (.int .i64 p0) := keep_cell b0_0 hb
  replace b0_1 : V2.cell? ⟨w.heap.size, 1, none⟩ = some (.int .i64 c0) := keep_cell b0_1 hb
  replace b0_2 : V2.cell? ⟨w.heap.size, 2, none⟩ = some (.int .i64 h0) := keep_cell b0_2 hb
  replace b0_3 : V2.cell? ⟨w.heap.size, 3, none⟩ = some (.int .i64 s0) := keep_cell b0_3 hb
  replace HB : Hid (Below w.heap.size w V2) := HB.out.trans (hb.mono HB.out.size)
  have lb0_0 : w.heap.size < V2.heap.size := World.block_lt_of_cell? V2 _ b0_0
  clear hb
  go_wp2_with (fail)
  refine (HS.out _).mono ?_
  rintro e V3 ⟨A1, k1, A2, k2, A3, k3, rfl, ho1, ho2, hap, hb⟩
  have HLA1 : Hid (∀ j, (Value.slice A1 n k1).ownBlock = some j → V2.heap.size ≤ j ∧ j < V3.heap.size) := ho1.lt
  have HLA2 : Hid (∀ j, (Value.slice A2 n k2).ownBlock = some j → V2.heap.size ≤ j ∧ j < V3.heap.size) := ho2.lt
  have qb0_0_A : w.heap.size < V2.heap.size := lb0_0
  have szA := HB.out.size
  replace ho1 := Lib.hid (ho1.mono HB.out.size)
  replace ho2 := Lib.hid (ho2.mono HB.out.size)
  have PA := Lib.hid hap
  clear hap
  clear lb0_0
  replace b0_0 : V3.cell? ⟨w.heap.size, 0, none⟩ = some (.int .i64 p0) := keep_cell b0_0 hb
  replace b0_1 : V3.cell? ⟨w.heap.size, 1, none⟩ = some (.int .i64 c0) := keep_cell b0_1 hb
  replace b0_2 : V3.cell? ⟨w.heap.size, 2, none⟩ = some (.int .i64 h0) := keep_cell b0_2 hb
  replace b0_3 : V3.cell? ⟨w.heap.size, 3, none⟩ = some (.int .i64 s0) := keep_cell b0_3 hb
  replace HB : Hid (Below w.heap.size w V3) := HB.out.trans (hb.mono HB.out.size)
  have lb0_0 : w.heap.size < V3.heap.size := World.block_lt_of_cell? V3 _ b0_0
  clear hb
  have OA1 := ho1
  have OA2 := ho2
  clear ho1 ho2
  go_wp2_with (fail)
  obtain ⟨V4, hV⟩ : ∃ V, V = V3.alloc (.cells #[.int .i64 p, .int .i64 ch, .int .i64 h, .int .i64 s, .slice A1 n k1, .slice A2 n k2, .int .i64 0, .int .i64 0, .int .i64 seed, .slice A3 0 k3] 32) := ⟨_, rfl⟩
  obtain ⟨gd, hg⟩ : ∃ g, g = V3.heap.size := ⟨_, rfl⟩
  rw [← hV, ← hg]
  replace b0_0 : V4.cell? ⟨w.heap.size, 0, none⟩ = some (.int .i64 p0) := by rw [hV]; exact (cell_alloc_lt _ _ _ lb0_0).trans b0_0
  replace b0_1 : V4.cell? ⟨w.heap.size, 1, none⟩ = some (.int .i64 c0) := by rw [hV]; exact (cell_alloc_lt _ _ _ lb0_0).trans b0_1
  replace b0_2 : V4.cell? ⟨w.heap.size, 2, none⟩ = some (.int .i64 h0) := by rw [hV]; exact (cell_alloc_lt _ _ _ lb0_0).trans b0_2
  replace b0_3 : V4.cell? ⟨w.heap.size, 3, none⟩ = some (.int .i64 s0) := by rw [hV]; exact (cell_alloc_lt _ _ _ lb0_0).trans b0_3
  replace OA1 : Hid (OwnS V4 w.heap.size 2 (.slice A1 n k1) L) := by rw [hV]; exact OA1.out.alloc _
  replace OA2 : Hid (OwnS V4 w.heap.size 2 (.slice A2 n k2) L) := by rw [hV]; exact OA2.out.alloc _
  have nb0_0_gd : w.heap.size < gd := by rw [hg]; exact lb0_0
  have zgd : w.heap.size ≤ gd := by rw [hg]; exact HB.out.size
  have d0 : V4.cell? ⟨gd, 0, none⟩ = some (.int .i64 p) := by rw [hV, hg]; simp [go_sem]
  have d1 : V4.cell? ⟨gd, 1, none⟩ = some (.int .i64 ch) := by rw [hV, hg]; simp [go_sem]
  have d2 : V4.cell? ⟨gd, 2, none⟩ = some (.int .i64 h) := by rw [hV, hg]; simp [go_sem]
  have d3 : V4.cell? ⟨gd, 3, none⟩ = some (.int .i64 s) := by rw [hV, hg]; simp [go_sem]
  have d4 : V4.cell? ⟨gd, 4, none⟩ = some (.slice A1 n k1) := by rw [hV, hg]; simp [go_sem]
  have d5 : V4.cell? ⟨gd, 5, none⟩ = some (.slice A2 n k2) := by rw [hV, hg]; simp [go_sem]
  have d6 : V4.cell? ⟨gd, 6, none⟩ = some (.int .i64 0) := by rw [hV, hg]; simp [go_sem]
  have d7 : V4.cell? ⟨gd, 7, none⟩ = some (.int .i64 0) := by rw [hV, hg]; simp [go_sem]
  have d8 : V4.cell? ⟨gd, 8, none⟩ = some (.int .i64 seed) := by rw [hV, hg]; simp [go_sem]
  have d9 : V4.cell? ⟨gd, 9, none⟩ = some (.slice A3 0 k3) := by rw [hV, hg]; simp [go_sem]
  replace HB : Hid (Below w.heap.size w V4) := by rw [hV]; exact HB.out.alloc HB.out.size _
  have HGA1 : Hid (∀ j, (Value.slice A1 n k1).ownBlock = some j → j < gd) := by rw [hg]; exact fun j hj => (HLA1.out j hj).2
  have HGA2 : Hid (∀ j, (Value.slice A2 n k2).ownBlock = some j → j < gd) := by rw [hg]; exact fun j hj => (HLA2.out j hj).2
  clear hV hg lb0_0
  have lb0_0 : w.heap.size < V4.heap.size := World.block_lt_of_cell? V4 _ b0_0
  have ld0 : gd < V4.heap.size := World.block_lt_of_cell? V4 _ d0
  refine (toVariant_any _ _ _ _ _).mono ?_
  rintro e V5 ⟨rfl, hb⟩
  clear lb0_0 ld0
  replace b0_0 : V5.cell? ⟨w.heap.size, 0, none⟩ = some (.int .i64 p0) := keep_cell b0_0 hb
  replace b0_1 : V5.cell? ⟨w.heap.size, 1, none⟩ = some (.int .i64 c0) := keep_cell b0_1 hb
  replace b0_2 : V5.cell? ⟨w.heap.size, 2, none⟩ = some (.int .i64 h0) := keep_cell b0_2 hb
  replace b0_3 : V5.cell? ⟨w.heap.size, 3, none⟩ = some (.int .i64 s0) := keep_cell b0_3 hb
  replace d0 : V5.cell? ⟨gd, 0, none⟩ = some (.int .i64 p) := keep_cell d0 hb
  replace d1 : V5.cell? ⟨gd, 1, none⟩ = some (.int .i64 ch) := keep_cell d1 hb
  replace d2 : V5.cell? ⟨gd, 2, none⟩ = some (.int .i64 h) := keep_cell d2 hb
  replace d3 : V5.cell? ⟨gd, 3, none⟩ = some (.int .i64 s) := keep_cell d3 hb
  replace d4 : V5.cell? ⟨gd, 4, none⟩ = some (.slice A1 n k1) := keep_cell d4 hb
  replace d5 : V5.cell? ⟨gd, 5, none⟩ = some (.slice A2 n k2) := keep_cell d5 hb
  replace d6 : V5.cell? ⟨gd, 6, none⟩ = some (.int .i64 0) := keep_cell d6 hb
  replace d7 : V5.cell? ⟨gd, 7, none⟩ = some (.int .i64 0) := keep_cell d7 hb
  replace d8 : V5.cell? ⟨gd, 8, none⟩ = some (.int .i64 seed) := keep_cell d8 hb
  replace d9 : V5.cell? ⟨gd, 9, none⟩ = some (.slice A3 0 k3) := keep_cell d9 hb
  replace OA1 : Hid (OwnS V5 w.heap.size 2 (.slice A1 n k1) L) := OA1.out.below hb
  replace OA2 : Hid (OwnS V5 w.heap.size 2 (.slice A2 n k2) L) := OA2.out.below hb
  replace HB : Hid (Below w.heap.size w V5) := HB.out.trans (hb.mono HB.out.size)
  have lb0_0 : w.heap.size < V5.heap.size := World.block_lt_of_cell? V5 _ b0_0
  have ld0 : gd < V5.heap.size := World.block_lt_of_cell? V5 _ d0
  clear hb
  go_wp2_with (fail)
  refine (HI.out _).mono ?_
  rintro e V6 ⟨B1, l1, B2, l2, B3, l3, rfl, ho1, ho2, hap, hb⟩
  have HLB1 : Hid (∀ j, (Value.slice B1 n l1).ownBlock = some j → V5.heap.size ≤ j ∧ j < V6.heap.size) := ho1.lt
  have HLB2 : Hid (∀ j, (Value.slice B2 n l2).ownBlock = some j → V5.heap.size ≤ j ∧ j < V6.heap.size) := ho2.lt
  have qb0_0_B : w.heap.size < V5.heap.size := lb0_0
  have qd0_B : gd < V5.heap.size := ld0
  have szB := HB.out.size
  replace ho1 := Lib.hid (ho1.mono HB.out.size)
  replace ho2 := Lib.hid (ho2.mono HB.out.size)
  have PB := Lib.hid hap
  clear hap
  clear lb0_0 ld0
  replace b0_0 : V6.cell? ⟨w.heap.size, 0, none⟩ = some (.int .i64 p0) := keep_cell b0_0 hb
  replace b0_1 : V6.cell? ⟨w.heap.size, 1, none⟩ = some (.int .i64 c0) := keep_cell b0_1 hb
  replace b0_2 : V6.cell? ⟨w.heap.size, 2, none⟩ = some (.int .i64 h0) := keep_cell b0_2 hb
  replace b0_3 : V6.cell? ⟨w.heap.size, 3, none⟩ = some (.int .i64 s0) := keep_cell b0_3 hb
  replace d0 : V6.cell? ⟨gd, 0, none⟩ = some (.int .i64 p) := keep_cell d0 hb
  replace d1 : V6.cell? ⟨gd, 1, none⟩ = some (.int .i64 ch) := keep_cell d1 hb
  replace d2 : V6.cell? ⟨gd, 2, none⟩ = some (.int .i64 h) := keep_cell d2 hb
  replace d3 : V6.cell? ⟨gd, 3, none⟩ = some (.int .i64 s) := keep_cell d3 hb
  replace d4 : V6.cell? ⟨gd, 4, none⟩ = some (.slice A1 n k1) := keep_cell d4 hb
  replace d5 : V6.cell? ⟨gd, 5, none⟩ = some (.slice A2 n k2) := keep_cell d5 hb
  replace d6 : V6.cell? ⟨gd, 6, none⟩ = some (.int .i64 0) := keep_cell d6 hb
  replace d7 : V6.cell? ⟨gd, 7, none⟩ = some (.int .i64 0) := keep_cell d7 hb
  replace d8 : V6.cell? ⟨gd, 8, none⟩ = some (.int .i64 seed) := keep_cell d8 hb
  replace d9 : V6.cell? ⟨gd, 9, none⟩ = some (.slice A3 0 k3) := keep_cell d9 hb
  replace OA1 : Hid (OwnS V6 w.heap.size 2 (.slice A1 n k1) L) := OA1.out.below hb
  replace OA2 : Hid (OwnS V6 w.heap.size 2 (.slice A2 n k2) L) := OA2.out.below hb
  replace HB : Hid (Below w.heap.size w V6) := HB.out.trans (hb.mono HB.out.size)
  have lb0_0 : w.heap.size < V6.heap.size := World.block_lt_of_cell? V6 _ b0_0
  have ld0 : gd < V6.heap.size := World.block_lt_of_cell? V6 _ d0
  clear hb
  have OB1 := ho1
  have OB2 := ho2
  clear ho1 ho2
  go_wp2_with (fail)
  obtain ⟨V7, hV⟩ : ∃ V, V = V6.alloc (.cells #[.int .i64 p, .int .i64 ch, .int .i64 h, .int .i64 s, .slice B1 n l1, .slice B2 n l2, .int .i64 0, .int .i64 0, .int .i64 seed, .slice B3 0 l3] 32) := ⟨_, rfl⟩
  obtain ⟨ge, hg⟩ : ∃ g, g = V6.heap.size := ⟨_, rfl⟩
  rw [← hV, ← hg]
  replace b0_0 : V7.cell? ⟨w.heap.size, 0, none⟩ = some (.int .i64 p0) := by rw [hV]; exact (cell_alloc_lt _ _ _ lb0_0).trans b0_0
  replace b0_1 : V7.cell? ⟨w.heap.size, 1, none⟩ = some (.int .i64 c0) := by rw [hV]; exact (cell_alloc_lt _ _ _ lb0_0).trans b0_1
  replace b0_2 : V7.cell? ⟨w.heap.size, 2, none⟩ = some (.int .i64 h0) := by rw [hV]; exact (cell_alloc_lt _ _ _ lb0_0).trans b0_2
  replace b0_3 : V7.cell? ⟨w.heap.size, 3, none⟩ = some (.int .i64 s0) := by rw [hV]; exact (cell_alloc_lt _ _ _ lb0_0).trans b0_3
  replace d0 : V7.cell? ⟨gd, 0, none⟩ = some (.int .i64 p) := by rw [hV]; exact (cell_alloc_lt _ _ _ ld0).trans d0
  replace d1 : V7.cell? ⟨gd, 1, none⟩ = some (.int .i64 ch) := by rw [hV]; exact (cell_alloc_lt _ _ _ ld0).trans d1
  replace d2 : V7.cell? ⟨gd, 2, none⟩ = some (.int .i64 h) := by rw [hV]; exact (cell_alloc_lt _ _ _ ld0).trans d2
  replace d3 : V7.cell? ⟨gd, 3, none⟩ = some (.int .i64 s) := by rw [hV]; exact (cell_alloc_lt _ _ _ ld0).trans d3
  replace d4 : V7.cell? ⟨gd, 4, none⟩ = some (.slice A1 n k1) := by rw [hV]; exact (cell_alloc_lt _ _ _ ld0).trans d4
  replace d5 : V7.cell? ⟨gd, 5, none⟩ = some (.slice A2 n k2) := by rw [hV]; exact (cell_alloc_lt _ _ _ ld0).trans d5
  replace d6 : V7.cell? ⟨gd, 6, none⟩ = some (.int .i64 0) := by rw [hV]; exact (cell_alloc_lt _ _ _ ld0).trans d6
  replace d7 : V7.cell? ⟨gd, 7, none⟩ = some (.int .i64 0) := by rw [hV]; exact (cell_alloc_lt _ _ _ ld0).trans d7
  replace d8 : V7.cell? ⟨gd, 8, none⟩ = some (.int .i64 seed) := by rw [hV]; exact (cell_alloc_lt _ _ _ ld0).trans d8
  replace d9 : V7.cell? ⟨gd, 9, none⟩ = some (.slice A3 0 k3) := by rw [hV]; exact (cell_alloc_lt _ _ _ ld0).trans d9
  replace OA1 : Hid (OwnS V7 w.heap.size 2 (.slice A1 n k1) L) := by rw [hV]; exact OA1.out.alloc _
  replace OA2 : Hid (OwnS V7 w.heap.size 2 (.slice A2 n k2) L) := by rw [hV]; exact OA2.out.alloc _
  replace OB1 : Hid (OwnS V7 w.heap.size 2 (.slice B1 n l1) L) := by rw [hV]; exact OB1.out.alloc _
  replace OB2 : Hid (OwnS V7 w.heap.size 2 (.slice B2 n l2) L) := by rw [hV]; exact OB2.out.alloc _
  have nb0_0_ge : w.heap.size < ge := by rw [hg]; exact lb0_0
  have nd0_ge : gd < ge := by rw [hg]; exact ld0
  have zge : w.heap.size ≤ ge := by rw [hg]; exact HB.out.size
  have e0 : V7.cell? ⟨ge, 0, none⟩ = some (.int .i64 p) := by rw [hV, hg]; simp [go_sem]
  have e1 : V7.cell? ⟨ge, 1, none⟩ = some (.int .i64 ch) := by rw [hV, hg]; simp [go_sem]
  have e2 : V7.cell? ⟨ge, 2, none⟩ = some (.int .i64 h) := by rw [hV, hg]; simp [go_sem]
  have e3 : V7.cell? ⟨ge, 3, none⟩ = some (.int .i64 s) := by rw [hV, hg]; simp [go_sem]
  have e4 : V7.cell? ⟨ge, 4, none⟩ = some (.slice B1 n l1) := by rw [hV, hg]; simp [go_sem]
  have e5 : V7.cell? ⟨ge, 5, none⟩ = some (.slice B2 n l2) := by rw [hV, hg]; simp [go_sem]
  have e6 : V7.cell? ⟨ge, 6, none⟩ = some (.int .i64 0) := by rw [hV, hg]; simp [go_sem]
  have e7 : V7.cell? ⟨ge, 7, none⟩ = some (.int .i64 0) := by rw [hV, hg]; simp [go_sem]
  have e8 : V7.cell? ⟨ge, 8, none⟩ = some (.int .i64 seed) := by rw [hV, hg]; simp [go_sem]
  have e9 : V7.cell? ⟨ge, 9, none⟩ = some (.slice B3 0 l3) := by rw [hV, hg]; simp [go_sem]
  replace HB : Hid (Below w.heap.size w V7) := by rw [hV]; exact HB.out.alloc HB.out.size _
  have HGB1 : Hid (∀ j, (Value.slice B1 n l1).ownBlock = some j → j < ge) := by rw [hg]; exact fun j hj => (HLB1.out j hj).2
  have HGB2 : Hid (∀ j, (Value.slice B2 n l2).ownBlock = some j → j < ge) := by rw [hg]; exact fun j hj => (HLB2.out j hj).2
  clear hV hg lb0_0 ld0
  have lb0_0 : w.heap.size < V7.heap.size := World.block_lt_of_cell? V7 _ b0_0
  have ld0 : gd < V7.heap.size := World.block_lt_of_cell? V7 _ d0
  have le0 : ge < V7.heap.size := World.block_lt_of_cell? V7 _ e0
  refine (eqDesk_yes p ch h s 0 0 seed B1 B2 B3 A1 A2 A3 n l1 n l2 0 l3 k1 k2 k3 L L _ (OB1.out.sl rfl).1 (OB2.out.sl rfl).1 (OA1.out.sl rfl).1 (OA2.out.sl rfl).1 hn2 hn2 (fun W _ => (eqBoardS_zero _ _ _ _ _).mono fun e w' ⟨he, hw⟩ => ⟨he, hw ▸ Below.refl _ _⟩)).mono ?_
  rintro e V8 ⟨rfl, hb⟩
  clear lb0_0 ld0 le0
  replace b0_0 : V8.cell? ⟨w.heap.size, 0, none⟩ = some (.int .i64 p0) := keep_cell b0_0 hb
  replace b0_1 : V8.cell? ⟨w.heap.size, 1, none⟩ = some (.int .i64 c0) := keep_cell b0_1 hb
  replace b0_2 : V8.cell? ⟨w.heap.size, 2, none⟩ = some (.int .i64 h0) := keep_cell b0_2 hb
  replace b0_3 : V8.cell? ⟨w.heap.size, 3, none⟩ = some (.int .i64 s0) := keep_cell b0_3 hb
  replace d0 : V8.cell? ⟨gd, 0, none⟩ = some (.int .i64 p) := keep_cell d0 hb
  replace d1 : V8.cell? ⟨gd, 1, none⟩ = some (.int .i64 ch) := keep_cell d1 hb
  replace d2 : V8.cell? ⟨gd, 2, none⟩ = some (.int .i64 h) := keep_cell d2 hb
  replace d3 : V8.cell? ⟨gd, 3, none⟩ = some (.int .i64 s) := keep_cell d3 hb
  replace d4 : V8.cell? ⟨gd, 4, none⟩ = some (.slice A1 n k1) := keep_cell d4 hb
  replace d5 : V8.cell? ⟨gd, 5, none⟩ = some (.slice A2 n k2) := keep_cell d5 hb
  replace d6 : V8.cell? ⟨gd, 6, none⟩ = some (.int .i64 0) := keep_cell d6 hb
  replace d7 : V8.cell? ⟨gd, 7, none⟩ = some (.int .i64 0) := keep_cell d7 hb
  replace d8 : V8.cell? ⟨gd, 8, none⟩ = some (.int .i64 seed) := keep_cell d8 hb
  replace d9 : V8.cell? ⟨gd, 9, none⟩ = some (.slice A3 0 k3) := keep_cell d9 hb
  replace e0 : V8.cell? ⟨ge, 0, none⟩ = some (.int .i64 p) := keep_cell e0 hb
  replace e1 : V8.cell? ⟨ge, 1, none⟩ = some (.int .i64 ch) := keep_cell e1 hb
  replace e2 : V8.cell? ⟨ge, 2, none⟩ = some (.int .i64 h) := keep_cell e2 hb
  replace e3 : V8.cell? ⟨ge, 3, none⟩ = some (.int .i64 s) := keep_cell e3 hb
  replace e4 : V8.cell? ⟨ge, 4, none⟩ = some (.slice B1 n l1) := keep_cell e4 hb
  replace e5 : V8.cell? ⟨ge, 5, none⟩ = some (.slice B2 n l2) := keep_cell e5 hb
  replace e6 : V8.cell? ⟨ge, 6, none⟩ = some (.int .i64 0) := keep_cell e6 hb
  replace e7 : V8.cell? ⟨ge, 7, none⟩ = some (.int .i64 0) := keep_cell e7 hb
  replace e8 : V8.cell? ⟨ge, 8, none⟩ = some (.int .i64 seed) := keep_cell e8 hb
  replace e9 : V8.cell? ⟨ge, 9, none⟩ = some (.slice B3 0 l3) := keep_cell e9 hb
  replace OA1 : Hid (OwnS V8 w.heap.size 2 (.slice A1 n k1) L) := OA1.out.below hb
  replace OA2 : Hid (OwnS V8 w.heap.size 2 (.slice A2 n k2) L) := OA2.out.below hb
  replace OB1 : Hid (OwnS V8 w.heap.size 2 (.slice B1 n l1) L) := OB1.out.below hb
  replace OB2 : Hid (OwnS V8 w.heap.size 2 (.slice B2 n l2) L) := OB2.out.below hb
  replace HB : Hid (Below w.heap.size w V8) := HB.out.trans (hb.mono HB.out.size)
  have lb0_0 : w.heap.size < V8.heap.size := World.block_lt_of_cell? V8 _ b0_0
  have ld0 : gd < V8.heap.size := World.block_lt_of_cell? V8 _ d0
  have le0 : ge < V8.heap.size := World.block_lt_of_cell? V8 _ e0
  clear hb
  go_wp2_with (fail)
  have M := markDesk_zero p ch h s 0 0 seed B1 B2 B3 n l1 n l2 l3 w.heap.size 2 L L 1 V8 OB1.out OB2.out PB.out hn2 hn2 (by omega)
  rw [HK.out] at M
  refine M.mono ?_
  rintro e V9 ⟨rfl, ho1, ho2, hf⟩
  clear M
  clear lb0_0 ld0 le0
  replace b0_0 : V9.cell? ⟨w.heap.size, 0, none⟩ = some (.int .i64 p0) := hf.cell' b0_0 (fun h => h.elim (fun h => by have := (HLB1.out _ h.symm).1; omega) (fun h => by have := (HLB2.out _ h.symm).1; omega))
  replace b0_1 : V9.cell? ⟨w.heap.size, 1, none⟩ = some (.int .i64 c0) := hf.cell' b0_1 (fun h => h.elim (fun h => by have := (HLB1.out _ h.symm).1; omega) (fun h => by have := (HLB2.out _ h.symm).1; omega))
  replace b0_2 : V9.cell? ⟨w.heap.size, 2, none⟩ = some (.int .i64 h0) := hf.cell' b0_2 (fun h => h.elim (fun h => by have := (HLB1.out _ h.symm).1; omega) (fun h => by have := (HLB2.out _ h.symm).1; omega))
  replace b0_3 : V9.cell? ⟨w.heap.size, 3, none⟩ = some (.int .i64 s0) := hf.cell' b0_3 (fun h => h.elim (fun h => by have := (HLB1.out _ h.symm).1; omega) (fun h => by have := (HLB2.out _ h.symm).1; omega))
  replace d0 : V9.cell? ⟨gd, 0, none⟩ = some (.int .i64 p) := hf.cell' d0 (fun h => h.elim (fun h => by have := (HLB1.out _ h.symm).1; omega) (fun h => by have := (HLB2.out _ h.symm).1; omega))
  replace d1 : V9.cell? ⟨gd, 1, none⟩ = some (.int .i64 ch) := hf.cell' d1 (fun h => h.elim (fun h => by have := (HLB1.out _ h.symm).1; omega) (fun h => by have := (HLB2.out _ h.symm).1; omega))
  replace d2 : V9.cell? ⟨gd, 2, none⟩ = some (.int .i64 h) := hf.cell' d2 (fun h => h.elim (fun h => by have := (HLB1.out _ h.symm).1; omega) (fun h => by have := (HLB2.out _ h.symm).1; omega))
  replace d3 : V9.cell? ⟨gd, 3, none⟩ = some (.int .i64 s) := hf.cell' d3 (fun h => h.elim (fun h => by have := (HLB1.out _ h.symm).1; omega) (fun h => by have := (HLB2.out _ h.symm).1; omega))
  replace d4 : V9.cell? ⟨gd, 4, none⟩ = some (.slice A1 n k1) := hf.cell' d4 (fun h => h.elim (fun h => by have := (HLB1.out _ h.symm).1; omega) (fun h => by have := (HLB2.out _ h.symm).1; omega))
  replace d5 : V9.cell? ⟨gd, 5, none⟩ = some (.slice A2 n k2) := hf.cell' d5 (fun h => h.elim (fun h => by have := (HLB1.out _ h.symm).1; omega) (fun h => by have := (HLB2.out _ h.symm).1; omega))
  replace d6 : V9.cell? ⟨gd, 6, none⟩ = some (.int .i64 0) := hf.cell' d6 (fun h => h.elim (fun h => by have := (HLB1.out _ h.symm).1; omega) (fun h => by have := (HLB2.out _ h.symm).1; omega))
  replace d7 : V9.cell? ⟨gd, 7, none⟩ = some (.int .i64 0) := hf.cell' d7 (fun h => h.elim (fun h => by have := (HLB1.out _ h.symm).1; omega) (fun h => by have := (HLB2.out _ h.symm).1; omega))
  replace d8 : V9.cell? ⟨gd, 8, none⟩ = some (.int .i64 seed) := hf.cell' d8 (fun h => h.elim (fun h => by have := (HLB1.out _ h.symm).1; omega) (fun h => by have := (HLB2.out _ h.symm).1; omega))
  replace d9 : V9.cell? ⟨gd, 9, none⟩ = some (.slice A3 0 k3) := hf.cell' d9 (fun h => h.elim (fun h => by have := (HLB1.out _ h.symm).1; omega) (fun h => by have := (HLB2.out _ h.symm).1; omega))
  replace e0 : V9.cell? ⟨ge, 0, none⟩ = some (.int .i64 p) := hf.cell' e0 (fun h => h.elim (fun h => by have := HGB1.out _ h.symm; omega) (fun h => by have := HGB2.out _ h.symm; omega))
  replace e1 : V9.cell? ⟨ge, 1, none⟩ = some (.int .i64 ch) := hf.cell' e1 (fun h => h.elim (fun h => by have := HGB1.out _ h.symm; omega) (fun h => by have := HGB2.out _ h.symm; omega))
  replace e2 : V9.cell? ⟨ge, 2, none⟩ = some (.int .i64 h) := hf.cell' e2 (fun h => h.elim (fun h => by have := HGB1.out _ h.symm; omega) (fun h => by have := HGB2.out _ h.symm; omega))
  replace e3 : V9.cell? ⟨ge, 3, none⟩ = some (.int .i64 s) := hf.cell' e3 (fun h => h.elim (fun h => by have := HGB1.out _ h.symm; omega) (fun h => by have := HGB2.out _ h.symm; omega))
  replace e4 : V9.cell? ⟨ge, 4, none⟩ = some (.slice B1 n l1) := hf.cell' e4 (fun h => h.elim (fun h => by have := HGB1.out _ h.symm; omega) (fun h => by have := HGB2.out _ h.symm; omega))
  replace e5 : V9.cell? ⟨ge, 5, none⟩ = some (.slice B2 n l2) := hf.cell' e5 (fun h => h.elim (fun h => by have := HGB1.out _ h.symm; omega) (fun h => by have := HGB2.out _ h.symm; omega))
  replace e6 : V9.cell? ⟨ge, 6, none⟩ = some (.int .i64 0) := hf.cell' e6 (fun h => h.elim (fun h => by have := HGB1.out _ h.symm; omega) (fun h => by have := HGB2.out _ h.symm; omega))
  replace e7 : V9.cell? ⟨ge, 7, none⟩ = some (.int .i64 0) := hf.cell' e7 (fun h => h.elim (fun h => by have := HGB1.out _ h.symm; omega) (fun h => by have := HGB2.out _ h.symm; omega))
  replace e8 : V9.cell? ⟨ge, 8, none⟩ = some (.int .i64 seed) := hf.cell' e8 (fun h => h.elim (fun h => by have := HGB1.out _ h.symm; omega) (fun h => by have := HGB2.out _ h.symm; omega))
  replace e9 : V9.cell? ⟨ge, 9, none⟩ = some (.slice B3 0 l3) := hf.cell' e9 (fun h => h.elim (fun h => by have := HGB1.out _ h.symm; omega) (fun h => by have := HGB2.out _ h.symm; omega))
  replace OA1 : Hid (OwnS V9 w.heap.size 2 (.slice A1 n k1) L) := hf.own OA1.out (fun j hj h => h.elim (fun h => by have := (HLB1.out _ h.symm).1; have := HGA1.out _ hj; omega) (fun h => by have := (HLB2.out _ h.symm).1; have := HGA1.out _ hj; omega))
  replace OA2 : Hid (OwnS V9 w.heap.size 2 (.slice A2 n k2) L) := hf.own OA2.out (fun j hj h => h.elim (fun h => by have := (HLB1.out _ h.symm).1; have := HGA2.out _ hj; omega) (fun h => by have := (HLB2.out _ h.symm).1; have := HGA2.out _ hj; omega))
  replace HB : Hid (Below w.heap.size w V9) := HB.out.trans (hf.below HB.out.size (fun j h => h.elim (fun h => by have := (HLB1.out _ h.symm).1; omega) (fun h => by have := (HLB2.out _ h.symm).1; omega)))
  have lb0_0 : w.heap.size < V9.heap.size := World.block_lt_of_cell? V9 _ b0_0
  have ld0 : gd < V9.heap.size := World.block_lt_of_cell? V9 _ d0
  have le0 : ge < V9.heap.size := World.block_lt_of_cell? V9 _ e0
  replace OB1 := Lib.hid ho1
  replace OB2 := Lib.hid ho2
  clear hf ho1 ho2
  go_wp2_with (fail)
  have M := heldDesk_zero p ch h s 0 0 seed B1 B2 B3 n l1 n l2 l3 1 V9 (OB1.out.sl rfl).1 (OB2.out.sl rfl).1 hn2 hn2 (by omega)
  rw [HK.out] at M
  refine (M).mono ?_
  rintro e V10 ⟨rfl, hb⟩
  clear lb0_0 ld0 le0
  replace b0_0 : V10.cell? ⟨w.heap.size, 0, none⟩ = some (.int .i64 p0) := keep_cell b0_0 hb
  replace b0_1 : V10.cell? ⟨w.heap.size, 1, none⟩ = some (.int .i64 c0) := keep_cell b0_1 hb
  replace b0_2 : V10.cell? ⟨w.heap.size, 2, none⟩ = some (.int .i64 h0) := keep_cell b0_2 hb
  replace b0_3 : V10.cell? ⟨w.heap.size, 3, none⟩ = some (.int .i64 s0) := keep_cell b0_3 hb
  replace d0 : V10.cell? ⟨gd, 0, none⟩ = some (.int .i64 p) := keep_cell d0 hb
  replace d1 : V10.cell? ⟨gd, 1, none⟩ = some (.int .i64 ch) := keep_cell d1 hb
  replace d2 : V10.cell? ⟨gd, 2, none⟩ = some (.int .i64 h) := keep_cell d2 hb
  replace d3 : V10.cell? ⟨gd, 3, none⟩ = some (.int .i64 s) := keep_cell d3 hb
  replace d4 : V10.cell? ⟨gd, 4, none⟩ = some (.slice A1 n k1) := keep_cell d4 hb
  replace d5 : V10.cell? ⟨gd, 5, none⟩ = some (.slice A2 n k2) := keep_cell d5 hb
  replace d6 : V10.cell? ⟨gd, 6, none⟩ = some (.int .i64 0) := keep_cell d6 hb
  replace d7 : V10.cell? ⟨gd, 7, none⟩ = some (.int .i64 0) := keep_cell d7 hb
  replace d8 : V10.cell? ⟨gd, 8, none⟩ = some (.int .i64 seed) := keep_cell d8 hb
  replace d9 : V10.cell? ⟨gd, 9, none⟩ = some (.slice A3 0 k3) := keep_cell d9 hb
  replace e0 : V10.cell? ⟨ge, 0, none⟩ = some (.int .i64 p) := keep_cell e0 hb
  replace e1 : V10.cell? ⟨ge, 1, none⟩ = some (.int .i64 ch) := keep_cell e1 hb
  replace e2 : V10.cell? ⟨ge, 2, none⟩ = some (.int .i64 h) := keep_cell e2 hb
  replace e3 : V10.cell? ⟨ge, 3, none⟩ = some (.int .i64 s) := keep_cell e3 hb
  replace e4 : V10.cell? ⟨ge, 4, none⟩ = some (.slice B1 n l1) := keep_cell e4 hb
  replace e5 : V10.cell? ⟨ge, 5, none⟩ = some (.slice B2 n l2) := keep_cell e5 hb
  replace e6 : V10.cell? ⟨ge, 6, none⟩ = some (.int .i64 0) := keep_cell e6 hb
  replace e7 : V10.cell? ⟨ge, 7, none⟩ = some (.int .i64 0) := keep_cell e7 hb
  replace e8 : V10.cell? ⟨ge, 8, none⟩ = some (.int .i64 seed) := keep_cell e8 hb
  replace e9 : V10.cell? ⟨ge, 9, none⟩ = some (.slice B3 0 l3) := keep_cell e9 hb
  replace OA1 : Hid (OwnS V10 w.heap.size 2 (.slice A1 n k1) L) := OA1.out.below hb
  replace OA2 : Hid (OwnS V10 w.heap.size 2 (.slice A2 n k2) L) := OA2.out.below hb
  replace OB1 : Hid (OwnS V10 w.heap.size 2 (.slice B1 n l1) (seqL 1 n)) := OB1.out.below hb
  replace OB2 : Hid (OwnS V10 w.heap.size 2 (.slice B2 n l2) (seqL (1 + n) n)) := OB2.out.below hb
  replace HB : Hid (Below w.heap.size w V10) := HB.out.trans (hb.mono HB.out.size)
  have lb0_0 : w.heap.size < V10.heap.size := World.block_lt_of_cell? V10 _ b0_0
  have ld0 : gd < V10.heap.size := World.block_lt_of_cell? V10 _ d0
  have le0 : ge < V10.heap.size := World.block_lt_of_cell? V10 _ e0
  clear hb
  clear M
  go_wp2_with (fail)
  refine (toVariant_any _ _ _ _ _).mono ?_
  rintro e V11 ⟨rfl, hb⟩
  clear lb0_0 ld0 le0
  replace b0_0 : V11.cell? ⟨w.heap.size, 0, none⟩ = some (.int .i64 p0) := keep_cell b0_0 hb
  replace b0_1 : V11.cell? ⟨w.heap.size, 1, none⟩ = some (.int .i64 c0) := keep_cell b0_1 hb
  replace b0_2 : V11.cell? ⟨w.heap.size, 2, none⟩ = some (.int .i64 h0) := keep_cell b0_2 hb
  replace b0_3 : V11.cell? ⟨w.heap.size, 3, none⟩ = some (.int .i64 s0) := keep_cell b0_3 hb
  replace d0 : V11.cell? ⟨gd, 0, none⟩ = some (.int .i64 p) := keep_cell d0 hb
  replace d1 : V11.cell? ⟨gd, 1, none⟩ = some (.int .i64 ch) := keep_cell d1 hb
  replace d2 : V11.cell? ⟨gd, 2, none⟩ = some (.int .i64 h) := keep_cell d2 hb
  replace d3 : V11.cell? ⟨gd, 3, none⟩ = some (.int .i64 s) := keep_cell d3 hb
  replace d4 : V11.cell? ⟨gd, 4, none⟩ = some (.slice A1 n k1) := keep_cell d4 hb
  replace d5 : V11.cell? ⟨gd, 5, none⟩ = some (.slice A2 n k2) := keep_cell d5 hb
  replace d6 : V11.cell? ⟨gd, 6, none⟩ = some (.int .i64 0) := keep_cell d6 hb
  replace d7 : V11.cell? ⟨gd, 7, none⟩ = some (.int .i64 0) := keep_cell d7 hb
  replace d8 : V11.cell? ⟨gd, 8, none⟩ = some (.int .i64 seed) := keep_cell d8 hb
  replace d9 : V11.cell? ⟨gd, 9, none⟩ = some (.slice A3 0 k3) := keep_cell d9 hb
  replace e0 : V11.cell? ⟨ge, 0, none⟩ = some (.int .i64 p) := keep_cell e0 hb
  replace e1 : V11.cell? ⟨ge, 1, none⟩ = some (.int .i64 ch) := keep_cell e1 hb
  replace e2 : V11.cell? ⟨ge, 2, none⟩ = some (.int .i64 h) := keep_cell e2 hb
  replace e3 : V11.cell? ⟨ge, 3, none⟩ = some (.int .i64 s) := keep_cell e3 hb
  replace e4 : V11.cell? ⟨ge, 4, none⟩ = some (.slice B1 n l1) := keep_cell e4 hb
  replace e5 : V11.cell? ⟨ge, 5, none⟩ = some (.slice B2 n l2) := keep_cell e5 hb
  replace e6 : V11.cell? ⟨ge, 6, none⟩ = some (.int .i64 0) := keep_cell e6 hb
  replace e7 : V11.cell? ⟨ge, 7, none⟩ = some (.int .i64 0) := keep_cell e7 hb
  replace e8 : V11.cell? ⟨ge, 8, none⟩ = some (.int .i64 seed) := keep_cell e8 hb
  replace e9 : V11.cell? ⟨ge, 9, none⟩ = some (.slice B3 0 l3) := keep_cell e9 hb
  replace OA1 : Hid (OwnS V11 w.heap.size 2 (.slice A1 n k1) L) := OA1.out.below hb
  replace OA2 : Hid (OwnS V11 w.heap.size 2 (.slice A2 n k2) L) := OA2.out.below hb
  replace OB1 : Hid (OwnS V11 w.heap.size 2 (.slice B1 n l1) (seqL 1 n)) := OB1.out.below hb
  replace OB2 : Hid (OwnS V11 w.heap.size 2 (.slice B2 n l2) (seqL (1 + n) n)) := OB2.out.below hb
  replace HB : Hid (Below w.heap.size w V11) := HB.out.trans (hb.mono HB.out.size)
  have lb0_0 : w.heap.size < V11.heap.size := World.block_lt_of_cell? V11 _ b0_0
  have ld0 : gd < V11.heap.size := World.block_lt_of_cell? V11 _ d0
  have le0 : ge < V11.heap.size := World.block_lt_of_cell? V11 _ e0
  clear hb
  go_wp2_with (fail)
  refine (HI.out _).mono ?_
  rintro e V12 ⟨E1, m1, E2, m2, E3, m3, rfl, ho1, ho2, hap, hb⟩
  have HLE1 : Hid (∀ j, (Value.slice E1 n m1).ownBlock = some j → V11.heap.size ≤ j ∧ j < V12.heap.size) := ho1.lt
  have HLE2 : Hid (∀ j, (Value.slice E2 n m2).ownBlock = some j → V11.heap.size ≤ j ∧ j < V12.heap.size) := ho2.lt
  have qb0_0_E : w.heap.size < V11.heap.size := lb0_0
  have qd0_E : gd < V11.heap.size := ld0
  have qe0_E : ge < V11.heap.size := le0
  have szE := HB.out.size
  replace ho1 := Lib.hid (ho1.mono HB.out.size)
  replace ho2 := Lib.hid (ho2.mono HB.out.size)
  have PE := Lib.hid hap
  clear hap
  clear lb0_0 ld0 le0
  replace b0_0 : V12.cell? ⟨w.heap.size, 0, none⟩ = some (.int .i64 p0) := keep_cell b0_0 hb
  replace b0_1 : V12.cell? ⟨w.heap.size, 1, none⟩ = some (.int .i64 c0) := keep_cell b0_1 hb
  replace b0_2 : V12.cell? ⟨w.heap.size, 2, none⟩ = some (.int .i64 h0) := keep_cell b0_2 hb
  replace b0_3 : V12.cell? ⟨w.heap.size, 3, none⟩ = some (.int .i64 s0) := keep_cell b0_3 hb
  replace d0 : V12.cell? ⟨gd, 0, none⟩ = some (.int .i64 p) := keep_cell d0 hb
  replace d1 : V12.cell? ⟨gd, 1, none⟩ = some (.int .i64 ch) := keep_cell d1 hb
  replace d2 : V12.cell? ⟨gd, 2, none⟩ = some (.int .i64 h) := keep_cell d2 hb
  replace d3 : V12.cell? ⟨gd, 3, none⟩ = some (.int .i64 s) := keep_cell d3 hb
  replace d4 : V12.cell? ⟨gd, 4, none⟩ = some (.slice A1 n k1) := keep_cell d4 hb
  replace d5 : V12.cell? ⟨gd, 5, none⟩ = some (.slice A2 n k2) := keep_cell d5 hb
  replace d6 : V12.cell? ⟨gd, 6, none⟩ = some (.int .i64 0) := keep_cell d6 hb
  replace d7 : V12.cell? ⟨gd, 7, none⟩ = some (.int .i64 0) := keep_cell d7 hb
  replace d8 : V12.cell? ⟨gd, 8, none⟩ = some (.int .i64 seed) := keep_cell d8 hb
  replace d9 : V12.cell? ⟨gd, 9, none⟩ = some (.slice A3 0 k3) := keep_cell d9 hb
  replace e0 : V12.cell? ⟨ge, 0, none⟩ = some (.int .i64 p) := keep_cell e0 hb
  replace e1 : V12.cell? ⟨ge, 1, none⟩ = some (.int .i64 ch) := keep_cell e1 hb
  replace e2 : V12.cell? ⟨ge, 2, none⟩ = some (.int .i64 h) := keep_cell e2 hb
  replace e3 : V12.cell? ⟨ge, 3, none⟩ = some (.int .i64 s) := keep_cell e3 hb
  replace e4 : V12.cell? ⟨ge, 4, none⟩ = some (.slice B1 n l1) := keep_cell e4 hb
  replace e5 : V12.cell? ⟨ge, 5, none⟩ = some (.slice B2 n l2) := keep_cell e5 hb
  replace e6 : V12.cell? ⟨ge, 6, none⟩ = some (.int .i64 0) := keep_cell e6 hb
  replace e7 : V12.cell? ⟨ge, 7, none⟩ = some (.int .i64 0) := keep_cell e7 hb
  replace e8 : V12.cell? ⟨ge, 8, none⟩ = some (.int .i64 seed) := keep_cell e8 hb
  replace e9 : V12.cell? ⟨ge, 9, none⟩ = some (.slice B3 0 l3) := keep_cell e9 hb
  replace OA1 : Hid (OwnS V12 w.heap.size 2 (.slice A1 n k1) L) := OA1.out.below hb
  replace OA2 : Hid (OwnS V12 w.heap.size 2 (.slice A2 n k2) L) := OA2.out.below hb
  replace OB1 : Hid (OwnS V12 w.heap.size 2 (.slice B1 n l1) (seqL 1 n)) := OB1.out.below hb
  replace OB2 : Hid (OwnS V12 w.heap.size 2 (.slice B2 n l2) (seqL (1 + n) n)) := OB2.out.below hb
  replace HB : Hid (Below w.heap.size w V12) := HB.out.trans (hb.mono HB.out.size)
  have lb0_0 : w.heap.size < V12.heap.size := World.block_lt_of_cell? V12 _ b0_0
  have ld0 : gd < V12.heap.size := World.block_lt_of_cell? V12 _ d0
  have le0 : ge < V12.heap.size := World.block_lt_of_cell? V12 _ e0
  clear hb
  have OE1 := ho1
  have OE2 := ho2
  clear ho1 ho2
  go_wp2_with (fail)
  obtain ⟨V13, hV⟩ : ∃ V, V = V12.alloc (.cells #[.int .i64 p, .int .i64 ch, .int .i64 h, .int .i64 s, .slice E1 n m1, .slice E2 n m2, .int .i64 0, .int .i64 0, .int .i64 seed, .slice E3 0 m3] 32) := ⟨_, rfl⟩
  obtain ⟨gf, hg⟩ : ∃ g, g = V12.heap.size := ⟨_, rfl⟩
  rw [← hV, ← hg]
  replace b0_0 : V13.cell? ⟨w.heap.size, 0, none⟩ = some (.int .i64 p0) := by rw [hV]; exact (cell_alloc_lt _ _ _ lb0_0).trans b0_0
  replace b0_1 : V13.cell? ⟨w.heap.size, 1, none⟩ = some (.int .i64 c0) := by rw [hV]; exact (cell_alloc_lt _ _ _ lb0_0).trans b0_1
  replace b0_2 : V13.cell? ⟨w.heap.size, 2, none⟩ = some (.int .i64 h0) := by rw [hV]; exact (cell_alloc_lt _ _ _ lb0_0).trans b0_2
  replace b0_3 : V13.cell? ⟨w.heap.size, 3, none⟩ = some (.int .i64 s0) := by rw [hV]; exact (cell_alloc_lt _ _ _ lb0_0).trans b0_3
  replace d0 : V13.cell? ⟨gd, 0, none⟩ = some (.int .i64 p) := by rw [hV]; exact (cell_alloc_lt _ _ _ ld0).trans d0
  replace d1 : V13.cell? ⟨gd, 1, none⟩ = some (.int .i64 ch) := by rw [hV]; exact (cell_alloc_lt _ _ _ ld0).trans d1
  replace d2 : V13.cell? ⟨gd, 2, none⟩ = some (.int .i64 h) := by rw [hV]; exact (cell_alloc_lt _ _ _ ld0).trans d2
  replace d3 : V13.cell? ⟨gd, 3, none⟩ = some (.int .i64 s) := by rw [hV]; exact (cell_alloc_lt _ _ _ ld0).trans d3
  replace d4 : V13.cell? ⟨gd, 4, none⟩ = some (.slice A1 n k1) := by rw [hV]; exact (cell_alloc_lt _ _ _ ld0).trans d4
  replace d5 : V13.cell? ⟨gd, 5, none⟩ = some (.slice A2 n k2) := by rw [hV]; exact (cell_alloc_lt _ _ _ ld0).trans d5
  replace d6 : V13.cell? ⟨gd, 6, none⟩ = some (.int .i64 0) := by rw [hV]; exact (cell_alloc_lt _ _ _ ld0).trans d6
  replace d7 : V13.cell? ⟨gd, 7, none⟩ = some (.int .i64 0) := by rw [hV]; exact (cell_alloc_lt _ _ _ ld0).trans d7
  replace d8 : V13.cell? ⟨gd, 8, none⟩ = some (.int .i64 seed) := by rw [hV]; exact (cell_alloc_lt _ _ _ ld0).trans d8
  replace d9 : V13.cell? ⟨gd, 9, none⟩ = some (.slice A3 0 k3) := by rw [hV]; exact (cell_alloc_lt _ _ _ ld0).trans d9
  replace e0 : V13.cell? ⟨ge, 0, none⟩ = some (.int .i64 p) := by rw [hV]; exact (cell_alloc_lt _ _ _ le0).trans e0
  replace e1 : V13.cell? ⟨ge, 1, none⟩ = some (.int .i64 ch) := by rw [hV]; exact (cell_alloc_lt _ _ _ le0).trans e1
  replace e2 : V13.cell? ⟨ge, 2, none⟩ = some (.int .i64 h) := by rw [hV]; exact (cell_alloc_lt _ _ _ le0).trans e2
  replace e3 : V13.cell? ⟨ge, 3, none⟩ = some (.int .i64 s) := by rw [hV]; exact (cell_alloc_lt _ _ _ le0).trans e3
  replace e4 : V13.cell? ⟨ge, 4, none⟩ = some (.slice B1 n l1) := by rw [hV]; exact (cell_alloc_lt _ _ _ le0).trans e4
  replace e5 : V13.cell? ⟨ge, 5, none⟩ = some (.slice B2 n l2) := by rw [hV]; exact (cell_alloc_lt _ _ _ le0).trans e5
  replace e6 : V13.cell? ⟨ge, 6, none⟩ = some (.int .i64 0) := by rw [hV]; exact (cell_alloc_lt _ _ _ le0).trans e6
  replace e7 : V13.cell? ⟨ge, 7, none⟩ = some (.int .i64 0) := by rw [hV]; exact (cell_alloc_lt _ _ _ le0).trans e7
  replace e8 : V13.cell? ⟨ge, 8, none⟩ = some (.int .i64 seed) := by rw [hV]; exact (cell_alloc_lt _ _ _ le0).trans e8
  replace e9 : V13.cell? ⟨ge, 9, none⟩ = some (.slice B3 0 l3) := by rw [hV]; exact (cell_alloc_lt _ _ _ le0).trans e9
  replace OA1 : Hid (OwnS V13 w.heap.size 2 (.slice A1 n k1) L) := by rw [hV]; exact OA1.out.alloc _
  replace OA2 : Hid (OwnS V13 w.heap.size 2 (.slice A2 n k2) L) := by rw [hV]; exact OA2.out.alloc _
  replace OB1 : Hid (OwnS V13 w.heap.size 2 (.slice B1 n l1) (seqL 1 n)) := by rw [hV]; exact OB1.out.alloc _
  replace OB2 : Hid (OwnS V13 w.heap.size 2 (.slice B2 n l2) (seqL (1 + n) n)) := by rw [hV]; exact OB2.out.alloc _
  replace OE1 : Hid (OwnS V13 w.heap.size 2 (.slice E1 n m1) L) := by rw [hV]; exact OE1.out.alloc _
  replace OE2 : Hid (OwnS V13 w.heap.size 2 (.slice E2 n m2) L) := by rw [hV]; exact OE2.out.alloc _
  have nb0_0_gf : w.heap.size < gf := by rw [hg]; exact lb0_0
  have nd0_gf : gd < gf := by rw [hg]; exact ld0
  have ne0_gf : ge < gf := by rw [hg]; exact le0
  have zgf : w.heap.size ≤ gf := by rw [hg]; exact HB.out.size
  have f0 : V13.cell? ⟨gf, 0, none⟩ = some (.int .i64 p) := by rw [hV, hg]; simp [go_sem]
  have f1 : V13.cell? ⟨gf, 1, none⟩ = some (.int .i64 ch) := by rw [hV, hg]; simp [go_sem]
  have f2 : V13.cell? ⟨gf, 2, none⟩ = some (.int .i64 h) := by rw [hV, hg]; simp [go_sem]
  have f3 : V13.cell? ⟨gf, 3, none⟩ = some (.int .i64 s) := by rw [hV, hg]; simp [go_sem]
  have f4 : V13.cell? ⟨gf, 4, none⟩ = some (.slice E1 n m1) := by rw [hV, hg]; simp [go_sem]
  have f5 : V13.cell? ⟨gf, 5, none⟩ = some (.slice E2 n m2) := by rw [hV, hg]; simp [go_sem]
  have f6 : V13.cell? ⟨gf, 6, none⟩ = some (.int .i64 0) := by rw [hV, hg]; simp [go_sem]
  have f7 : V13.cell? ⟨gf, 7, none⟩ = some (.int .i64 0) := by rw [hV, hg]; simp [go_sem]
  have f8 : V13.cell? ⟨gf, 8, none⟩ = some (.int .i64 seed) := by rw [hV, hg]; simp [go_sem]
  have f9 : V13.cell? ⟨gf, 9, none⟩ = some (.slice E3 0 m3) := by rw [hV, hg]; simp [go_sem]
  replace HB : Hid (Below w.heap.size w V13) := by rw [hV]; exact HB.out.alloc HB.out.size _
  have HGE1 : Hid (∀ j, (Value.slice E1 n m1).ownBlock = some j → j < gf) := by rw [hg]; exact fun j hj => (HLE1.out j hj).2
  have HGE2 : Hid (∀ j, (Value.slice E2 n m2).ownBlock = some j → j < gf) := by rw [hg]; exact fun j hj => (HLE2.out j hj).2
  clear hV hg lb0_0 ld0 le0
  have lb0_0 : w.heap.size < V13.heap.size := World.block_lt_of_cell? V13 _ b0_0
  have ld0 : gd < V13.heap.size := World.block_lt_of_cell? V13 _ d0
  have le0 : ge < V13.heap.size := World.block_lt_of_cell? V13 _ e0
  have lf0 : gf < V13.heap.size := World.block_lt_of_cell? V13 _ f0
  refine (eqDesk_yes p ch h s 0 0 seed E1 E2 E3 A1 A2 A3 n m1 n m2 0 m3 k1 k2 k3 L L _ (OE1.out.sl rfl).1 (OE2.out.sl rfl).1 (OA1.out.sl rfl).1 (OA2.out.sl rfl).1 hn2 hn2 (fun W _ => (eqBoardS_zero _ _ _ _ _).mono fun e w' ⟨he, hw⟩ => ⟨he, hw ▸ Below.refl _ _⟩)).mono ?_
  rintro e V14 ⟨rfl, hb⟩
  clear lb0_0 ld0 le0 lf0
  replace b0_0 : V14.cell? ⟨w.heap.size, 0, none⟩ = some (.int .i64 p0) := keep_cell b0_0 hb
  replace b0_1 : V14.cell? ⟨w.heap.size, 1, none⟩ = some (.int .i64 c0) := keep_cell b0_1 hb
  replace b0_2 : V14.cell? ⟨w.heap.size, 2, none⟩ = some (.int .i64 h0) := keep_cell b0_2 hb
  replace b0_3 : V14.cell? ⟨w.heap.size, 3, none⟩ = some (.int .i64 s0) := keep_cell b0_3 hb
  replace d0 : V14.cell? ⟨gd, 0, none⟩ = some (.int .i64 p) := keep_cell d0 hb
  replace d1 : V14.cell? ⟨gd, 1, none⟩ = some (.int .i64 ch) := keep_cell d1 hb
  replace d2 : V14.cell? ⟨gd, 2, none⟩ = some (.int .i64 h) := keep_cell d2 hb
  replace d3 : V14.cell? ⟨gd, 3, none⟩ = some (.int .i64 s) := keep_cell d3 hb
  replace d4 : V14.cell? ⟨gd, 4, none⟩ = some (.slice A1 n k1) := keep_cell d4 hb
  replace d5 : V14.cell? ⟨gd, 5, none⟩ = some (.slice A2 n k2) := keep_cell d5 hb
  replace d6 : V14.cell? ⟨gd, 6, none⟩ = some (.int .i64 0) := keep_cell d6 hb
  replace d7 : V14.cell? ⟨gd, 7, none⟩ = some (.int .i64 0) := keep_cell d7 hb
  replace d8 : V14.cell? ⟨gd, 8, none⟩ = some (.int .i64 seed) := keep_cell d8 hb
  replace d9 : V14.cell? ⟨gd, 9, none⟩ = some (.slice A3 0 k3) := keep_cell d9 hb
  replace e0 : V14.cell? ⟨ge, 0, none⟩ = some (.int .i64 p) := keep_cell e0 hb
  replace e1 : V14.cell? ⟨ge, 1, none⟩ = some (.int .i64 ch) := keep_cell e1 hb
  replace e2 : V14.cell? ⟨ge, 2, none⟩ = some (.int .i64 h) := keep_cell e2 hb
  replace e3 : V14.cell? ⟨ge, 3, none⟩ = some (.int .i64 s) := keep_cell e3 hb
  replace e4 : V14.cell? ⟨ge, 4, none⟩ = some (.slice B1 n l1) := keep_cell e4 hb
  replace e5 : V14.cell? ⟨ge, 5, none⟩ = some (.slice B2 n l2) := keep_cell e5 hb
  replace e6 : V14.cell? ⟨ge, 6, none⟩ = some (.int .i64 0) := keep_cell e6 hb
  replace e7 : V14.cell? ⟨ge, 7, none⟩ = some (.int .i64 0) := keep_cell e7 hb
  replace e8 : V14.cell? ⟨ge, 8, none⟩ = some (.int .i64 seed) := keep_cell e8 hb
  replace e9 : V14.cell? ⟨ge, 9, none⟩ = some (.slice B3 0 l3) := keep_cell e9 hb
  replace f0 : V14.cell? ⟨gf, 0, none⟩ = some (.int .i64 p) := keep_cell f0 hb
  replace f1 : V14.cell? ⟨gf, 1, none⟩ = some (.int .i64 ch) := keep_cell f1 hb
  replace f2 : V14.cell? ⟨gf, 2, none⟩ = some (.int .i64 h) := keep_cell f2 hb
  replace f3 : V14.cell? ⟨gf, 3, none⟩ = some (.int .i64 s) := keep_cell f3 hb
  replace f4 : V14.cell? ⟨gf, 4, none⟩ = some (.slice E1 n m1) := keep_cell f4 hb
  replace f5 : V14.cell? ⟨gf, 5, none⟩ = some (.slice E2 n m2) := keep_cell f5 hb
  replace f6 : V14.cell? ⟨gf, 6, none⟩ = some (.int .i64 0) := keep_cell f6 hb
  replace f7 : V14.cell? ⟨gf, 7, none⟩ = some (.int .i64 0) := keep_cell f7 hb
  replace f8 : V14.cell? ⟨gf, 8, none⟩ = some (.int .i64 seed) := keep_cell f8 hb
  replace f9 : V14.cell? ⟨gf, 9, none⟩ = some (.slice E3 0 m3) := keep_cell f9 hb
  replace OA1 : Hid (OwnS V14 w.heap.size 2 (.slice A1 n k1) L) := OA1.out.below hb
  replace OA2 : Hid (OwnS V14 w.heap.size 2 (.slice A2 n k2) L) := OA2.out.below hb
  replace OB1 : Hid (OwnS V14 w.heap.size 2 (.slice B1 n l1) (seqL 1 n)) := OB1.out.below hb
  replace OB2 : Hid (OwnS V14 w.heap.size 2 (.slice B2 n l2) (seqL (1 + n) n)) := OB2.out.below hb
  replace OE1 : Hid (OwnS V14 w.heap.size 2 (.slice E1 n m1) L) := OE1.out.below hb
  replace OE2 : Hid (OwnS V14 w.heap.size 2 (.slice E2 n m2) L) := OE2.out.below hb
  replace HB : Hid (Below w.heap.size w V14) := HB.out.trans (hb.mono HB.out.size)
  have lb0_0 : w.heap.size < V14.heap.size := World.block_lt_of_cell? V14 _ b0_0
  have ld0 : gd < V14.heap.size := World.block_lt_of_cell? V14 _ d0
  have le0 : ge < V14.heap.size := World.block_lt_of_cell? V14 _ e0
  have lf0 : gf < V14.heap.size := World.block_lt_of_cell? V14 _ f0
  clear hb
  go_wp2_with (fail)
  have M := heldDesk_zero p ch h s 0 0 seed B1 B2 B3 n l1 n l2 l3 1 V14 (OB1.out.sl rfl).1 (OB2.out.sl rfl).1 hn2 hn2 (by omega)
  rw [HK.out] at M
  refine (M).mono ?_
  rintro e V15 ⟨rfl, hb⟩
  clear lb0_0 ld0 le0 lf0
  replace b0_0 : V15.cell? ⟨w.heap.size, 0, none⟩ = some (.int .i64 p0) := keep_cell b0_0 hb
  replace b0_1 : V15.cell? ⟨w.heap.size, 1, none⟩ = some (.int .i64 c0) := keep_cell b0_1 hb
  replace b0_2 : V15.cell? ⟨w.heap.size, 2, none⟩ = some (.int .i64 h0) := keep_cell b0_2 hb
  replace b0_3 : V15.cell? ⟨w.heap.size, 3, none⟩ = some (.int .i64 s0) := keep_cell b0_3 hb
  replace d0 : V15.cell? ⟨gd, 0, none⟩ = some (.int .i64 p) := keep_cell d0 hb
  replace d1 : V15.cell? ⟨gd, 1, none⟩ = some (.int .i64 ch) := keep_cell d1 hb
  replace d2 : V15.cell? ⟨gd, 2, none⟩ = some (.int .i64 h) := keep_cell d2 hb
  replace d3 : V15.cell? ⟨gd, 3, none⟩ = some (.int .i64 s) := keep_cell d3 hb
  replace d4 : V15.cell? ⟨gd, 4, none⟩ = some (.slice A1 n k1) := keep_cell d4 hb
  replace d5 : V15.cell? ⟨gd, 5, none⟩ = some (.slice A2 n k2) := keep_cell d5 hb
  replace d6 : V15.cell? ⟨gd, 6, none⟩ = some (.int .i64 0) := keep_cell d6 hb
  replace d7 : V15.cell? ⟨gd, 7, none⟩ = some (.int .i64 0) := keep_cell d7 hb
  replace d8 : V15.cell? ⟨gd, 8, none⟩ = some (.int .i64 seed) := keep_cell d8 hb
  replace d9 : V15.cell? ⟨gd, 9, none⟩ = some (.slice A3 0 k3) := keep_cell d9 hb
  replace e0 : V15.cell? ⟨ge, 0, none⟩ = some (.int .i64 p) := keep_cell e0 hb
  replace e1 : V15.cell? ⟨ge, 1, none⟩ = some (.int .i64 ch) := keep_cell e1 hb
  replace e2 : V15.cell? ⟨ge, 2, none⟩ = some (.int .i64 h) := keep_cell e2 hb
  replace e3 : V15.cell? ⟨ge, 3, none⟩ = some (.int .i64 s) := keep_cell e3 hb
  replace e4 : V15.cell? ⟨ge, 4, none⟩ = some (.slice B1 n l1) := keep_cell e4 hb
  replace e5 : V15.cell? ⟨ge, 5, none⟩ = some (.slice B2 n l2) := keep_cell e5 hb
  replace e6 : V15.cell? ⟨ge, 6, none⟩ = some (.int .i64 0) := keep_cell e6 hb
  replace e7 : V15.cell? ⟨ge, 7, none⟩ = some (.int .i64 0) := keep_cell e7 hb
  replace e8 : V15.cell? ⟨ge, 8, none⟩ = some (.int .i64 seed) := keep_cell e8 hb
  replace e9 : V15.cell? ⟨ge, 9, none⟩ = some (.slice B3 0 l3) := keep_cell e9 hb
  replace f0 : V15.cell? ⟨gf, 0, none⟩ = some (.int .i64 p) := keep_cell f0 hb
  replace f1 : V15.cell? ⟨gf, 1, none⟩ = some (.int .i64 ch) := keep_cell f1 hb
  replace f2 : V15.cell? ⟨gf, 2, none⟩ = some (.int .i64 h) := keep_cell f2 hb
  replace f3 : V15.cell? ⟨gf, 3, none⟩ = some (.int .i64 s) := keep_cell f3 hb
  replace f4 : V15.cell? ⟨gf, 4, none⟩ = some (.slice E1 n m1) := keep_cell f4 hb
  replace f5 : V15.cell? ⟨gf, 5, none⟩ = some (.slice E2 n m2) := keep_cell f5 hb
  replace f6 : V15.cell? ⟨gf, 6, none⟩ = some (.int .i64 0) := keep_cell f6 hb
  replace f7 : V15.cell? ⟨gf, 7, none⟩ = some (.int .i64 0) := keep_cell f7 hb
  replace f8 : V15.cell? ⟨gf, 8, none⟩ = some (.int .i64 seed) := keep_cell f8 hb
  replace f9 : V15.cell? ⟨gf, 9, none⟩ = some (.slice E3 0 m3) := keep_cell f9 hb
  replace OA1 : Hid (OwnS V15 w.heap.size 2 (.slice A1 n k1) L) := OA1.out.below hb
  replace OA2 : Hid (OwnS V15 w.heap.size 2 (.slice A2 n k2) L) := OA2.out.below hb
  replace OB1 : Hid (OwnS V15 w.heap.size 2 (.slice B1 n l1) (seqL 1 n)) := OB1.out.below hb
  replace OB2 : Hid (OwnS V15 w.heap.size 2 (.slice B2 n l2) (seqL (1 + n) n)) := OB2.out.below hb
  replace OE1 : Hid (OwnS V15 w.heap.size 2 (.slice E1 n m1) L) := OE1.out.below hb
  replace OE2 : Hid (OwnS V15 w.heap.size 2 (.slice E2 n m2) L) := OE2.out.below hb
  replace HB : Hid (Below w.heap.size w V15) := HB.out.trans (hb.mono HB.out.size)
  have lb0_0 : w.heap.size < V15.heap.size := World.block_lt_of_cell? V15 _ b0_0
  have ld0 : gd < V15.heap.size := World.block_lt_of_cell? V15 _ d0
  have le0 : ge < V15.heap.size := World.block_lt_of_cell? V15 _ e0
  have lf0 : gf < V15.heap.size := World.block_lt_of_cell? V15 _ f0
  clear hb
  clear M
  go_wp2_with (fail)
  go_ret
  exact ⟨rfl, HB.out⟩
end Go.Proofs.Ytlbkfhdnhalpbaa

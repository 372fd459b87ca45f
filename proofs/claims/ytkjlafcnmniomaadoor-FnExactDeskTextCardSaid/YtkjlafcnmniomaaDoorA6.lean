/- A slice of boards that reads as a list; how the laws measure and copy what comes in. There are no conditions. -/
import Derived.Test.YtkjlafcnmniomaaDoorBase2
namespace Go.Proofs.YtkjlafcnmniomaaDoor
set_option linter.unusedVariables false
set_option linter.unusedSimpArgs false
open Go.RowKit

/-- The slice value '.slice A n c' of boards reads as bs in w. -/
def SBs (w : World) (A : Option Addr) (n : Nat) (bs : List (List Int × List Int)) : Prop :=
  bs.length = n ∧ (0 < n → ∃ b off, A = some ⟨b, off, none⟩ ∧ b < w.heap.size ∧ ∀ i, i < n → ∃ A1 n1 c1 A2 n2 c2, w.cell? ⟨b, off + i * 2, none⟩ = some (.slice A1 n1 c1) ∧ w.cell? ⟨b, off + i * 2 + 1, none⟩ = some (.slice A2 n2 c2) ∧
    SL w A1 n1 (bs.getD i ([], [])).1 ∧ SL w A2 n2 (bs.getD i ([], [])).2 ∧ n1 ≤ maxLen ∧ n2 ≤ maxLen)

theorem SBs.below {w w' : World} {A : Option Addr} {n : Nat} {bs : List (List Int × List Int)} (h : SBs w A n bs) (hb : Below w.heap.size w w') : SBs w' A n bs := by
  refine ⟨h.1, fun hn => ?_⟩
  obtain ⟨b, off, hA, hlt, hc⟩ := h.2 hn
  refine ⟨b, off, hA, Nat.lt_of_lt_of_le hlt hb.size, fun i hi => ?_⟩
  obtain ⟨A1, n1, c1, A2, n2, c2, h1, h2, h3, h4, h5, h6⟩ := hc i hi
  exact ⟨A1, n1, c1, A2, n2, c2, keep_cell h1 hb, keep_cell h2 hb, h3.below hb, h4.below hb, h5, h6⟩
theorem SBs.more {w : World} {A : Option Addr} {n : Nat} {bs : List (List Int × List Int)} (h : SBs w A n bs) (t : World) : SBs (more w t) A n bs := h.below (below_more w t)
theorem SBs.alloc {w : World} {A : Option Addr} {n : Nat} {bs : List (List Int × List Int)} (h : SBs w A n bs) (o : Obj) : SBs (w.alloc o) A n bs := h.below ((Below.refl _ _).alloc (Nat.le_refl _) o)
theorem SBs.nil_ (w : World) (A : Option Addr) : SBs w A 0 [] := ⟨rfl, fun h => absurd h (by omega)⟩

/-! ### measuring -/
/-- What is left behind a measure of tot: a number below 0 if it was too little. -/
def RetZ (w : World) (left : Int) (tot : Nat) (en : Ending) (w' : World) : Prop := ∃ r : Int, en = .returned (.int .i64 r) ∧ -1 ≤ r ∧ r ≤ left ∧ (0 ≤ r → (tot : Int) ≤ left - r) ∧ Below w.heap.size w w'

theorem szInt64S_any (A : Option Addr) (n c : Nat) (left : Int) (w : World) (hn : n ≤ 9223372036854775807) (hl : 0 ≤ left) (hl2 : left ≤ 1048576) :
    Calls Tryd.prog 31 #[.slice A n c, .int .i64 left] w (RetZ w left n) := by
  by_cases h : left - n < 0
  · have HF : Hid (RetZ w left n (.returned (.int .i64 (-1))) w) := ⟨-1, rfl, by omega, by omega, by omega, Below.refl _ _⟩
    go_enter Tryd.func31, Tryd.ntmps31
    go_wp2
    go_ret
    exact HF.out
  · have HF : Hid (RetZ w left n (.returned (.int .i64 (left - n))) w) := ⟨left - n, rfl, by omega, by omega, by omega, Below.refl _ _⟩
    go_enter Tryd.func31, Tryd.ntmps31
    go_wp2
    go_ret
    exact HF.out

theorem szBoard_any (A1 A2 : Option Addr) (n1 c1 n2 c2 : Nat) (left : Int) (w : World) (hn1 : n1 ≤ 9223372036854775807) (hn2 : n2 ≤ 9223372036854775807) (hl : 0 ≤ left) (hl2 : left ≤ 1048576) :
    Calls Tryd.prog 9 #[.agg #[.slice A1 n1 c1, .slice A2 n2 c2], .int .i64 left] w (RetZ w left (n1 + n2)) := by
  have hb : Below w.heap.size w (w.alloc (.cells #[.slice A1 n1 c1, .slice A2 n2 c2] 26)) := (Below.refl _ _).alloc (Nat.le_refl _) _
  have HB := Lib.hid hb
  clear hb
  go_enter Tryd.func9, Tryd.ntmps9
  go_wp2_with (fail)
  refine (szInt64S_any A1 n1 c1 left _ hn1 hl hl2).mono ?_
  rintro e w1 ⟨r, rfl, hr1, hr2, hr3, hb1⟩
  have d1 : w1.cell? ⟨w.heap.size, 1, none⟩ = some (.slice A2 n2 c2) := keep_cell (by simp [go_sem]) hb1
  have HB1 := Lib.hid (HB.out.trans (hb1.mono HB.out.size))
  have H3 := Lib.hid hr3
  clear hb1 hr3
  by_cases h0 : r < 0
  · have HF : Hid (∀ W, Below w.heap.size w W → RetZ w left (n1 + n2) (.returned (.int .i64 (-1))) W) := fun W hW => ⟨-1, rfl, by omega, by omega, by omega, hW⟩
    go_wp2_with (fail)
    go_ret
    exact HF.out _ HB1.out
  · go_wp2_with (fail)
    refine (szInt64S_any A2 n2 c2 r _ hn2 (by omega) (by omega)).mono ?_
    rintro e w2 ⟨r2, rfl, hq1, hq2, hq3, hb2⟩
    have HB2 := Lib.hid (HB1.out.trans (hb2.mono HB1.out.size))
    have HF : Hid (RetZ w left (n1 + n2) (.returned (.int .i64 r2)) w2) := ⟨r2, rfl, hq1, by omega, fun h => by have := hq3 h; have := H3.out (by omega); omega, HB2.out⟩
    have HF' : Hid (RetZ w left (n1 + n2) (.returned (.int .i64 (-1))) w2) := ⟨-1, rfl, by omega, by omega, by omega, HB2.out⟩
    clear hb2 hq3
    by_cases h2 : r2 < 0
    · go_wp2_with (fail)
      go_ret
      exact HF'.out
    · go_wp2_with (fail)
      go_ret
      exact HF.out

/-- How many numbers the boards hold. -/
def totB (bs : List (List Int × List Int)) : Nat := (bs.map fun b => b.1.length + b.2.length).sum
theorem totB_step (bs : List (List Int × List Int)) (k : Nat) (h : k < bs.length) : totB (bs.take (k + 1)) = totB (bs.take k) + ((bs.getD k ([], [])).1.length + (bs.getD k ([], [])).2.length) := by
  unfold totB
  rw [List.take_succ_eq_append_getElem h, List.map_append, List.sum_append]
  simp [List.getD, h]

theorem totB_mem (bs : List (List Int × List Int)) : ∀ b ∈ bs, b.1.length + b.2.length ≤ totB bs := by
  unfold totB
  induction bs with
  | nil => intro b hb; cases hb
  | cons x r ih =>
    intro b hb
    simp only [List.map_cons, List.sum_cons]
    rcases List.mem_cons.1 hb with rfl | hb
    · omega
    · have := ih b hb; omega
theorem szBoardS_any (A : Option Addr) (n c : Nat) (bs : List (List Int × List Int)) (left : Int) (w : World) (hx : SBs w A n bs) (hn : n ≤ 9223372036854775807) (hl : 0 ≤ left) (hl2 : left ≤ 1048576) :
    Calls Tryd.prog 10 #[.slice A n c, .int .i64 left] w (RetZ w left (n + totB bs)) := by
  by_cases h : left - n < 0
  · have HF : Hid (RetZ w left (n + totB bs) (.returned (.int .i64 (-1))) w) := ⟨-1, rfl, by omega, by omega, by omega, Below.refl _ _⟩
    clear hx
    go_enter Tryd.func10, Tryd.ntmps10
    go_wp2_with (fail)
    go_ret
    exact HF.out
  · have hn2 : n ≤ 1048576 := by omega
    have HX := Lib.hid hx
    clear hx
    go_enter Tryd.func10, Tryd.ntmps10
    go_wp2_with (fail)
    go_loopw [1, 5] (fun l i wr => ∃ (k : Nat) (r : Int), k ≤ n ∧ i = .int .i64 k ∧ l = .int .i64 r ∧ 0 ≤ r ∧ r ≤ left ∧ Hid ((n : Int) + totB (bs.take k) ≤ left - r) ∧ Below w.heap.size w wr) (fun _ i _ => n - (intOf i).toNat)
    case atStart => exact ⟨0, left - n, by omega, rfl, rfl, by omega, by omega, by unfold Hid; simp [totB]; omega, Below.refl _ _⟩
    case round =>
      obtain ⟨k, r, hk, rfl, rfl, hr0, hr1, hsum, hb⟩ := hrel
      by_cases hlt : k < n
      · obtain ⟨b, off, rfl, hbl, hc⟩ := (HX.out.below hb).2 (by omega)
        obtain ⟨A1, n1, c1, A2, n2, c2, q1, q2, s1, s2, m1, m2⟩ := hc k hlt
        have HT := Lib.hid (totB_step bs k (by rw [HX.out.1]; exact hlt))
        have E1 := Lib.hid s1.1
        have E2 := Lib.hid s2.1
        have hki : (k : Int) < (n : Int) := by omega
        have hk0 : (0 : Int) ≤ (k : Int) := by omega
        have HBr := Lib.hid hb
        unfold maxLen at m1 m2
        clear hc s1 s2 hb
        go_wp2_with (fail)
        refine (szBoard_any A1 A2 n1 c1 n2 c2 r _ m1 m2 hr0 (by omega)).mono ?_
        rintro e w2 ⟨r2, rfl, hq1, hq2, hq3, hb2⟩
        have HB2 := Lib.hid (HBr.out.trans (hb2.mono HBr.out.size))
        have HF' : Hid (RetZ w left (n + totB bs) (.returned (.int .i64 (-1))) w2) := ⟨-1, rfl, by omega, by omega, by omega, HB2.out⟩
        have H3 := Lib.hid hq3
        clear hb2 hq3
        by_cases h2 : r2 < 0
        · go_wp2_with (fail)
          go_ret
          exact HF'.out
        · have HS : Hid ((n : Int) + totB (bs.take (k + 1)) ≤ left - r2) := by
            have := H3.out (by omega)
            have := hsum.out
            have := E1.out
            have := E2.out
            unfold Hid
            rw [HT.out]
            omega
          go_wp2_with (fail)
          go_roundw
          case rel => exact ⟨k + 1, r2, by omega, by go_num, rfl, by omega, by omega, HS, HB2.out⟩
          case measure => simp [intOf]; omega
      · obtain rfl : k = n := by omega
        have HF : Hid (RetZ w left (k + totB bs) (.returned (.int .i64 r)) wr) := by
          have h := hsum.out
          rw [List.take_of_length_le (by rw [HX.out.1]; exact Nat.le_refl _)] at h
          exact ⟨r, rfl, by omega, by omega, fun _ => by omega, hb⟩
        clear hsum hb
        go_wp2_with (fail)
        go_ret
        exact HF.out
end Go.Proofs.YtkjlafcnmniomaaDoor

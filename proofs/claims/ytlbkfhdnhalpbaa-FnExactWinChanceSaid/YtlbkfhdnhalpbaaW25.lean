/- Joined texts of one proof: L1, A6, A7, N49, Open. Each part tells what it shows. There are no conditions. -/
import Derived.Test.YtlbkfhdnhalpbaaW2
import Derived.Test.YtlbkfhdnhalpbaaW24
import Derived.ProofKit
import Derived.OpenShut
import Derived.Lib.SmallJoins
import Derived.Deep.Slices
import Derived.Deep.Fields
import Derived.ChangeSame
import Derived.ChangeSlices
import Derived.Below

/- Contracts of what the laws do with results: they are held against each other, marked, and looked at again. There are no conditions. -/
namespace Go.Proofs.Ytlbkfhdnhalpbaa
set_option linter.unusedVariables false
set_option linter.unusedSimpArgs false
open Go.RowKit


theorem eqVariant_yes (p c h s : Int) (w : World) :
    Calls Try.prog 28 #[.agg #[.int .i64 p, .int .i64 c, .int .i64 h, .int .i64 s], .agg #[.int .i64 p, .int .i64 c, .int .i64 h, .int .i64 s]] w fun e w' => e = .returned (.bool true) ∧ Below w.heap.size w w' := by
  go_enter Try.func28, Try.ntmps28
  go_wp2
  go_ret
  exact ⟨rfl, ((Below.refl _ _).alloc (Nat.le_refl _) _).alloc (by simp) _⟩
theorem eqRoll_yes (a b : Int) (w : World) :
    Calls Try.prog 30 #[.agg #[.int .i64 a, .int .i64 b], .agg #[.int .i64 a, .int .i64 b]] w fun e w' => e = .returned (.bool true) ∧ Below w.heap.size w w' := by
  go_enter Try.func30, Try.ntmps30
  go_wp2
  go_ret
  exact ⟨rfl, ((Below.refl _ _).alloc (Nat.le_refl _) _).alloc (by simp) _⟩

theorem eqInt64S_yes (A1 A2 : Option Addr) (n c1 c2 : Nat) (xs : List Int) (w : World) (h1 : SL w A1 n xs) (h2 : SL w A2 n xs) (hn : n ≤ 2000000) :
    Calls Try.prog 20 #[.slice A1 n c1, .slice A2 n c2] w fun e w' => e = .returned (.bool true) ∧ Below w.heap.size w w' := by
  have H1 := Lib.hid h1
  have H2 := Lib.hid h2
  clear h1 h2
  have hne : ((n : Int) != (n : Int)) = false := by simp
  go_enter Try.func20, Try.ntmps20
  go_wp2_with (fail)
  go_loopw [5] (fun i wr => ∃ k : Nat, k ≤ n ∧ i = .int .i64 k ∧ Below w.heap.size w wr) (fun i _ => n - (intOf i).toNat)
  case atStart => exact ⟨0, by omega, rfl, Below.refl _ _⟩
  case round =>
    obtain ⟨k, hk, rfl, hb⟩ := hrel
    by_cases hlt : k < n
    · obtain ⟨x1, o1, rfl, hb1, hc1⟩ := (H1.out.keep (Nat.le_refl _) hb).2 (by omega)
      obtain ⟨x2, o2, rfl, hb2, hc2⟩ := (H2.out.keep (Nat.le_refl _) hb).2 (by omega)
      have q1 := hc1 k hlt
      have q2 := hc2 k hlt
      have hki : (k : Int) < (n : Int) := by omega
      have hk0 : (0 : Int) ≤ (k : Int) := by omega
      clear hc1 hc2
      generalize xs.getD k 0 = u at *
      go_wp2_with (fail)
      refine wp_region_more (by kernel_rfl) (by kernel_rfl) ?_
      repeat (first | go_big_quiet_step ((fail)) | quiet_step ((fail)))
      refine wpQuiet_nil ?_
      intro _ hw'
      obtain ⟨tq, hw''⟩ := hw'
      subst hw''
      have hbm := below_more wr tq
      go_wp2
      go_roundw
      case rel => exact ⟨k + 1, by omega, by go_num, hb.trans (hbm.mono hb.size)⟩
      case measure => simp [intOf]; omega
    · go_wp2
      go_ret
      exact ⟨rfl, hb⟩

set_option maxRecDepth 100000 in
theorem eqBoard_yes (A1 A2 B1 B2 : Option Addr) (n1 c1 n2 c2 d1 d2 : Nat) (xs ys : List Int) (w : World) (h1 : SL w A1 n1 xs) (h2 : SL w A2 n2 ys) (k1 : SL w B1 n1 xs) (k2 : SL w B2 n2 ys) (hn1 : n1 ≤ 2000000) (hn2 : n2 ≤ 2000000) :
    Calls Try.prog 29 #[.agg #[.slice A1 n1 c1, .slice A2 n2 c2], .agg #[.slice B1 n1 d1, .slice B2 n2 d2]] w fun e w' => e = .returned (.bool true) ∧ Below w.heap.size w w' := by
  have HB : Hid (Below w.heap.size w ((w.alloc (.cells #[.slice A1 n1 c1, .slice A2 n2 c2] 27)).alloc (.cells #[.slice B1 n1 d1, .slice B2 n2 d2] 27))) := ((Below.refl _ _).alloc (Nat.le_refl _) _).alloc (by simp) _
  have C1 := Lib.hid (eqInt64S_yes A1 B1 n1 c1 d1 xs _ (h1.below HB.out) (k1.below HB.out) hn1)
  have C2 := Lib.hid fun t => eqInt64S_yes A2 B2 n2 c2 d2 ys (more _ t) ((h2.below HB.out).more t) ((k2.below HB.out).more t) hn2
  clear h1 h2 k1 k2
  go_enter Try.func29, Try.ntmps29
  go_wp2_with (first | (go_at_call_of 20 A1; refine (more_first C1.out).mono ?_; rintro e w' ⟨rfl, t, rfl⟩) | (go_at_call_of 20 A2; refine (more_call (C2.out _)).mono ?_; rintro e w' ⟨rfl, t, rfl⟩))
  go_ret
  exact ⟨rfl, HB.out.trans ((below_more _ _).mono HB.out.size)⟩

/-- The numbers k, k + 1, .. -/
def seqL (k n : Nat) : List Int := (List.range n).map fun i => ((k + i : Nat) : Int)
theorem seqL_length (k n : Nat) : (seqL k n).length = n := by simp [seqL]
theorem seqL_getD (k n i : Nat) (h : i < n) : (seqL k n).getD i 0 = ((k + i : Nat) : Int) := by simp [seqL, List.getD, h]

theorem mixL_step (k : Nat) (xs : List Int) (i : Nat) (h : i < xs.length) : (seqL k i ++ xs.drop i).set i ((k + i : Nat) : Int) = seqL k (i + 1) ++ xs.drop (i + 1) := by
  rw [List.set_append_right _ _ (by rw [seqL_length]; omega), seqL_length, Nat.sub_self, List.drop_eq_getElem_cons h, List.set_cons_zero]
  simp [seqL, List.range_succ]

theorem grown_trans' {a b c : World} {r : Option Nat} (h : a.grownBy b r) (k : b.grownBy c r) : a.grownBy c r :=
  ⟨k.os.trans h.os, k.tape.trans h.tape, k.output.trans h.output, Nat.le_trans h.size k.size, fun i hi hne => (k.block i (Nat.lt_of_lt_of_le hi h.size) hne).trans (h.block i hi hne)⟩

theorem markInt64S_any (A : Option Addr) (n c base : Nat) (e : TypeId) (xs : List Int) (k : Nat) (w : World) (hown : OwnS w base e (.slice A n c) xs) (hn : n ≤ 2000000) (hk : k ≤ 100000000) :
    Calls Try.prog 58 #[.slice A n c, .int .i64 k] w fun en w' => en = .returned (.int .i64 ((k + n : Nat) : Int)) ∧ OwnS w' base e (.slice A n c) (seqL k n) ∧ w.grownBy w' (Value.slice A n c).ownBlock := by
  have hl := (hown.sl rfl).1.1
  have HL := Lib.hid hl
  have HO := Lib.hid hown
  clear hl hown
  go_enter Try.func58, Try.ntmps58
  go_wp2_with (fail)
  go_loopw [1, 5] (fun q i wr => ∃ j : Nat, j ≤ n ∧ i = .int .i64 j ∧ q = .int .i64 ((k + j : Nat) : Int) ∧ OwnS wr base e (.slice A n c) (seqL k j ++ xs.drop j) ∧ w.grownBy wr (Value.slice A n c).ownBlock) (fun _ i _ => n - (intOf i).toNat)
  case atStart => exact ⟨0, by omega, rfl, by simp, by simpa [seqL] using HO.out, World.grownBy.refl _ _⟩
  case round =>
    obtain ⟨j, hj, rfl, rfl, ho, hg⟩ := hrel
    by_cases hlt : j < n
    · obtain ⟨g, rfl, hg1, hg2, hcl, hfr⟩ := own_form ho (by omega)
      have q1 := hcl j hlt
      have q2 := hfr j
      have hki : (j : Int) < (n : Int) := by omega
      have hk0 : (0 : Int) ≤ (j : Int) := by omega
      have HN := Lib.hid (ho.stored j ((k + j : Nat) : Int))
      have HG : Hid (w.grownBy (wr.setCell ⟨g, j, none⟩ (.int .i64 ((k + j : Nat) : Int))) (some g)) := grown_trans' hg ⟨rfl, rfl, rfl, by simp, fun i _ hne => Below.heap_setCell _ _ _ _ (fun h => hne (by rw [h]))⟩
      have HM := Lib.hid (mixL_step k xs j (by rw [HL.out]; exact hlt))
      clear hcl hfr ho hg
      generalize (seqL k j ++ xs.drop j).getD j 0 = u at *
      have hs1 : ((k + j : Nat) : Int) + 1 = ((k + (j + 1) : Nat) : Int) := by omega
      have HS := Lib.hid hs1
      clear hs1
      have hb0 : 0 ≤ ((k + j : Nat) : Int) := by omega
      have hb1 : ((k + j : Nat) : Int) ≤ 200000000 := by omega
      generalize hkj : ((k + j : Nat) : Int) = K at *
      go_wp2
      go_roundw
      case rel => exact ⟨j + 1, by omega, by go_num, by rw [HS.out], by rw [← HM.out]; exact HN.out, HG.out⟩
      case measure => simp [intOf]; omega
    · obtain rfl : j = n := by omega
      have HF : Hid (OwnS wr base e (.slice A j c) (seqL k j)) := by
        have := ho
        rw [List.drop_eq_nil_of_le (by rw [HL.out]; exact Nat.le_refl _), List.append_nil] at this
        exact this
      have HG := Lib.hid hg
      clear ho hg
      generalize hkj : ((k + j : Nat) : Int) = K at *
      have HK := Lib.hid hkj
      clear hkj
      go_wp2
      go_ret
      exact ⟨ret_int (by have := HK.out; omega), HF.out, HG.out⟩

theorem heldInt64S_yes (A : Option Addr) (n c k : Nat) (w : World) (hx : SL w A n (seqL k n)) (hn : n ≤ 2000000) (hk : k ≤ 100000000) :
    Calls Try.prog 59 #[.slice A n c, .int .i64 k] w fun e w' => e = .returned (.int .i64 ((k + n : Nat) : Int)) ∧ w = w' := by
  have HX := Lib.hid hx
  clear hx
  go_enter Try.func59, Try.ntmps59
  go_wp2_with (fail)
  go_loop [1, 5] (fun q i => ∃ j : Nat, j ≤ n ∧ i = .int .i64 j ∧ q = .int .i64 ((k + j : Nat) : Int)) (fun _ i => n - (intOf i).toNat)
  case atStart => exact ⟨0, by omega, rfl, by simp⟩
  case round =>
    obtain ⟨j, hj, rfl, rfl⟩ := hrel
    by_cases hlt : j < n
    · obtain ⟨x1, o1, rfl, hb1, hc1⟩ := HX.out.2 (by omega)
      have q1 := hc1 j hlt
      rw [seqL_getD k n j hlt] at q1
      clear hc1
      have hs1 : ((k + j : Nat) : Int) + 1 = ((k + (j + 1) : Nat) : Int) := by omega
      have HS := Lib.hid hs1
      clear hs1
      have hb0 : 0 ≤ ((k + j : Nat) : Int) := by omega
      have hb1 : ((k + j : Nat) : Int) ≤ 200000000 := by omega
      generalize hkj : ((k + j : Nat) : Int) = K at *
      have hne : (K != K) = false := by simp
      go_wp2
      go_round
      case rel => exact ⟨j + 1, by omega, by go_num, by rw [HS.out]⟩
      case measure => simp [intOf]; omega
    · obtain rfl : j = n := by omega
      generalize hkj : ((k + j : Nat) : Int) = K at *
      have HK := Lib.hid hkj
      clear hkj
      go_wp2
      go_ret
      exact ⟨ret_int (by have := HK.out; omega), rfl⟩
end Go.Proofs.Ytlbkfhdnhalpbaa

/- A slice of boards that reads as a list; how the laws measure and copy what comes in. There are no conditions. -/
namespace Go.Proofs.Ytlbkfhdnhalpbaa
set_option linter.unusedVariables false
set_option linter.unusedSimpArgs false
open Go.RowKit

/-- The slice value '.slice A n c' of boards reads as bs in w. -/
def SBs (w : World) (A : Option Addr) (n : Nat) (bs : List (List Int × List Int)) : Prop :=
  bs.length = n ∧ (0 < n → ∃ b off, A = some ⟨b, off, none⟩ ∧ b < w.heap.size ∧ ∀ i, i < n → ∃ A1 n1 c1 A2 n2 c2, w.cell? ⟨b, off + i * 2, none⟩ = some (.slice A1 n1 c1) ∧ w.cell? ⟨b, off + i * 2 + 1, none⟩ = some (.slice A2 n2 c2) ∧
    SL w A1 n1 (bs.getD i ([], [])).1 ∧ SL w A2 n2 (bs.getD i ([], [])).2 ∧ n1 ≤ maxLen ∧ n2 ≤ maxLen)

theorem SBs.below {w w' : World} {A : Option Addr} {n : Nat} {bs : List (List Int × List Int)} (h : SBs w A n bs) (hb : Below w.heap.size w w') : SBs w' A n bs := by
  refine ⟨h.1, fun hn => ?_⟩
  obtain ⟨b, off, hA, hlt, hc⟩ := h.2 hn
  refine ⟨b, off, hA, Nat.lt_of_lt_of_le hlt hb.size, fun i hi => ?_⟩
  obtain ⟨A1, n1, c1, A2, n2, c2, h1, h2, h3, h4, h5, h6⟩ := hc i hi
  exact ⟨A1, n1, c1, A2, n2, c2, keep_cell h1 hb, keep_cell h2 hb, h3.below hb, h4.below hb, h5, h6⟩
theorem SBs.more {w : World} {A : Option Addr} {n : Nat} {bs : List (List Int × List Int)} (h : SBs w A n bs) (t : World) : SBs (more w t) A n bs := h.below (below_more w t)
theorem SBs.alloc {w : World} {A : Option Addr} {n : Nat} {bs : List (List Int × List Int)} (h : SBs w A n bs) (o : Obj) : SBs (w.alloc o) A n bs := h.below ((Below.refl _ _).alloc (Nat.le_refl _) o)
theorem SBs.nil_ (w : World) (A : Option Addr) : SBs w A 0 [] := ⟨rfl, fun h => absurd h (by omega)⟩

/-! ### measuring -/
/-- What is left behind a measure of tot: a number below 0 if it was too little. -/
def RetZ (w : World) (left : Int) (tot : Nat) (en : Ending) (w' : World) : Prop := ∃ r : Int, en = .returned (.int .i64 r) ∧ -1 ≤ r ∧ r ≤ left ∧ (0 ≤ r → (tot : Int) ≤ left - r) ∧ Below w.heap.size w w'

theorem szInt64S_any (A : Option Addr) (n c : Nat) (left : Int) (w : World) (hn : n ≤ 9223372036854775807) (hl : 0 ≤ left) (hl2 : left ≤ 1048576) :
    Calls Try.prog 60 #[.slice A n c, .int .i64 left] w (RetZ w left n) := by
  by_cases h : left - n < 0
  · have HF : Hid (RetZ w left n (.returned (.int .i64 (-1))) w) := ⟨-1, rfl, by omega, by omega, by omega, Below.refl _ _⟩
    go_enter Try.func60, Try.ntmps60
    go_wp2
    go_ret
    exact HF.out
  · have HF : Hid (RetZ w left n (.returned (.int .i64 (left - n))) w) := ⟨left - n, rfl, by omega, by omega, by omega, Below.refl _ _⟩
    go_enter Try.func60, Try.ntmps60
    go_wp2
    go_ret
    exact HF.out

theorem szBoard_any (A1 A2 : Option Addr) (n1 c1 n2 c2 : Nat) (left : Int) (w : World) (hn1 : n1 ≤ 9223372036854775807) (hn2 : n2 ≤ 9223372036854775807) (hl : 0 ≤ left) (hl2 : left ≤ 1048576) :
    Calls Try.prog 36 #[.agg #[.slice A1 n1 c1, .slice A2 n2 c2], .int .i64 left] w (RetZ w left (n1 + n2)) := by
  have hb : Below w.heap.size w (w.alloc (.cells #[.slice A1 n1 c1, .slice A2 n2 c2] 39)) := (Below.refl _ _).alloc (Nat.le_refl _) _
  have HB := Lib.hid hb
  clear hb
  go_enter Try.func36, Try.ntmps36
  go_wp2_with (fail)
  refine (szInt64S_any A1 n1 c1 left _ hn1 hl hl2).mono ?_
  rintro e w1 ⟨r, rfl, hr1, hr2, hr3, hb1⟩
  have d1 : w1.cell? ⟨w.heap.size, 1, none⟩ = some (.slice A2 n2 c2) := keep_cell (by simp [go_sem]) hb1
  have HB1 := Lib.hid (HB.out.trans (hb1.mono HB.out.size))
  have H3 := Lib.hid hr3
  clear hb1 hr3
  by_cases h0 : r < 0
  · have HF : Hid (∀ W, Below w.heap.size w W → RetZ w left (n1 + n2) (.returned (.int .i64 (-1))) W) := fun W hW => ⟨-1, rfl, by omega, by omega, by omega, hW⟩
    go_wp2_with (fail)
    go_ret
    exact HF.out _ HB1.out
  · go_wp2_with (fail)
    refine (szInt64S_any A2 n2 c2 r _ hn2 (by omega) (by omega)).mono ?_
    rintro e w2 ⟨r2, rfl, hq1, hq2, hq3, hb2⟩
    have HB2 := Lib.hid (HB1.out.trans (hb2.mono HB1.out.size))
    have HF : Hid (RetZ w left (n1 + n2) (.returned (.int .i64 r2)) w2) := ⟨r2, rfl, hq1, by omega, fun h => by have := hq3 h; have := H3.out (by omega); omega, HB2.out⟩
    have HF' : Hid (RetZ w left (n1 + n2) (.returned (.int .i64 (-1))) w2) := ⟨-1, rfl, by omega, by omega, by omega, HB2.out⟩
    clear hb2 hq3
    by_cases h2 : r2 < 0
    · go_wp2_with (fail)
      go_ret
      exact HF'.out
    · go_wp2_with (fail)
      go_ret
      exact HF.out

/-- How many numbers the boards hold. -/
def totB (bs : List (List Int × List Int)) : Nat := (bs.map fun b => b.1.length + b.2.length).sum
theorem totB_step (bs : List (List Int × List Int)) (k : Nat) (h : k < bs.length) : totB (bs.take (k + 1)) = totB (bs.take k) + ((bs.getD k ([], [])).1.length + (bs.getD k ([], [])).2.length) := by
  unfold totB
  rw [List.take_succ_eq_append_getElem h, List.map_append, List.sum_append]
  simp [List.getD, h]

theorem totB_mem (bs : List (List Int × List Int)) : ∀ b ∈ bs, b.1.length + b.2.length ≤ totB bs := by
  unfold totB
  induction bs with
  | nil => intro b hb; cases hb
  | cons x r ih =>
    intro b hb
    simp only [List.map_cons, List.sum_cons]
    rcases List.mem_cons.1 hb with rfl | hb
    · omega
    · have := ih b hb; omega
theorem szBoardS_any (A : Option Addr) (n c : Nat) (bs : List (List Int × List Int)) (left : Int) (w : World) (hx : SBs w A n bs) (hn : n ≤ 9223372036854775807) (hl : 0 ≤ left) (hl2 : left ≤ 1048576) :
    Calls Try.prog 37 #[.slice A n c, .int .i64 left] w (RetZ w left (n + totB bs)) := by
  by_cases h : left - n < 0
  · have HF : Hid (RetZ w left (n + totB bs) (.returned (.int .i64 (-1))) w) := ⟨-1, rfl, by omega, by omega, by omega, Below.refl _ _⟩
    clear hx
    go_enter Try.func37, Try.ntmps37
    go_wp2_with (fail)
    go_ret
    exact HF.out
  · have hn2 : n ≤ 1048576 := by omega
    have HX := Lib.hid hx
    clear hx
    go_enter Try.func37, Try.ntmps37
    go_wp2_with (fail)
    go_loopw [1, 5] (fun l i wr => ∃ (k : Nat) (r : Int), k ≤ n ∧ i = .int .i64 k ∧ l = .int .i64 r ∧ 0 ≤ r ∧ r ≤ left ∧ Hid ((n : Int) + totB (bs.take k) ≤ left - r) ∧ Below w.heap.size w wr) (fun _ i _ => n - (intOf i).toNat)
    case atStart => exact ⟨0, left - n, by omega, rfl, rfl, by omega, by omega, by unfold Hid; simp [totB]; omega, Below.refl _ _⟩
    case round =>
      obtain ⟨k, r, hk, rfl, rfl, hr0, hr1, hsum, hb⟩ := hrel
      by_cases hlt : k < n
      · obtain ⟨b, off, rfl, hbl, hc⟩ := (HX.out.below hb).2 (by omega)
        obtain ⟨A1, n1, c1, A2, n2, c2, q1, q2, s1, s2, m1, m2⟩ := hc k hlt
        have HT := Lib.hid (totB_step bs k (by rw [HX.out.1]; exact hlt))
        have E1 := Lib.hid s1.1
        have E2 := Lib.hid s2.1
        have hki : (k : Int) < (n : Int) := by omega
        have hk0 : (0 : Int) ≤ (k : Int) := by omega
        have HBr := Lib.hid hb
        unfold maxLen at m1 m2
        clear hc s1 s2 hb
        go_wp2_with (fail)
        refine (szBoard_any A1 A2 n1 c1 n2 c2 r _ m1 m2 hr0 (by omega)).mono ?_
        rintro e w2 ⟨r2, rfl, hq1, hq2, hq3, hb2⟩
        have HB2 := Lib.hid (HBr.out.trans (hb2.mono HBr.out.size))
        have HF' : Hid (RetZ w left (n + totB bs) (.returned (.int .i64 (-1))) w2) := ⟨-1, rfl, by omega, by omega, by omega, HB2.out⟩
        have H3 := Lib.hid hq3
        clear hb2 hq3
        by_cases h2 : r2 < 0
        · go_wp2_with (fail)
          go_ret
          exact HF'.out
        · have HS : Hid ((n : Int) + totB (bs.take (k + 1)) ≤ left - r2) := by
            have := H3.out (by omega)
            have := hsum.out
            have := E1.out
            have := E2.out
            unfold Hid
            rw [HT.out]
            omega
          go_wp2_with (fail)
          go_roundw
          case rel => exact ⟨k + 1, r2, by omega, by go_num, rfl, by omega, by omega, HS, HB2.out⟩
          case measure => simp [intOf]; omega
      · obtain rfl : k = n := by omega
        have HF : Hid (RetZ w left (k + totB bs) (.returned (.int .i64 r)) wr) := by
          have h := hsum.out
          rw [List.take_of_length_le (by rw [HX.out.1]; exact Nat.le_refl _)] at h
          exact ⟨r, rfl, by omega, by omega, fun _ => by omega, hb⟩
        clear hsum hb
        go_wp2_with (fail)
        go_ret
        exact HF.out
end Go.Proofs.Ytlbkfhdnhalpbaa

/- How the laws copy what comes in: numbers, boards, rolls. There are no conditions. -/
namespace Go.Proofs.Ytlbkfhdnhalpbaa
set_option linter.unusedVariables false
set_option linter.unusedSimpArgs false
open Go.RowKit

theorem mixZ_step (xs : List Int) (n k : Nat) (hl : xs.length = n) (h : k < n) : (xs.take k ++ List.replicate (n - k) (0 : Int)).set k (xs.getD k 0) = xs.take (k + 1) ++ List.replicate (n - (k + 1)) 0 := by
  have hk : (xs.take k).length = k := by rw [List.length_take]; omega
  have e : n - k = (n - (k + 1)) + 1 := by omega
  have h' : k < xs.length := by omega
  have g : xs.getD k 0 = xs[k] := by simp [List.getD, h']
  rw [List.set_append_right _ _ (by omega), hk, Nat.sub_self, e, List.replicate_succ, List.set_cons_zero, List.take_succ_eq_append_getElem h', List.append_assoc, g]
  rfl

theorem toInt64S_any (A : Option Addr) (n c : Nat) (xs : List Int) (w : World) (hx : SL w A n xs) (hn : n ≤ 2000000) :
    Calls Try.prog 17 #[.slice A n c] w (RetO w 2 xs) := by
  obtain ⟨i0, hi, hz0, hz1, hz2⟩ := info_parts Try.infoI
  have HX := Lib.hid hx
  clear hx
  go_enter Try.func17, Try.ntmps17
  go_wp2_with (at_make; refine wpList_make_full _ rfl _ _ 25 rfl w.heap.size 2 i0 (.int .i64 0) 1 Try.underlying25 hi hz0 hz1 _ _ _ _ n rfl rfl rfl rfl (by rw [hz2]; omega) (by unfold maxLen; omega) (Nat.le_refl _) ?_; intro w1 hown hgrow)
  have hb : Below w.heap.size w w1 := (Below.refl _ _).grown hgrow (Nat.le_refl _) (by simp)
  have hO : OwnS w1 w.heap.size 2 (.slice (some ⟨w.heap.size, 0, none⟩) n n) (xs.take 0 ++ List.replicate (n - 0) 0) := by
    unfold OwnS
    simp only [List.take_zero, List.nil_append, Nat.sub_zero, List.length_replicate, List.map_replicate]
    have e : (madeCells #[Value.int .i64 0] (n * 1)).toList = List.replicate n (Value.int .i64 0) := by rw [Nat.mul_one]; exact toList_madeCells_one _ _
    first | (rw [show (Value.int IntKind.i64 0).cells = #[Value.int .i64 0] from rfl, e] at hown; exact hown) | (rw [e] at hown; exact hown) | (rw [Nat.mul_one] at e; rw [e] at hown; exact hown)
  have HO := Lib.hid hO
  have HB := Lib.hid hb
  have hg2 : w.heap.size < w1.heap.size := (hO.lt _ rfl).2
  clear hown hgrow hb hO
  go_wp2_with (fail)
  go_loopw [4] (fun i wr => ∃ k : Nat, k ≤ n ∧ i = .int .i64 k ∧ OwnS wr w.heap.size 2 (.slice (some ⟨w.heap.size, 0, none⟩) n n) (xs.take k ++ List.replicate (n - k) 0) ∧ Below w.heap.size w wr) (fun i _ => n - (intOf i).toNat)
  case atStart => exact ⟨0, by omega, rfl, HO.out, HB.out⟩
  case round =>
    obtain ⟨k, hk, rfl, ho, hb⟩ := hrel
    by_cases hlt : k < n
    · obtain ⟨b, off, rfl, hbl, hc⟩ := (HX.out.keep (Nat.le_refl _) hb).2 (by omega)
      have q1 := hc k hlt
      obtain ⟨b', off', hA', hbl', _⟩ := HX.out.2 (by omega)
      injection hA' with hA'
      injection hA' with hA1 hA2
      subst hA1 hA2
      obtain ⟨g, hg0, _, _, hcl, hfr⟩ := own_form ho (by omega)
      injection hg0 with hg0
      injection hg0 with hg0 _
      subst hg0
      have q2 := hcl k hlt
      have q3 := hfr k
      have hki : (k : Int) < (n : Int) := by omega
      have hk0 : (0 : Int) ≤ (k : Int) := by omega
      have HN := Lib.hid (ho.stored k (xs.getD k 0))
      have HM := Lib.hid (mixZ_step xs n k HX.out.1 hlt)
      have HB2 := Lib.hid (hb.setCell (p := ⟨w.heap.size, k, none⟩) (Nat.le_refl _) (.int .i64 (xs.getD k 0)))
      have hne : b ≠ w.heap.size := by omega
      clear hc hcl hfr ho hb
      generalize (xs.take k ++ List.replicate (n - k) 0).getD k 0 = u at *
      generalize xs.getD k 0 = x at *
      go_wp2_with (fail)
      go_roundw
      case rel => exact ⟨k + 1, by omega, by go_num, by rw [← HM.out]; exact HN.out, HB2.out⟩
      case measure => simp [intOf]; omega
    · obtain rfl : k = n := by omega
      have HF : Hid (RetO w 2 xs (.returned (.slice (some ⟨w.heap.size, 0, none⟩) k k)) wr) := by
        have h := ho
        rw [List.take_of_length_le (by rw [HX.out.1]; exact Nat.le_refl _), Nat.sub_self, List.replicate_zero, List.append_nil] at h
        exact RetO.mk h hb
      clear ho hb
      go_wp2_with (fail)
      go_ret
      exact HF.out

/-- A call hands back a board of the call's own. -/
def RetBd (w : World) (own other : List Int) (en : Ending) (w' : World) : Prop := ∃ A1 c1 A2 c2, en = .returned (.agg #[.slice A1 own.length c1, .slice A2 other.length c2]) ∧
  OwnS w' w.heap.size 2 (.slice A1 own.length c1) own ∧ OwnS w' w.heap.size 2 (.slice A2 other.length c2) other ∧
  ((Value.slice A1 own.length c1).ownBlock = none ∨ (Value.slice A1 own.length c1).ownBlock ≠ (Value.slice A2 other.length c2).ownBlock) ∧ Below w.heap.size w w'

theorem toRoll_any (a b : Int) (w : World) :
    Calls Try.prog 42 #[.agg #[.int .i64 a, .int .i64 b]] w fun e w' => e = .returned (.agg #[.int .i64 a, .int .i64 b]) ∧ Below w.heap.size w w' := by
  go_enter Try.func42, Try.ntmps42
  go_wp2
  exact bodyPost_ret (v := .agg #[.int .i64 a, .int .i64 b]) (by simp [results, Try.results42, go_sem]) rfl ⟨rfl, (((Below.refl _ _).alloc (Nat.le_refl _) _).alloc (by simp) _).alloc (by simp; omega) _⟩

set_option maxRecDepth 100000 in
theorem toBoard_any (A1 A2 : Option Addr) (n1 c1 n2 c2 : Nat) (xs ys : List Int) (w : World) (h1 : SL w A1 n1 xs) (h2 : SL w A2 n2 ys) (hn1 : n1 ≤ 2000000) (hn2 : n2 ≤ 2000000) :
    Calls Try.prog 41 #[.agg #[.slice A1 n1 c1, .slice A2 n2 c2]] w (RetBd w xs ys) := by
  have HB : Hid (Below w.heap.size w (((w.alloc (.cells #[.slice A1 n1 c1, .slice A2 n2 c2] 39)).alloc (.cells #[.slice none 0 0, .slice none 0 0] 27)).alloc (.cells #[.slice none 0 0, .slice none 0 0] 27))) := (((Below.refl _ _).alloc (Nat.le_refl _) _).alloc (by simp) _).alloc (by simp; omega) _
  have H1 := Lib.hid (h1.below HB.out)
  have H2 := Lib.hid h2
  clear h1 h2
  go_enter Try.func41, Try.ntmps41
  go_wp2_with (fail)
  refine (toInt64S_any A1 n1 c1 xs _ H1.out hn1).mono ?_
  rintro e w1 ⟨B1, k1, rfl, ho1, hb1⟩
  obtain ⟨W0, hW0⟩ : ∃ W, W = (((w.alloc (.cells #[.slice A1 n1 c1, .slice A2 n2 c2] 39)).alloc (.cells #[.slice none 0 0, .slice none 0 0] 27)).alloc (.cells #[.slice none 0 0, .slice none 0 0] 27)) := ⟨_, rfl⟩
  rw [← hW0] at hb1 ho1
  have b1 : w1.cell? ⟨w.heap.size, 1, none⟩ = some (.slice A2 n2 c2) := keep_cell (by rw [hW0]; simp [go_sem]) hb1
  have d0 : w1.cell? ⟨w.heap.size + 1 + 1, 0, none⟩ = some (.slice none 0 0) := keep_cell (by rw [hW0]; simp [go_sem]) hb1
  have d1 : w1.cell? ⟨w.heap.size + 1 + 1, 1, none⟩ = some (.slice none 0 0) := keep_cell (by rw [hW0]; simp [go_sem]) hb1
  have e0 : w1.cell? ⟨w.heap.size + 1, 0, none⟩ = some (.slice none 0 0) := keep_cell (by rw [hW0]; simp [go_sem]) hb1
  have e1 : w1.cell? ⟨w.heap.size + 1, 1, none⟩ = some (.slice none 0 0) := keep_cell (by rw [hW0]; simp [go_sem]) hb1
  have fd0 : w1.frozen? ⟨w.heap.size + 1 + 1, 0, none⟩ = false := keep_froz (w := W0) (v := .slice none 0 0) (by rw [hW0]; simp [go_sem]) (by rw [hW0]; simp [go_sem]) hb1
  have fd1 : w1.frozen? ⟨w.heap.size + 1 + 1, 1, none⟩ = false := keep_froz (w := W0) (v := .slice none 0 0) (by rw [hW0]; simp [go_sem]) (by rw [hW0]; simp [go_sem]) hb1
  have fe0 : w1.frozen? ⟨w.heap.size + 1, 0, none⟩ = false := keep_froz (w := W0) (v := .slice none 0 0) (by rw [hW0]; simp [go_sem]) (by rw [hW0]; simp [go_sem]) hb1
  have fe1 : w1.frozen? ⟨w.heap.size + 1, 1, none⟩ = false := keep_froz (w := W0) (v := .slice none 0 0) (by rw [hW0]; simp [go_sem]) (by rw [hW0]; simp [go_sem]) hb1
  have hz0 : w.heap.size + 2 < W0.heap.size := by rw [hW0]; simp
  have HB1 := Lib.hid ((by rw [hW0]; exact HB.out : Below w.heap.size w W0).trans (hb1.mono (by omega)))
  have HO1 := Lib.hid ho1
  have hsz1 := hb1.size
  clear hb1 ho1 hW0 H1 HB
  go_wp2_with (fail)
  have HBs := Lib.hid (HB1.out.setCell (p := ⟨w.heap.size + 1 + 1, 0, none⟩) (by simp; omega) (.slice B1 xs.length k1))
  have HOs := Lib.hid (HO1.out.setLow (a := ⟨w.heap.size + 1 + 1, 0, none⟩) (by exact hz0) (.slice B1 xs.length k1))
  refine (toInt64S_any A2 n2 c2 ys _ (H2.out.keep (Nat.le_refl _) HBs.out) hn2).mono ?_
  rintro e w2 ⟨B2, k2, rfl, ho2, hb2⟩
  have q0 : w2.cell? ⟨w.heap.size + 1 + 1, 0, none⟩ = some (.slice B1 xs.length k1) := keep_cell (by simp [go_sem, d0]) hb2
  have q1 : w2.cell? ⟨w.heap.size + 1 + 1, 1, none⟩ = some (.slice none 0 0) := keep_cell (by simp [go_sem, d1]) hb2
  have r0 : w2.cell? ⟨w.heap.size + 1, 0, none⟩ = some (.slice none 0 0) := keep_cell (by simp [go_sem, e0]) hb2
  have r1 : w2.cell? ⟨w.heap.size + 1, 1, none⟩ = some (.slice none 0 0) := keep_cell (by simp [go_sem, e1]) hb2
  have fq1 : w2.frozen? ⟨w.heap.size + 1 + 1, 1, none⟩ = false := keep_froz (v := .slice none 0 0) (by simp [go_sem, fd1]) (by simp [go_sem, d1]) hb2
  have fr0 : w2.frozen? ⟨w.heap.size + 1, 0, none⟩ = false := keep_froz (v := .slice none 0 0) (by simp [go_sem, fe0]) (by simp [go_sem, e0]) hb2
  have fr1 : w2.frozen? ⟨w.heap.size + 1, 1, none⟩ = false := keep_froz (v := .slice none 0 0) (by simp [go_sem, fe1]) (by simp [go_sem, e1]) hb2
  have hsz2 : w1.heap.size ≤ w2.heap.size := by have := hb2.size; simpa using this
  have HF : Hid (RetBd w xs ys (.returned (.agg #[.slice B1 xs.length k1, .slice B2 ys.length k2])) (((w2.setCell ⟨w.heap.size + 1 + 1, 1, none⟩ (.slice B2 ys.length k2)).setCell ⟨w.heap.size + 1, 0, none⟩ (.slice B1 xs.length k1)).setCell ⟨w.heap.size + 1, 1, none⟩ (.slice B2 ys.length k2))) := by
    have hz1 : w.heap.size + 2 < (w1.setCell ⟨w.heap.size + 1 + 1, 0, none⟩ (.slice B1 xs.length k1)).heap.size := by simp; omega
    have hsA : W0.heap.size ≤ (w1.setCell ⟨w.heap.size + 1 + 1, 0, none⟩ (.slice B1 xs.length k1)).heap.size := by simp; omega
    refine ⟨B1, k1, B2, k2, rfl, ?_, ?_, ?_, ?_⟩
    · exact ((((HOs.out.below hb2).setLow (a := ⟨w.heap.size + 1 + 1, 1, none⟩) (by exact hz0) _).setLow (a := ⟨w.heap.size + 1, 0, none⟩) (by show w.heap.size + 1 < W0.heap.size; omega) _).setLow (a := ⟨w.heap.size + 1, 1, none⟩) (by show w.heap.size + 1 < W0.heap.size; omega) _).mono (by omega)
    · exact (((ho2.setLow (a := ⟨w.heap.size + 1 + 1, 1, none⟩) (by exact hz1) _).setLow (a := ⟨w.heap.size + 1, 0, none⟩) (Nat.lt_trans (by show w.heap.size + 1 < w.heap.size + 2; omega) hz1) _).setLow (a := ⟨w.heap.size + 1, 1, none⟩) (Nat.lt_trans (by show w.heap.size + 1 < w.heap.size + 2; omega) hz1) _).mono (by omega)
    · exact own_apart HOs.out ho2 (Nat.le_refl _)
    · exact ((((HBs.out.trans (hb2.mono (by omega))).setCell (by simp; omega) _).setCell (by simp) _).setCell (by simp) _)
  clear hb2 ho2 hsz1 hsz2
  go_wp2_with (fail)
  exact bodyPost_ret (v := .agg #[.slice B1 xs.length k1, .slice B2 ys.length k2]) (by simp [results, Try.results41, go_sem, r0, r1]) rfl HF.out
end Go.Proofs.Ytlbkfhdnhalpbaa

/- The statement FnExactWinChance, the law's walk. There are no conditions. -/
namespace Go.Proofs.Ytlbkfhdnhalpbaa
set_option linter.unusedVariables false
set_option linter.unusedSimpArgs false
open Go.RowKit Ps Ra Ex

theorem eqExact_yes (m d : Int) (w : World) :
    Calls Try.prog 19 #[.agg #[.int .i64 m, .int .i64 d], .agg #[.int .i64 m, .int .i64 d]] w fun e w' => e = .returned (.bool true) ∧ Below w.heap.size w w' := by
  have h1 : (m != m) = false := by simp
  have h2 : (d != d) = false := by simp
  go_enter Try.func19, Try.ntmps19
  go_wp2
  go_ret
  exact ⟨rfl, ((Below.refl _ _).alloc (Nat.le_refl _) _).alloc (by simp) _⟩

set_option maxRecDepth 100000 in
theorem winChance_law (p c h s : Int) (A B : Option Addr) (n m ca cb : Nat) (own other : List Int) (w : World) (hA : SL w A n own) (hB : SL w B m other) :
    Calls Try.prog 5 #[.agg #[.int .i64 p, .int .i64 c, .int .i64 h, .int .i64 s], .slice A n ca, .slice B m cb] w fun e w' => e = .returned (.bool true) ∧ Below w.heap.size w w' := by
  have HF : Hid (Fr w (w.alloc (.cells #[.int .i64 p, .int .i64 c, .int .i64 h, .int .i64 s] 23)) [[.int .i64 p, .int .i64 c, .int .i64 h, .int .i64 s]]) := (Fr.start w).allocT (by simp) _ _
  have HA := Lib.hid (hA.below HF.out.b)
  have HB := Lib.hid (hB.below HF.out.b)
  have HAL := Lib.hid hA.1
  have HBL := Lib.hid hB.1
  clear hA hB
  by_cases hn : (1048576 : Int) < (n : Int)
  · go_enter Try.func5, Try.ntmps5
    go_wp2
    go_ret
    exact ⟨rfl, HF.out.b⟩
  by_cases hm : (1048576 : Int) < (m : Int)
  · go_enter Try.func5, Try.ntmps5
    go_wp2
    go_ret
    exact ⟨rfl, HF.out.b⟩
  have hn' : n ≤ 2000000 := by omega
  have hm' : m ≤ 2000000 := by omega
  have hno : own.length ≤ 2000000 := by rw [HAL.out]; exact hn'
  have hmo : other.length ≤ 2000000 := by rw [HBL.out]; exact hm'
  go_enter Try.func5, Try.ntmps5
  go_wp2_with (fail)
  refine (toVariant_any _ _ _ _ _).mono ?_
  rintro e w1 ⟨rfl, hb1⟩
  have HF1 := Lib.hid (HF.out.below hb1)
  have HA1 := Lib.hid (HA.out.below hb1)
  have HB1 := Lib.hid (HB.out.below hb1)
  clear hb1 HF HA HB
  have z0 : w.heap.size < w1.heap.size := HF1.out.ltA 0 rfl (by simp)
  have c00 := HF1.out.cellA (b := w.heap.size) 0 0 rfl rfl
  have f00 := HF1.out.frozA (b := w.heap.size) 0 0 rfl rfl
  have c01 := HF1.out.cellA (b := w.heap.size) 0 1 rfl rfl
  have f01 := HF1.out.frozA (b := w.heap.size) 0 1 rfl rfl
  have c02 := HF1.out.cellA (b := w.heap.size) 0 2 rfl rfl
  have f02 := HF1.out.frozA (b := w.heap.size) 0 2 rfl rfl
  have c03 := HF1.out.cellA (b := w.heap.size) 0 3 rfl rfl
  have f03 := HF1.out.frozA (b := w.heap.size) 0 3 rfl rfl
  go_wp2_with (fail)
  refine (toInt64S_any _ _ _ _ _ HA1.out hn').mono ?_
  rintro e w2 ⟨X1, k1, rfl, ho1, hb2⟩
  have HX2 := Lib.hid (ho1.sl rfl)
  have HF2 := Lib.hid (HF1.out.below hb2)
  have HA2 := Lib.hid (HA1.out.below hb2)
  have HB2 := Lib.hid (HB1.out.below hb2)
  clear hb2 ho1 HF1 HA1 HB1
  clear z0 c00 f00 c01 f01 c02 f02 c03 f03
  have z0 : w.heap.size < w2.heap.size := HF2.out.ltA 0 rfl (by simp)
  have c00 := HF2.out.cellA (b := w.heap.size) 0 0 rfl rfl
  have f00 := HF2.out.frozA (b := w.heap.size) 0 0 rfl rfl
  have c01 := HF2.out.cellA (b := w.heap.size) 0 1 rfl rfl
  have f01 := HF2.out.frozA (b := w.heap.size) 0 1 rfl rfl
  have c02 := HF2.out.cellA (b := w.heap.size) 0 2 rfl rfl
  have f02 := HF2.out.frozA (b := w.heap.size) 0 2 rfl rfl
  have c03 := HF2.out.cellA (b := w.heap.size) 0 3 rfl rfl
  have f03 := HF2.out.frozA (b := w.heap.size) 0 3 rfl rfl
  go_wp2_with (fail)
  refine (toInt64S_any _ _ _ _ _ HB2.out hm').mono ?_
  rintro e w3 ⟨X2, k2, rfl, ho1, hb2⟩
  have HY3 := Lib.hid (ho1.sl rfl)
  have HX3 := Lib.hid (HX2.out.1.below hb2)
  have HXk := Lib.hid HX2.out.2
  have HF3 := Lib.hid (HF2.out.below hb2)
  have HA3 := Lib.hid (HA2.out.below hb2)
  have HB3 := Lib.hid (HB2.out.below hb2)
  clear hb2 ho1 HF2 HA2 HB2 HX2
  clear z0 c00 f00 c01 f01 c02 f02 c03 f03
  have z0 : w.heap.size < w3.heap.size := HF3.out.ltA 0 rfl (by simp)
  have c00 := HF3.out.cellA (b := w.heap.size) 0 0 rfl rfl
  have f00 := HF3.out.frozA (b := w.heap.size) 0 0 rfl rfl
  have c01 := HF3.out.cellA (b := w.heap.size) 0 1 rfl rfl
  have f01 := HF3.out.frozA (b := w.heap.size) 0 1 rfl rfl
  have c02 := HF3.out.cellA (b := w.heap.size) 0 2 rfl rfl
  have f02 := HF3.out.frozA (b := w.heap.size) 0 2 rfl rfl
  have c03 := HF3.out.cellA (b := w.heap.size) 0 3 rfl rfl
  have f03 := HF3.out.frozA (b := w.heap.size) 0 3 rfl rfl
  go_wp2_with (fail)
  refine (sWinChance_any _ _ _ _ _ _ _ _ _ _ _ _ _ HX3.out HY3.out.1 HXk.out HY3.out.2).mono ?_
  rintro e w4 ⟨rfl, hb2⟩
  obtain ⟨r, hr⟩ : ∃ r, r = winR p c h s own other := ⟨_, rfl⟩
  obtain ⟨r1, r2, r3⟩ := r
  rw [← hr]
  have HR := Lib.hid hr
  have HF4 := Lib.hid (HF3.out.below hb2)
  have HA4 := Lib.hid (HA3.out.below hb2)
  have HB4 := Lib.hid (HB3.out.below hb2)
  clear hb2 hr HF3 HA3 HB3 HX3 HY3 HXk
  clear z0 c00 f00 c01 f01 c02 f02 c03 f03
  have z0 : w.heap.size < w4.heap.size := HF4.out.ltA 0 rfl (by simp)
  have c00 := HF4.out.cellA (b := w.heap.size) 0 0 rfl rfl
  have f00 := HF4.out.frozA (b := w.heap.size) 0 0 rfl rfl
  have c01 := HF4.out.cellA (b := w.heap.size) 0 1 rfl rfl
  have f01 := HF4.out.frozA (b := w.heap.size) 0 1 rfl rfl
  have c02 := HF4.out.cellA (b := w.heap.size) 0 2 rfl rfl
  have f02 := HF4.out.frozA (b := w.heap.size) 0 2 rfl rfl
  have c03 := HF4.out.cellA (b := w.heap.size) 0 3 rfl rfl
  have f03 := HF4.out.frozA (b := w.heap.size) 0 3 rfl rfl
  go_wp2_with (fail)
  obtain ⟨V4, hV4⟩ : ∃ V, V = w4.alloc (.cells #[.int .i64 r1, .int .i64 r2] 49) := ⟨_, rfl⟩
  rw [← hV4]
  have HG4 : Hid (Fr w4 V4 [[.int .i64 r1, .int .i64 r2]]) := by rw [hV4]; exact (Fr.start w4).allocT (by simp) _ _
  have HF5 : Hid (Fr w V4 [[.int .i64 p, .int .i64 c, .int .i64 h, .int .i64 s]]) := by rw [hV4]; exact HF4.out.alloc _
  have HA5 : Hid (SL V4 A n own) := by rw [hV4]; exact HA4.out.alloc _
  have HB5 : Hid (SL V4 B m other) := by rw [hV4]; exact HB4.out.alloc _
  clear hV4 HF4 HA4 HB4
  refine (toInt64S_any _ _ _ _ _ HA5.out hn').mono ?_
  rintro e w5 ⟨X1, k1, rfl, ho1, hb2⟩
  have HX6 := Lib.hid (ho1.sl rfl)
  have HF6 := Lib.hid (HF5.out.below hb2)
  have HG6 := Lib.hid (HG4.out.below hb2)
  have HA6 := Lib.hid (HA5.out.below hb2)
  have HB6 := Lib.hid (HB5.out.below hb2)
  clear hb2 ho1 HF5 HG4 HA5 HB5
  clear z0 c00 f00 c01 f01 c02 f02 c03 f03
  have z0 : w.heap.size < w5.heap.size := HF6.out.ltA 0 rfl (by simp)
  have c00 := HF6.out.cellA (b := w.heap.size) 0 0 rfl rfl
  have f00 := HF6.out.frozA (b := w.heap.size) 0 0 rfl rfl
  have c01 := HF6.out.cellA (b := w.heap.size) 0 1 rfl rfl
  have f01 := HF6.out.frozA (b := w.heap.size) 0 1 rfl rfl
  have c02 := HF6.out.cellA (b := w.heap.size) 0 2 rfl rfl
  have f02 := HF6.out.frozA (b := w.heap.size) 0 2 rfl rfl
  have c03 := HF6.out.cellA (b := w.heap.size) 0 3 rfl rfl
  have f03 := HF6.out.frozA (b := w.heap.size) 0 3 rfl rfl
  go_wp2_with (fail)
  refine (toInt64S_any _ _ _ _ _ HB6.out hm').mono ?_
  rintro e w6 ⟨X2, k2, rfl, ho1, hb2⟩
  have HY7 := Lib.hid (ho1.sl rfl)
  have HX7 := Lib.hid (HX6.out.1.below hb2)
  have HXk := Lib.hid HX6.out.2
  have HF7 := Lib.hid (HF6.out.below hb2)
  have HG7 := Lib.hid (HG6.out.below hb2)
  have HA7 := Lib.hid (HA6.out.below hb2)
  have HB7 := Lib.hid (HB6.out.below hb2)
  clear hb2 ho1 HF6 HG6 HA6 HB6 HX6
  clear z0 c00 f00 c01 f01 c02 f02 c03 f03
  have z0 : w.heap.size < w6.heap.size := HF7.out.ltA 0 rfl (by simp)
  have c00 := HF7.out.cellA (b := w.heap.size) 0 0 rfl rfl
  have f00 := HF7.out.frozA (b := w.heap.size) 0 0 rfl rfl
  have c01 := HF7.out.cellA (b := w.heap.size) 0 1 rfl rfl
  have f01 := HF7.out.frozA (b := w.heap.size) 0 1 rfl rfl
  have c02 := HF7.out.cellA (b := w.heap.size) 0 2 rfl rfl
  have f02 := HF7.out.frozA (b := w.heap.size) 0 2 rfl rfl
  have c03 := HF7.out.cellA (b := w.heap.size) 0 3 rfl rfl
  have f03 := HF7.out.frozA (b := w.heap.size) 0 3 rfl rfl
  go_wp2_with (fail)
  refine (toVariant_any _ _ _ _ _).mono ?_
  rintro e w7 ⟨rfl, hb2⟩
  have HX8 := Lib.hid (HX7.out.below hb2)
  have HY8 := Lib.hid (HY7.out.1.below hb2)
  have HYk := Lib.hid HY7.out.2
  have HF8 := Lib.hid (HF7.out.below hb2)
  have HG8 := Lib.hid (HG7.out.below hb2)
  have HA8 := Lib.hid (HA7.out.below hb2)
  have HB8 := Lib.hid (HB7.out.below hb2)
  clear hb2 HF7 HG7 HA7 HB7 HX7 HY7
  clear z0 c00 f00 c01 f01 c02 f02 c03 f03
  have z0 : w.heap.size < w7.heap.size := HF8.out.ltA 0 rfl (by simp)
  have c00 := HF8.out.cellA (b := w.heap.size) 0 0 rfl rfl
  have f00 := HF8.out.frozA (b := w.heap.size) 0 0 rfl rfl
  have c01 := HF8.out.cellA (b := w.heap.size) 0 1 rfl rfl
  have f01 := HF8.out.frozA (b := w.heap.size) 0 1 rfl rfl
  have c02 := HF8.out.cellA (b := w.heap.size) 0 2 rfl rfl
  have f02 := HF8.out.frozA (b := w.heap.size) 0 2 rfl rfl
  have c03 := HF8.out.cellA (b := w.heap.size) 0 3 rfl rfl
  have f03 := HF8.out.frozA (b := w.heap.size) 0 3 rfl rfl
  go_wp2_with (fail)
  refine (WinChance_any _ _ _ _ _ _ _ _ _ _ _ _ _ HX8.out HY8.out HXk.out HYk.out).mono ?_
  rintro e w8 ⟨rfl, hb2⟩
  rw [← HR.out]
  have HX9 := Lib.hid (HX8.out.below hb2)
  have HY9 := Lib.hid (HY8.out.below hb2)
  have HF9 := Lib.hid (HF8.out.below hb2)
  have HG9 := Lib.hid (HG8.out.below hb2)
  have HA9 := Lib.hid (HA8.out.below hb2)
  have HB9 := Lib.hid (HB8.out.below hb2)
  clear hb2 HF8 HG8 HA8 HB8 HX8 HY8
  clear z0 c00 f00 c01 f01 c02 f02 c03 f03
  have z0 : w.heap.size < w8.heap.size := HF9.out.ltA 0 rfl (by simp)
  have c00 := HF9.out.cellA (b := w.heap.size) 0 0 rfl rfl
  have f00 := HF9.out.frozA (b := w.heap.size) 0 0 rfl rfl
  have c01 := HF9.out.cellA (b := w.heap.size) 0 1 rfl rfl
  have f01 := HF9.out.frozA (b := w.heap.size) 0 1 rfl rfl
  have c02 := HF9.out.cellA (b := w.heap.size) 0 2 rfl rfl
  have f02 := HF9.out.frozA (b := w.heap.size) 0 2 rfl rfl
  have c03 := HF9.out.cellA (b := w.heap.size) 0 3 rfl rfl
  have f03 := HF9.out.frozA (b := w.heap.size) 0 3 rfl rfl
  have gz0 : w4.heap.size < w8.heap.size := HG9.out.ltA 0 rfl (by simp)
  have gc00 := HG9.out.cellA (b := w4.heap.size) 0 0 rfl rfl
  have gf00 := HG9.out.frozA (b := w4.heap.size) 0 0 rfl rfl
  have gc01 := HG9.out.cellA (b := w4.heap.size) 0 1 rfl rfl
  have gf01 := HG9.out.frozA (b := w4.heap.size) 0 1 rfl rfl
  have hr3 : (r3 != r3) = false := by simp
  have H9 : Hid (w4.heap.size < w8.heap.size) := gz0
  go_wp2_with (fail)
  refine (eqExact_yes _ _ _).mono ?_
  rintro e w9 ⟨rfl, hb2⟩
  have HXa := Lib.hid ((HX9.out.alloc _).below hb2)
  have HYa := Lib.hid ((HY9.out.alloc _).below hb2)
  have HFa := Lib.hid ((HF9.out.alloc _).below hb2)
  have HAa := Lib.hid ((HA9.out.alloc _).below hb2)
  have HBa := Lib.hid ((HB9.out.alloc _).below hb2)
  clear z0 c00 f00 c01 f01 c02 f02 c03 f03
  clear gz0 gc00 gf00 gc01 gf01
  clear hb2 HF9 HG9 HA9 HB9 HX9 HY9
  go_wp2_with (fail)
  refine (toInt64S_any _ _ _ _ _ HAa.out hn').mono ?_
  rintro e wb ⟨Z1, l1, rfl, ho1, hb2⟩
  have HZb := Lib.hid (ho1.sl rfl).1
  have HXb := Lib.hid (HXa.out.below hb2)
  have HYb := Lib.hid (HYa.out.below hb2)
  have HFb := Lib.hid (HFa.out.below hb2)
  have HBb := Lib.hid (HBa.out.below hb2)
  clear ho1 hb2 HXa HYa HFa HAa HBa
  go_wp2_with (fail)
  refine (eqInt64S_yes _ _ _ _ _ _ _ HXb.out HZb.out hno).mono ?_
  rintro e wc ⟨rfl, hb2⟩
  have HYc := Lib.hid (HYb.out.below hb2)
  have HFc := Lib.hid (HFb.out.below hb2)
  have HBc := Lib.hid (HBb.out.below hb2)
  clear hb2 HXb HYb HFb HBb HZb
  go_wp2_with (fail)
  refine (toInt64S_any _ _ _ _ _ HBc.out hm').mono ?_
  rintro e wd ⟨Z2, l2, rfl, ho1, hb2⟩
  have HZd := Lib.hid (ho1.sl rfl).1
  have HYd := Lib.hid (HYc.out.below hb2)
  have HFd := Lib.hid (HFc.out.below hb2)
  clear ho1 hb2 HYc HFc HBc
  go_wp2_with (fail)
  refine (eqInt64S_yes _ _ _ _ _ _ _ HYd.out HZd.out hmo).mono ?_
  rintro e we ⟨rfl, hb2⟩
  have HFe := Lib.hid (HFd.out.below hb2).b
  clear hb2 HYd HFd HZd
  go_wp2_with (fail)
  go_ret
  exact ⟨rfl, HFe.out⟩
end Go.Proofs.Ytlbkfhdnhalpbaa

/- What comes in, opened: slices of integers, slices of boards, desks. There are no conditions. -/
namespace Go.Proofs.Ytlbkfhdnhalpbaa
set_option linter.unusedVariables false
set_option linter.unusedSimpArgs false
open Go.ChangeShapes Go.WideShapes Go.ChangeAt Go.RowKit Go.Joins Go.Deep

theorem cellsV : Try.prog.cellsOf 23 = 4 := by kernel_rfl
theorem cellsB : Try.prog.cellsOf 39 = 2 := by kernel_rfl
theorem cellsR : Try.prog.cellsOf 40 = 2 := by kernel_rfl
theorem cellsD : Try.prog.cellsOf 43 = 10 := by kernel_rfl
theorem cellsS : Try.prog.cellsOf 25 = 1 := by kernel_rfl
theorem cellsBS : Try.prog.cellsOf 41 = 1 := by kernel_rfl
theorem cellsI : Try.prog.cellsOf 2 = 1 := by kernel_rfl

section
variable {H : Type} {enc : TypeId × Value → H} {w : World} {base : Nat} {spare : Nat → Bool} {held : Bool} {fuel : Nat}

theorem fld {t : TypeId} {fs : Array Field} {cs : List Value} {x : DataW H × List MemPlace} (ht : Try.prog.underlying t = some (.struct fs)) (h : DataW.trod enc Try.prog w base spare held fuel t cs = some x) :
    cs.length = Try.prog.cellsOf t ∧ ∃ n, ∀ (i : Nat) (f : Field), fs[i]? = some f → ∃ y, DataW.trod enc Try.prog w base spare held n f.type ((cs.drop f.offset).take (Try.prog.cellsOf f.type)) = some y := by
  obtain ⟨xs, n, _, _, hl, hx, hf⟩ := DataW.trod_struct ht h
  refine ⟨hl, n, fun i f hi => ?_⟩
  have hlt : i < xs.length := by rw [hx]; exact (Array.getElem?_eq_some_iff.1 hi).1
  exact ⟨_, (hf i f hi).trans (List.getElem?_eq_getElem hlt)⟩

theorem fldT {t : TypeId} {cs : List Value} {y0 : DataW H × List MemPlace} {P : Program} {n : Nat} {t' : TypeId} {cs' : List Value} (h : DataW.trod enc P w base spare held n t cs = some y0) (e1 : t = t') (e2 : cs = cs') : DataW.trod enc P w base spare held n t' cs' = some y0 := by subst e1 e2; exact h

theorem openInt {cs : List Value} {x : DataW H × List MemPlace} (h : DataW.trod enc Try.prog w base spare held fuel 2 cs = some x) : ∃ n : Int, cs = [.int .i64 n] ∧ (Lit.int .i64 n).wf = true := by
  obtain ⟨n, h1, _, h2⟩ := DataW.trod_int Try.underlying2 h
  exact ⟨n, h1, h2⟩

theorem openSL {cs : List Value} {x : DataW H × List MemPlace} (h : DataW.trod enc Try.prog w base spare held fuel 25 cs = some x) :
    ∃ A n c xs, cs = [.slice A n c] ∧ SL w A n xs ∧ n ≤ maxLen ∧ ∀ z ∈ xs, (Lit.int .i64 z).wf = true := by
  rcases open_ints Try.underlying25 Try.underlying2 cellsI h with ⟨rfl, _⟩ | ⟨a, len, cap, zs, rfl, _, hl, hm, hz, _, hcell, hw⟩
  · exact ⟨none, 0, 0, [], rfl, SL.nil_ _, by simp [maxLen], by simp⟩
  · have hle : len ≤ zs.length := by rw [hz]; split <;> omega
    refine ⟨some a, len, cap, zs.take len, rfl, ⟨by simp; omega, fun hn => ?_⟩, by omega, fun z hz' => hw z (List.mem_of_mem_take hz')⟩
    obtain ⟨b, off, spot⟩ := a
    have h0 := hcell 0 (by omega)
    have hspot : spot = none := by simpa [Addr.add] using World.cell?_spot h0
    subst hspot
    refine ⟨b, off, rfl, World.block_lt_of_cell? w _ h0, fun i hi => ?_⟩
    have h1 := hcell i (by omega)
    rw [add_plain] at h1
    rw [h1]
    simp [List.getD, List.getElem?_take, hi]

set_option maxRecDepth 100000 in
theorem openBoard {cs : List Value} {x : DataW H × List MemPlace} (h : DataW.trod enc Try.prog w base spare held fuel 39 cs = some x) :
    ∃ A1 n1 c1 xs A2 n2 c2 ys, cs = [.slice A1 n1 c1, .slice A2 n2 c2] ∧ SL w A1 n1 xs ∧ n1 ≤ maxLen ∧ SL w A2 n2 ys ∧ n2 ≤ maxLen := by
  obtain ⟨hl, n, hf⟩ := fld Try.underlying39 h
  obtain ⟨y0, h0⟩ := hf 0 _ rfl
  obtain ⟨y1, h1⟩ := hf 1 _ rfl
  rw [cellsB] at hl
  match cs, hl with
  | [v0, v1], _ =>
    obtain ⟨A1, n1, c1, xs, e1, s1, m1, _⟩ := openSL (fldT h0 (t' := 25) (cs' := [v0]) rfl (by show List.take (Try.prog.cellsOf 25) _ = _; rw [cellsS]; rfl))
    obtain ⟨A2, n2, c2, ys, e2, s2, m2, _⟩ := openSL (fldT h1 (t' := 25) (cs' := [v1]) rfl (by show List.take (Try.prog.cellsOf 25) _ = _; rw [cellsS]; rfl))
    simp at e1 e2
    subst e1 e2
    exact ⟨A1, n1, c1, xs, A2, n2, c2, ys, rfl, s1, m1, s2, m2⟩

set_option maxRecDepth 100000 in
theorem openVariant {cs : List Value} {x : DataW H × List MemPlace} (h : DataW.trod enc Try.prog w base spare held fuel 23 cs = some x) :
    ∃ p c g s : Int, cs = [.int .i64 p, .int .i64 c, .int .i64 g, .int .i64 s] ∧ (Lit.int .i64 p).wf = true ∧ (Lit.int .i64 c).wf = true ∧ (Lit.int .i64 g).wf = true ∧ (Lit.int .i64 s).wf = true := by
  obtain ⟨hl, n, hf⟩ := fld Try.underlying23 h
  obtain ⟨y0, h0⟩ := hf 0 _ rfl
  obtain ⟨y1, h1⟩ := hf 1 _ rfl
  obtain ⟨y2, h2⟩ := hf 2 _ rfl
  obtain ⟨y3, h3⟩ := hf 3 _ rfl
  rw [cellsV] at hl
  match cs, hl with
  | [v0, v1, v2, v3], _ =>
    obtain ⟨p, e0, w0⟩ := openInt (fldT h0 (t' := 2) (cs' := [v0]) rfl (by show List.take (Try.prog.cellsOf 2) _ = _; rw [cellsI]; rfl))
    obtain ⟨c, e1, w1⟩ := openInt (fldT h1 (t' := 2) (cs' := [v1]) rfl (by show List.take (Try.prog.cellsOf 2) _ = _; rw [cellsI]; rfl))
    obtain ⟨g, e2, w2⟩ := openInt (fldT h2 (t' := 2) (cs' := [v2]) rfl (by show List.take (Try.prog.cellsOf 2) _ = _; rw [cellsI]; rfl))
    obtain ⟨s, e3, w3⟩ := openInt (fldT h3 (t' := 2) (cs' := [v3]) rfl (by show List.take (Try.prog.cellsOf 2) _ = _; rw [cellsI]; rfl))
    simp at e0 e1 e2 e3
    subst e0 e1 e2 e3
    exact ⟨p, c, g, s, rfl, w0, w1, w2, w3⟩

set_option maxRecDepth 100000 in
theorem openRoll {cs : List Value} {x : DataW H × List MemPlace} (h : DataW.trod enc Try.prog w base spare held fuel 40 cs = some x) :
    ∃ p c : Int, cs = [.int .i64 p, .int .i64 c] ∧ (Lit.int .i64 p).wf = true ∧ (Lit.int .i64 c).wf = true := by
  obtain ⟨hl, n, hf⟩ := fld Try.underlying40 h
  obtain ⟨y0, h0⟩ := hf 0 _ rfl
  obtain ⟨y1, h1⟩ := hf 1 _ rfl
  rw [cellsR] at hl
  match cs, hl with
  | [v0, v1], _ =>
    obtain ⟨p, e0, w0⟩ := openInt (fldT h0 (t' := 2) (cs' := [v0]) rfl (by show List.take (Try.prog.cellsOf 2) _ = _; rw [cellsI]; rfl))
    obtain ⟨c, e1, w1⟩ := openInt (fldT h1 (t' := 2) (cs' := [v1]) rfl (by show List.take (Try.prog.cellsOf 2) _ = _; rw [cellsI]; rfl))
    simp at e0 e1
    subst e0 e1
    exact ⟨p, c, rfl, w0, w1⟩

set_option maxRecDepth 100000 in
theorem openSBs {cs : List Value} {x : DataW H × List MemPlace} (h : DataW.trod enc Try.prog w base spare held fuel 41 cs = some x) :
    ∃ A n c bs, cs = [.slice A n c] ∧ SBs w A n bs ∧ n ≤ maxLen := by
  rcases open_slice Try.underlying41 h with ⟨rfl, _⟩ | ⟨a, len, cap, m, n, D, Pl, rfl, hb, hl, hm, hmm, hx, hi⟩
  · exact ⟨none, 0, 0, [], rfl, SBs.nil_ _ _, by simp [maxLen]⟩
  · have hle : len ≤ m := by rw [hmm]; split <;> omega
    have hall : ∀ i, i < len → ∃ b : List Int × List Int, ∃ A1 n1 c1 A2 n2 c2, w.cell? (a.add (i * 2)) = some (.slice A1 n1 c1) ∧ w.cell? ((a.add (i * 2)).add 1) = some (.slice A2 n2 c2) ∧ SL w A1 n1 b.1 ∧ SL w A2 n2 b.2 ∧ n1 ≤ maxLen ∧ n2 ≤ maxLen := by
      intro i hil
      obtain ⟨cs', hc, ht'⟩ := hi i (by omega)
      rw [cellsB] at hc
      obtain ⟨A1, n1, c1, xs, A2, n2, c2, ys, rfl, s1, m1, s2, m2⟩ := openBoard ht'
      obtain ⟨_, _, hat⟩ := World.cells?_some hc
      have q0 := hat 0 (by omega)
      have q1 := hat 1 (by omega)
      exact ⟨(xs, ys), A1, n1, c1, A2, n2, c2, by simpa [Addr.add] using q0, by simpa using q1, s1, s2, m1, m2⟩
    obtain ⟨b, off, spot⟩ := a
    have hsp : 0 < len → spot = none := by
      intro hn
      obtain ⟨_, A1, n1, c1, A2, n2, c2, h0, _⟩ := hall 0 hn
      simpa [Addr.add] using World.cell?_spot h0
    have hbl : 0 < len → b < w.heap.size := by
      intro hn
      obtain ⟨_, A1, n1, c1, A2, n2, c2, h0, _⟩ := hall 0 hn
      have := World.block_lt_of_cell? w _ h0
      simpa [Addr.add] using this
    let F : Nat → List Int × List Int := fun i => if h : i < len then (hall i h).choose else ([], [])
    refine ⟨some ⟨b, off, spot⟩, len, cap, (List.range len).map F, rfl, ⟨by simp, fun hn => ?_⟩, by omega⟩
    obtain rfl := hsp hn
    refine ⟨b, off, rfl, hbl hn, fun i hi' => ?_⟩
    have hF : ((List.range len).map F).getD i ([], []) = (hall i hi').choose := by simp [List.getD, hi', F]
    rw [hF]
    obtain ⟨A1, n1, c1, A2, n2, c2, h0, h1, h2, h3, h4, h5⟩ := (hall i hi').choose_spec
    refine ⟨A1, n1, c1, A2, n2, c2, ?_, ?_, h2, h3, h4, h5⟩
    · rw [add_plain] at h0; exact h0
    · rw [add_plain, add_plain] at h1; exact h1

set_option maxRecDepth 100000 in
theorem openDesk {cs : List Value} {x : DataW H × List MemPlace} (h : DataW.trod enc Try.prog w base spare held fuel 43 cs = some x) :
    ∃ (p c g s ra rb seed : Int) (A1 A2 A3 : Option Addr) (n1 a1 n2 a2 n3 a3 : Nat) (xs ys : List Int) (past : List (List Int × List Int)),
      cs = [.int .i64 p, .int .i64 c, .int .i64 g, .int .i64 s, .slice A1 n1 a1, .slice A2 n2 a2, .int .i64 ra, .int .i64 rb, .int .i64 seed, .slice A3 n3 a3] ∧ SL w A1 n1 xs ∧ SL w A2 n2 ys ∧ SBs w A3 n3 past ∧ n1 ≤ maxLen ∧ n2 ≤ maxLen ∧ n3 ≤ maxLen := by
  obtain ⟨hl, n, hf⟩ := fld Try.underlying43 h
  obtain ⟨y0, h0⟩ := hf 0 _ rfl
  obtain ⟨y1, h1⟩ := hf 1 _ rfl
  obtain ⟨y2, h2⟩ := hf 2 _ rfl
  obtain ⟨y3, h3⟩ := hf 3 _ rfl
  obtain ⟨y4, h4⟩ := hf 4 _ rfl
  rw [cellsD] at hl
  match cs, hl with
  | [v0, v1, v2, v3, v4, v5, v6, v7, v8, v9], _ =>
    obtain ⟨p, c, g, s, e0, _⟩ := openVariant (fldT h0 (t' := 23) (cs' := [v0, v1, v2, v3]) rfl (by show List.take (Try.prog.cellsOf 23) _ = _; rw [cellsV]; rfl))
    obtain ⟨A1, n1, a1, xs, A2, n2, a2, ys, e1, s1, m1, s2, m2⟩ := openBoard (fldT h1 (t' := 39) (cs' := [v4, v5]) rfl (by show List.take (Try.prog.cellsOf 39) _ = _; rw [cellsB]; rfl))
    obtain ⟨ra, rb, e2, _⟩ := openRoll (fldT h2 (t' := 40) (cs' := [v6, v7]) rfl (by show List.take (Try.prog.cellsOf 40) _ = _; rw [cellsR]; rfl))
    obtain ⟨seed, e3, _⟩ := openInt (fldT h3 (t' := 2) (cs' := [v8]) rfl (by show List.take (Try.prog.cellsOf 2) _ = _; rw [cellsI]; rfl))
    obtain ⟨A3, n3, a3, past, e4, s3, m3⟩ := openSBs (fldT h4 (t' := 41) (cs' := [v9]) rfl (by show List.take (Try.prog.cellsOf 41) _ = _; rw [cellsBS]; rfl))
    simp at e0 e1 e2 e3 e4
    obtain ⟨rfl, rfl, rfl, rfl⟩ := e0
    obtain ⟨rfl, rfl⟩ := e1
    obtain ⟨rfl, rfl⟩ := e2
    subst e3 e4
    exact ⟨p, c, g, s, ra, rb, seed, A1, A2, A3, n1, a1, n2, a2, n3, a3, xs, ys, past, rfl, s1, s2, s3, m1, m2, m3⟩
end
end Go.Proofs.Ytlbkfhdnhalpbaa

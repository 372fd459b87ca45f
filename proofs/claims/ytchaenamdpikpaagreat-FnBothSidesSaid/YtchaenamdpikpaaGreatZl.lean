/- Joined texts of one proof: Rol, A6, A7, L1, Open, G1. Each part tells what it shows. There are no conditions. -/
import Derived.Test.YtchaenamdpikpaaGreatZa
import Derived.ProofKit
import Derived.OpenShut
import Derived.Lib.SmallJoins
import Derived.Deep.Slices
import Derived.Deep.Fields
import Derived.ChangeSame
import Derived.ChangeSlices
import Derived.Below
import Derived.Test.YtchaenamdpikpaaGreatZb

/- Contracts of what both sides ask of a roll. There are no conditions. -/
namespace Go.Proofs.YtchaenamdpikpaaGreat
set_option linter.unusedVariables false
set_option linter.unusedSimpArgs false
open Go.RowKit

def rollB (s a b : Int) : Bool := decide (1 ≤ a ∧ a ≤ s ∧ 1 ≤ b ∧ b ≤ a)

theorem l10Roll_any (p c h s a b : Int) (w : World) : Calls Tryz.prog 48 #[.agg #[.int .i64 p, .int .i64 c, .int .i64 h, .int .i64 s], .agg #[.int .i64 a, .int .i64 b]] w fun e w' => e = .returned (.bool (rollB s a b)) ∧ Below w.heap.size w w' := by
  by_cases h1 : 1 ≤ a ∧ a ≤ s
  · have e1 := inB_yes h1
    by_cases h2 : 1 ≤ b ∧ b ≤ a
    · have e2 := inB_yes h2
      have HF : Hid (rollB s a b = true) := decide_eq_true (by omega)
      go_enter Tryz.func48, Tryz.ntmps48
      go_wp2_with (go_at_call 49; refine (l01In_any _ _ _ _).mono ?_; rintro e w' ⟨rfl, rfl⟩)
      go_ret
      exact ⟨by rw [HF.out]; rfl, ((Below.refl _ _).alloc (Nat.le_refl _) _).alloc (by simp) _⟩
    · have e2 := inB_no h2
      have HF : Hid (rollB s a b = false) := decide_eq_false (by omega)
      go_enter Tryz.func48, Tryz.ntmps48
      go_wp2_with (go_at_call 49; refine (l01In_any _ _ _ _).mono ?_; rintro e w' ⟨rfl, rfl⟩)
      go_ret
      exact ⟨by rw [HF.out]; rfl, ((Below.refl _ _).alloc (Nat.le_refl _) _).alloc (by simp) _⟩
  · have e1 := inB_no h1
    have HF : Hid (rollB s a b = false) := decide_eq_false (by omega)
    go_enter Tryz.func48, Tryz.ntmps48
    go_wp2_with (go_at_call 49; refine (l01In_any _ _ _ _).mono ?_; rintro e w' ⟨rfl, rfl⟩)
    go_ret
    exact ⟨by rw [HF.out]; rfl, ((Below.refl _ _).alloc (Nat.le_refl _) _).alloc (by simp) _⟩

theorem IsRoll_any (p c h s a b : Int) (w : World) : Calls Tryz.prog 109 #[.agg #[.int .i64 p, .int .i64 c, .int .i64 h, .int .i64 s], .agg #[.int .i64 a, .int .i64 b]] w fun e w' => e = .returned (.bool (isVar p c h s && rollB s a b)) ∧ Below w.heap.size w w' := by
  have HB : Hid (Below w.heap.size w ((w.alloc (.cells #[.int .i64 p, .int .i64 c, .int .i64 h, .int .i64 s] 25)).alloc (.cells #[.int .i64 a, .int .i64 b] 52))) := ((Below.refl _ _).alloc (Nat.le_refl _) _).alloc (by simp) _
  by_cases hv : isVar p c h s = true
  · by_cases h1 : 1 ≤ a ∧ a ≤ s
    · have e1 := inB_yes h1
      by_cases h2 : 1 ≤ b ∧ b ≤ a
      · have e2 := inB_yes h2
        have HF : Hid ((isVar p c h s && rollB s a b) = true) := by unfold Hid; rw [hv, Bool.true_and]; exact decide_eq_true (by omega)
        go_enter Tryz.func109, Tryz.ntmps109
        go_wp2_with (first | (go_at_call 59; refine (more_first (IsVariant_any _ _ _ _ _)).mono ?_; rintro e w' ⟨rfl, t, rfl⟩) | (go_at_call 88; refine (within_any _ _ _ _).mono ?_; rintro e w' ⟨rfl, rfl⟩))
        go_ret
        exact ⟨by rw [HF.out]; rfl, HB.out.trans ((below_more _ _).mono HB.out.size)⟩
      · have e2 := inB_no h2
        have HF : Hid ((isVar p c h s && rollB s a b) = false) := by unfold Hid; rw [hv, Bool.true_and]; exact decide_eq_false (by omega)
        go_enter Tryz.func109, Tryz.ntmps109
        go_wp2_with (first | (go_at_call 59; refine (more_first (IsVariant_any _ _ _ _ _)).mono ?_; rintro e w' ⟨rfl, t, rfl⟩) | (go_at_call 88; refine (within_any _ _ _ _).mono ?_; rintro e w' ⟨rfl, rfl⟩))
        go_ret
        exact ⟨by rw [HF.out]; rfl, HB.out.trans ((below_more _ _).mono HB.out.size)⟩
    · have e1 := inB_no h1
      have HF : Hid ((isVar p c h s && rollB s a b) = false) := by unfold Hid; rw [hv, Bool.true_and]; exact decide_eq_false (by omega)
      go_enter Tryz.func109, Tryz.ntmps109
      go_wp2_with (first | (go_at_call 59; refine (more_first (IsVariant_any _ _ _ _ _)).mono ?_; rintro e w' ⟨rfl, t, rfl⟩) | (go_at_call 88; refine (within_any _ _ _ _).mono ?_; rintro e w' ⟨rfl, rfl⟩))
      go_ret
      exact ⟨by rw [HF.out]; rfl, HB.out.trans ((below_more _ _).mono HB.out.size)⟩
  · replace hv : isVar p c h s = false := by simpa using hv
    have HF : Hid ((isVar p c h s && rollB s a b) = false) := by unfold Hid; rw [hv, Bool.false_and]
    go_enter Tryz.func109, Tryz.ntmps109
    go_wp2_with (first | (go_at_call 59; refine (more_first (IsVariant_any _ _ _ _ _)).mono ?_; rintro e w' ⟨rfl, t, rfl⟩) | (go_at_call 88; refine (within_any _ _ _ _).mono ?_; rintro e w' ⟨rfl, rfl⟩))
    go_ret
    exact ⟨by rw [HF.out]; rfl, HB.out.trans ((below_more _ _).mono HB.out.size)⟩

end Go.Proofs.YtchaenamdpikpaaGreat

/- A slice of boards that reads as a list; how the laws measure and copy what comes in. There are no conditions. -/
namespace Go.Proofs.YtchaenamdpikpaaGreat
set_option linter.unusedVariables false
set_option linter.unusedSimpArgs false
open Go.RowKit

/-- The slice value '.slice A n c' of boards reads as bs in w. -/
def SBs (w : World) (A : Option Addr) (n : Nat) (bs : List (List Int × List Int)) : Prop :=
  bs.length = n ∧ (0 < n → ∃ b off, A = some ⟨b, off, none⟩ ∧ b < w.heap.size ∧ ∀ i, i < n → ∃ A1 n1 c1 A2 n2 c2, w.cell? ⟨b, off + i * 2, none⟩ = some (.slice A1 n1 c1) ∧ w.cell? ⟨b, off + i * 2 + 1, none⟩ = some (.slice A2 n2 c2) ∧
    SL w A1 n1 (bs.getD i ([], [])).1 ∧ SL w A2 n2 (bs.getD i ([], [])).2 ∧ n1 ≤ maxLen ∧ n2 ≤ maxLen)

theorem SBs.below {w w' : World} {A : Option Addr} {n : Nat} {bs : List (List Int × List Int)} (h : SBs w A n bs) (hb : Below w.heap.size w w') : SBs w' A n bs := by
  refine ⟨h.1, fun hn => ?_⟩
  obtain ⟨b, off, hA, hlt, hc⟩ := h.2 hn
  refine ⟨b, off, hA, Nat.lt_of_lt_of_le hlt hb.size, fun i hi => ?_⟩
  obtain ⟨A1, n1, c1, A2, n2, c2, h1, h2, h3, h4, h5, h6⟩ := hc i hi
  exact ⟨A1, n1, c1, A2, n2, c2, keep_cell h1 hb, keep_cell h2 hb, h3.below hb, h4.below hb, h5, h6⟩
theorem SBs.more {w : World} {A : Option Addr} {n : Nat} {bs : List (List Int × List Int)} (h : SBs w A n bs) (t : World) : SBs (more w t) A n bs := h.below (below_more w t)
theorem SBs.alloc {w : World} {A : Option Addr} {n : Nat} {bs : List (List Int × List Int)} (h : SBs w A n bs) (o : Obj) : SBs (w.alloc o) A n bs := h.below ((Below.refl _ _).alloc (Nat.le_refl _) o)
theorem SBs.nil_ (w : World) (A : Option Addr) : SBs w A 0 [] := ⟨rfl, fun h => absurd h (by omega)⟩

/-! ### measuring -/
/-- What is left behind a measure of tot: a number below 0 if it was too little. -/
def RetZ (w : World) (left : Int) (tot : Nat) (en : Ending) (w' : World) : Prop := ∃ r : Int, en = .returned (.int .i64 r) ∧ -1 ≤ r ∧ r ≤ left ∧ (0 ≤ r → (tot : Int) ≤ left - r) ∧ Below w.heap.size w w'

theorem szInt64S_any (A : Option Addr) (n c : Nat) (left : Int) (w : World) (hn : n ≤ 9223372036854775807) (hl : 0 ≤ left) (hl2 : left ≤ 1048576) :
    Calls Tryz.prog 31 #[.slice A n c, .int .i64 left] w (RetZ w left n) := by
  by_cases h : left - n < 0
  · have HF : Hid (RetZ w left n (.returned (.int .i64 (-1))) w) := ⟨-1, rfl, by omega, by omega, by omega, Below.refl _ _⟩
    go_enter Tryz.func31, Tryz.ntmps31
    go_wp2
    go_ret
    exact HF.out
  · have HF : Hid (RetZ w left n (.returned (.int .i64 (left - n))) w) := ⟨left - n, rfl, by omega, by omega, by omega, Below.refl _ _⟩
    go_enter Tryz.func31, Tryz.ntmps31
    go_wp2
    go_ret
    exact HF.out

theorem szBoard_any (A1 A2 : Option Addr) (n1 c1 n2 c2 : Nat) (left : Int) (w : World) (hn1 : n1 ≤ 9223372036854775807) (hn2 : n2 ≤ 9223372036854775807) (hl : 0 ≤ left) (hl2 : left ≤ 1048576) :
    Calls Tryz.prog 11 #[.agg #[.slice A1 n1 c1, .slice A2 n2 c2], .int .i64 left] w (RetZ w left (n1 + n2)) := by
  have hb : Below w.heap.size w (w.alloc (.cells #[.slice A1 n1 c1, .slice A2 n2 c2] 36)) := (Below.refl _ _).alloc (Nat.le_refl _) _
  have HB := Lib.hid hb
  clear hb
  go_enter Tryz.func11, Tryz.ntmps11
  go_wp2_with (fail)
  refine (szInt64S_any A1 n1 c1 left _ hn1 hl hl2).mono ?_
  rintro e w1 ⟨r, rfl, hr1, hr2, hr3, hb1⟩
  have d1 : w1.cell? ⟨w.heap.size, 1, none⟩ = some (.slice A2 n2 c2) := keep_cell (by simp [go_sem]) hb1
  have HB1 := Lib.hid (HB.out.trans (hb1.mono HB.out.size))
  have H3 := Lib.hid hr3
  clear hb1 hr3
  by_cases h0 : r < 0
  · have HF : Hid (∀ W, Below w.heap.size w W → RetZ w left (n1 + n2) (.returned (.int .i64 (-1))) W) := fun W hW => ⟨-1, rfl, by omega, by omega, by omega, hW⟩
    go_wp2_with (fail)
    go_ret
    exact HF.out _ HB1.out
  · go_wp2_with (fail)
    refine (szInt64S_any A2 n2 c2 r _ hn2 (by omega) (by omega)).mono ?_
    rintro e w2 ⟨r2, rfl, hq1, hq2, hq3, hb2⟩
    have HB2 := Lib.hid (HB1.out.trans (hb2.mono HB1.out.size))
    have HF : Hid (RetZ w left (n1 + n2) (.returned (.int .i64 r2)) w2) := ⟨r2, rfl, hq1, by omega, fun h => by have := hq3 h; have := H3.out (by omega); omega, HB2.out⟩
    have HF' : Hid (RetZ w left (n1 + n2) (.returned (.int .i64 (-1))) w2) := ⟨-1, rfl, by omega, by omega, by omega, HB2.out⟩
    clear hb2 hq3
    by_cases h2 : r2 < 0
    · go_wp2_with (fail)
      go_ret
      exact HF'.out
    · go_wp2_with (fail)
      go_ret
      exact HF.out

/-- How many numbers the boards hold. -/
def totB (bs : List (List Int × List Int)) : Nat := (bs.map fun b => b.1.length + b.2.length).sum
theorem totB_step (bs : List (List Int × List Int)) (k : Nat) (h : k < bs.length) : totB (bs.take (k + 1)) = totB (bs.take k) + ((bs.getD k ([], [])).1.length + (bs.getD k ([], [])).2.length) := by
  unfold totB
  rw [List.take_succ_eq_append_getElem h, List.map_append, List.sum_append]
  simp [List.getD, h]

theorem totB_mem (bs : List (List Int × List Int)) : ∀ b ∈ bs, b.1.length + b.2.length ≤ totB bs := by
  unfold totB
  induction bs with
  | nil => intro b hb; cases hb
  | cons x r ih =>
    intro b hb
    simp only [List.map_cons, List.sum_cons]
    rcases List.mem_cons.1 hb with rfl | hb
    · omega
    · have := ih b hb; omega
end Go.Proofs.YtchaenamdpikpaaGreat

/- How the laws copy what comes in: numbers, boards, rolls. There are no conditions. -/
namespace Go.Proofs.YtchaenamdpikpaaGreat
set_option linter.unusedVariables false
set_option linter.unusedSimpArgs false
open Go.RowKit

theorem mixZ_step (xs : List Int) (n k : Nat) (hl : xs.length = n) (h : k < n) : (xs.take k ++ List.replicate (n - k) (0 : Int)).set k (xs.getD k 0) = xs.take (k + 1) ++ List.replicate (n - (k + 1)) 0 := by
  have hk : (xs.take k).length = k := by rw [List.length_take]; omega
  have e : n - k = (n - (k + 1)) + 1 := by omega
  have h' : k < xs.length := by omega
  have g : xs.getD k 0 = xs[k] := by simp [List.getD, h']
  rw [List.set_append_right _ _ (by omega), hk, Nat.sub_self, e, List.replicate_succ, List.set_cons_zero, List.take_succ_eq_append_getElem h', List.append_assoc, g]
  rfl

theorem toInt64S_any (A : Option Addr) (n c : Nat) (xs : List Int) (w : World) (hx : SL w A n xs) (hn : n ≤ 2000000) :
    Calls Tryz.prog 35 #[.slice A n c] w (RetO w 2 xs) := by
  obtain ⟨i0, hi, hz0, hz1, hz2⟩ := info_parts Tryz.infoI
  have HX := Lib.hid hx
  clear hx
  go_enter Tryz.func35, Tryz.ntmps35
  go_wp2_with (at_make; refine wpList_make_full _ rfl _ _ 26 rfl w.heap.size 2 i0 (.int .i64 0) 1 Tryz.underlying26 hi hz0 hz1 _ _ _ _ n rfl rfl rfl rfl (by rw [hz2]; omega) (by unfold maxLen; omega) (Nat.le_refl _) ?_; intro w1 hown hgrow)
  have hb : Below w.heap.size w w1 := (Below.refl _ _).grown hgrow (Nat.le_refl _) (by simp)
  have hO : OwnS w1 w.heap.size 2 (.slice (some ⟨w.heap.size, 0, none⟩) n n) (xs.take 0 ++ List.replicate (n - 0) 0) := by
    unfold OwnS
    simp only [List.take_zero, List.nil_append, Nat.sub_zero, List.length_replicate, List.map_replicate]
    have e : (madeCells #[Value.int .i64 0] (n * 1)).toList = List.replicate n (Value.int .i64 0) := by rw [Nat.mul_one]; exact toList_madeCells_one _ _
    first | (rw [show (Value.int IntKind.i64 0).cells = #[Value.int .i64 0] from rfl, e] at hown; exact hown) | (rw [e] at hown; exact hown) | (rw [Nat.mul_one] at e; rw [e] at hown; exact hown)
  have HO := Lib.hid hO
  have HB := Lib.hid hb
  have hg2 : w.heap.size < w1.heap.size := (hO.lt _ rfl).2
  clear hown hgrow hb hO
  go_wp2_with (fail)
  go_loopw [4] (fun i wr => ∃ k : Nat, k ≤ n ∧ i = .int .i64 k ∧ OwnS wr w.heap.size 2 (.slice (some ⟨w.heap.size, 0, none⟩) n n) (xs.take k ++ List.replicate (n - k) 0) ∧ Below w.heap.size w wr) (fun i _ => n - (intOf i).toNat)
  case atStart => exact ⟨0, by omega, rfl, HO.out, HB.out⟩
  case round =>
    obtain ⟨k, hk, rfl, ho, hb⟩ := hrel
    by_cases hlt : k < n
    · obtain ⟨b, off, rfl, hbl, hc⟩ := (HX.out.keep (Nat.le_refl _) hb).2 (by omega)
      have q1 := hc k hlt
      obtain ⟨b', off', hA', hbl', _⟩ := HX.out.2 (by omega)
      injection hA' with hA'
      injection hA' with hA1 hA2
      subst hA1 hA2
      obtain ⟨g, hg0, _, _, hcl, hfr⟩ := own_form ho (by omega)
      injection hg0 with hg0
      injection hg0 with hg0 _
      subst hg0
      have q2 := hcl k hlt
      have q3 := hfr k
      have hki : (k : Int) < (n : Int) := by omega
      have hk0 : (0 : Int) ≤ (k : Int) := by omega
      have HN := Lib.hid (ho.stored k (xs.getD k 0))
      have HM := Lib.hid (mixZ_step xs n k HX.out.1 hlt)
      have HB2 := Lib.hid (hb.setCell (p := ⟨w.heap.size, k, none⟩) (Nat.le_refl _) (.int .i64 (xs.getD k 0)))
      have hne : b ≠ w.heap.size := by omega
      clear hc hcl hfr ho hb
      generalize (xs.take k ++ List.replicate (n - k) 0).getD k 0 = u at *
      generalize xs.getD k 0 = x at *
      go_wp2_with (fail)
      go_roundw
      case rel => exact ⟨k + 1, by omega, by go_num, by rw [← HM.out]; exact HN.out, HB2.out⟩
      case measure => simp [intOf]; omega
    · obtain rfl : k = n := by omega
      have HF : Hid (RetO w 2 xs (.returned (.slice (some ⟨w.heap.size, 0, none⟩) k k)) wr) := by
        have h := ho
        rw [List.take_of_length_le (by rw [HX.out.1]; exact Nat.le_refl _), Nat.sub_self, List.replicate_zero, List.append_nil] at h
        exact RetO.mk h hb
      clear ho hb
      go_wp2_with (fail)
      go_ret
      exact HF.out

/-- A call hands back a board of the call's own. -/
def RetBd (w : World) (own other : List Int) (en : Ending) (w' : World) : Prop := ∃ A1 c1 A2 c2, en = .returned (.agg #[.slice A1 own.length c1, .slice A2 other.length c2]) ∧
  OwnS w' w.heap.size 2 (.slice A1 own.length c1) own ∧ OwnS w' w.heap.size 2 (.slice A2 other.length c2) other ∧
  ((Value.slice A1 own.length c1).ownBlock = none ∨ (Value.slice A1 own.length c1).ownBlock ≠ (Value.slice A2 other.length c2).ownBlock) ∧ Below w.heap.size w w'

set_option maxRecDepth 100000 in
theorem toBoard_any (A1 A2 : Option Addr) (n1 c1 n2 c2 : Nat) (xs ys : List Int) (w : World) (h1 : SL w A1 n1 xs) (h2 : SL w A2 n2 ys) (hn1 : n1 ≤ 2000000) (hn2 : n2 ≤ 2000000) :
    Calls Tryz.prog 14 #[.agg #[.slice A1 n1 c1, .slice A2 n2 c2]] w (RetBd w xs ys) := by
  have HB : Hid (Below w.heap.size w (((w.alloc (.cells #[.slice A1 n1 c1, .slice A2 n2 c2] 36)).alloc (.cells #[.slice none 0 0, .slice none 0 0] 40)).alloc (.cells #[.slice none 0 0, .slice none 0 0] 40))) := (((Below.refl _ _).alloc (Nat.le_refl _) _).alloc (by simp) _).alloc (by simp; omega) _
  have H1 := Lib.hid (h1.below HB.out)
  have H2 := Lib.hid h2
  clear h1 h2
  go_enter Tryz.func14, Tryz.ntmps14
  go_wp2_with (fail)
  refine (toInt64S_any A1 n1 c1 xs _ H1.out hn1).mono ?_
  rintro e w1 ⟨B1, k1, rfl, ho1, hb1⟩
  obtain ⟨W0, hW0⟩ : ∃ W, W = (((w.alloc (.cells #[.slice A1 n1 c1, .slice A2 n2 c2] 36)).alloc (.cells #[.slice none 0 0, .slice none 0 0] 40)).alloc (.cells #[.slice none 0 0, .slice none 0 0] 40)) := ⟨_, rfl⟩
  rw [← hW0] at hb1 ho1
  have b1 : w1.cell? ⟨w.heap.size, 1, none⟩ = some (.slice A2 n2 c2) := keep_cell (by rw [hW0]; simp [go_sem]) hb1
  have d0 : w1.cell? ⟨w.heap.size + 1 + 1, 0, none⟩ = some (.slice none 0 0) := keep_cell (by rw [hW0]; simp [go_sem]) hb1
  have d1 : w1.cell? ⟨w.heap.size + 1 + 1, 1, none⟩ = some (.slice none 0 0) := keep_cell (by rw [hW0]; simp [go_sem]) hb1
  have e0 : w1.cell? ⟨w.heap.size + 1, 0, none⟩ = some (.slice none 0 0) := keep_cell (by rw [hW0]; simp [go_sem]) hb1
  have e1 : w1.cell? ⟨w.heap.size + 1, 1, none⟩ = some (.slice none 0 0) := keep_cell (by rw [hW0]; simp [go_sem]) hb1
  have fd0 : w1.frozen? ⟨w.heap.size + 1 + 1, 0, none⟩ = false := keep_froz (w := W0) (v := .slice none 0 0) (by rw [hW0]; simp [go_sem]) (by rw [hW0]; simp [go_sem]) hb1
  have fd1 : w1.frozen? ⟨w.heap.size + 1 + 1, 1, none⟩ = false := keep_froz (w := W0) (v := .slice none 0 0) (by rw [hW0]; simp [go_sem]) (by rw [hW0]; simp [go_sem]) hb1
  have fe0 : w1.frozen? ⟨w.heap.size + 1, 0, none⟩ = false := keep_froz (w := W0) (v := .slice none 0 0) (by rw [hW0]; simp [go_sem]) (by rw [hW0]; simp [go_sem]) hb1
  have fe1 : w1.frozen? ⟨w.heap.size + 1, 1, none⟩ = false := keep_froz (w := W0) (v := .slice none 0 0) (by rw [hW0]; simp [go_sem]) (by rw [hW0]; simp [go_sem]) hb1
  have hz0 : w.heap.size + 2 < W0.heap.size := by rw [hW0]; simp
  have HB1 := Lib.hid ((by rw [hW0]; exact HB.out : Below w.heap.size w W0).trans (hb1.mono (by omega)))
  have HO1 := Lib.hid ho1
  have hsz1 := hb1.size
  clear hb1 ho1 hW0 H1 HB
  go_wp2_with (fail)
  have HBs := Lib.hid (HB1.out.setCell (p := ⟨w.heap.size + 1 + 1, 0, none⟩) (by simp; omega) (.slice B1 xs.length k1))
  have HOs := Lib.hid (HO1.out.setLow (a := ⟨w.heap.size + 1 + 1, 0, none⟩) (by exact hz0) (.slice B1 xs.length k1))
  refine (toInt64S_any A2 n2 c2 ys _ (H2.out.keep (Nat.le_refl _) HBs.out) hn2).mono ?_
  rintro e w2 ⟨B2, k2, rfl, ho2, hb2⟩
  have q0 : w2.cell? ⟨w.heap.size + 1 + 1, 0, none⟩ = some (.slice B1 xs.length k1) := keep_cell (by simp [go_sem, d0]) hb2
  have q1 : w2.cell? ⟨w.heap.size + 1 + 1, 1, none⟩ = some (.slice none 0 0) := keep_cell (by simp [go_sem, d1]) hb2
  have r0 : w2.cell? ⟨w.heap.size + 1, 0, none⟩ = some (.slice none 0 0) := keep_cell (by simp [go_sem, e0]) hb2
  have r1 : w2.cell? ⟨w.heap.size + 1, 1, none⟩ = some (.slice none 0 0) := keep_cell (by simp [go_sem, e1]) hb2
  have fq1 : w2.frozen? ⟨w.heap.size + 1 + 1, 1, none⟩ = false := keep_froz (v := .slice none 0 0) (by simp [go_sem, fd1]) (by simp [go_sem, d1]) hb2
  have fr0 : w2.frozen? ⟨w.heap.size + 1, 0, none⟩ = false := keep_froz (v := .slice none 0 0) (by simp [go_sem, fe0]) (by simp [go_sem, e0]) hb2
  have fr1 : w2.frozen? ⟨w.heap.size + 1, 1, none⟩ = false := keep_froz (v := .slice none 0 0) (by simp [go_sem, fe1]) (by simp [go_sem, e1]) hb2
  have hsz2 : w1.heap.size ≤ w2.heap.size := by have := hb2.size; simpa using this
  have HF : Hid (RetBd w xs ys (.returned (.agg #[.slice B1 xs.length k1, .slice B2 ys.length k2])) (((w2.setCell ⟨w.heap.size + 1 + 1, 1, none⟩ (.slice B2 ys.length k2)).setCell ⟨w.heap.size + 1, 0, none⟩ (.slice B1 xs.length k1)).setCell ⟨w.heap.size + 1, 1, none⟩ (.slice B2 ys.length k2))) := by
    have hz1 : w.heap.size + 2 < (w1.setCell ⟨w.heap.size + 1 + 1, 0, none⟩ (.slice B1 xs.length k1)).heap.size := by simp; omega
    have hsA : W0.heap.size ≤ (w1.setCell ⟨w.heap.size + 1 + 1, 0, none⟩ (.slice B1 xs.length k1)).heap.size := by simp; omega
    refine ⟨B1, k1, B2, k2, rfl, ?_, ?_, ?_, ?_⟩
    · exact ((((HOs.out.below hb2).setLow (a := ⟨w.heap.size + 1 + 1, 1, none⟩) (by exact hz0) _).setLow (a := ⟨w.heap.size + 1, 0, none⟩) (by show w.heap.size + 1 < W0.heap.size; omega) _).setLow (a := ⟨w.heap.size + 1, 1, none⟩) (by show w.heap.size + 1 < W0.heap.size; omega) _).mono (by omega)
    · exact (((ho2.setLow (a := ⟨w.heap.size + 1 + 1, 1, none⟩) (by exact hz1) _).setLow (a := ⟨w.heap.size + 1, 0, none⟩) (Nat.lt_trans (by show w.heap.size + 1 < w.heap.size + 2; omega) hz1) _).setLow (a := ⟨w.heap.size + 1, 1, none⟩) (Nat.lt_trans (by show w.heap.size + 1 < w.heap.size + 2; omega) hz1) _).mono (by omega)
    · exact own_apart HOs.out ho2 (Nat.le_refl _)
    · exact ((((HBs.out.trans (hb2.mono (by omega))).setCell (by simp; omega) _).setCell (by simp) _).setCell (by simp) _)
  clear hb2 ho2 hsz1 hsz2
  go_wp2_with (fail)
  exact bodyPost_ret (v := .agg #[.slice B1 xs.length k1, .slice B2 ys.length k2]) (by simp [results, Tryz.results14, go_sem, r0, r1]) rfl HF.out
end Go.Proofs.YtchaenamdpikpaaGreat

/- Contracts of what the laws do with results: they are held against each other, marked, and looked at again. There are no conditions. -/
namespace Go.Proofs.YtchaenamdpikpaaGreat
set_option linter.unusedVariables false
set_option linter.unusedSimpArgs false
open Go.RowKit


theorem eqInt64S_yes (A1 A2 : Option Addr) (n c1 c2 : Nat) (xs : List Int) (w : World) (h1 : SL w A1 n xs) (h2 : SL w A2 n xs) (hn : n ≤ 2000000) :
    Calls Tryz.prog 40 #[.slice A1 n c1, .slice A2 n c2] w fun e w' => e = .returned (.bool true) ∧ Below w.heap.size w w' := by
  have H1 := Lib.hid h1
  have H2 := Lib.hid h2
  clear h1 h2
  have hne : ((n : Int) != (n : Int)) = false := by simp
  go_enter Tryz.func40, Tryz.ntmps40
  go_wp2_with (fail)
  go_loopw [5] (fun i wr => ∃ k : Nat, k ≤ n ∧ i = .int .i64 k ∧ Below w.heap.size w wr) (fun i _ => n - (intOf i).toNat)
  case atStart => exact ⟨0, by omega, rfl, Below.refl _ _⟩
  case round =>
    obtain ⟨k, hk, rfl, hb⟩ := hrel
    by_cases hlt : k < n
    · obtain ⟨x1, o1, rfl, hb1, hc1⟩ := (H1.out.keep (Nat.le_refl _) hb).2 (by omega)
      obtain ⟨x2, o2, rfl, hb2, hc2⟩ := (H2.out.keep (Nat.le_refl _) hb).2 (by omega)
      have q1 := hc1 k hlt
      have q2 := hc2 k hlt
      have hki : (k : Int) < (n : Int) := by omega
      have hk0 : (0 : Int) ≤ (k : Int) := by omega
      clear hc1 hc2
      generalize xs.getD k 0 = u at *
      go_wp2_with (fail)
      refine wp_region_more (by kernel_rfl) (by kernel_rfl) ?_
      repeat (first | go_big_quiet_step ((fail)) | quiet_step ((fail)))
      refine wpQuiet_nil ?_
      intro _ hw'
      obtain ⟨tq, hw''⟩ := hw'
      subst hw''
      have hbm := below_more wr tq
      go_wp2
      go_roundw
      case rel => exact ⟨k + 1, by omega, by go_num, hb.trans (hbm.mono hb.size)⟩
      case measure => simp [intOf]; omega
    · go_wp2
      go_ret
      exact ⟨rfl, hb⟩

set_option maxRecDepth 100000 in
theorem eqBoard_yes (A1 A2 B1 B2 : Option Addr) (n1 c1 n2 c2 d1 d2 : Nat) (xs ys : List Int) (w : World) (h1 : SL w A1 n1 xs) (h2 : SL w A2 n2 ys) (k1 : SL w B1 n1 xs) (k2 : SL w B2 n2 ys) (hn1 : n1 ≤ 2000000) (hn2 : n2 ≤ 2000000) :
    Calls Tryz.prog 17 #[.agg #[.slice A1 n1 c1, .slice A2 n2 c2], .agg #[.slice B1 n1 d1, .slice B2 n2 d2]] w fun e w' => e = .returned (.bool true) ∧ Below w.heap.size w w' := by
  have HB : Hid (Below w.heap.size w ((w.alloc (.cells #[.slice A1 n1 c1, .slice A2 n2 c2] 40)).alloc (.cells #[.slice B1 n1 d1, .slice B2 n2 d2] 40))) := ((Below.refl _ _).alloc (Nat.le_refl _) _).alloc (by simp) _
  have C1 := Lib.hid (eqInt64S_yes A1 B1 n1 c1 d1 xs _ (h1.below HB.out) (k1.below HB.out) hn1)
  have C2 := Lib.hid fun t => eqInt64S_yes A2 B2 n2 c2 d2 ys (more _ t) ((h2.below HB.out).more t) ((k2.below HB.out).more t) hn2
  clear h1 h2 k1 k2
  go_enter Tryz.func17, Tryz.ntmps17
  go_wp2_with (first | (go_at_call_of 40 A1; refine (more_first C1.out).mono ?_; rintro e w' ⟨rfl, t, rfl⟩) | (go_at_call_of 40 A2; refine (more_call (C2.out _)).mono ?_; rintro e w' ⟨rfl, t, rfl⟩))
  go_ret
  exact ⟨rfl, HB.out.trans ((below_more _ _).mono HB.out.size)⟩

/-- The numbers k, k + 1, .. -/
def seqL (k n : Nat) : List Int := (List.range n).map fun i => ((k + i : Nat) : Int)
theorem seqL_length (k n : Nat) : (seqL k n).length = n := by simp [seqL]
theorem seqL_getD (k n i : Nat) (h : i < n) : (seqL k n).getD i 0 = ((k + i : Nat) : Int) := by simp [seqL, List.getD, h]

theorem mixL_step (k : Nat) (xs : List Int) (i : Nat) (h : i < xs.length) : (seqL k i ++ xs.drop i).set i ((k + i : Nat) : Int) = seqL k (i + 1) ++ xs.drop (i + 1) := by
  rw [List.set_append_right _ _ (by rw [seqL_length]; omega), seqL_length, Nat.sub_self, List.drop_eq_getElem_cons h, List.set_cons_zero]
  simp [seqL, List.range_succ]

theorem grown_trans' {a b c : World} {r : Option Nat} (h : a.grownBy b r) (k : b.grownBy c r) : a.grownBy c r :=
  ⟨k.os.trans h.os, k.tape.trans h.tape, k.output.trans h.output, Nat.le_trans h.size k.size, fun i hi hne => (k.block i (Nat.lt_of_lt_of_le hi h.size) hne).trans (h.block i hi hne)⟩

end Go.Proofs.YtchaenamdpikpaaGreat

/- What comes in, opened: slices of integers, slices of boards, desks. There are no conditions. -/
namespace Go.Proofs.YtchaenamdpikpaaGreat
set_option linter.unusedVariables false
set_option linter.unusedSimpArgs false
open Go.ChangeShapes Go.WideShapes Go.ChangeAt Go.RowKit Go.Joins Go.Deep

theorem cellsV : Tryz.prog.cellsOf 34 = 4 := by kernel_rfl
theorem cellsB : Tryz.prog.cellsOf 36 = 2 := by kernel_rfl
theorem cellsS : Tryz.prog.cellsOf 26 = 1 := by kernel_rfl
theorem cellsI : Tryz.prog.cellsOf 2 = 1 := by kernel_rfl

section
variable {H : Type} {enc : TypeId × Value → H} {w : World} {base : Nat} {spare : Nat → Bool} {held : Bool} {fuel : Nat}

theorem fld {t : TypeId} {fs : Array Field} {cs : List Value} {x : DataW H × List MemPlace} (ht : Tryz.prog.underlying t = some (.struct fs)) (h : DataW.trod enc Tryz.prog w base spare held fuel t cs = some x) :
    cs.length = Tryz.prog.cellsOf t ∧ ∃ n, ∀ (i : Nat) (f : Field), fs[i]? = some f → ∃ y, DataW.trod enc Tryz.prog w base spare held n f.type ((cs.drop f.offset).take (Tryz.prog.cellsOf f.type)) = some y := by
  obtain ⟨xs, n, _, _, hl, hx, hf⟩ := DataW.trod_struct ht h
  refine ⟨hl, n, fun i f hi => ?_⟩
  have hlt : i < xs.length := by rw [hx]; exact (Array.getElem?_eq_some_iff.1 hi).1
  exact ⟨_, (hf i f hi).trans (List.getElem?_eq_getElem hlt)⟩

theorem fldT {t : TypeId} {cs : List Value} {y0 : DataW H × List MemPlace} {P : Program} {n : Nat} {t' : TypeId} {cs' : List Value} (h : DataW.trod enc P w base spare held n t cs = some y0) (e1 : t = t') (e2 : cs = cs') : DataW.trod enc P w base spare held n t' cs' = some y0 := by subst e1 e2; exact h

theorem openInt {cs : List Value} {x : DataW H × List MemPlace} (h : DataW.trod enc Tryz.prog w base spare held fuel 2 cs = some x) : ∃ n : Int, cs = [.int .i64 n] ∧ (Lit.int .i64 n).wf = true := by
  obtain ⟨n, h1, _, h2⟩ := DataW.trod_int Tryz.underlying2 h
  exact ⟨n, h1, h2⟩

theorem openSL {cs : List Value} {x : DataW H × List MemPlace} (h : DataW.trod enc Tryz.prog w base spare held fuel 26 cs = some x) :
    ∃ A n c xs, cs = [.slice A n c] ∧ SL w A n xs ∧ n ≤ maxLen ∧ ∀ z ∈ xs, (Lit.int .i64 z).wf = true := by
  rcases open_ints Tryz.underlying26 Tryz.underlying2 cellsI h with ⟨rfl, _⟩ | ⟨a, len, cap, zs, rfl, _, hl, hm, hz, _, hcell, hw⟩
  · exact ⟨none, 0, 0, [], rfl, SL.nil_ _, by simp [maxLen], by simp⟩
  · have hle : len ≤ zs.length := by rw [hz]; split <;> omega
    refine ⟨some a, len, cap, zs.take len, rfl, ⟨by simp; omega, fun hn => ?_⟩, by omega, fun z hz' => hw z (List.mem_of_mem_take hz')⟩
    obtain ⟨b, off, spot⟩ := a
    have h0 := hcell 0 (by omega)
    have hspot : spot = none := by simpa [Addr.add] using World.cell?_spot h0
    subst hspot
    refine ⟨b, off, rfl, World.block_lt_of_cell? w _ h0, fun i hi => ?_⟩
    have h1 := hcell i (by omega)
    rw [add_plain] at h1
    rw [h1]
    simp [List.getD, List.getElem?_take, hi]

set_option maxRecDepth 100000 in
theorem openBoard {cs : List Value} {x : DataW H × List MemPlace} (h : DataW.trod enc Tryz.prog w base spare held fuel 36 cs = some x) :
    ∃ A1 n1 c1 xs A2 n2 c2 ys, cs = [.slice A1 n1 c1, .slice A2 n2 c2] ∧ SL w A1 n1 xs ∧ n1 ≤ maxLen ∧ SL w A2 n2 ys ∧ n2 ≤ maxLen := by
  obtain ⟨hl, n, hf⟩ := fld Tryz.underlying36 h
  obtain ⟨y0, h0⟩ := hf 0 _ rfl
  obtain ⟨y1, h1⟩ := hf 1 _ rfl
  rw [cellsB] at hl
  match cs, hl with
  | [v0, v1], _ =>
    obtain ⟨A1, n1, c1, xs, e1, s1, m1, _⟩ := openSL (fldT h0 (t' := 26) (cs' := [v0]) rfl (by show List.take (Tryz.prog.cellsOf 26) _ = _; rw [cellsS]; rfl))
    obtain ⟨A2, n2, c2, ys, e2, s2, m2, _⟩ := openSL (fldT h1 (t' := 26) (cs' := [v1]) rfl (by show List.take (Tryz.prog.cellsOf 26) _ = _; rw [cellsS]; rfl))
    simp at e1 e2
    subst e1 e2
    exact ⟨A1, n1, c1, xs, A2, n2, c2, ys, rfl, s1, m1, s2, m2⟩

set_option maxRecDepth 100000 in
theorem openVariant {cs : List Value} {x : DataW H × List MemPlace} (h : DataW.trod enc Tryz.prog w base spare held fuel 34 cs = some x) :
    ∃ p c g s : Int, cs = [.int .i64 p, .int .i64 c, .int .i64 g, .int .i64 s] ∧ (Lit.int .i64 p).wf = true ∧ (Lit.int .i64 c).wf = true ∧ (Lit.int .i64 g).wf = true ∧ (Lit.int .i64 s).wf = true := by
  obtain ⟨hl, n, hf⟩ := fld Tryz.underlying34 h
  obtain ⟨y0, h0⟩ := hf 0 _ rfl
  obtain ⟨y1, h1⟩ := hf 1 _ rfl
  obtain ⟨y2, h2⟩ := hf 2 _ rfl
  obtain ⟨y3, h3⟩ := hf 3 _ rfl
  rw [cellsV] at hl
  match cs, hl with
  | [v0, v1, v2, v3], _ =>
    obtain ⟨p, e0, w0⟩ := openInt (fldT h0 (t' := 2) (cs' := [v0]) rfl (by show List.take (Tryz.prog.cellsOf 2) _ = _; rw [cellsI]; rfl))
    obtain ⟨c, e1, w1⟩ := openInt (fldT h1 (t' := 2) (cs' := [v1]) rfl (by show List.take (Tryz.prog.cellsOf 2) _ = _; rw [cellsI]; rfl))
    obtain ⟨g, e2, w2⟩ := openInt (fldT h2 (t' := 2) (cs' := [v2]) rfl (by show List.take (Tryz.prog.cellsOf 2) _ = _; rw [cellsI]; rfl))
    obtain ⟨s, e3, w3⟩ := openInt (fldT h3 (t' := 2) (cs' := [v3]) rfl (by show List.take (Tryz.prog.cellsOf 2) _ = _; rw [cellsI]; rfl))
    simp at e0 e1 e2 e3
    subst e0 e1 e2 e3
    exact ⟨p, c, g, s, rfl, w0, w1, w2, w3⟩

end
end Go.Proofs.YtchaenamdpikpaaGreat

/- Words for the laws' walks: blocks that the law itself has made, copies of arguments, what a drawn region's operations give. No statement is proved here; there are no conditions. -/
namespace Go.Proofs.YtchaenamdpikpaaGreat
set_option linter.unusedVariables false
set_option linter.unusedSimpArgs false
open Go.RowKit

def Bel (a b : World) : Prop := Below a.heap.size a b
theorem Bel.trans {a b c : World} (h : Bel a b) (k : Bel b c) : Bel a c := Below.trans h (Below.mono k (Below.size h))
theorem Bel.rfl' (a : World) : Bel a a := Below.refl _ _
theorem Bel.out {a b : World} (h : Bel a b) : Below a.heap.size a b := h
theorem Bel.drew (a : World) : Bel a { a with drawn := a.drawn + 1 } := ⟨rfl, rfl, rfl, Nat.le_refl _, fun _ _ => rfl⟩
theorem Bel.alloc (a : World) (o : Obj) : Bel a (a.alloc o) := (Below.refl _ _).alloc (Nat.le_refl _) o
/-- Block g of W holds cs and may be written. -/
structure Cel (W : World) (g : Nat) (cs : List Value) : Prop where
  lt : g < W.heap.size
  cell : ∀ i x, cs[i]? = some x → W.cell? ⟨g, i, none⟩ = some x
  froz : ∀ i x, cs[i]? = some x → W.frozen? ⟨g, i, none⟩ = false
theorem Cel.below {W W' : World} {g : Nat} {cs : List Value} (h : Cel W g cs) (hb : Below W.heap.size W W') : Cel W' g cs :=
  ⟨Nat.lt_of_lt_of_le h.lt hb.size, fun i x hx => keep_cell (h.cell i x hx) hb, fun i x hx => keep_froz (h.froz i x hx) (h.cell i x hx) hb⟩
theorem Cel.alloc {W : World} {g : Nat} {cs : List Value} (h : Cel W g cs) (o : Obj) : Cel (W.alloc o) g cs := h.below (Bel.alloc W o)
theorem Cel.drew {W : World} {g : Nat} {cs : List Value} (h : Cel W g cs) : Cel W.drew g cs := ⟨h.lt, h.cell, h.froz⟩
theorem Cel.new (W : World) (cs : Array Value) (T : TypeId) : Cel (W.alloc (.cells cs T)) W.heap.size cs.toList := by
  have h := (Fr.start W).allocT (by simp) cs T
  exact ⟨by simp, fun i x hx => h.cellA 0 i rfl (by simpa [frAt] using hx), fun i x hx => h.frozA 0 i rfl (by simpa [frAt] using hx)⟩
theorem Cel.new' (W : World) (cs : Array Value) (T : TypeId) {g : Nat} (hg : g = W.heap.size) : Cel (W.alloc (.cells cs T)) g cs.toList := by subst hg; exact Cel.new W cs T
theorem Cel.at {W : World} {g : Nat} {cs : List Value} (h : Cel W g cs) (i : Nat) {x : Value} (hx : cs[i]? = some x) : W.cell? ⟨g, i, none⟩ = some x := h.cell i x hx
/-- A store into a block. -/
theorem Cel.st {W : World} {g : Nat} {cs : List Value} (h : Cel W g cs) {i : Nat} {v : Value} (hi : i < cs.length) : Cel (W.setCell ⟨g, i, none⟩ v) g (cs.set i v) := by
  have hc : W.cell? ⟨g, i, none⟩ = some cs[i] := h.cell i _ (List.getElem?_eq_getElem hi)
  refine ⟨by simpa using h.lt, fun j x hx => ?_, fun j x hx => ?_⟩
  · by_cases e : j = i
    · subst e
      rw [List.getElem?_set_self hi] at hx
      injection hx with hx; subst hx
      simp [go_sem, hc]
    · rw [List.getElem?_set_ne (Ne.symm e)] at hx
      have := h.cell j x hx
      simp [go_sem, e, this]
  · by_cases e : j = i
    · subst e
      have := h.froz j _ (List.getElem?_eq_getElem hi)
      simpa [go_sem] using this
    · rw [List.getElem?_set_ne (Ne.symm e)] at hx
      have := h.froz j x hx
      simpa [go_sem] using this
/-- A store into another block. -/
theorem Cel.far {W : World} {g b i : Nat} {v : Value} {cs : List Value} (h : Cel W g cs) (hne : g ≠ b) : Cel (W.setCell ⟨b, i, none⟩ v) g cs := by
  refine ⟨by simpa using h.lt, fun j x hx => ?_, fun j x hx => ?_⟩
  · have := h.cell j x hx
    simp [go_sem, hne, this]
  · have := h.froz j x hx
    simpa [go_sem] using this

theorem more_bel {W w' : World} (h : ∃ t, w' = more W t) : Below W.heap.size W w' := by obtain ⟨t, rfl⟩ := h; exact below_more _ _
/-! ### what the operations of a drawn region give -/
abbrev RP : Type := Value → World → Prop
def Stb (P : RP) : Prop := ∀ v W W', P v W → Bel W W' → P v W'
def GL (l : List RP) (i : Nat) (v : Value) (W : World) : Prop := (l.getD i (fun _ _ => True)) v W
inductive AllStb : List RP → Prop
  | nil : AllStb []
  | cons {P : RP} {l : List RP} : Stb P → AllStb l → AllStb (P :: l)
theorem GL.stab : ∀ {l : List RP}, AllStb l → ∀ i v W W', GL l i v W → Bel W W' → GL l i v W'
  | _, .nil, _, _, _, _, _, _ => trivial
  | _, .cons h _, 0, v, W, W', hg, hb => h v W W' hg hb
  | _, .cons _ h, i + 1, v, W, W', hg, hb => GL.stab h i v W W' hg hb
def Eqv (x : Value) : RP := fun v _ => v = x
theorem stb_eq (x : Value) : Stb (Eqv x) := fun _ _ _ h _ => h
/-- A copy of a list. -/
def Cpy (xs : List Int) : RP := fun v W => ∃ X k, v = .slice X xs.length k ∧ SL W X xs.length xs ∧ xs.length ≤ k
theorem stb_cpy (xs : List Int) : Stb (Cpy xs) := fun _ _ _ ⟨X, k, h1, h2, h3⟩ hb => ⟨X, k, h1, h2.below hb, h3⟩
/-- A block of the region's own. -/
def Alc (lo : Nat) (cs : List Value) : RP := fun v W => ∃ g, v = .pointer (some ⟨g, 0, none⟩) ∧ lo ≤ g ∧ Cel W g cs
theorem stb_alc (lo : Nat) (cs : List Value) : Stb (Alc lo cs) := fun _ _ _ ⟨g, h1, h2, h3⟩ hb => ⟨g, h1, h2, h3.below hb⟩
theorem alc_new {lo : Nat} (W : World) (cs : Array Value) (T : TypeId) (h : lo ≤ W.heap.size) : Alc lo cs.toList (.pointer (some ⟨W.heap.size, 0, none⟩)) (W.alloc (.cells cs T)) := ⟨_, rfl, h, Cel.new W cs T⟩
/-- Anything. -/
def Any : RP := fun _ _ => True
theorem stb_any : Stb Any := fun _ _ _ _ _ => trivial
end Go.Proofs.YtchaenamdpikpaaGreat

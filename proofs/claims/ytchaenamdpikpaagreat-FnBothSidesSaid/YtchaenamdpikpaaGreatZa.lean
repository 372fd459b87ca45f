/- Joined texts of one proof: Base, A1, A2, A3, A4, Base2. Each part tells what it shows. There are no conditions. -/
import Derived.WalkKit
import Derived.WalkSpells
import Derived.WalkLawsBesides
import Derived.WalkSmall
import Derived.Lib.Hide
import Derived.Laws.OwnMore
import Derived.Deep.QuietTactic
import Derived.BigQuiet
import Derived.Deep.Draws
import Derived.Deep.RegionWith
import Derived.Test.YtchaenamdpikpaaGreatChecked
import Derived.Test.YtchaenamdpikpaaGreatZp
import Derived.Laws.AppendOwnNone
import Derived.Laws.StructEq
import Derived.Deep.RegionHeld3
import Derived.Deep.DrawnRows
import Derived.RegionTactic

/- Words for memory that all walks of this family use: a slice of integers that reads as a list, slices of boards, and what keeps them. No statement is proved here; there are no conditions. -/
namespace Go.Proofs.YtchaenamdpikpaaGreat
set_option linter.unusedVariables false
set_option linter.unusedSimpArgs false
open Go.RowKit

/-- The slice value '.slice A n c' of 64-bit integers reads as xs in w. -/
def SL (w : World) (A : Option Addr) (n : Nat) (xs : List Int) : Prop :=
  xs.length = n ∧ (0 < n → ∃ b off, A = some ⟨b, off, none⟩ ∧ b < w.heap.size ∧ ∀ i, i < n → w.cell? ⟨b, off + i, none⟩ = some (.int .i64 (xs.getD i 0)))

/-- The slice value reads as xs, and its memory is a block of the call's own, from 'base' on. -/
def OwnS (w : World) (base : Nat) (e : TypeId) (v : Value) (xs : List Int) : Prop := w.ownsRow base e 1 v xs.length (xs.map (Value.int .i64))

section
variable {w w' : World} {A : Option Addr} {n : Nat} {xs : List Int}

theorem SL.len (h : SL w A n xs) : xs.length = n := h.1
theorem SL.nil_ (w : World) : SL w none 0 [] := ⟨rfl, fun h => absurd h (by omega)⟩
theorem SL.empty (w : World) (A : Option Addr) : SL w A 0 [] := ⟨rfl, fun h => absurd h (by omega)⟩

theorem SL.cells (h : SL w A n xs) (hn : 0 < n) : ∃ b off, A = some ⟨b, off, none⟩ ∧ b < w.heap.size ∧ ∀ i, i < n → w.cell? ⟨b, off + i, none⟩ = some (.int .i64 (xs.getD i 0)) := h.2 hn

theorem SL.keep {B : Nat} (h : SL w A n xs) (hw : w.heap.size ≤ B) (hb : Below B w w') : SL w' A n xs :=
  ⟨h.1, fun hn => by
    obtain ⟨b, off, hA, hlt, hc⟩ := h.2 hn
    exact ⟨b, off, hA, Nat.lt_of_lt_of_le hlt hb.size, fun i hi => (hb.cell (p := ⟨b, off + i, none⟩) (Nat.lt_of_lt_of_le hlt hw)).trans (hc i hi)⟩⟩

theorem SL.below (h : SL w A n xs) (hb : Below w.heap.size w w') : SL w' A n xs := h.keep (Nat.le_refl _) hb
theorem SL.drew (h : SL w A n xs) : SL w.drew A n xs := h
theorem SL.drewN (h : SL w A n xs) (k : Nat) : SL (w.drewN k) A n xs := h
theorem SL.alloc (h : SL w A n xs) (o : Obj) : SL (w.alloc o) A n xs := h.below ((Below.refl _ _).alloc (Nat.le_refl _) o)

theorem getD_map_int (xs : List Int) (i : Nat) (h : i < xs.length) : (xs.map (Value.int .i64))[i]? = some (.int .i64 (xs.getD i 0)) := by
  simp [List.getD, h]

theorem OwnS.read {base : Nat} {e : TypeId} {v : Value} (h : OwnS w base e v xs) : ∃ A c, v = .slice A xs.length c ∧ SL w A xs.length xs ∧ xs.length ≤ c := by
  obtain ⟨h1, h2⟩ := h
  rcases h2 with ⟨rfl, h0⟩ | ⟨g, cap, cur, rfl, hb, hh, hnc, hcm, hcs, ht⟩
  · exact ⟨none, 0, by rw [h0], by rw [List.eq_nil_of_length_eq_zero h0]; exact SL.nil_ _, by omega⟩
  · refine ⟨_, _, rfl, ⟨rfl, fun hn => ⟨g, 0, rfl, (Array.getElem?_eq_some_iff.1 hh).1, fun i hi => ?_⟩⟩, hnc⟩
    have hown : w.ownsRow base e 1 (.slice (some ⟨g, 0, none⟩) xs.length cap) xs.length (xs.map (Value.int .i64)) := ⟨h1, .inr ⟨g, cap, cur, rfl, hb, hh, hnc, hcm, hcs, ht⟩⟩
    rw [Nat.zero_add, hown.cellAt i (by omega), getD_map_int xs i hi]

theorem SL.cut (h : SL w A n xs) {k cap : Nat} (hk : k ≤ n) (hc : n ≤ cap) : SL w (if cap = k then A else A.map (·.add k)) (n - k) (xs.drop k) := by
  refine ⟨by rw [List.length_drop, h.1], fun hn => ?_⟩
  obtain ⟨b, off, rfl, hlt, hcell⟩ := h.2 (by omega)
  rw [if_neg (by omega)]
  refine ⟨b, off + k, by simp [Addr.add_lit], hlt, fun i hi => ?_⟩
  rw [Nat.add_assoc, hcell (k + i) (by omega)]
  simp [List.getD, List.getElem?_drop]
end

theorem bcell {W w1 : World} (hb : Below W.heap.size W w1) : (∀ b o, b < W.heap.size → w1.cell? ⟨b, o, none⟩ = W.cell? ⟨b, o, none⟩) ∧ (∀ b o, b < W.heap.size → w1.frozen? ⟨b, o, none⟩ = W.frozen? ⟨b, o, none⟩) :=
  ⟨fun b o h => hb.cell (p := ⟨b, o, none⟩) h, fun b o h => hb.frozen (p := ⟨b, o, none⟩) h⟩

theorem ret_int {k : IntKind} {a b : Int} (h : a = b) : Ending.returned (.int k a) = .returned (.int k b) := by rw [h]
theorem ret_bool {a b : Bool} (h : a = b) : Ending.returned (.bool a) = .returned (.bool b) := by rw [h]

theorem below_drewN' {B : Nat} {a w : World} (h : Below B a w) (n : Nat) : Below B a (w.drewN n) := ⟨h.os, h.tape, h.output, h.size, h.block⟩


/-! ### the worlds that have only more blocks than w: a class for regions that draw their order and hold calls that make memory -/
open Classical in
noncomputable def more (w t : World) : World := if Below w.heap.size w t then t else w

theorem below_more (w t : World) : Below w.heap.size w (more w t) := by
  unfold more
  split
  · assumption
  · exact Below.refl _ _
theorem more_of {w w' : World} (h : Below w.heap.size w w') : ∃ t, w' = more w t := ⟨w', by unfold more; rw [if_pos h]⟩
theorem cell_more (w t : World) (a : Addr) (h : a.block < w.heap.size) : (more w t).cell? a = w.cell? a := (below_more w t).cell h
theorem frozen_more (w t : World) (a : Addr) (h : a.block < w.heap.size) : (more w t).frozen? a = w.frozen? a := (below_more w t).frozen h
theorem size_more (w t : World) : w.heap.size ≤ (more w t).heap.size := (below_more w t).size

section
variable {P : Program}
theorem wp_region_more {id : Nat} {Q : Exit → Act → World → Prop} {a : Act} {w : World} {l : List Oper} (hm : P.follows .mixedOrders = true) (hB : Region.lexB .any l.toArray = true)
    (h : wpQuiet P l.toArray (fun w' => ∃ t, w' = more w t) (fun a' => ∀ w', (∃ t, w' = more w t) → Q .normal a' w') l a) : (Code.region id l.toArray true).wp P Q a w :=
  wp_region_quiet (C := fun w' => ∃ t, w' = more w t) hm hB (more_of ⟨rfl, rfl, rfl, Nat.le_refl _, fun _ _ => rfl⟩) (by simpa using h)

theorem more_call {f : FuncId} {args : Array Value} {w t : World} {v : Value}
    (h : Calls P f args (more w t) fun e w' => e = .returned v ∧ Below (more w t).heap.size (more w t) w') : Calls P f args (more w t) fun e w'' => e = .returned v ∧ ∃ m, w'' = more w m :=
  h.mono fun _ _ ⟨he, hm⟩ => ⟨he, more_of ((below_more w t).trans (hm.mono (size_more w t)))⟩
theorem more_first {f : FuncId} {args : Array Value} {w : World} {v : Value}
    (h : Calls P f args w fun e w' => e = .returned v ∧ Below w.heap.size w w') : Calls P f args w fun e w'' => e = .returned v ∧ ∃ m, w'' = more w m :=
  h.mono fun _ _ ⟨he, hm⟩ => ⟨he, more_of hm⟩
theorem more_same {f : FuncId} {args : Array Value} {w t : World} {v : Value}
    (h : Calls P f args (more w t) fun e w' => e = .returned v ∧ more w t = w') : Calls P f args (more w t) fun e w'' => e = .returned v ∧ ∃ m, w'' = more w m :=
  h.mono fun _ _ ⟨he, hm⟩ => ⟨he, t, hm.symm⟩
end
theorem lt_more {w t : World} {b : Nat} (h : b < w.heap.size) : (b < (more w t).heap.size) = True := eq_true (Nat.lt_of_lt_of_le h (size_more w t))
theorem more_step {w t w' : World} (h : Below (more w t).heap.size (more w t) w') : ∃ m, w' = more w m := more_of ((below_more w t).trans (h.mono (size_more w t)))
attribute [irreducible] more
attribute [go_sem] cell_more frozen_more lt_more
theorem SL.more {w : World} {A : Option Addr} {n : Nat} {xs : List Int} (h : SL w A n xs) (t : World) : SL (more w t) A n xs := h.below (below_more w t)
end Go.Proofs.YtchaenamdpikpaaGreat

/- Contracts of the small functions of chapters 1 and 7: what is in a range, what a variant, a roll, a seed is. There are no conditions. -/
namespace Go.Proofs.YtchaenamdpikpaaGreat
set_option linter.unusedVariables false
set_option linter.unusedSimpArgs false
open Go.RowKit

def inB (x lo hi : Int) : Bool := decide (lo ≤ x ∧ x ≤ hi)
theorem inB_yes {x lo hi : Int} (h : lo ≤ x ∧ x ≤ hi) : inB x lo hi = true := decide_eq_true h
theorem inB_no {x lo hi : Int} (h : ¬ (lo ≤ x ∧ x ≤ hi)) : inB x lo hi = false := decide_eq_false h


theorem within_any (x lo hi : Int) (w : World) :
    Calls Tryz.prog 88 #[.int .i64 x, .int .i64 lo, .int .i64 hi] w fun e w' => e = .returned (.bool (inB x lo hi)) ∧ w = w' := by
  by_cases h1 : lo ≤ x
  · by_cases h2 : x ≤ hi
    · have H := Lib.hid (inB_yes ⟨h1, h2⟩)
      go_enter Tryz.func88, Tryz.ntmps88
      go_wp2
      go_ret
      exact ⟨by rw [H.out]; rfl, rfl⟩
    · have H := Lib.hid (inB_no (x := x) (lo := lo) (hi := hi) (by omega))
      go_enter Tryz.func88, Tryz.ntmps88
      go_wp2
      go_ret
      exact ⟨by rw [H.out]; rfl, rfl⟩
  · have H := Lib.hid (inB_no (x := x) (lo := lo) (hi := hi) (by omega))
    go_enter Tryz.func88, Tryz.ntmps88
    go_wp2
    go_ret
    exact ⟨by rw [H.out]; rfl, rfl⟩
theorem l01In_any (x lo hi : Int) (w : World) :
    Calls Tryz.prog 49 #[.int .i64 x, .int .i64 lo, .int .i64 hi] w fun e w' => e = .returned (.bool (inB x lo hi)) ∧ w = w' := by
  by_cases h1 : lo ≤ x
  · by_cases h2 : x ≤ hi
    · have H := Lib.hid (inB_yes ⟨h1, h2⟩)
      go_enter Tryz.func49, Tryz.ntmps49
      go_wp2
      go_ret
      exact ⟨by rw [H.out]; rfl, rfl⟩
    · have H := Lib.hid (inB_no (x := x) (lo := lo) (hi := hi) (by omega))
      go_enter Tryz.func49, Tryz.ntmps49
      go_wp2
      go_ret
      exact ⟨by rw [H.out]; rfl, rfl⟩
  · have H := Lib.hid (inB_no (x := x) (lo := lo) (hi := hi) (by omega))
    go_enter Tryz.func49, Tryz.ntmps49
    go_wp2
    go_ret
    exact ⟨by rw [H.out]; rfl, rfl⟩

theorem IsVariant_any (p c h s : Int) (w : World) :
    Calls Tryz.prog 59 #[.agg #[.int .i64 p, .int .i64 c, .int .i64 h, .int .i64 s]] w fun e w' => e = .returned (.bool (isVar p c h s)) ∧ Below w.heap.size w w' := by
  by_cases h1 : 2 ≤ p ∧ p ≤ 24
  · have e1 := inB_yes h1
    by_cases h2 : 1 ≤ c ∧ c ≤ 15
    · have e2 := inB_yes h2
      by_cases h3 : 1 ≤ h ∧ h ≤ p
      · have e3 := inB_yes h3
        by_cases h4 : 1 ≤ s ∧ s ≤ 6
        · have e4 := inB_yes h4
          have H := Lib.hid (isVar_mk ⟨h1.1, h1.2, h2.1, h2.2, h3.1, h3.2, h4⟩)
          go_enter Tryz.func59, Tryz.ntmps59
          go_wp2_with (go_at_call 88; refine (within_any _ _ _ _).mono ?_; rintro e w' ⟨rfl, rfl⟩)
          go_ret
          exact ⟨by rw [H.out]; rfl, (Below.refl _ _).alloc (Nat.le_refl _) _⟩
        · have e4 := inB_no h4
          have H := Lib.hid (isVar_no (p := p) (c := c) (h := h) (s := s) (by omega))
          go_enter Tryz.func59, Tryz.ntmps59
          go_wp2_with (go_at_call 88; refine (within_any _ _ _ _).mono ?_; rintro e w' ⟨rfl, rfl⟩)
          go_ret
          exact ⟨by rw [H.out]; rfl, (Below.refl _ _).alloc (Nat.le_refl _) _⟩
      · have e3 := inB_no h3
        have H := Lib.hid (isVar_no (p := p) (c := c) (h := h) (s := s) (by omega))
        go_enter Tryz.func59, Tryz.ntmps59
        go_wp2_with (go_at_call 88; refine (within_any _ _ _ _).mono ?_; rintro e w' ⟨rfl, rfl⟩)
        go_ret
        exact ⟨by rw [H.out]; rfl, (Below.refl _ _).alloc (Nat.le_refl _) _⟩
    · have e2 := inB_no h2
      have H := Lib.hid (isVar_no (p := p) (c := c) (h := h) (s := s) (by omega))
      go_enter Tryz.func59, Tryz.ntmps59
      go_wp2_with (go_at_call 88; refine (within_any _ _ _ _).mono ?_; rintro e w' ⟨rfl, rfl⟩)
      go_ret
      exact ⟨by rw [H.out]; rfl, (Below.refl _ _).alloc (Nat.le_refl _) _⟩
  · have e1 := inB_no h1
    have H := Lib.hid (isVar_no (p := p) (c := c) (h := h) (s := s) (by omega))
    go_enter Tryz.func59, Tryz.ntmps59
    go_wp2_with (go_at_call 88; refine (within_any _ _ _ _).mono ?_; rintro e w' ⟨rfl, rfl⟩)
    go_ret
    exact ⟨by rw [H.out]; rfl, (Below.refl _ _).alloc (Nat.le_refl _) _⟩
theorem sIsVariant_any (p c h s : Int) (w : World) :
    Calls Tryz.prog 46 #[.agg #[.int .i64 p, .int .i64 c, .int .i64 h, .int .i64 s]] w fun e w' => e = .returned (.bool (isVar p c h s)) ∧ Below w.heap.size w w' := by
  by_cases h1 : 2 ≤ p ∧ p ≤ 24
  · have e1 := inB_yes h1
    by_cases h2 : 1 ≤ c ∧ c ≤ 15
    · have e2 := inB_yes h2
      by_cases h3 : 1 ≤ h ∧ h ≤ p
      · have e3 := inB_yes h3
        by_cases h4 : 1 ≤ s ∧ s ≤ 6
        · have e4 := inB_yes h4
          have H := Lib.hid (isVar_mk ⟨h1.1, h1.2, h2.1, h2.2, h3.1, h3.2, h4⟩)
          go_enter Tryz.func46, Tryz.ntmps46
          go_wp2_with (go_at_call 49; refine (l01In_any _ _ _ _).mono ?_; rintro e w' ⟨rfl, rfl⟩)
          go_ret
          exact ⟨by rw [H.out]; rfl, (Below.refl _ _).alloc (Nat.le_refl _) _⟩
        · have e4 := inB_no h4
          have H := Lib.hid (isVar_no (p := p) (c := c) (h := h) (s := s) (by omega))
          go_enter Tryz.func46, Tryz.ntmps46
          go_wp2_with (go_at_call 49; refine (l01In_any _ _ _ _).mono ?_; rintro e w' ⟨rfl, rfl⟩)
          go_ret
          exact ⟨by rw [H.out]; rfl, (Below.refl _ _).alloc (Nat.le_refl _) _⟩
      · have e3 := inB_no h3
        have H := Lib.hid (isVar_no (p := p) (c := c) (h := h) (s := s) (by omega))
        go_enter Tryz.func46, Tryz.ntmps46
        go_wp2_with (go_at_call 49; refine (l01In_any _ _ _ _).mono ?_; rintro e w' ⟨rfl, rfl⟩)
        go_ret
        exact ⟨by rw [H.out]; rfl, (Below.refl _ _).alloc (Nat.le_refl _) _⟩
    · have e2 := inB_no h2
      have H := Lib.hid (isVar_no (p := p) (c := c) (h := h) (s := s) (by omega))
      go_enter Tryz.func46, Tryz.ntmps46
      go_wp2_with (go_at_call 49; refine (l01In_any _ _ _ _).mono ?_; rintro e w' ⟨rfl, rfl⟩)
      go_ret
      exact ⟨by rw [H.out]; rfl, (Below.refl _ _).alloc (Nat.le_refl _) _⟩
  · have e1 := inB_no h1
    have H := Lib.hid (isVar_no (p := p) (c := c) (h := h) (s := s) (by omega))
    go_enter Tryz.func46, Tryz.ntmps46
    go_wp2_with (go_at_call 49; refine (l01In_any _ _ _ _).mono ?_; rintro e w' ⟨rfl, rfl⟩)
    go_ret
    exact ⟨by rw [H.out]; rfl, (Below.refl _ _).alloc (Nat.le_refl _) _⟩

/-- A seed. -/
def seedB (x : Int) : Bool := inB x 1 2147483646
theorem toVariant_any (p c h s : Int) (w : World) :
    Calls Tryz.prog 13 #[.agg #[.int .i64 p, .int .i64 c, .int .i64 h, .int .i64 s]] w fun e w' => e = .returned (.agg #[.int .i64 p, .int .i64 c, .int .i64 h, .int .i64 s]) ∧ Below w.heap.size w w' := by
  go_enter Tryz.func13, Tryz.ntmps13
  go_wp2
  exact bodyPost_ret (v := .agg #[.int .i64 p, .int .i64 c, .int .i64 h, .int .i64 s]) (by simp [results, Tryz.results13, go_sem]) rfl ⟨rfl, (((Below.refl _ _).alloc (Nat.le_refl _) _).alloc (by simp) _).alloc (by simp; omega) _⟩
end Go.Proofs.YtchaenamdpikpaaGreat

/- Contracts of the functions of chapter 2 on sides and boards that only read. There are no conditions. -/
namespace Go.Proofs.YtchaenamdpikpaaGreat
set_option linter.unusedVariables false
set_option linter.unusedSimpArgs false
open Go.RowKit


theorem total_any (A : Option Addr) (n c : Nat) (xs : List Int) (w : World) (h : SL w A n xs) (hp : ∀ x ∈ xs, 0 ≤ x) (hs : xs.sum ≤ 2000000) (hn : n ≤ 2000000) :
    Calls Tryz.prog 26 #[.slice A n c] w fun e w' => e = .returned (.int .i64 xs.sum) ∧ w = w' := by
  have hlen := h.1
  have hp' : ∀ k, 0 ≤ (xs.take k).sum := fun k => sum_take_nonneg xs k hp
  have hs' : ∀ k, (xs.take k).sum ≤ 2000000 := fun k => by have := sum_take_le xs k hp; omega
  have HP := Lib.hid hp'
  have HS := Lib.hid hs'
  have HH := Lib.hid h
  have HL := Lib.hid hlen
  have HP0 := Lib.hid hp
  clear hp' hs' h hlen hs hp
  go_enter Tryz.func26, Tryz.ntmps26
  go_wp2
  go_loop [3, 8] (fun s i => ∃ k : Nat, k ≤ n ∧ i = .int .i64 k ∧ s = .int .i64 (xs.take k).sum) (fun _ i => n - (intOf i).toNat)
  case atStart => exact ⟨0, by omega, rfl, by simp⟩
  case round =>
    obtain ⟨k, hk, rfl, rfl⟩ := hrel
    by_cases hlt : k < n
    · obtain ⟨b, off, rfl, _, hc⟩ := HH.out.2 (by omega)
      have hcell := hc k hlt
      have h1 := HP.out k
      have h2 := HS.out k
      have h3 := HP0.out _ (getD_mem xs k (by rw [HL.out]; exact hlt))
      have h4 := HS.out (k + 1)
      have e := sum_take_succ xs k (by rw [HL.out]; exact hlt)
      have h5 : (xs.take k).sum + xs.getD k 0 ≤ 2000000 := by omega
      have E := Lib.hid e
      clear hc e h4
      generalize xs.getD k 0 = x at *
      go_wp2
      go_round
      case rel => exact ⟨k + 1, by omega, by go_num, by rw [E.out]⟩
      case measure => simp [intOf]; omega
    · go_wp2
      go_ret
      exact ⟨ret_int (by rw [List.take_of_length_le (by rw [HL.out]; omega)]), rfl⟩
theorem l02Sum_any (A : Option Addr) (n c : Nat) (xs : List Int) (w : World) (h : SL w A n xs) (hp : ∀ x ∈ xs, 0 ≤ x) (hs : xs.sum ≤ 2000000) (hn : n ≤ 2000000) :
    Calls Tryz.prog 72 #[.slice A n c] w fun e w' => e = .returned (.int .i64 xs.sum) ∧ w = w' := by
  have hlen := h.1
  have hp' : ∀ k, 0 ≤ (xs.take k).sum := fun k => sum_take_nonneg xs k hp
  have hs' : ∀ k, (xs.take k).sum ≤ 2000000 := fun k => by have := sum_take_le xs k hp; omega
  have HP := Lib.hid hp'
  have HS := Lib.hid hs'
  have HH := Lib.hid h
  have HL := Lib.hid hlen
  have HP0 := Lib.hid hp
  clear hp' hs' h hlen hs hp
  go_enter Tryz.func72, Tryz.ntmps72
  go_wp2
  go_loop [3, 4] (fun s i => ∃ k : Nat, k ≤ n ∧ i = .int .i64 k ∧ s = .int .i64 (xs.take k).sum) (fun _ i => n - (intOf i).toNat)
  case atStart => exact ⟨0, by omega, rfl, by simp⟩
  case round =>
    obtain ⟨k, hk, rfl, rfl⟩ := hrel
    by_cases hlt : k < n
    · obtain ⟨b, off, rfl, _, hc⟩ := HH.out.2 (by omega)
      have hcell := hc k hlt
      have h1 := HP.out k
      have h2 := HS.out k
      have h3 := HP0.out _ (getD_mem xs k (by rw [HL.out]; exact hlt))
      have h4 := HS.out (k + 1)
      have e := sum_take_succ xs k (by rw [HL.out]; exact hlt)
      have h5 : (xs.take k).sum + xs.getD k 0 ≤ 2000000 := by omega
      have E := Lib.hid e
      clear hc e h4
      generalize xs.getD k 0 = x at *
      go_wp2
      go_round
      case rel => exact ⟨k + 1, by omega, by go_num, by rw [E.out]⟩
      case measure => simp [intOf]; omega
    · go_wp2
      go_ret
      exact ⟨ret_int (by rw [List.take_of_length_le (by rw [HL.out]; omega)]), rfl⟩


theorem l02Side_any (A : Option Addr) (n c : Nat) (xs : List Int) (p ch h s : Int) (w : World) (hx : SL w A n xs) (hn : n ≤ 2000000) (hp : 0 ≤ p) (hp2 : p ≤ 1000) (hc : 0 ≤ ch) (hc2 : ch ≤ 15) :
    Calls Tryz.prog 94 #[.agg #[.int .i64 p, .int .i64 ch, .int .i64 h, .int .i64 s], .slice A n c] w fun e w' => e = .returned (.bool (sideB p ch xs)) ∧ Below w.heap.size w w' := by
  have HX := Lib.hid hx
  clear hx
  by_cases hl : (n : Int) = p + 1
  · have hlb : ((n : Int) != p + 1) = false := by simp [hl]
    have HL := Lib.hid hl
    have hn2 : n ≤ 1001 := by omega
    clear hl
    go_enter Tryz.func94, Tryz.ntmps94
    go_wp2_with (fail)
    go_loopw [5] (fun i wr => ∃ k : Nat, k ≤ n ∧ i = .int .i64 k ∧ Hid (∀ x ∈ xs.take k, 0 ≤ x ∧ x ≤ ch) ∧ Below (w.heap.size + 1) (w.alloc (.cells #[.int .i64 p, .int .i64 ch, .int .i64 h, .int .i64 s] 25)) wr) (fun i _ => n - (intOf i).toNat)
    case atStart => exact ⟨0, by omega, rfl, by unfold Hid; simp, Below.refl _ _⟩
    case round =>
      obtain ⟨k, hk, rfl, hall, hb⟩ := hrel
      have hb0 : Below w.heap.size w wr := ((Below.refl _ _).alloc (Nat.le_refl _) _).trans (hb.mono (by omega))
      have hz : w.heap.size < wr.heap.size := by have := hb.size; simp at this; omega
      have HXr := Lib.hid (HX.out.below hb0)
      have c1 : wr.cell? ⟨w.heap.size, 1, none⟩ = some (.int .i64 ch) := by rw [hb.cell (by simp)]; simp [go_sem]
      by_cases hlt : k < n
      · obtain ⟨b, off, rfl, hbl, hcl⟩ := HXr.out.2 (by omega)
        have hcell := hcl k hlt
        have hki : (k : Int) < (n : Int) := by omega
        have hk0 : (0 : Int) ≤ (k : Int) := by omega
        have hlen : k < xs.length := by rw [HX.out.1]; exact hlt
        have HG := Lib.hid (mem_take_getD (P := fun x => 0 ≤ x ∧ x ≤ ch) hall.out hlen)
        have HN := Lib.hid (sideB_neg (p := p) (c := ch) hlen)
        have HA := Lib.hid (sideB_above (p := p) (c := ch) hlen)
        clear hcl hlen
        generalize hxk : xs.getD k 0 = x at *
        clear hxk
        have hb' := hb.mono (Nat.le_refl _)
        by_cases hin : 0 ≤ x ∧ x ≤ ch
        · have e1 := inB_yes hin
          have HG' := HG.out hin
          go_wp2_with (fail)
          refine wp_region_more (by kernel_rfl) (by kernel_rfl) ?_
          repeat (first | go_big_quiet_step ((go_at_call 49; exact more_same (l01In_any _ _ _ _))) | quiet_step ((go_at_call 49; exact more_same (l01In_any _ _ _ _))))
          refine wpQuiet_nil ?_
          intro _ hw'
          obtain ⟨tq, hw''⟩ := hw'
          subst hw''
          have hbm := below_more wr tq
          go_wp2
          go_roundw
          case rel => exact ⟨k + 1, by omega, by go_num, HG', hb.trans (hbm.mono (by omega))⟩
          case measure => simp [intOf]; omega
        · have e1 := inB_no hin
          have HF : Hid (sideB p ch xs = false) := by
            by_cases h0 : x < 0
            · exact HN.out h0
            · exact HA.out (by omega)
          go_wp2_with (fail)
          refine wp_region_more (by kernel_rfl) (by kernel_rfl) ?_
          repeat (first | go_big_quiet_step ((go_at_call 49; exact more_same (l01In_any _ _ _ _))) | quiet_step ((go_at_call 49; exact more_same (l01In_any _ _ _ _))))
          refine wpQuiet_nil ?_
          intro _ hw'
          obtain ⟨tq, hw''⟩ := hw'
          subst hw''
          have hbm := below_more wr tq
          go_wp2
          go_ret
          exact ⟨by rw [HF.out]; rfl, hb0.trans (hbm.mono (by omega))⟩
      · obtain rfl : k = n := by omega
        have hall' := hall.out
        rw [List.take_of_length_le (by rw [HX.out.1]; omega)] at hall'
        have hs0 := sum_nonneg xs fun x hx => (hall' x hx).1
        have hle := sum_le_len xs ch hc fun x hx => (hall' x hx).2
        have hbig : xs.sum ≤ 2000000 := by
          have h1 : (xs.length : Int) * ch ≤ 1001 * 15 := Int.mul_le_mul (by rw [HX.out.1]; omega) hc2 hc (by omega)
          omega
        have HR := Lib.hid fun (hs : xs.sum ≤ ch) => sideB_mk (p := p) (c := ch) ⟨by rw [HX.out.1]; exact HL.out, fun x hx => (hall' x hx).1, hs⟩
        have HR2 := Lib.hid fun (hs : ch < xs.sum) => sideB_sum (p := p) (c := ch) hs
        have HA := Lib.hid fun x hx => (hall' x hx).1
        clear hall hall' hle
        generalize hS : xs.sum = S at *
        have HS := Lib.hid hS
        clear hS
        have CS : ∀ t : World, Calls Tryz.prog 72 #[.slice A k c] (more wr t) fun e w' => e = .returned (.int .i64 S) ∧ more wr t = w' := fun t => by
          have := l02Sum_any A k c xs (more wr t) (HXr.out.more t) HA.out (by rw [HS.out]; exact hbig) hn
          rwa [HS.out] at this
        have CS' := Lib.hid CS
        clear CS
        by_cases hs : S ≤ ch
        · have HF := Lib.hid (HR.out hs)
          go_wp2_with (fail)
          refine wp_region_more (by kernel_rfl) (by kernel_rfl) ?_
          repeat (first | go_big_quiet_step ((go_at_call 72; exact more_same (CS'.out _))) | quiet_step ((go_at_call 72; exact more_same (CS'.out _))))
          refine wpQuiet_nil ?_
          intro _ hw'
          obtain ⟨tq, hw''⟩ := hw'
          subst hw''
          have hbm := below_more wr tq
          go_wp2
          go_ret
          exact ⟨by rw [HF.out]; rfl, hb0.trans (hbm.mono (by omega))⟩
        · have HF := Lib.hid (HR2.out (by omega))
          have hd : decide (S ≤ ch) = false := by simp; omega
          go_wp2_with (fail)
          refine wp_region_more (by kernel_rfl) (by kernel_rfl) ?_
          repeat (first | go_big_quiet_step ((go_at_call 72; exact more_same (CS'.out _))) | quiet_step ((go_at_call 72; exact more_same (CS'.out _))))
          refine wpQuiet_nil ?_
          intro _ hw'
          obtain ⟨tq, hw''⟩ := hw'
          subst hw''
          have hbm := below_more wr tq
          go_wp2
          go_ret
          exact ⟨by rw [HF.out]; rfl, hb0.trans (hbm.mono (by omega))⟩
  · have hlb : ((n : Int) != p + 1) = true := by simp [hl]
    have HF := Lib.hid (sideB_len (p := p) (c := ch) (xs := xs) (by rw [HX.out.1]; exact hl))
    clear hl
    go_enter Tryz.func94, Tryz.ntmps94
    go_wp2_with (fail)
    go_ret
    exact ⟨by rw [HF.out]; rfl, (Below.refl _ _).alloc (Nat.le_refl _) _⟩

theorem isSide_any (A : Option Addr) (n c : Nat) (xs : List Int) (p ch h s : Int) (w : World) (hx : SL w A n xs) (hn : n ≤ 2000000) (hp : 0 ≤ p) (hp2 : p ≤ 1000) (hc : 0 ≤ ch) (hc2 : ch ≤ 15) :
    Calls Tryz.prog 74 #[.agg #[.int .i64 p, .int .i64 ch, .int .i64 h, .int .i64 s], .slice A n c] w fun e w' => e = .returned (.bool (sideB p ch xs)) ∧ Below w.heap.size w w' := by
  have HX := Lib.hid hx
  clear hx
  by_cases hl : (n : Int) = p + 1
  · have hlb : ((n : Int) != p + 1) = false := by simp [hl]
    have HL := Lib.hid hl
    have hn2 : n ≤ 1001 := by omega
    clear hl
    go_enter Tryz.func74, Tryz.ntmps74
    go_wp2
    go_loop [5, 18] (fun l i => ∃ k : Nat, k ≤ n ∧ i = .int .i64 k ∧ l = .int .i64 (ch - (xs.take k).sum) ∧ Hid (∀ x ∈ xs.take k, 0 ≤ x) ∧ 0 ≤ (xs.take k).sum ∧ (xs.take k).sum ≤ ch) (fun _ i => n - (intOf i).toNat)
    case atStart => exact ⟨0, by omega, rfl, by simp, by unfold Hid; simp, by simp, by simpa using hc⟩
    case round =>
      obtain ⟨k, hk, rfl, rfl, hall, hs0, hs1⟩ := hrel
      by_cases hlt : k < n
      · obtain ⟨b, off, rfl, hbl, hcl⟩ := HX.out.2 (by omega)
        have hcell := hcl k hlt
        have hlen : k < xs.length := by rw [HX.out.1]; exact hlt
        have HG := Lib.hid (mem_take_getD (P := fun x => 0 ≤ x) hall.out hlen)
        have HN := Lib.hid (sideB_neg (p := p) (c := ch) hlen)
        have HA := Lib.hid (sideB_big (p := p) (c := ch) hlen)
        have HE := Lib.hid (sum_take_succ xs k hlen)
        clear hcl hlen
        generalize hxk : xs.getD k 0 = x at *
        clear hxk
        generalize hsk : (xs.take k).sum = S at *
        clear hsk
        by_cases h0 : x < 0
        · have HF := Lib.hid (HN.out h0)
          go_wp2
          go_ret
          exact ⟨by rw [HF.out]; rfl, (Below.refl _ _).alloc (Nat.le_refl _) _⟩
        · by_cases h1 : ch - S < x
          · have HF := Lib.hid (HA.out (by omega))
            go_wp2
            go_ret
            exact ⟨by rw [HF.out]; rfl, (Below.refl _ _).alloc (Nat.le_refl _) _⟩
          · have HG' := HG.out (by omega)
            go_wp2
            go_round
            case rel => exact ⟨k + 1, by omega, by go_num, by rw [HE.out]; go_num, HG', by rw [HE.out]; omega, by rw [HE.out]; omega⟩
            case measure => simp [intOf]; omega
      · obtain rfl : k = n := by omega
        have hall' := hall.out
        have e : xs.take k = xs := List.take_of_length_le (by rw [HX.out.1]; omega)
        have HF := Lib.hid (sideB_mk (p := p) (c := ch) (xs := xs) ⟨by rw [HX.out.1]; exact HL.out, by rw [e] at hall'; exact hall', by rw [e] at hs1; exact hs1⟩)
        clear e hall' hall
        generalize (xs.take k).sum = S at *
        go_wp2
        go_ret
        exact ⟨by rw [HF.out]; rfl, (Below.refl _ _).alloc (Nat.le_refl _) _⟩
  · have hlb : ((n : Int) != p + 1) = true := by simp [hl]
    have HF := Lib.hid (sideB_len (p := p) (c := ch) (xs := xs) (by rw [HX.out.1]; exact hl))
    clear hl
    go_enter Tryz.func74, Tryz.ntmps74
    go_wp2
    go_ret
    exact ⟨by rw [HF.out]; rfl, (Below.refl _ _).alloc (Nat.le_refl _) _⟩
end Go.Proofs.YtchaenamdpikpaaGreat

/- Contracts of IsBoard, the program's and the reference's. There are no conditions. -/
namespace Go.Proofs.YtchaenamdpikpaaGreat
set_option linter.unusedVariables false
set_option linter.unusedSimpArgs false
open Go.RowKit



set_option maxHeartbeats 1000000 in
theorem IsBoard_any (p ch h s : Int) (A1 A2 : Option Addr) (n1 c1 n2 c2 : Nat) (own other : List Int) (w : World) (h1 : SL w A1 n1 own) (h2 : SL w A2 n2 other) (hn1 : n1 ≤ 2000000) (hn2 : n2 ≤ 2000000) :
    Calls Tryz.prog 36 #[.agg #[.int .i64 p, .int .i64 ch, .int .i64 h, .int .i64 s], .agg #[.slice A1 n1 c1, .slice A2 n2 c2]] w fun e w' => e = .returned (.bool (boardB p ch h s own other)) ∧ Below w.heap.size w w' := by
  have HB : Hid (Below w.heap.size w ((w.alloc (.cells #[.int .i64 p, .int .i64 ch, .int .i64 h, .int .i64 s] 25)).alloc (.cells #[.slice A1 n1 c1, .slice A2 n2 c2] 40))) := ((Below.refl _ _).alloc (Nat.le_refl _) _).alloc (by simp) _
  have H1 := Lib.hid (h1.below HB.out)
  have H2 := Lib.hid (h2.below HB.out)
  clear h1 h2
  by_cases hv : isVar p ch h s = true
  · obtain ⟨hp0, hp24, hc0, hc15, _⟩ := isVar_yes hv
    replace hp0 : 0 ≤ p := by omega
    replace hc0 : 0 ≤ ch := by omega
    by_cases hs1 : sideB p ch own = true
    · by_cases hs2 : sideB p ch other = true
      · obtain ⟨P, rfl⟩ := Int.eq_ofNat_of_zero_le hp0
        obtain ⟨hl1, hq1, hm1⟩ := sideB_yes hs1
        obtain ⟨hl2, hq2, hm2⟩ := sideB_yes hs2
        have e1 : n1 = P + 1 := by rw [← H1.out.1]; omega
        have e2 : n2 = P + 1 := by rw [← H2.out.1]; omega
        have CT1 := Lib.hid fun t => total_any A1 n1 c1 own (more _ t) (H1.out.more t) hq1 (by omega) hn1
        have CT2 := Lib.hid fun t => total_any A2 n2 c2 other (more _ t) (H2.out.more t) hq2 (by omega) hn2
        have g1 := sum_nonneg own hq1
        have g2 := sum_nonneg other hq2
        have HZ := Lib.hid (board_zero (p := P) (c := ch) (h := h) (s := s) (own := own) (other := other))
        have HH := Lib.hid fun k => board_hit (c := ch) (h := h) (s := s) (P := P) (own := own) (other := other) (k := k)
        have HM := Lib.hid (board_mk (s := s) hv hs1 hs2)
        clear hl1 hl2 hm1 hm2 hq1 hq2
        subst e1 e2
        generalize hS1 : own.sum = S1 at *
        generalize hS2 : other.sum = S2 at *
        clear hS1 hS2
        by_cases hz1 : S1 = 0
        · by_cases hz2 : S2 = 0
          · have HF := Lib.hid (HZ.out (by omega))
            have b1 : (S1 == 0) = true := by simp [hz1]
            have b2 : (S2 == 0) = true := by simp [hz2]
            clear hz1 hz2
            go_enter Tryz.func36, Tryz.ntmps36
            go_wp2_with (first | (go_at_call 59; refine (more_first (IsVariant_any _ _ _ _ _)).mono ?_; rintro e w' ⟨rfl, t, rfl⟩) | (go_at_call_of 74 A1; refine (more_call (isSide_any _ _ _ _ _ _ _ _ _ (H1.out.more _) hn1 hp0 (by omega) hc0 hc15)).mono ?_; rintro e w' ⟨rfl, t, rfl⟩) | (go_at_call_of 74 A2; refine (more_call (isSide_any _ _ _ _ _ _ _ _ _ (H2.out.more _) hn2 hp0 (by omega) hc0 hc15)).mono ?_; rintro e w' ⟨rfl, t, rfl⟩) | (go_at_call_of 26 A1; refine (CT1.out _).mono ?_; rintro e w' ⟨rfl, rfl⟩) | (go_at_call_of 26 A2; refine (CT2.out _).mono ?_; rintro e w' ⟨rfl, rfl⟩))
            go_ret
            exact ⟨by rw [HF.out]; rfl, HB.out.trans ((below_more _ _).mono HB.out.size)⟩
          · have hne : S1 + S2 ≠ 0 := by omega
            have HM := Lib.hid (HM.out hne)
            have b1 : (S1 == 0) = true := by simp [hz1]
            have b2 : (S2 == 0) = false := by simp [hz2]
            clear hz1 hz2 hne HZ
            go_enter Tryz.func36, Tryz.ntmps36
            go_wp2_with (first | (go_at_call 59; refine (more_first (IsVariant_any _ _ _ _ _)).mono ?_; rintro e w' ⟨rfl, t, rfl⟩) | (go_at_call_of 74 A1; refine (more_call (isSide_any _ _ _ _ _ _ _ _ _ (H1.out.more _) hn1 hp0 (by omega) hc0 hc15)).mono ?_; rintro e w' ⟨rfl, t, rfl⟩) | (go_at_call_of 74 A2; refine (more_call (isSide_any _ _ _ _ _ _ _ _ _ (H2.out.more _) hn2 hp0 (by omega) hc0 hc15)).mono ?_; rintro e w' ⟨rfl, t, rfl⟩) | (go_at_call_of 26 A1; refine (CT1.out _).mono ?_; rintro e w' ⟨rfl, rfl⟩) | (go_at_call_of 26 A2; refine (CT2.out _).mono ?_; rintro e w' ⟨rfl, rfl⟩))
            go_loop [37] (fun i => ∃ k : Nat, k ≤ P ∧ i = .int .i64 k ∧ Hid (∀ i, i < k → ¬ (0 < own.getD i 0 ∧ 0 < other.getD (P - 1 - i) 0))) (fun i => P - (intOf i).toNat)
            case atStart => exact ⟨0, by omega, rfl, by intro i hi; omega⟩
            case round =>
              obtain ⟨k, hk, rfl, hall⟩ := hrel
              by_cases hlt : k < P
              · obtain ⟨x1, o1, rfl, hb1, hcl1⟩ := (H1.out.more t).2 (by omega)
                obtain ⟨x2, o2, rfl, hb2, hcl2⟩ := (H2.out.more t).2 (by omega)
                have q1 := hcl1 k (by omega)
                have q2 := hcl2 (P - 1 - k) (by omega)
                have HK := Lib.hid (HH.out k hlt)
                have HS : Hid (¬ (0 < own.getD k 0 ∧ 0 < other.getD (P - 1 - k) 0) → ∀ i, i < k + 1 → ¬ (0 < own.getD i 0 ∧ 0 < other.getD (P - 1 - i) 0)) := by
                  intro hn i hi
                  by_cases e : i = k
                  · subst e; exact hn
                  · exact hall.out i (by omega)
                have a0 : (P : Int) - 1 - (k : Int) < (P : Int) + 1 := by omega
                have a1 : 0 ≤ (P : Int) - 1 - (k : Int) := by omega
                have a2 : ((P : Int) - 1 - (k : Int)).toNat = P - 1 - k := by omega
                clear hcl1 hcl2 hall
                generalize own.getD k 0 = u1 at *
                generalize other.getD (P - 1 - k) 0 = u2 at *
                by_cases g1 : 0 < u1
                · by_cases g2 : 0 < u2
                  · have HF := Lib.hid (HK.out g1 g2)
                    go_wp2
                    go_ret
                    exact ⟨by rw [HF.out]; rfl, HB.out.trans ((below_more _ _).mono HB.out.size)⟩
                  · have HS' := HS.out (by omega)
                    go_wp2
                    go_round
                    case rel => exact ⟨k + 1, by omega, by go_num, HS'⟩
                    case measure => simp [intOf]; omega
                · have HS' := HS.out (by omega)
                  go_wp2
                  go_round
                  case rel => exact ⟨k + 1, by omega, by go_num, HS'⟩
                  case measure => simp [intOf]; omega
              · obtain rfl : k = P := by omega
                have HF := Lib.hid (HM.out hall.out)
                go_wp2
                go_ret
                exact ⟨by rw [HF.out]; rfl, HB.out.trans ((below_more _ _).mono HB.out.size)⟩
        · have hne : S1 + S2 ≠ 0 := by omega
          have HM := Lib.hid (HM.out hne)
          have b1 : (S1 == 0) = false := by simp [hz1]
          clear hz1 hne HZ
          go_enter Tryz.func36, Tryz.ntmps36
          go_wp2_with (first | (go_at_call 59; refine (more_first (IsVariant_any _ _ _ _ _)).mono ?_; rintro e w' ⟨rfl, t, rfl⟩) | (go_at_call_of 74 A1; refine (more_call (isSide_any _ _ _ _ _ _ _ _ _ (H1.out.more _) hn1 hp0 (by omega) hc0 hc15)).mono ?_; rintro e w' ⟨rfl, t, rfl⟩) | (go_at_call_of 74 A2; refine (more_call (isSide_any _ _ _ _ _ _ _ _ _ (H2.out.more _) hn2 hp0 (by omega) hc0 hc15)).mono ?_; rintro e w' ⟨rfl, t, rfl⟩) | (go_at_call_of 26 A1; refine (CT1.out _).mono ?_; rintro e w' ⟨rfl, rfl⟩) | (go_at_call_of 26 A2; refine (CT2.out _).mono ?_; rintro e w' ⟨rfl, rfl⟩))
          go_loop [37] (fun i => ∃ k : Nat, k ≤ P ∧ i = .int .i64 k ∧ Hid (∀ i, i < k → ¬ (0 < own.getD i 0 ∧ 0 < other.getD (P - 1 - i) 0))) (fun i => P - (intOf i).toNat)
          case atStart => exact ⟨0, by omega, rfl, by intro i hi; omega⟩
          case round =>
            obtain ⟨k, hk, rfl, hall⟩ := hrel
            by_cases hlt : k < P
            · obtain ⟨x1, o1, rfl, hb1, hcl1⟩ := (H1.out.more t).2 (by omega)
              obtain ⟨x2, o2, rfl, hb2, hcl2⟩ := (H2.out.more t).2 (by omega)
              have q1 := hcl1 k (by omega)
              have q2 := hcl2 (P - 1 - k) (by omega)
              have HK := Lib.hid (HH.out k hlt)
              have HS : Hid (¬ (0 < own.getD k 0 ∧ 0 < other.getD (P - 1 - k) 0) → ∀ i, i < k + 1 → ¬ (0 < own.getD i 0 ∧ 0 < other.getD (P - 1 - i) 0)) := by
                intro hn i hi
                by_cases e : i = k
                · subst e; exact hn
                · exact hall.out i (by omega)
              have a0 : (P : Int) - 1 - (k : Int) < (P : Int) + 1 := by omega
              have a1 : 0 ≤ (P : Int) - 1 - (k : Int) := by omega
              have a2 : ((P : Int) - 1 - (k : Int)).toNat = P - 1 - k := by omega
              clear hcl1 hcl2 hall
              generalize own.getD k 0 = u1 at *
              generalize other.getD (P - 1 - k) 0 = u2 at *
              by_cases g1 : 0 < u1
              · by_cases g2 : 0 < u2
                · have HF := Lib.hid (HK.out g1 g2)
                  go_wp2
                  go_ret
                  exact ⟨by rw [HF.out]; rfl, HB.out.trans ((below_more _ _).mono HB.out.size)⟩
                · have HS' := HS.out (by omega)
                  go_wp2
                  go_round
                  case rel => exact ⟨k + 1, by omega, by go_num, HS'⟩
                  case measure => simp [intOf]; omega
              · have HS' := HS.out (by omega)
                go_wp2
                go_round
                case rel => exact ⟨k + 1, by omega, by go_num, HS'⟩
                case measure => simp [intOf]; omega
            · obtain rfl : k = P := by omega
              have HF := Lib.hid (HM.out hall.out)
              go_wp2
              go_ret
              exact ⟨by rw [HF.out]; rfl, HB.out.trans ((below_more _ _).mono HB.out.size)⟩
      · replace hs2 : sideB p ch other = false := by simpa using hs2
        have HF := Lib.hid (board_noother (h := h) (s := s) (own := own) hs2)
        go_enter Tryz.func36, Tryz.ntmps36
        go_wp2_with (first | (go_at_call 59; refine (more_first (IsVariant_any _ _ _ _ _)).mono ?_; rintro e w' ⟨rfl, t, rfl⟩) | (go_at_call_of 74 A1; refine (more_call (isSide_any _ _ _ _ _ _ _ _ _ (H1.out.more _) hn1 hp0 (by omega) hc0 hc15)).mono ?_; rintro e w' ⟨rfl, t, rfl⟩) | (go_at_call_of 74 A2; refine (more_call (isSide_any _ _ _ _ _ _ _ _ _ (H2.out.more _) hn2 hp0 (by omega) hc0 hc15)).mono ?_; rintro e w' ⟨rfl, t, rfl⟩) | (go_at_call_of 26 A1; refine (CT1.out _).mono ?_; rintro e w' ⟨rfl, rfl⟩) | (go_at_call_of 26 A2; refine (CT2.out _).mono ?_; rintro e w' ⟨rfl, rfl⟩))
        go_ret
        exact ⟨by rw [HF.out]; rfl, HB.out.trans ((below_more _ _).mono HB.out.size)⟩
    · replace hs1 : sideB p ch own = false := by simpa using hs1
      have HF := Lib.hid (board_noown (h := h) (s := s) (other := other) hs1)
      go_enter Tryz.func36, Tryz.ntmps36
      go_wp2_with (first | (go_at_call 59; refine (more_first (IsVariant_any _ _ _ _ _)).mono ?_; rintro e w' ⟨rfl, t, rfl⟩) | (go_at_call_of 74 A1; refine (more_call (isSide_any _ _ _ _ _ _ _ _ _ (H1.out.more _) hn1 hp0 (by omega) hc0 hc15)).mono ?_; rintro e w' ⟨rfl, t, rfl⟩) | (go_at_call_of 74 A2; refine (more_call (isSide_any _ _ _ _ _ _ _ _ _ (H2.out.more _) hn2 hp0 (by omega) hc0 hc15)).mono ?_; rintro e w' ⟨rfl, t, rfl⟩) | (go_at_call_of 26 A1; refine (CT1.out _).mono ?_; rintro e w' ⟨rfl, rfl⟩) | (go_at_call_of 26 A2; refine (CT2.out _).mono ?_; rintro e w' ⟨rfl, rfl⟩))
      go_ret
      exact ⟨by rw [HF.out]; rfl, HB.out.trans ((below_more _ _).mono HB.out.size)⟩
  · replace hv : isVar p ch h s = false := by simpa using hv
    have HF := Lib.hid (board_novar (own := own) (other := other) hv)
    go_enter Tryz.func36, Tryz.ntmps36
    go_wp2_with (first | (go_at_call 59; refine (more_first (IsVariant_any _ _ _ _ _)).mono ?_; rintro e w' ⟨rfl, t, rfl⟩) | (go_at_call_of 74 A1; refine (more_call (isSide_any _ _ _ _ _ _ _ _ _ (H1.out.more _) hn1 hp0 (by omega) hc0 hc15)).mono ?_; rintro e w' ⟨rfl, t, rfl⟩) | (go_at_call_of 74 A2; refine (more_call (isSide_any _ _ _ _ _ _ _ _ _ (H2.out.more _) hn2 hp0 (by omega) hc0 hc15)).mono ?_; rintro e w' ⟨rfl, t, rfl⟩) | (go_at_call_of 26 A1; refine (CT1.out _).mono ?_; rintro e w' ⟨rfl, rfl⟩) | (go_at_call_of 26 A2; refine (CT2.out _).mono ?_; rintro e w' ⟨rfl, rfl⟩))
    go_ret
    exact ⟨by rw [HF.out]; rfl, HB.out.trans ((below_more _ _).mono HB.out.size)⟩


set_option maxHeartbeats 1000000 in
theorem sIsBoard_any (p ch h s : Int) (A1 A2 : Option Addr) (n1 c1 n2 c2 : Nat) (own other : List Int) (w : World) (h1 : SL w A1 n1 own) (h2 : SL w A2 n2 other) (hn1 : n1 ≤ 2000000) (hn2 : n2 ≤ 2000000) :
    Calls Tryz.prog 67 #[.agg #[.int .i64 p, .int .i64 ch, .int .i64 h, .int .i64 s], .agg #[.slice A1 n1 c1, .slice A2 n2 c2]] w fun e w' => e = .returned (.bool (boardB p ch h s own other)) ∧ Below w.heap.size w w' := by
  have HB : Hid (Below w.heap.size w ((w.alloc (.cells #[.int .i64 p, .int .i64 ch, .int .i64 h, .int .i64 s] 25)).alloc (.cells #[.slice A1 n1 c1, .slice A2 n2 c2] 40))) := ((Below.refl _ _).alloc (Nat.le_refl _) _).alloc (by simp) _
  have H1 := Lib.hid (h1.below HB.out)
  have H2 := Lib.hid (h2.below HB.out)
  clear h1 h2
  by_cases hv : isVar p ch h s = true
  · obtain ⟨hp0, hp24, hc0, hc15, _⟩ := isVar_yes hv
    replace hp0 : 0 ≤ p := by omega
    replace hc0 : 0 ≤ ch := by omega
    by_cases hs1 : sideB p ch own = true
    · by_cases hs2 : sideB p ch other = true
      · obtain ⟨P, rfl⟩ := Int.eq_ofNat_of_zero_le hp0
        obtain ⟨hl1, hq1, hm1⟩ := sideB_yes hs1
        obtain ⟨hl2, hq2, hm2⟩ := sideB_yes hs2
        have e1 : n1 = P + 1 := by rw [← H1.out.1]; omega
        have e2 : n2 = P + 1 := by rw [← H2.out.1]; omega
        have CT1 := Lib.hid fun t => l02Sum_any A1 n1 c1 own (more _ t) (H1.out.more t) hq1 (by omega) hn1
        have CT2 := Lib.hid fun t => l02Sum_any A2 n2 c2 other (more _ t) (H2.out.more t) hq2 (by omega) hn2
        have g1 := sum_nonneg own hq1
        have g2 := sum_nonneg other hq2
        have HZ := Lib.hid (board_zero (p := P) (c := ch) (h := h) (s := s) (own := own) (other := other))
        have HH := Lib.hid fun k => board_hit (c := ch) (h := h) (s := s) (P := P) (own := own) (other := other) (k := k)
        have HM := Lib.hid (board_mk (s := s) hv hs1 hs2)
        have hm1' : own.sum ≤ 15 := by omega
        have hm2' : other.sum ≤ 15 := by omega
        clear hl1 hl2 hm1 hm2 hq1 hq2
        subst e1 e2
        generalize hS1 : own.sum = S1 at *
        generalize hS2 : other.sum = S2 at *
        clear hS1 hS2
        have hg1 : S1 ≤ 2000000 := by omega
        have hg2 : S2 ≤ 2000000 := by omega
        by_cases hz : S1 + S2 = 0
        · have HF := Lib.hid (HZ.out hz)
          have b1 : (S1 + S2 == 0) = true := by simp [hz]
          clear hz
          go_enter Tryz.func67, Tryz.ntmps67
          go_wp2_with (fail)
          refine wp_region_more (by kernel_rfl) (by kernel_rfl) ?_
          repeat (first | go_big_quiet_step ((first | (go_at_call 46; exact more_call (sIsVariant_any _ _ _ _ _)) | (go_at_call_of 94 A1; exact more_call (l02Side_any _ _ _ _ _ _ _ _ _ (H1.out.more _) hn1 hp0 (by omega) hc0 hc15)) | (go_at_call_of 94 A2; exact more_call (l02Side_any _ _ _ _ _ _ _ _ _ (H2.out.more _) hn2 hp0 (by omega) hc0 hc15)) | (go_at_call_of 72 A1; exact more_same (CT1.out _)) | (go_at_call_of 72 A2; exact more_same (CT2.out _)))) | quiet_step ((first | (go_at_call 46; exact more_call (sIsVariant_any _ _ _ _ _)) | (go_at_call_of 94 A1; exact more_call (l02Side_any _ _ _ _ _ _ _ _ _ (H1.out.more _) hn1 hp0 (by omega) hc0 hc15)) | (go_at_call_of 94 A2; exact more_call (l02Side_any _ _ _ _ _ _ _ _ _ (H2.out.more _) hn2 hp0 (by omega) hc0 hc15)) | (go_at_call_of 72 A1; exact more_same (CT1.out _)) | (go_at_call_of 72 A2; exact more_same (CT2.out _)))))
          refine wpQuiet_nil ?_
          intro _ hw'
          obtain ⟨t, hw''⟩ := hw'
          subst hw''
          go_wp2
          go_ret
          exact ⟨by rw [HF.out]; rfl, HB.out.trans ((below_more _ _).mono HB.out.size)⟩
        · have HM := Lib.hid (HM.out hz)
          have b1 : (S1 + S2 == 0) = false := by simp [hz]
          clear hz HZ
          go_enter Tryz.func67, Tryz.ntmps67
          go_wp2_with (fail)
          refine wp_region_more (by kernel_rfl) (by kernel_rfl) ?_
          repeat (first | go_big_quiet_step ((first | (go_at_call 46; exact more_call (sIsVariant_any _ _ _ _ _)) | (go_at_call_of 94 A1; exact more_call (l02Side_any _ _ _ _ _ _ _ _ _ (H1.out.more _) hn1 hp0 (by omega) hc0 hc15)) | (go_at_call_of 94 A2; exact more_call (l02Side_any _ _ _ _ _ _ _ _ _ (H2.out.more _) hn2 hp0 (by omega) hc0 hc15)) | (go_at_call_of 72 A1; exact more_same (CT1.out _)) | (go_at_call_of 72 A2; exact more_same (CT2.out _)))) | quiet_step ((first | (go_at_call 46; exact more_call (sIsVariant_any _ _ _ _ _)) | (go_at_call_of 94 A1; exact more_call (l02Side_any _ _ _ _ _ _ _ _ _ (H1.out.more _) hn1 hp0 (by omega) hc0 hc15)) | (go_at_call_of 94 A2; exact more_call (l02Side_any _ _ _ _ _ _ _ _ _ (H2.out.more _) hn2 hp0 (by omega) hc0 hc15)) | (go_at_call_of 72 A1; exact more_same (CT1.out _)) | (go_at_call_of 72 A2; exact more_same (CT2.out _)))))
          refine wpQuiet_nil ?_
          intro _ hw'
          obtain ⟨t, hw''⟩ := hw'
          subst hw''
          go_wp2
          go_loop [5] (fun i => ∃ k : Nat, k ≤ P ∧ i = .int .i64 k ∧ Hid (∀ i, i < k → ¬ (0 < own.getD i 0 ∧ 0 < other.getD (P - 1 - i) 0))) (fun i => P - (intOf i).toNat)
          case atStart => exact ⟨0, by omega, rfl, by intro i hi; omega⟩
          case round =>
            obtain ⟨k, hk, rfl, hall⟩ := hrel
            by_cases hlt : k < P
            · obtain ⟨x1, o1, rfl, hb1, hcl1⟩ := (H1.out.more t).2 (by omega)
              obtain ⟨x2, o2, rfl, hb2, hcl2⟩ := (H2.out.more t).2 (by omega)
              have q1 := hcl1 k (by omega)
              have q2 := hcl2 (P - 1 - k) (by omega)
              have HK := Lib.hid (HH.out k hlt)
              have HS : Hid (¬ (0 < own.getD k 0 ∧ 0 < other.getD (P - 1 - k) 0) → ∀ i, i < k + 1 → ¬ (0 < own.getD i 0 ∧ 0 < other.getD (P - 1 - i) 0)) := by
                intro hn i hi
                by_cases e : i = k
                · subst e; exact hn
                · exact hall.out i (by omega)
              have a0 : (P : Int) - 1 - (k : Int) < (P : Int) + 1 := by omega
              have a1 : 0 ≤ (P : Int) - 1 - (k : Int) := by omega
              have a2 : ((P : Int) - 1 - (k : Int)).toNat = P - 1 - k := by omega
              clear hcl1 hcl2 hall
              generalize own.getD k 0 = u1 at *
              generalize other.getD (P - 1 - k) 0 = u2 at *
              by_cases g1 : 0 < u1
              · by_cases g2 : 0 < u2
                · have HF := Lib.hid (HK.out g1 g2)
                  go_wp2
                  go_ret
                  exact ⟨by rw [HF.out]; rfl, HB.out.trans ((below_more _ _).mono HB.out.size)⟩
                · have HS' := HS.out (by omega)
                  go_wp2
                  go_round
                  case rel => exact ⟨k + 1, by omega, by go_num, HS'⟩
                  case measure => simp [intOf]; omega
              · have HS' := HS.out (by omega)
                go_wp2
                go_round
                case rel => exact ⟨k + 1, by omega, by go_num, HS'⟩
                case measure => simp [intOf]; omega
            · obtain rfl : k = P := by omega
              have HF := Lib.hid (HM.out hall.out)
              go_wp2
              go_ret
              exact ⟨by rw [HF.out]; rfl, HB.out.trans ((below_more _ _).mono HB.out.size)⟩
      · replace hs2 : sideB p ch other = false := by simpa using hs2
        have HF := Lib.hid (board_noother (h := h) (s := s) (own := own) hs2)
        go_enter Tryz.func67, Tryz.ntmps67
        go_wp2_with (fail)
        refine wp_region_more (by kernel_rfl) (by kernel_rfl) ?_
        repeat (first | go_big_quiet_step ((first | (go_at_call 46; exact more_call (sIsVariant_any _ _ _ _ _)) | (go_at_call_of 94 A1; exact more_call (l02Side_any _ _ _ _ _ _ _ _ _ (H1.out.more _) hn1 hp0 (by omega) hc0 hc15)) | (go_at_call_of 94 A2; exact more_call (l02Side_any _ _ _ _ _ _ _ _ _ (H2.out.more _) hn2 hp0 (by omega) hc0 hc15)) | (go_at_call_of 72 A1; exact more_same (CT1.out _)) | (go_at_call_of 72 A2; exact more_same (CT2.out _)))) | quiet_step ((first | (go_at_call 46; exact more_call (sIsVariant_any _ _ _ _ _)) | (go_at_call_of 94 A1; exact more_call (l02Side_any _ _ _ _ _ _ _ _ _ (H1.out.more _) hn1 hp0 (by omega) hc0 hc15)) | (go_at_call_of 94 A2; exact more_call (l02Side_any _ _ _ _ _ _ _ _ _ (H2.out.more _) hn2 hp0 (by omega) hc0 hc15)) | (go_at_call_of 72 A1; exact more_same (CT1.out _)) | (go_at_call_of 72 A2; exact more_same (CT2.out _)))))
        refine wpQuiet_nil ?_
        intro _ hw'
        obtain ⟨t, hw''⟩ := hw'
        subst hw''
        go_wp2
        go_ret
        exact ⟨by rw [HF.out]; rfl, HB.out.trans ((below_more _ _).mono HB.out.size)⟩
    · replace hs1 : sideB p ch own = false := by simpa using hs1
      have HF := Lib.hid (board_noown (h := h) (s := s) (other := other) hs1)
      go_enter Tryz.func67, Tryz.ntmps67
      go_wp2_with (fail)
      refine wp_region_more (by kernel_rfl) (by kernel_rfl) ?_
      repeat (first | go_big_quiet_step ((first | (go_at_call 46; exact more_call (sIsVariant_any _ _ _ _ _)) | (go_at_call_of 94 A1; exact more_call (l02Side_any _ _ _ _ _ _ _ _ _ (H1.out.more _) hn1 hp0 (by omega) hc0 hc15)) | (go_at_call_of 94 A2; exact more_call (l02Side_any _ _ _ _ _ _ _ _ _ (H2.out.more _) hn2 hp0 (by omega) hc0 hc15)) | (go_at_call_of 72 A1; exact more_same (CT1.out _)) | (go_at_call_of 72 A2; exact more_same (CT2.out _)))) | quiet_step ((first | (go_at_call 46; exact more_call (sIsVariant_any _ _ _ _ _)) | (go_at_call_of 94 A1; exact more_call (l02Side_any _ _ _ _ _ _ _ _ _ (H1.out.more _) hn1 hp0 (by omega) hc0 hc15)) | (go_at_call_of 94 A2; exact more_call (l02Side_any _ _ _ _ _ _ _ _ _ (H2.out.more _) hn2 hp0 (by omega) hc0 hc15)) | (go_at_call_of 72 A1; exact more_same (CT1.out _)) | (go_at_call_of 72 A2; exact more_same (CT2.out _)))))
      refine wpQuiet_nil ?_
      intro _ hw'
      obtain ⟨t, hw''⟩ := hw'
      subst hw''
      go_wp2
      go_ret
      exact ⟨by rw [HF.out]; rfl, HB.out.trans ((below_more _ _).mono HB.out.size)⟩
  · replace hv : isVar p ch h s = false := by simpa using hv
    have HF := Lib.hid (board_novar (own := own) (other := other) hv)
    go_enter Tryz.func67, Tryz.ntmps67
    go_wp2_with (fail)
    refine wp_region_more (by kernel_rfl) (by kernel_rfl) ?_
    repeat (first | go_big_quiet_step ((first | (go_at_call 46; exact more_call (sIsVariant_any _ _ _ _ _)) | (go_at_call_of 94 A1; exact more_call (l02Side_any _ _ _ _ _ _ _ _ _ (H1.out.more _) hn1 hp0 (by omega) hc0 hc15)) | (go_at_call_of 94 A2; exact more_call (l02Side_any _ _ _ _ _ _ _ _ _ (H2.out.more _) hn2 hp0 (by omega) hc0 hc15)) | (go_at_call_of 72 A1; exact more_same (CT1.out _)) | (go_at_call_of 72 A2; exact more_same (CT2.out _)))) | quiet_step ((first | (go_at_call 46; exact more_call (sIsVariant_any _ _ _ _ _)) | (go_at_call_of 94 A1; exact more_call (l02Side_any _ _ _ _ _ _ _ _ _ (H1.out.more _) hn1 hp0 (by omega) hc0 hc15)) | (go_at_call_of 94 A2; exact more_call (l02Side_any _ _ _ _ _ _ _ _ _ (H2.out.more _) hn2 hp0 (by omega) hc0 hc15)) | (go_at_call_of 72 A1; exact more_same (CT1.out _)) | (go_at_call_of 72 A2; exact more_same (CT2.out _)))))
    refine wpQuiet_nil ?_
    intro _ hw'
    obtain ⟨t, hw''⟩ := hw'
    subst hw''
    go_wp2
    go_ret
    exact ⟨by rw [HF.out]; rfl, HB.out.trans ((below_more _ _).mono HB.out.size)⟩
end Go.Proofs.YtchaenamdpikpaaGreat

/- Contracts of the functions that make sides: empty and first sides, copies. There are no conditions. -/
namespace Go.Proofs.YtchaenamdpikpaaGreat
set_option linter.unusedVariables false
set_option linter.unusedSimpArgs false
open Go.RowKit

theorem Tryz.infoI : (Tryz.prog.info? 2).map (fun i => (i.zero, i.size, i.bytes)) = some (some (.int .i64 0), 1, 8) := by kernel_rfl

section
variable {w w' : World} {base : Nat} {e : TypeId} {v : Value} {xs : List Int}
theorem own_below {size n : Nat} {cs : List Value} (h : w.ownsRow base e size v n cs) (hb : Below w.heap.size w w') : w'.ownsRow base e size v n cs :=
  h.kept (row := none) ⟨hb.os, hb.tape, hb.output, hb.size, fun k hk _ => hb.block k hk⟩ (by cases hv : v.ownBlock <;> simp)
theorem own_base {size n base' : Nat} {cs : List Value} (h : w.ownsRow base e size v n cs) (hb : base' ≤ base) : w.ownsRow base' e size v n cs := by
  obtain ⟨h1, h2⟩ := h
  refine ⟨h1, ?_⟩
  rcases h2 with h2 | ⟨g, cap, cur, hv, hg, r⟩
  · exact .inl h2
  · exact .inr ⟨g, cap, cur, hv, Nat.le_trans hb hg, r⟩
theorem OwnS.below (h : OwnS w base e v xs) (hb : Below w.heap.size w w') : OwnS w' base e v xs := own_below h hb
theorem OwnS.mono (h : OwnS w base e v xs) {base' : Nat} (hb : base' ≤ base) : OwnS w base' e v xs := own_base h hb
theorem OwnS.sl (h : OwnS w base e v xs) {A : Option Addr} {n c : Nat} (hv : v = .slice A n c) : SL w A n xs ∧ n ≤ c := by
  obtain ⟨A', c', hv', hs, hc⟩ := h.read
  rw [hv'] at hv
  injection hv with h1 h2 h3
  subst h1 h2 h3
  exact ⟨hs, hc⟩
theorem OwnS.lt (h : OwnS w base e v xs) : ∀ k, v.ownBlock = some k → base ≤ k ∧ k < w.heap.size := World.ownsRow.lt h
end

theorem own_form {w : World} {base : Nat} {e : TypeId} {A : Option Addr} {n c : Nat} {xs : List Int} (h : OwnS w base e (.slice A n c) xs) (hn : 0 < n) : ∃ g, A = some ⟨g, 0, none⟩ ∧ base ≤ g ∧ g < w.heap.size ∧
    (∀ j, j < n → w.cell? ⟨g, j, none⟩ = some (.int .i64 (xs.getD j 0))) ∧ (∀ j, w.frozen? ⟨g, j, none⟩ = false) := by
  have hs := (h.sl rfl).1
  obtain ⟨h1, h2⟩ := h
  rcases h2 with ⟨h2, h3⟩ | ⟨g, cap, cur, hv, hb, hh, r⟩
  · have := hs.1; omega
  · injection hv with hv1 hv2 hv3
    subst hv1
    refine ⟨g, rfl, hb, (Array.getElem?_eq_some_iff.1 hh).1, fun j hj => ?_, fun j => frozen_of_row w g j cur e hh⟩
    obtain ⟨b, off, hA, _, hc⟩ := hs.2 hn
    injection hA with hA
    injection hA with hA1 hA2
    subst hA1 hA2
    simpa using hc j hj
theorem OwnS.stored {w : World} {base : Nat} {e : TypeId} {g n c : Nat} {xs : List Int} (h : OwnS w base e (.slice (some ⟨g, 0, none⟩) n c) xs) (j : Nat) (x : Int) :
    OwnS (w.setCell ⟨g, j, none⟩ (.int .i64 x)) base e (.slice (some ⟨g, 0, none⟩) n c) (xs.set j x) := by
  have hn := (h.sl rfl).1.1
  unfold OwnS at h ⊢
  subst hn
  have h1 := (World.ownsRow.stored h j (.int .i64 x)).1
  rw [← List.map_set] at h1
  have e : (xs.set j x).length = xs.length := List.length_set
  rw [e]
  exact h1

theorem keep_cell {w w' : World} {a : Addr} {v : Value} (h : w.cell? a = some v) (hb : Below w.heap.size w w') : w'.cell? a = some v := (hb.cell (World.block_lt_of_cell? w _ h)).trans h
theorem keep_froz {w w' : World} {a : Addr} {v : Value} (hf : w.frozen? a = false) (h : w.cell? a = some v) (hb : Below w.heap.size w w') : w'.frozen? a = false := (hb.frozen (World.block_lt_of_cell? w _ h)).trans hf

/-- A call hands back a slice of the call's own that holds xs; what was there before is as it was. -/
def RetO (w : World) (e : TypeId) (xs : List Int) (en : Ending) (w' : World) : Prop := ∃ A c, en = .returned (.slice A xs.length c) ∧ OwnS w' w.heap.size e (.slice A xs.length c) xs ∧ Below w.heap.size w w'
theorem RetO.mk {w w' : World} {e : TypeId} {xs : List Int} {v : Value} (h : OwnS w' w.heap.size e v xs) (hb : Below w.heap.size w w') : RetO w e xs (.returned v) w' := by
  obtain ⟨A, c, rfl, _⟩ := h.read
  exact ⟨A, c, rfl, h, hb⟩
set_option maxRecDepth 100000 in
theorem Clone_any (A : Option Addr) (n c : Nat) (xs : List Int) (w : World) (hx : SL w A n xs) (hn : n ≤ 2000000) :
    Calls Tryz.prog 111 #[.slice A n c] w (RetO w 2 xs) := by
  obtain ⟨i0, hi, hz0, hz1, hz2⟩ := info_parts Tryz.infoI
  have hq := fun (W : World) => Lib.run_eql_slice_nil (P := Tryz.prog) W 26 2 A n c 0 0 Tryz.underlying26
  have hl := hx.1
  cases A with
  | none =>
    have h0 : xs = [] := by
      rcases Nat.eq_zero_or_pos n with h | h
      · exact List.eq_nil_of_length_eq_zero (by omega)
      · obtain ⟨b, off, h, _⟩ := hx.2 h; cases h
    subst h0
    have H := Lib.hid (RetO.mk (w := w) (w' := w) (e := 2) (xs := []) (v := .slice none 0 0) (World.ownsRow_nil _ _ _ _) (Below.refl _ _))
    clear hx hl
    go_enter Tryz.func111, Tryz.ntmps111
    go_wp2
    go_ret
    exact H.out
  | some a =>
    have hnews : ∀ j u, (xs.map (Value.int .i64))[j]? = some u → w.cell? (a.add j) = some u := by
      intro j u hu
      have hj : j < xs.length := by have := (List.getElem?_eq_some_iff.1 hu).1; simpa using this
      obtain ⟨b, off, h, _, hc⟩ := hx.2 (by omega)
      injection h with h
      subst h
      rw [Addr.add_lit, hc j (by omega), ← getD_map_int xs j hj, hu]
    have HN : Hid (∀ j u, (xs.map (Value.int .i64))[j]? = some u → (w.alloc (.cells #[] 2)).cell? (a.add j) = some u) := by
      intro j u hu
      have h := hnews j u hu
      exact (World.cell?_alloc_lt w _ _ (World.block_lt_of_cell? w _ h)).trans h
    have HO : Hid ((w.alloc (.cells #[] 2)).ownsRow w.heap.size 2 1 (.slice (some ⟨w.heap.size, 0, none⟩) 0 0) 0 []) := World.ownsRow_made w #[] 0 (Nat.le_refl _) (by decide) rfl
    have HL := Lib.hid hl
    clear hx hl hnews
    go_enter Tryz.func111, Tryz.ntmps111
    go_wp2_with (at_builtin; refine wpList_append_own _ rfl _ _ 26 rfl w.heap.size 2 i0 (.int .i64 0) 1 8 Tryz.underlying26 hi hz0 hz1 hz2 rfl (by decide) _ 0 [] rfl HO.out a n c (xs.map (Value.int .i64)) rfl ?c1 HN.out ?c2 ?c3 ?c4 ?c5 ?_)
    case c1 => rw [List.length_map, HL.out, Nat.mul_one]
    case c2 => exact ints_oneCell _ _
    case c3 => unfold maxLen; omega
    case c4 => omega
    case c5 => simp
    · intro v' w1 hown hgrow _
      have hb : Below w.heap.size w w1 := ((Below.refl _ _).alloc (Nat.le_refl _) _).grown hgrow (by simp) (by simp [Value.ownBlock])
      have H : RetO w 2 xs (.returned v') w1 := by
        refine RetO.mk ?_ hb
        unfold OwnS
        rw [HL.out]
        simpa using hown
      have H' := Lib.hid H
      clear H hown hgrow
      go_wp2
      go_ret
      exact H'.out

/-! ### structs held against each other -/
theorem eql_variant (p c h s p' c' h' s' : Int) (w : World) : (binOp .eql 25 (.agg #[.int .i64 p, .int .i64 c, .int .i64 h, .int .i64 s]) (.agg #[.int .i64 p', .int .i64 c', .int .i64 h', .int .i64 s'])).run Tryz.prog w =
    .ok (.bool (decide (p = p' ∧ c = c' ∧ h = h' ∧ s = s'))) w := by
  have u3 := Tryz.underlying2
  have hS : Tryz.prog.underlying 25 = some (.struct (Tryz.prog.fieldsOf 25)) := by kernel_rfl
  have hp : Tryz.prog.stoodInHeld 25 = false := by kernel_rfl
  rw [run_eql_struct, show (10000 : Nat) = 9999 + 1 from rfl, run_equalIn_agg w 9999 25 _ _ hS hp]
  simp only [Program.fieldsOf, Tryz.underlying25]
  go_simp
  by_cases h1 : p = p' <;> by_cases h2 : c = c' <;> by_cases h3 : h = h' <;> by_cases h4 : s = s' <;> simp [h1, h2, h3, h4]

/-! ### the first board -/
def startL (P : Nat) (ch h s : Int) : List Int :=
  if P = 24 ∧ ch = 15 ∧ h = 6 ∧ s = 6 then ((((List.replicate 25 (0 : Int)).set 5 5).set 7 3).set 12 5).set 23 2
  else ((List.replicate (P + 1) (0 : Int)).set (P - 1) (ch / 2)).set (P / 2 - 1) (ch - ch / 2)

theorem OwnS.setLow {w : World} {base : Nat} {e : TypeId} {v : Value} {xs : List Int} (h : OwnS w base e v xs) {a : Addr} (ha : a.block < base) (u : Value) : OwnS (w.setCell a u) base e v xs := ownsRow_setCell_below h ha u
theorem own_apart {w w' : World} {b1 b2 : Nat} {e1 e2 : TypeId} {v1 v2 : Value} {x1 x2 : List Int} (h1 : OwnS w b1 e1 v1 x1) (h2 : OwnS w' b2 e2 v2 x2) (hle : w.heap.size ≤ b2) : v1.ownBlock = none ∨ v1.ownBlock ≠ v2.ownBlock := by
  cases hv1 : v1.ownBlock with
  | none => exact .inl rfl
  | some k =>
    refine .inr ?_
    cases hv2 : v2.ownBlock with
    | none => intro h; cases h
    | some k2 =>
      intro h
      injection h with h
      have := (h1.lt k hv1).2
      have := (h2.lt k2 hv2).1
      omega

/-- A call hands back a board of the call's own, of two slices that share nothing, and a bool or a number behind it. -/
def RetB (w : World) (own other : List Int) (t : List Value) (en : Ending) (w' : World) : Prop := ∃ A1 c1 A2 c2, en = .returned (.tuple (#[.agg #[.slice A1 own.length c1, .slice A2 other.length c2]] ++ t.toArray)) ∧
  OwnS w' w.heap.size 2 (.slice A1 own.length c1) own ∧ OwnS w' w.heap.size 2 (.slice A2 other.length c2) other ∧
  ((Value.slice A1 own.length c1).ownBlock = none ∨ (Value.slice A1 own.length c1).ownBlock ≠ (Value.slice A2 other.length c2).ownBlock) ∧ Below w.heap.size w w'

def board0 : Value := .agg #[.slice none 0 0, .slice none 0 0]
theorem getD_rep (n i : Nat) : (List.replicate n (0 : Int)).getD i 0 = 0 := by
  by_cases h : i < n <;> simp [List.getD, h]
end Go.Proofs.YtchaenamdpikpaaGreat

/- More words for memory: blocks that a call makes behind other calls. There are no conditions. -/
namespace Go.Proofs.YtchaenamdpikpaaGreat
set_option linter.unusedVariables false
set_option linter.unusedSimpArgs false
open Go.RowKit

theorem cell_alloc_lt (w : World) (o : Obj) (a : Addr) (h : a.block < w.heap.size) : (w.alloc o).cell? a = w.cell? a := World.cell?_alloc_lt w o a h
theorem frozen_alloc_lt (w : World) (o : Obj) (a : Addr) (h : a.block < w.heap.size) : (w.alloc o).frozen? a = w.frozen? a := ((Below.refl _ _).alloc (Nat.le_refl _) o).frozen h
theorem lt_more_add {w t : World} {b k : Nat} (h : b < w.heap.size) : (b < (more w t).heap.size + k) = True := eq_true (Nat.lt_of_lt_of_le (Nat.lt_of_lt_of_le h (size_more w t)) (Nat.le_add_right _ _))
theorem ne_more {w t : World} {b : Nat} (h : b < w.heap.size) : (b = (more w t).heap.size) = False := eq_false (by have := size_more w t; omega)
theorem ne_more' {w t : World} {b : Nat} (h : b < w.heap.size) : ((more w t).heap.size = b) = False := eq_false (by have := size_more w t; omega)
theorem ne_more_add {w t : World} {b k : Nat} (h : b < w.heap.size) : (b = (more w t).heap.size + k) = False := eq_false (by have := size_more w t; omega)
theorem ne_more_add' {w t : World} {b k : Nat} (h : b < w.heap.size) : ((more w t).heap.size + k = b) = False := eq_false (by have := size_more w t; omega)
attribute [go_sem] lt_more_add ne_more ne_more' ne_more_add ne_more_add'
theorem cell_more_alloc (w t : World) (o : Obj) (a : Addr) (h : a.block < w.heap.size) : ((more w t).alloc o).cell? a = w.cell? a :=
  (cell_alloc_lt _ o a (Nat.lt_of_lt_of_le h (size_more w t))).trans (cell_more w t a h)
theorem frozen_more_alloc (w t : World) (o : Obj) (a : Addr) (h : a.block < w.heap.size) : ((more w t).alloc o).frozen? a = w.frozen? a :=
  (frozen_alloc_lt _ o a (Nat.lt_of_lt_of_le h (size_more w t))).trans (frozen_more w t a h)
theorem cell_more_alloc2 (w t : World) (o o' : Obj) (a : Addr) (h : a.block < w.heap.size) : (((more w t).alloc o).alloc o').cell? a = w.cell? a :=
  (cell_alloc_lt _ o' a (by have := size_more w t; simp; omega)).trans (cell_more_alloc w t o a h)
theorem frozen_more_alloc2 (w t : World) (o o' : Obj) (a : Addr) (h : a.block < w.heap.size) : (((more w t).alloc o).alloc o').frozen? a = w.frozen? a :=
  (frozen_alloc_lt _ o' a (by have := size_more w t; simp; omega)).trans (frozen_more_alloc w t o a h)
attribute [go_sem] cell_more_alloc frozen_more_alloc cell_more_alloc2 frozen_more_alloc2
theorem OwnS.alloc {w : World} {base : Nat} {e : TypeId} {v : Value} {xs : List Int} (h : OwnS w base e v xs) (o : Obj) : OwnS (w.alloc o) base e v xs := h.below ((Below.refl _ _).alloc (Nat.le_refl _) o)
end Go.Proofs.YtchaenamdpikpaaGreat

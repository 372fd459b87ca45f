/- Contracts of what is a bear-off position, the program's and the reference's. There are no conditions. -/
import Derived.Test.YtlbkfhdnhalpbaaGreatMem
import Derived.Test.YtlbkfhdnhalpbaaGreatN1
namespace Go.Proofs.YtlbkfhdnhalpbaaGreat
set_option linter.unusedVariables false
set_option linter.unusedSimpArgs false
open Go.RowKit Ps

/-- xs is a bear-off position: h numbers, none negative, of sum at most c. -/
def PosI (h c : Int) (xs : List Int) : Prop := (xs.length : Int) = h ∧ (∀ x ∈ xs, 0 ≤ x) ∧ xs.sum ≤ c
instance (h c : Int) (xs : List Int) : Decidable (PosI h c xs) := by unfold PosI; infer_instance
def posB (h c : Int) (xs : List Int) : Bool := decide (PosI h c xs)
theorem posB_yes {h c : Int} {xs : List Int} (H : posB h c xs = true) : PosI h c xs := of_decide_eq_true H
theorem posB_pos {h c : Nat} {xs : List Int} (H : posB h c xs = true) : PosP h c xs := by
  obtain ⟨h1, h2, h3⟩ := posB_yes H
  exact ⟨by omega, h2, h3⟩
theorem posB_len {h c : Int} {xs : List Int} (H : (xs.length : Int) ≠ h) : posB h c xs = false := decide_eq_false fun h => H h.1
theorem posB_neg {h c : Int} {xs : List Int} {x : Int} (hx : x ∈ xs) (h0 : x < 0) : posB h c xs = false := decide_eq_false fun H => by have := H.2.1 x hx; omega
theorem posB_far {h c : Int} {xs : List Int} (k : Nat) (hs : c < (xs.take k).sum) : posB h c xs = false := decide_eq_false fun H => by
  have := sum_take_le xs k H.2.1
  have := H.2.2
  omega
theorem posB_full {h c : Int} {xs : List Int} (hl : (xs.length : Int) = h) (h0 : ∀ x ∈ xs, 0 ≤ x) (hs : xs.sum ≤ c) : posB h c xs = true := decide_eq_true ⟨hl, h0, hs⟩
theorem mem_take_succ {xs : List Int} {k : Nat} {x : Int} (hk : k < xs.length) (h : x ∈ xs.take (k + 1)) : x ∈ xs.take k ∨ x = xs.getD k 0 := by
  rw [List.take_succ_eq_append_getElem hk] at h
  rcases List.mem_append.1 h with h | h
  · exact .inl h
  · right; simpa [List.getD, hk] using h

set_option maxRecDepth 10000 in
theorem isBearoff_any (p c h s : Int) (A : Option Addr) (n cp : Nat) (xs : List Int) (w : World) (hx : SL w A n xs) (hc1 : 0 ≤ c) (hc2 : c ≤ 15) (hh : h ≤ 24) :
    Calls Tryz.prog 116 #[.agg #[.int .i64 p, .int .i64 c, .int .i64 h, .int .i64 s], .slice A n cp] w fun e w' => e = .returned (.bool (posB h c xs)) ∧ Below w.heap.size w w' := by
  have HB : Hid (Below w.heap.size w (w.alloc (.cells #[.int .i64 p, .int .i64 c, .int .i64 h, .int .i64 s] 29))) := (Below.refl _ _).alloc (Nat.le_refl _) _
  have hl : xs.length = n := hx.1
  have HX := Lib.hid (hx.alloc (.cells #[.int .i64 p, .int .i64 c, .int .i64 h, .int .i64 s] 29))
  have HL := Lib.hid hl
  clear hx hl
  by_cases hn : (n : Int) = h
  · have hn24 : n ≤ 24 := by omega
    have e1 : ((n : Int) != h) = false := by simp [hn]
    have HN := Lib.hid hn
    clear hn
    go_enter Tryz.func116, Tryz.ntmps116
    go_wp2
    go_loop [5, 17] (fun l i => ∃ k : Nat, k ≤ n ∧ i = .int .i64 k ∧ l = .int .i64 (c - (xs.take k).sum) ∧ Hid (∀ x ∈ xs.take k, 0 ≤ x) ∧ Hid ((xs.take k).sum ≤ c) ∧ 0 ≤ (xs.take k).sum) (fun _ i => n - (intOf i).toNat)
    case atStart => exact ⟨0, by omega, rfl, by simp, by unfold Hid; simp, by unfold Hid; simpa using hc1, by simp⟩
    case round =>
      obtain ⟨k, hk, rfl, rfl, h0, hs, hs0⟩ := hrel
      have hs' := hs.out
      by_cases hlt : k < n
      · have hki : (k : Int) < (n : Int) := by omega
        obtain ⟨b, off, rfl, _, hc⟩ := HX.out.2 (by omega)
        have hcell := hc k hlt
        have e := Lib.hid (sum_take_succ xs k (by rw [HL.out]; exact hlt))
        have hm := Lib.hid (getD_mem xs k (by rw [HL.out]; exact hlt))
        have ht : Hid (∀ y, y ∈ xs.take (k + 1) → y ∈ xs.take k ∨ y = xs.getD k 0) := fun y hy => mem_take_succ (by rw [HL.out]; exact hlt) hy
        clear hc
        generalize xs.getD k 0 = x at *
        have E := Lib.hid e.out
        clear e
        generalize (xs.take k).sum = u at *
        by_cases hx0 : x < 0
        · have HR : Hid (posB h c xs = false) := posB_neg hm.out hx0
          have b1 : decide (x < 0) = true := decide_eq_true hx0
          have b2 : inB x 0 (c - u) = false := inB_no (by omega)
          go_wp2_with (fail)
          go_ret
          exact ⟨by rw [HR.out]; rfl, HB.out⟩
        · have b1 : decide (x < 0) = false := decide_eq_false hx0
          by_cases hx1 : c - u < x
          · have HR : Hid (posB h c xs = false) := posB_far (k + 1) (by rw [E.out]; omega)
            have b3 : decide (c - u < x) = true := decide_eq_true hx1
            have b2 : inB x 0 (c - u) = false := inB_no (by omega)
            go_wp2_with (fail)
            go_ret
            exact ⟨by rw [HR.out]; rfl, HB.out⟩
          · have b3 : decide (c - u < x) = false := decide_eq_false hx1
            have b2 : inB x 0 (c - u) = true := inB_yes (by omega)
            go_wp2_with (fail)
            go_round
            case rel => exact ⟨k + 1, by omega, by go_num, by rw [E.out]; go_num, fun y hy => by
                rcases ht.out y hy with h' | h'
                · exact h0.out y h'
                · omega, by unfold Hid; rw [E.out]; omega, by rw [E.out]; omega⟩
            case measure => simp [intOf]; omega
      · have hkn : k = n := by omega
        subst hkn
        have HR : Hid (posB h c xs = true) := by
          have e : xs.take k = xs := List.take_of_length_le (by rw [HL.out]; exact Nat.le_refl _)
          rw [e] at h0 hs
          exact posB_full (by rw [HL.out]; exact HN.out) h0.out hs.out
        go_wp2_with (fail)
        go_ret
        exact ⟨by rw [HR.out]; rfl, HB.out⟩
  · have e1 : ((n : Int) != h) = true := by simp [hn]
    have HR : Hid (posB h c xs = false) := posB_len (by rw [HL.out]; exact hn)
    go_enter Tryz.func116, Tryz.ntmps116
    go_wp2
    go_ret
    exact ⟨by rw [HR.out]; rfl, HB.out⟩
set_option maxRecDepth 10000 in
theorem l10Valid_any (p c h s : Int) (A : Option Addr) (n cp : Nat) (xs : List Int) (w : World) (hx : SL w A n xs) (hc1 : 0 ≤ c) (hc2 : c ≤ 15) (hh : h ≤ 24) :
    Calls Tryz.prog 73 #[.agg #[.int .i64 p, .int .i64 c, .int .i64 h, .int .i64 s], .slice A n cp] w fun e w' => e = .returned (.bool (posB h c xs)) ∧ Below w.heap.size w w' := by
  have HB : Hid (Below w.heap.size w (w.alloc (.cells #[.int .i64 p, .int .i64 c, .int .i64 h, .int .i64 s] 29))) := (Below.refl _ _).alloc (Nat.le_refl _) _
  have hl : xs.length = n := hx.1
  have HX := Lib.hid (hx.alloc (.cells #[.int .i64 p, .int .i64 c, .int .i64 h, .int .i64 s] 29))
  have HL := Lib.hid hl
  clear hx hl
  by_cases hn : (n : Int) = h
  · have hn24 : n ≤ 24 := by omega
    have e1 : ((n : Int) != h) = false := by simp [hn]
    have HN := Lib.hid hn
    clear hn
    go_enter Tryz.func73, Tryz.ntmps73
    go_wp2
    go_loop [5, 6] (fun l i => ∃ k : Nat, k ≤ n ∧ i = .int .i64 k ∧ l = .int .i64 (c - (xs.take k).sum) ∧ Hid (∀ x ∈ xs.take k, 0 ≤ x) ∧ Hid ((xs.take k).sum ≤ c) ∧ 0 ≤ (xs.take k).sum) (fun _ i => n - (intOf i).toNat)
    case atStart => exact ⟨0, by omega, rfl, by simp, by unfold Hid; simp, by unfold Hid; simpa using hc1, by simp⟩
    case round =>
      obtain ⟨k, hk, rfl, rfl, h0, hs, hs0⟩ := hrel
      have hs' := hs.out
      by_cases hlt : k < n
      · have hki : (k : Int) < (n : Int) := by omega
        obtain ⟨b, off, rfl, _, hc⟩ := HX.out.2 (by omega)
        have hcell := hc k hlt
        have e := Lib.hid (sum_take_succ xs k (by rw [HL.out]; exact hlt))
        have hm := Lib.hid (getD_mem xs k (by rw [HL.out]; exact hlt))
        have ht : Hid (∀ y, y ∈ xs.take (k + 1) → y ∈ xs.take k ∨ y = xs.getD k 0) := fun y hy => mem_take_succ (by rw [HL.out]; exact hlt) hy
        clear hc
        generalize xs.getD k 0 = x at *
        have E := Lib.hid e.out
        clear e
        generalize (xs.take k).sum = u at *
        by_cases hx0 : x < 0
        · have HR : Hid (posB h c xs = false) := posB_neg hm.out hx0
          have b1 : decide (x < 0) = true := decide_eq_true hx0
          have b2 : inB x 0 (c - u) = false := inB_no (by omega)
          go_wp2_with ((go_at_call 90; refine (l01In_any _ _ _ _).mono ?_; rintro e w' ⟨rfl, rfl⟩))
          go_ret
          exact ⟨by rw [HR.out]; rfl, HB.out⟩
        · have b1 : decide (x < 0) = false := decide_eq_false hx0
          by_cases hx1 : c - u < x
          · have HR : Hid (posB h c xs = false) := posB_far (k + 1) (by rw [E.out]; omega)
            have b3 : decide (c - u < x) = true := decide_eq_true hx1
            have b2 : inB x 0 (c - u) = false := inB_no (by omega)
            go_wp2_with ((go_at_call 90; refine (l01In_any _ _ _ _).mono ?_; rintro e w' ⟨rfl, rfl⟩))
            go_ret
            exact ⟨by rw [HR.out]; rfl, HB.out⟩
          · have b3 : decide (c - u < x) = false := decide_eq_false hx1
            have b2 : inB x 0 (c - u) = true := inB_yes (by omega)
            go_wp2_with ((go_at_call 90; refine (l01In_any _ _ _ _).mono ?_; rintro e w' ⟨rfl, rfl⟩))
            go_round
            case rel => exact ⟨k + 1, by omega, by go_num, by rw [E.out]; go_num, fun y hy => by
                rcases ht.out y hy with h' | h'
                · exact h0.out y h'
                · omega, by unfold Hid; rw [E.out]; omega, by rw [E.out]; omega⟩
            case measure => simp [intOf]; omega
      · have hkn : k = n := by omega
        subst hkn
        have HR : Hid (posB h c xs = true) := by
          have e : xs.take k = xs := List.take_of_length_le (by rw [HL.out]; exact Nat.le_refl _)
          rw [e] at h0 hs
          exact posB_full (by rw [HL.out]; exact HN.out) h0.out hs.out
        go_wp2_with (fail)
        go_ret
        exact ⟨by rw [HR.out]; rfl, HB.out⟩
  · have e1 : ((n : Int) != h) = true := by simp [hn]
    have HR : Hid (posB h c xs = false) := posB_len (by rw [HL.out]; exact hn)
    go_enter Tryz.func73, Tryz.ntmps73
    go_wp2
    go_ret
    exact ⟨by rw [HR.out]; rfl, HB.out⟩
end Go.Proofs.YtlbkfhdnhalpbaaGreat

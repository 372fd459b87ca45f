/- Contracts of the texts of desks. There are no conditions beyond those that each states. -/
import Derived.Test.YtkjlafcnmniomaaDoorT11
namespace Go.Proofs.YtkjlafcnmniomaaDoor
set_option linter.unusedVariables false
set_option linter.unusedSimpArgs false
open Go.RowKit

def rollTx (ra rb : Int) : List UInt8 := if noneB ra rb = true then [45] else rolT ra.toNat rb.toNat
/-- The text of a desk. -/
def deskTx (p c h s : Int) (own other : List Int) (ra rb seed : Int) (past : List (List Int × List Int)) : List UInt8 :=
  if deskB p c h s own other ra rb seed past = true then dt8 (varT p.toNat c.toNat h.toNat s.toNat) (boardT own other) (rollTx ra rb) (Lib.decDigits seed.toNat) (Lib.decDigits past.length) else []
set_option maxRecDepth 100000 in
theorem sDeskText_any (p c h s ra rb seed : Int) (A1 A2 A3 : Option Addr) (n1 c1 n2 c2 n3 c3 : Nat) (own other : List Int) (past : List (List Int × List Int)) (w : World) (h1 : SL w A1 n1 own) (h2 : SL w A2 n2 other) (h3 : SBs w A3 n3 past)
    (hn1 : n1 ≤ 2000000) (hn2 : n2 ≤ 2000000) (hn3 : n3 ≤ 2000000) (hm : ∀ b ∈ past, b.1.length ≤ 2000000 ∧ b.2.length ≤ 2000000) :
    Calls Tryd.prog 5 #[.agg #[.int .i64 p, .int .i64 c, .int .i64 h, .int .i64 s, .slice A1 n1 c1, .slice A2 n2 c2, .int .i64 ra, .int .i64 rb, .int .i64 seed, .slice A3 n3 c3]] w
      fun e w' => e = .returned (strV (deskTx p c h s own other ra rb seed past)) ∧ Below w.heap.size w w' := by
  by_cases hd : deskB p c h s own other ra rb seed past = true
  · obtain ⟨hv, hb, hD0, hD, h30⟩ := desk_facts hd
    have hvv := isVar_yes hv
    obtain ⟨P, rfl⟩ := Int.eq_ofNat_of_zero_le (show 0 ≤ p by omega)
    obtain ⟨C, rfl⟩ := Int.eq_ofNat_of_zero_le (show 0 ≤ c by omega)
    obtain ⟨H, rfl⟩ := Int.eq_ofNat_of_zero_le (show 0 ≤ h by omega)
    obtain ⟨S, rfl⟩ := Int.eq_ofNat_of_zero_le (show 0 ≤ s by omega)
    obtain ⟨D, rfl⟩ := Int.eq_ofNat_of_zero_le (show 0 ≤ seed by omega)
    have hl3 : past.length = n3 := h3.1
    unfold deskTx
    rw [if_pos hd, hl3]
    simp only [Int.toNat_natCast]
    by_cases hr : noneB ra rb = true
    · obtain ⟨rfl, rfl⟩ : ra = 0 ∧ rb = 0 := of_decide_eq_true hr
      exact sDeskText_none P C H S D A1 A2 A3 n1 c1 n2 c2 n3 c3 own other past w h1 h2 h3 hm hd
    · have hr2 : noneB ra rb = false := by simpa using hr
      have hrb := roll_facts hd hr2
      obtain ⟨a, rfl⟩ := Int.eq_ofNat_of_zero_le (show 0 ≤ ra by omega)
      obtain ⟨b, rfl⟩ := Int.eq_ofNat_of_zero_le (show 0 ≤ rb by omega)
      have e : rollTx (a : Int) (b : Int) = rolT a b := by unfold rollTx; rw [if_neg hr]; rfl
      rw [e]
      exact sDeskText_roll P C H S D a b A1 A2 A3 n1 c1 n2 c2 n3 c3 own other past w h1 h2 h3 hm hd hr2
  · have hd2 : deskB p c h s own other ra rb seed past = false := by simpa using hd
    have HE : Hid (strV (deskTx p c h s own other ra rb seed past) = .string { data := #[] }) := by
      unfold Hid deskTx
      rw [if_neg hd]; rfl
    have HB0 : Hid (Below w.heap.size w (w.alloc (.cells #[.int .i64 p, .int .i64 c, .int .i64 h, .int .i64 s, .slice A1 n1 c1, .slice A2 n2 c2, .int .i64 ra, .int .i64 rb, .int .i64 seed, .slice A3 n3 c3] 39))) := (Below.refl _ _).alloc (Nat.le_refl _) _
    have CD : Hid (∀ W : World, Below w.heap.size w W → Calls Tryd.prog 11 #[.agg #[.int .i64 p, .int .i64 c, .int .i64 h, .int .i64 s, .slice A1 n1 c1, .slice A2 n2 c2, .int .i64 ra, .int .i64 rb, .int .i64 seed, .slice A3 n3 c3]] W fun e w' => e = .returned (.bool false) ∧ Below W.heap.size W w') := fun W hw => by
      have h := sIsDesk_any p c h s ra rb seed A1 A2 A3 n1 c1 n2 c2 n3 c3 own other past W (h1.below hw) (h2.below hw) (h3.below hw) hn1 hn2 hn3 hm
      rw [hd2] at h
      exact h
    rw [HE.out]
    clear hd hd2 h1 h2 h3 hm
    go_enter Tryd.func5, Tryd.ntmps5
    go_wp2_with (fail)
    refine (CD.out _ HB0.out).mono ?_
    rintro e w1 ⟨rfl, hb1⟩
    have HB1 := Lib.hid (HB0.out.trans (hb1.mono HB0.out.size))
    clear hb1
    go_wp2_with (fail)
    go_ret
    exact ⟨rfl, HB1.out⟩
set_option maxRecDepth 100000 in
theorem DeskText_any (p c h s ra rb seed : Int) (A1 A2 A3 : Option Addr) (n1 c1 n2 c2 n3 c3 : Nat) (own other : List Int) (past : List (List Int × List Int)) (w : World) (h1 : SL w A1 n1 own) (h2 : SL w A2 n2 other) (h3 : SBs w A3 n3 past)
    (hn1 : n1 ≤ 2000000) (hn2 : n2 ≤ 2000000) (hn3 : n3 ≤ 2000000) (hm : ∀ b ∈ past, b.1.length ≤ 2000000 ∧ b.2.length ≤ 2000000) (ht : TBok w) :
    Calls Tryd.prog 7 #[.agg #[.int .i64 p, .int .i64 c, .int .i64 h, .int .i64 s, .slice A1 n1 c1, .slice A2 n2 c2, .int .i64 ra, .int .i64 rb, .int .i64 seed, .slice A3 n3 c3]] w
      fun e w' => e = .returned (strV (deskTx p c h s own other ra rb seed past)) ∧ Below w.heap.size w w' := by
  by_cases hd : deskB p c h s own other ra rb seed past = true
  · obtain ⟨hv, hb, hD0, hD, h30⟩ := desk_facts hd
    have hvv := isVar_yes hv
    obtain ⟨P, rfl⟩ := Int.eq_ofNat_of_zero_le (show 0 ≤ p by omega)
    obtain ⟨C, rfl⟩ := Int.eq_ofNat_of_zero_le (show 0 ≤ c by omega)
    obtain ⟨H, rfl⟩ := Int.eq_ofNat_of_zero_le (show 0 ≤ h by omega)
    obtain ⟨S, rfl⟩ := Int.eq_ofNat_of_zero_le (show 0 ≤ s by omega)
    obtain ⟨D, rfl⟩ := Int.eq_ofNat_of_zero_le (show 0 ≤ seed by omega)
    have hl3 : past.length = n3 := h3.1
    unfold deskTx
    rw [if_pos hd, hl3]
    simp only [Int.toNat_natCast]
    by_cases hr : noneB ra rb = true
    · obtain ⟨rfl, rfl⟩ : ra = 0 ∧ rb = 0 := of_decide_eq_true hr
      exact DeskText_none P C H S D A1 A2 A3 n1 c1 n2 c2 n3 c3 own other past w h1 h2 h3 hm hd ht
    · have hr2 : noneB ra rb = false := by simpa using hr
      have hrb := roll_facts hd hr2
      obtain ⟨a, rfl⟩ := Int.eq_ofNat_of_zero_le (show 0 ≤ ra by omega)
      obtain ⟨b, rfl⟩ := Int.eq_ofNat_of_zero_le (show 0 ≤ rb by omega)
      have e : rollTx (a : Int) (b : Int) = rolT a b := by unfold rollTx; rw [if_neg hr]; rfl
      rw [e]
      exact DeskText_roll P C H S D a b A1 A2 A3 n1 c1 n2 c2 n3 c3 own other past w h1 h2 h3 hm hd hr2 ht
  · have hd2 : deskB p c h s own other ra rb seed past = false := by simpa using hd
    have HE : Hid (strV (deskTx p c h s own other ra rb seed past) = .string { data := #[] }) := by
      unfold Hid deskTx
      rw [if_neg hd]; rfl
    have HB0 : Hid (Below w.heap.size w (w.alloc (.cells #[.int .i64 p, .int .i64 c, .int .i64 h, .int .i64 s, .slice A1 n1 c1, .slice A2 n2 c2, .int .i64 ra, .int .i64 rb, .int .i64 seed, .slice A3 n3 c3] 39))) := (Below.refl _ _).alloc (Nat.le_refl _) _
    have CD : Hid (∀ W : World, Below w.heap.size w W → Calls Tryd.prog 21 #[.agg #[.int .i64 p, .int .i64 c, .int .i64 h, .int .i64 s, .slice A1 n1 c1, .slice A2 n2 c2, .int .i64 ra, .int .i64 rb, .int .i64 seed, .slice A3 n3 c3]] W fun e w' => e = .returned (.bool false) ∧ Below W.heap.size W w') := fun W hw => by
      have h := IsDesk_any p c h s ra rb seed A1 A2 A3 n1 c1 n2 c2 n3 c3 own other past W (h1.below hw) (h2.below hw) (h3.below hw) hn1 hn2 hn3 hm
      rw [hd2] at h
      exact h
    rw [HE.out]
    clear hd hd2 h1 h2 h3 hm ht
    go_enter Tryd.func7, Tryd.ntmps7
    go_wp2_with (fail)
    refine (CD.out _ HB0.out).mono ?_
    rintro e w1 ⟨rfl, hb1⟩
    have HB1 := Lib.hid (HB0.out.trans (hb1.mono HB0.out.size))
    clear hb1
    go_wp2_with (fail)
    go_ret
    exact ⟨rfl, HB1.out⟩
end Go.Proofs.YtkjlafcnmniomaaDoor

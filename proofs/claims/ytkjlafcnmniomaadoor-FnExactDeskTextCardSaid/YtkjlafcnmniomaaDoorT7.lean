/- Contract of the reference's identifier of bits. There are no conditions beyond those that each states. -/
import Derived.Test.YtkjlafcnmniomaaDoorT6
namespace Go.Proofs.YtkjlafcnmniomaaDoor
set_option linter.unusedVariables false
set_option linter.unusedSimpArgs false
open Go.RowKit

def letB : List UInt8 := [65, 66, 67, 68, 69, 70, 71, 72, 73, 74, 75, 76, 77, 78, 79, 80, 81, 82, 83, 84, 85, 86, 87, 88, 89, 90, 97, 98, 99, 100, 101, 102, 103, 104, 105, 106, 107, 108, 109, 110, 111, 112, 113, 114, 115, 116, 117, 118, 119, 120, 121, 122, 48, 49, 50, 51, 52, 53, 54, 55, 56, 57, 43, 45]
theorem letB_len : letB.length = 64 := rfl
/-- The number of k bits behind i. -/
def chI (bs : List Int) (i : Nat) : Nat → Nat
  | 0 => 0
  | k + 1 => 2 * chI bs i k + (if bs.getD (i + k) 0 = 1 then 1 else 0)
theorem chI_lt (bs : List Int) (i : Nat) : ∀ k, chI bs i k < 2 ^ k
  | 0 => by show 0 < 1; decide
  | k + 1 => by
    have h := chI_lt bs i k
    show 2 * chI bs i k + (if bs.getD (i + k) 0 = 1 then 1 else 0) < _
    rw [Nat.pow_succ]
    split <;> omega
theorem chI_64 (bs : List Int) (i k : Nat) (hk : k ≤ 6) : chI bs i k < 64 := Nat.lt_of_lt_of_le (chI_lt bs i k) (Nat.pow_le_pow_right (by decide) hk)
def idT (bs : List Int) (q : Nat) : List UInt8 := (List.range q).map fun j => letB.getD (chI bs (6 * j) 6) 0
theorem idT_succ (bs : List Int) (q : Nat) : idT bs (q + 1) = idT bs q ++ [letB.getD (chI bs (6 * q) 6) 0] := by
  unfold idT
  rw [List.range_succ, List.map_append]; rfl
theorem idT_len (bs : List Int) (q : Nat) : (idT bs q).length = q := by unfold idT; simp
theorem sub_run (k : Nat) (hk : k < 64) (W : World) : (Instr.sliceAt 9 (.string { data := #[65, 66, 67, 68, 69, 70, 71, 72, 73, 74, 75, 76, 77, 78, 79, 80, 81, 82, 83, 84, 85, 86, 87, 88, 89, 90, 97, 98, 99, 100, 101, 102, 103, 104, 105, 106, 107, 108, 109, 110, 111, 112, 113, 114, 115, 116, 117, 118, 119, 120, 121, 122, 48, 49, 50, 51, 52, 53, 54, 55, 56, 57, 43, 45] }) (some (.int .i64 (k : Int))) (some (.int .i64 ((k : Int) + 1))) none).run Tryd.prog W = .ok (strV [letB.getD k 0]) W := by
  have h : ∀ k : Fin 64, (ByteArray.mk #[65, 66, 67, 68, 69, 70, 71, 72, 73, 74, 75, 76, 77, 78, 79, 80, 81, 82, 83, 84, 85, 86, 87, 88, 89, 90, 97, 98, 99, 100, 101, 102, 103, 104, 105, 106, 107, 108, 109, 110, 111, 112, 113, 114, 115, 116, 117, 118, 119, 120, 121, 122, 48, 49, 50, 51, 52, 53, 54, 55, 56, 57, 43, 45]).extract k.1 (k.1 + 1) = ⟨#[letB.getD k.1 0]⟩ := by decide +kernel
  have e1 : (((k : Int) + 1)).toNat = k + 1 := by omega
  have e2 : ((k : Int)).toNat = k := by omega
  have e3 : (ByteArray.mk #[65, 66, 67, 68, 69, 70, 71, 72, 73, 74, 75, 76, 77, 78, 79, 80, 81, 82, 83, 84, 85, 86, 87, 88, 89, 90, 97, 98, 99, 100, 101, 102, 103, 104, 105, 106, 107, 108, 109, 110, 111, 112, 113, 114, 115, 116, 117, 118, 119, 120, 121, 122, 48, 49, 50, 51, 52, 53, 54, 55, 56, 57, 43, 45]).size = 64 := rfl
  have hz0 : (0 : Int) ≤ (k : Int) := by omega
  have hz1 : (k : Int) ≤ (k : Int) + 1 := by omega
  have hz2 : (k : Int) + 1 ≤ (((ByteArray.mk #[65, 66, 67, 68, 69, 70, 71, 72, 73, 74, 75, 76, 77, 78, 79, 80, 81, 82, 83, 84, 85, 86, 87, 88, 89, 90, 97, 98, 99, 100, 101, 102, 103, 104, 105, 106, 107, 108, 109, 110, 111, 112, 113, 114, 115, 116, 117, 118, 119, 120, 121, 122, 48, 49, 50, 51, 52, 53, 54, 55, 56, 57, 43, 45]).size : Nat) : Int) := by rw [e3]; omega
  have h5 := h ⟨k, hk⟩
  generalize hb : ByteArray.mk #[65, 66, 67, 68, 69, 70, 71, 72, 73, 74, 75, 76, 77, 78, 79, 80, 81, 82, 83, 84, 85, 86, 87, 88, 89, 90, 97, 98, 99, 100, 101, 102, 103, 104, 105, 106, 107, 108, 109, 110, 111, 112, 113, 114, 115, 116, 117, 118, 119, 120, 121, 122, 48, 49, 50, 51, 52, 53, 54, 55, 56, 57, 43, 45] = b at *
  simp [go_sem, hz0, hz1, hz2, e1, e2, h5, strV]
theorem l03Letters_any (w : World) : Calls Tryd.prog 56 #[] w fun e w' => e = .returned (.string { data := #[65, 66, 67, 68, 69, 70, 71, 72, 73, 74, 75, 76, 77, 78, 79, 80, 81, 82, 83, 84, 85, 86, 87, 88, 89, 90, 97, 98, 99, 100, 101, 102, 103, 104, 105, 106, 107, 108, 109, 110, 111, 112, 113, 114, 115, 116, 117, 118, 119, 120, 121, 122, 48, 49, 50, 51, 52, 53, 54, 55, 56, 57, 43, 45] }) ∧ Below w.heap.size w w' := by
  go_enter Tryd.func56, Tryd.ntmps56
  go_wp2_with (fail)
  go_ret
  exact ⟨rfl, Below.refl _ _⟩
set_option maxRecDepth 100000 in
set_option maxHeartbeats 4000000 in
theorem l03Id_any (A : Option Addr) (n c : Nat) (bs : List Int) (w : World) (h : SL w A n bs) (hn : n ≤ 1000) :
    Calls Tryd.prog 39 #[.slice A n c] w fun e w' => e = .returned (strV (idT bs ((n + 5) / 6))) ∧ Below w.heap.size w w' := by
  have H := Lib.hid h
  have hl : Hid (bs.length = n) := h.1
  clear h
  go_enter Tryd.func39, Tryd.ntmps39
  go_wp2_with (fail)
  go_loopw [3, 4] (fun v3 v4 wr => ∃ (q p : Nat), Hid (p = 6 * q ∧ q ≤ (n + 5) / 6) ∧ p ≤ 1005 ∧ v4 = .int .i64 p ∧ v3 = strV (idT bs q) ∧ Hid (Below w.heap.size w wr)) (fun _ v4 _ => 1005 - (intOf v4).toNat)
  case atStart => exact ⟨0, 0, ⟨rfl, Nat.zero_le _⟩, by omega, rfl, rfl, Below.refl _ _⟩
  case round =>
    obtain ⟨q, p, HP, hp, rfl, rfl, HB⟩ := hrel
    by_cases hlt : p < n
    · have hji : (p : Int) < (n : Int) := by omega
      go_wp2_with (fail)
      obtain ⟨wa, rfl⟩ : ∃ wa : World, wa = wr := ⟨_, rfl⟩
      go_loopw [5, 6] (fun v5 v6 wr => ∃ (t m x : Nat), Hid (m = p + t ∧ x = chI bs p t) ∧ m ≤ p + 6 ∧ x < 64 ∧ v6 = .int .i64 m ∧ v5 = .int .i64 x ∧ Hid (Below w.heap.size w wr)) (fun _ v6 _ => p + 6 - (intOf v6).toNat)
      case atStart => exact ⟨0, p, 0, ⟨rfl, rfl⟩, by omega, by omega, rfl, rfl, HB.out⟩
      case round =>
        clear HB
        obtain ⟨t, m, x, HM, hm, hx, rfl, rfl, HB⟩ := hrel
        by_cases hgo : m < p + 6
        · have hgi : (m : Int) < (p : Int) + 6 := by omega
          by_cases hk : m < n
          · have hki : (m : Int) < (n : Int) := by omega
            obtain ⟨b, off, hA, hbz, hc⟩ := (H.out.below HB.out).2 (by omega)
            have hx0 := hc m hk
            subst hA
            clear hc
            by_cases h1 : bs.getD m 0 = 1
            · rw [h1] at hx0
              have h1 := Lib.hid h1
              go_wp2_with (fail)
              have HN : Hid (2 * x + 1 = chI bs p (t + 1) ∧ 2 * x + 1 < 64) := by
                obtain ⟨e1, e2⟩ := HM.out
                have h3 := chI_64 bs p (t + 1) (by omega)
                have h4 : chI bs p (t + 1) = 2 * chI bs p t + (if bs.getD (p + t) 0 = 1 then 1 else 0) := rfl
                rw [← e1, ← e2, if_pos h1.out] at h4
                exact ⟨h4.symm, by omega⟩
              exact ⟨⟨t + 1, m + 1, 2 * x + 1, ⟨by have := HM.out.1; omega, HN.out.1⟩, by omega, HN.out.2, by congr 1, by congr 1, HB⟩, by simp [intOf]; omega⟩
            · obtain ⟨y, hy⟩ : ∃ y, bs.getD m 0 = y := ⟨_, rfl⟩
              rw [hy] at hx0
              have h1b : (y == 1) = false := by rw [← hy]; simp; simpa using h1
              have h1 := Lib.hid h1
              clear hy
              go_wp2_with (fail)
              have HN : Hid (2 * x = chI bs p (t + 1) ∧ 2 * x < 64) := by
                obtain ⟨e1, e2⟩ := HM.out
                have h3 := chI_64 bs p (t + 1) (by omega)
                have h4 : chI bs p (t + 1) = 2 * chI bs p t + (if bs.getD (p + t) 0 = 1 then 1 else 0) := rfl
                rw [← e1, ← e2, if_neg h1.out] at h4
                exact ⟨h4.symm, by omega⟩
              exact ⟨⟨t + 1, m + 1, 2 * x, ⟨by have := HM.out.1; omega, HN.out.1⟩, by omega, HN.out.2, by congr 1, by congr 1, HB⟩, by simp [intOf]; omega⟩
          · have hki : ¬ (m : Int) < (n : Int) := by omega
            go_wp2_with (fail)
            have h1 : Hid (¬ bs.getD m 0 = 1) := by
              unfold Hid
              have := hl.out
              rw [List.getD_eq_getElem?_getD, List.getElem?_eq_none (by omega)]; decide
            have HN : Hid (2 * x = chI bs p (t + 1) ∧ 2 * x < 64) := by
              obtain ⟨e1, e2⟩ := HM.out
              have h3 := chI_64 bs p (t + 1) (by omega)
              have h4 : chI bs p (t + 1) = 2 * chI bs p t + (if bs.getD (p + t) 0 = 1 then 1 else 0) := rfl
              rw [← e1, ← e2, if_neg h1.out] at h4
              exact ⟨h4.symm, by omega⟩
            exact ⟨⟨t + 1, m + 1, 2 * x, ⟨by have := HM.out.1; omega, HN.out.1⟩, by omega, HN.out.2, by congr 1, by congr 1, HB⟩, by simp [intOf]; omega⟩
        · have hgi : ¬ (m : Int) < (p : Int) + 6 := by omega
          have hm6 : m = p + 6 := by omega
          have HX : Hid (x = chI bs (6 * q) 6 ∧ p = 6 * q) := by
            obtain ⟨e1, e2⟩ := HM.out
            have : t = 6 := by omega
            rw [this, HP.out.1] at e2
            exact ⟨e2, HP.out.1⟩
          have HSUB := Lib.hid (fun W : World => sub_run x hx W)
          have HCAT : Hid (∀ W : World, (binOp .add 9 (strV (idT bs q)) (strV [letB.getD x 0])).run Tryd.prog W = .ok (strV (idT bs (q + 1))) W) := fun W => by
            rw [idT_succ, ← HX.out.1]
            exact cat_run _ _ (by rw [idT_len]; have := HP.out; simp; omega) W
          have HQ2 : Hid (p + 6 = 6 * (q + 1) ∧ q + 1 ≤ (n + 5) / 6) := by have := HP.out; unfold Hid; omega
          generalize letB.getD x 0 = y at HSUB HCAT
          clear hm6 HM
          go_wp2_with (fail)
          refine (l03Letters_any _).mono ?_
          rintro e w2 ⟨rfl, hb2⟩
          have HB2 := Lib.hid (HB.out.trans (hb2.mono HB.out.size))
          have hs := HSUB.out w2
          have hct := HCAT.out w2
          clear hb2 HB
          go_wp2_with (fail)
          exact ⟨⟨q + 1, p + 6, HQ2, by omega, by congr 1, rfl, HB2⟩, by simp [intOf]; omega⟩
    · have hji : ¬ (p : Int) < (n : Int) := by omega
      have HQ : Hid (strV (idT bs q) = strV (idT bs ((n + 5) / 6))) := by
        have := HP.out
        have e : q = (n + 5) / 6 := by omega
        unfold Hid
        rw [← e]
      go_wp2_with (fail)
      go_ret
      exact ⟨congrArg Ending.returned HQ.out, HB.out⟩
end Go.Proofs.YtkjlafcnmniomaaDoor

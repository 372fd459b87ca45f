/- Contracts of the functions of chapter 2 on sides and boards that only read. There are no conditions. -/
import Derived.Test.YtkjlafcnmniomaaDoorA1
namespace Go.Proofs.YtkjlafcnmniomaaDoor
set_option linter.unusedVariables false
set_option linter.unusedSimpArgs false
open Go.RowKit


theorem total_any (A : Option Addr) (n c : Nat) (xs : List Int) (w : World) (h : SL w A n xs) (hp : ∀ x ∈ xs, 0 ≤ x) (hs : xs.sum ≤ 2000000) (hn : n ≤ 2000000) :
    Calls Tryd.prog 60 #[.slice A n c] w fun e w' => e = .returned (.int .i64 xs.sum) ∧ w = w' := by
  have hlen := h.1
  have hp' : ∀ k, 0 ≤ (xs.take k).sum := fun k => sum_take_nonneg xs k hp
  have hs' : ∀ k, (xs.take k).sum ≤ 2000000 := fun k => by have := sum_take_le xs k hp; omega
  have HP := Lib.hid hp'
  have HS := Lib.hid hs'
  have HH := Lib.hid h
  have HL := Lib.hid hlen
  have HP0 := Lib.hid hp
  clear hp' hs' h hlen hs hp
  go_enter Tryd.func60, Tryd.ntmps60
  go_wp2
  go_loop [3, 8] (fun s i => ∃ k : Nat, k ≤ n ∧ i = .int .i64 k ∧ s = .int .i64 (xs.take k).sum) (fun _ i => n - (intOf i).toNat)
  case atStart => exact ⟨0, by omega, rfl, by simp⟩
  case round =>
    obtain ⟨k, hk, rfl, rfl⟩ := hrel
    by_cases hlt : k < n
    · obtain ⟨b, off, rfl, _, hc⟩ := HH.out.2 (by omega)
      have hcell := hc k hlt
      have h1 := HP.out k
      have h2 := HS.out k
      have h3 := HP0.out _ (getD_mem xs k (by rw [HL.out]; exact hlt))
      have h4 := HS.out (k + 1)
      have e := sum_take_succ xs k (by rw [HL.out]; exact hlt)
      have h5 : (xs.take k).sum + xs.getD k 0 ≤ 2000000 := by omega
      have E := Lib.hid e
      clear hc e h4
      generalize xs.getD k 0 = x at *
      go_wp2
      go_round
      case rel => exact ⟨k + 1, by omega, by go_num, by rw [E.out]⟩
      case measure => simp [intOf]; omega
    · go_wp2
      go_ret
      exact ⟨ret_int (by rw [List.take_of_length_le (by rw [HL.out]; omega)]), rfl⟩
theorem l02Sum_any (A : Option Addr) (n c : Nat) (xs : List Int) (w : World) (h : SL w A n xs) (hp : ∀ x ∈ xs, 0 ≤ x) (hs : xs.sum ≤ 2000000) (hn : n ≤ 2000000) :
    Calls Tryd.prog 54 #[.slice A n c] w fun e w' => e = .returned (.int .i64 xs.sum) ∧ w = w' := by
  have hlen := h.1
  have hp' : ∀ k, 0 ≤ (xs.take k).sum := fun k => sum_take_nonneg xs k hp
  have hs' : ∀ k, (xs.take k).sum ≤ 2000000 := fun k => by have := sum_take_le xs k hp; omega
  have HP := Lib.hid hp'
  have HS := Lib.hid hs'
  have HH := Lib.hid h
  have HL := Lib.hid hlen
  have HP0 := Lib.hid hp
  clear hp' hs' h hlen hs hp
  go_enter Tryd.func54, Tryd.ntmps54
  go_wp2
  go_loop [3, 4] (fun s i => ∃ k : Nat, k ≤ n ∧ i = .int .i64 k ∧ s = .int .i64 (xs.take k).sum) (fun _ i => n - (intOf i).toNat)
  case atStart => exact ⟨0, by omega, rfl, by simp⟩
  case round =>
    obtain ⟨k, hk, rfl, rfl⟩ := hrel
    by_cases hlt : k < n
    · obtain ⟨b, off, rfl, _, hc⟩ := HH.out.2 (by omega)
      have hcell := hc k hlt
      have h1 := HP.out k
      have h2 := HS.out k
      have h3 := HP0.out _ (getD_mem xs k (by rw [HL.out]; exact hlt))
      have h4 := HS.out (k + 1)
      have e := sum_take_succ xs k (by rw [HL.out]; exact hlt)
      have h5 : (xs.take k).sum + xs.getD k 0 ≤ 2000000 := by omega
      have E := Lib.hid e
      clear hc e h4
      generalize xs.getD k 0 = x at *
      go_wp2
      go_round
      case rel => exact ⟨k + 1, by omega, by go_num, by rw [E.out]⟩
      case measure => simp [intOf]; omega
    · go_wp2
      go_ret
      exact ⟨ret_int (by rw [List.take_of_length_le (by rw [HL.out]; omega)]), rfl⟩


theorem l02Side_any (A : Option Addr) (n c : Nat) (xs : List Int) (p ch h s : Int) (w : World) (hx : SL w A n xs) (hn : n ≤ 2000000) (hp : 0 ≤ p) (hp2 : p ≤ 1000) (hc : 0 ≤ ch) (hc2 : ch ≤ 15) :
    Calls Tryd.prog 53 #[.agg #[.int .i64 p, .int .i64 ch, .int .i64 h, .int .i64 s], .slice A n c] w fun e w' => e = .returned (.bool (sideB p ch xs)) ∧ Below w.heap.size w w' := by
  have HX := Lib.hid hx
  clear hx
  by_cases hl : (n : Int) = p + 1
  · have hlb : ((n : Int) != p + 1) = false := by simp [hl]
    have HL := Lib.hid hl
    have hn2 : n ≤ 1001 := by omega
    clear hl
    go_enter Tryd.func53, Tryd.ntmps53
    go_wp2_with (fail)
    go_loopw [5] (fun i wr => ∃ k : Nat, k ≤ n ∧ i = .int .i64 k ∧ Hid (∀ x ∈ xs.take k, 0 ≤ x ∧ x ≤ ch) ∧ Below (w.heap.size + 1) (w.alloc (.cells #[.int .i64 p, .int .i64 ch, .int .i64 h, .int .i64 s] 34)) wr) (fun i _ => n - (intOf i).toNat)
    case atStart => exact ⟨0, by omega, rfl, by unfold Hid; simp, Below.refl _ _⟩
    case round =>
      obtain ⟨k, hk, rfl, hall, hb⟩ := hrel
      have hb0 : Below w.heap.size w wr := ((Below.refl _ _).alloc (Nat.le_refl _) _).trans (hb.mono (by omega))
      have hz : w.heap.size < wr.heap.size := by have := hb.size; simp at this; omega
      have HXr := Lib.hid (HX.out.below hb0)
      have c1 : wr.cell? ⟨w.heap.size, 1, none⟩ = some (.int .i64 ch) := by rw [hb.cell (by simp)]; simp [go_sem]
      by_cases hlt : k < n
      · obtain ⟨b, off, rfl, hbl, hcl⟩ := HXr.out.2 (by omega)
        have hcell := hcl k hlt
        have hki : (k : Int) < (n : Int) := by omega
        have hk0 : (0 : Int) ≤ (k : Int) := by omega
        have hlen : k < xs.length := by rw [HX.out.1]; exact hlt
        have HG := Lib.hid (mem_take_getD (P := fun x => 0 ≤ x ∧ x ≤ ch) hall.out hlen)
        have HN := Lib.hid (sideB_neg (p := p) (c := ch) hlen)
        have HA := Lib.hid (sideB_above (p := p) (c := ch) hlen)
        clear hcl hlen
        generalize hxk : xs.getD k 0 = x at *
        clear hxk
        have hb' := hb.mono (Nat.le_refl _)
        by_cases hin : 0 ≤ x ∧ x ≤ ch
        · have e1 := inB_yes hin
          have HG' := HG.out hin
          go_wp2_with (fail)
          refine wp_region_more (by kernel_rfl) (by kernel_rfl) ?_
          repeat (first | go_big_quiet_step ((go_at_call 55; exact more_same (l01In_any _ _ _ _))) | quiet_step ((go_at_call 55; exact more_same (l01In_any _ _ _ _))))
          refine wpQuiet_nil ?_
          intro _ hw'
          obtain ⟨tq, hw''⟩ := hw'
          subst hw''
          have hbm := below_more wr tq
          go_wp2
          go_roundw
          case rel => exact ⟨k + 1, by omega, by go_num, HG', hb.trans (hbm.mono (by omega))⟩
          case measure => simp [intOf]; omega
        · have e1 := inB_no hin
          have HF : Hid (sideB p ch xs = false) := by
            by_cases h0 : x < 0
            · exact HN.out h0
            · exact HA.out (by omega)
          go_wp2_with (fail)
          refine wp_region_more (by kernel_rfl) (by kernel_rfl) ?_
          repeat (first | go_big_quiet_step ((go_at_call 55; exact more_same (l01In_any _ _ _ _))) | quiet_step ((go_at_call 55; exact more_same (l01In_any _ _ _ _))))
          refine wpQuiet_nil ?_
          intro _ hw'
          obtain ⟨tq, hw''⟩ := hw'
          subst hw''
          have hbm := below_more wr tq
          go_wp2
          go_ret
          exact ⟨by rw [HF.out]; rfl, hb0.trans (hbm.mono (by omega))⟩
      · obtain rfl : k = n := by omega
        have hall' := hall.out
        rw [List.take_of_length_le (by rw [HX.out.1]; omega)] at hall'
        have hs0 := sum_nonneg xs fun x hx => (hall' x hx).1
        have hle := sum_le_len xs ch hc fun x hx => (hall' x hx).2
        have hbig : xs.sum ≤ 2000000 := by
          have h1 : (xs.length : Int) * ch ≤ 1001 * 15 := Int.mul_le_mul (by rw [HX.out.1]; omega) hc2 hc (by omega)
          omega
        have HR := Lib.hid fun (hs : xs.sum ≤ ch) => sideB_mk (p := p) (c := ch) ⟨by rw [HX.out.1]; exact HL.out, fun x hx => (hall' x hx).1, hs⟩
        have HR2 := Lib.hid fun (hs : ch < xs.sum) => sideB_sum (p := p) (c := ch) hs
        have HA := Lib.hid fun x hx => (hall' x hx).1
        clear hall hall' hle
        generalize hS : xs.sum = S at *
        have HS := Lib.hid hS
        clear hS
        have CS : ∀ t : World, Calls Tryd.prog 54 #[.slice A k c] (more wr t) fun e w' => e = .returned (.int .i64 S) ∧ more wr t = w' := fun t => by
          have := l02Sum_any A k c xs (more wr t) (HXr.out.more t) HA.out (by rw [HS.out]; exact hbig) hn
          rwa [HS.out] at this
        have CS' := Lib.hid CS
        clear CS
        by_cases hs : S ≤ ch
        · have HF := Lib.hid (HR.out hs)
          go_wp2_with (fail)
          refine wp_region_more (by kernel_rfl) (by kernel_rfl) ?_
          repeat (first | go_big_quiet_step ((go_at_call 54; exact more_same (CS'.out _))) | quiet_step ((go_at_call 54; exact more_same (CS'.out _))))
          refine wpQuiet_nil ?_
          intro _ hw'
          obtain ⟨tq, hw''⟩ := hw'
          subst hw''
          have hbm := below_more wr tq
          go_wp2
          go_ret
          exact ⟨by rw [HF.out]; rfl, hb0.trans (hbm.mono (by omega))⟩
        · have HF := Lib.hid (HR2.out (by omega))
          have hd : decide (S ≤ ch) = false := by simp; omega
          go_wp2_with (fail)
          refine wp_region_more (by kernel_rfl) (by kernel_rfl) ?_
          repeat (first | go_big_quiet_step ((go_at_call 54; exact more_same (CS'.out _))) | quiet_step ((go_at_call 54; exact more_same (CS'.out _))))
          refine wpQuiet_nil ?_
          intro _ hw'
          obtain ⟨tq, hw''⟩ := hw'
          subst hw''
          have hbm := below_more wr tq
          go_wp2
          go_ret
          exact ⟨by rw [HF.out]; rfl, hb0.trans (hbm.mono (by omega))⟩
  · have hlb : ((n : Int) != p + 1) = true := by simp [hl]
    have HF := Lib.hid (sideB_len (p := p) (c := ch) (xs := xs) (by rw [HX.out.1]; exact hl))
    clear hl
    go_enter Tryd.func53, Tryd.ntmps53
    go_wp2_with (fail)
    go_ret
    exact ⟨by rw [HF.out]; rfl, (Below.refl _ _).alloc (Nat.le_refl _) _⟩
theorem isSide_any (A : Option Addr) (n c : Nat) (xs : List Int) (p ch h s : Int) (w : World) (hx : SL w A n xs) (hn : n ≤ 2000000) (hp : 0 ≤ p) (hp2 : p ≤ 1000) (hc : 0 ≤ ch) (hc2 : ch ≤ 15) :
    Calls Tryd.prog 59 #[.agg #[.int .i64 p, .int .i64 ch, .int .i64 h, .int .i64 s], .slice A n c] w fun e w' => e = .returned (.bool (sideB p ch xs)) ∧ Below w.heap.size w w' := by
  have HX := Lib.hid hx
  clear hx
  by_cases hl : (n : Int) = p + 1
  · have hlb : ((n : Int) != p + 1) = false := by simp [hl]
    have HL := Lib.hid hl
    have hn2 : n ≤ 1001 := by omega
    clear hl
    go_enter Tryd.func59, Tryd.ntmps59
    go_wp2
    go_loop [5, 18] (fun l i => ∃ k : Nat, k ≤ n ∧ i = .int .i64 k ∧ l = .int .i64 (ch - (xs.take k).sum) ∧ Hid (∀ x ∈ xs.take k, 0 ≤ x) ∧ 0 ≤ (xs.take k).sum ∧ (xs.take k).sum ≤ ch) (fun _ i => n - (intOf i).toNat)
    case atStart => exact ⟨0, by omega, rfl, by simp, by unfold Hid; simp, by simp, by simpa using hc⟩
    case round =>
      obtain ⟨k, hk, rfl, rfl, hall, hs0, hs1⟩ := hrel
      by_cases hlt : k < n
      · obtain ⟨b, off, rfl, hbl, hcl⟩ := HX.out.2 (by omega)
        have hcell := hcl k hlt
        have hlen : k < xs.length := by rw [HX.out.1]; exact hlt
        have HG := Lib.hid (mem_take_getD (P := fun x => 0 ≤ x) hall.out hlen)
        have HN := Lib.hid (sideB_neg (p := p) (c := ch) hlen)
        have HA := Lib.hid (sideB_big (p := p) (c := ch) hlen)
        have HE := Lib.hid (sum_take_succ xs k hlen)
        clear hcl hlen
        generalize hxk : xs.getD k 0 = x at *
        clear hxk
        generalize hsk : (xs.take k).sum = S at *
        clear hsk
        by_cases h0 : x < 0
        · have HF := Lib.hid (HN.out h0)
          go_wp2
          go_ret
          exact ⟨by rw [HF.out]; rfl, (Below.refl _ _).alloc (Nat.le_refl _) _⟩
        · by_cases h1 : ch - S < x
          · have HF := Lib.hid (HA.out (by omega))
            go_wp2
            go_ret
            exact ⟨by rw [HF.out]; rfl, (Below.refl _ _).alloc (Nat.le_refl _) _⟩
          · have HG' := HG.out (by omega)
            go_wp2
            go_round
            case rel => exact ⟨k + 1, by omega, by go_num, by rw [HE.out]; go_num, HG', by rw [HE.out]; omega, by rw [HE.out]; omega⟩
            case measure => simp [intOf]; omega
      · obtain rfl : k = n := by omega
        have hall' := hall.out
        have e : xs.take k = xs := List.take_of_length_le (by rw [HX.out.1]; omega)
        have HF := Lib.hid (sideB_mk (p := p) (c := ch) (xs := xs) ⟨by rw [HX.out.1]; exact HL.out, by rw [e] at hall'; exact hall', by rw [e] at hs1; exact hs1⟩)
        clear e hall' hall
        generalize (xs.take k).sum = S at *
        go_wp2
        go_ret
        exact ⟨by rw [HF.out]; rfl, (Below.refl _ _).alloc (Nat.le_refl _) _⟩
  · have hlb : ((n : Int) != p + 1) = true := by simp [hl]
    have HF := Lib.hid (sideB_len (p := p) (c := ch) (xs := xs) (by rw [HX.out.1]; exact hl))
    clear hl
    go_enter Tryd.func59, Tryd.ntmps59
    go_wp2
    go_ret
    exact ⟨by rw [HF.out]; rfl, (Below.refl _ _).alloc (Nat.le_refl _) _⟩
end Go.Proofs.YtkjlafcnmniomaaDoor

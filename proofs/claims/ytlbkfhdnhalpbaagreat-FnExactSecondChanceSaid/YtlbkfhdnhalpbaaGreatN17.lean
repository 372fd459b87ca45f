/- Contracts of the number of a bear-off position, the program's and the reference's. There are no conditions. -/
import Derived.Test.YtlbkfhdnhalpbaaGreatN16
namespace Go.Proofs.YtlbkfhdnhalpbaaGreat
set_option linter.unusedVariables false
set_option linter.unusedSimpArgs false
open Go.RowKit Ps

theorem numT_take {p : List Int} {i left : Nat} (hi : i < p.length) : numT (p.take (i + 1)).reverse left = sumW i left (p.getD i 0).toNat + numT (p.take i).reverse (left - (p.getD i 0).toNat) := by
  rw [List.take_succ_eq_append_getElem hi, List.reverse_append]
  have e : p[i] = p.getD i 0 := by simp [List.getD, hi]
  rw [e]
  show numT (p.getD i 0 :: (p.take i).reverse) left = _
  rw [numT_cons]
  simp [Nat.min_eq_left (Nat.le_of_lt hi)]
theorem sumT_take {p : List Int} {i : Nat} (hi : i < p.length) : (p.take (i + 1)).sum = (p.take i).sum + p.getD i 0 := sum_take_succ p i hi

set_option maxRecDepth 10000 in
set_option maxHeartbeats 1000000 in
theorem bearoffNumber_any (p s : Int) (c h : Nat) (A : Option Addr) (n cp : Nat) (xs : List Int) (w : World) (hx : SL w A n xs) (hp : PosP h c xs) (hc : c ≤ 15) (hh : h ≤ 24)  :
    Calls Tryz.prog 117 #[.agg #[.int .i64 p, .int .i64 c, .int .i64 h, .int .i64 s], .slice A n cp] w fun e w' => e = .returned (.int .i64 (num c xs)) ∧ Below w.heap.size w w' := by
  have HB : Hid (Below w.heap.size w (w.alloc (.cells #[.int .i64 p, .int .i64 c, .int .i64 h, .int .i64 s] 29))) := (Below.refl _ _).alloc (Nat.le_refl _) _
  have hl : xs.length = n := hx.1
  have hn24 : n ≤ 24 := by have := hp.1; omega
  have hbd : num c xs < wys h c := num_lt hp
  have hwb := wys_bd (k := h) (m := c) (by omega) hc
  have HW : Hid (∀ i m, i ≤ h → m ≤ c → wys i m ≤ wys h c) := fun i m hi hm => wys_mono hi hm
  have HP := Lib.hid hp
  have HX := Lib.hid (hx.alloc (.cells #[.int .i64 p, .int .i64 c, .int .i64 h, .int .i64 s] 29))
  have HL := Lib.hid hl
  have hnh := Lib.hid (show n = h by rw [← hl]; exact hp.1)
  have HN : Hid (numT (xs.take n).reverse c = num c xs) := by unfold Hid num; rw [List.take_of_length_le (by omega)]
  have HS : Hid ((xs.take n).sum ≤ c) := by unfold Hid; rw [List.take_of_length_le (by omega)]; exact hp.2.2
  have HPN : Hid (∀ k, 0 ≤ (xs.take k).sum) := fun k => sum_take_nonneg xs k hp.2.1
  clear hx hl hp
  go_enter Tryz.func117, Tryz.ntmps117
  go_wp2
  go_loop [5, 6, 7] (fun v l i => ∃ (k nn lf : Nat), k ≤ n ∧ lf ≤ c ∧ i = .int .i64 ((k : Int) - 1) ∧ l = .int .i64 lf ∧ v = .int .i64 nn ∧ Hid (nn + numT (xs.take k).reverse lf = num c xs) ∧ Hid ((xs.take k).sum ≤ lf)) (fun _ _ i => (intOf i + 1).toNat)
  case atStart => exact ⟨n, 0, c, by omega, by omega, rfl, rfl, rfl, by unfold Hid; rw [HN.out]; omega, HS.out⟩
  case round =>
    obtain ⟨k, nn, lf, hk, hlf, hi, rfl, rfl, hnum, hs⟩ := hrel
    rcases k with _ | j
    · rw [show ((0 : Nat) : Int) - 1 = -1 from rfl] at hi
      subst hi
      have HR : Hid (nn = num c xs) := by have := hnum.out; unfold Hid; simpa [numT] using this
      go_wp2_with (fail)
      go_ret
      exact ⟨by rw [← HR.out]; rfl, HB.out⟩
    · rw [show ((j + 1 : Nat) : Int) - 1 = (j : Int) by omega] at hi
      subst hi
      obtain ⟨b, off, rfl, _, hcells⟩ := HX.out.2 (by omega)
      have hcell := hcells j (by omega)
      have e1 := numT_take (p := xs) (i := j) (left := lf) (by rw [HL.out]; omega)
      have e2 := sumT_take (p := xs) (i := j) (by rw [HL.out]; omega)
      have e3 := HPN.out j
      have e4 := HP.out.2.1 _ (getD_mem xs j (by rw [HL.out]; omega))
      obtain ⟨x, hx⟩ : ∃ x : Nat, xs.getD j 0 = (x : Int) := ⟨(xs.getD j 0).toNat, by omega⟩
      rw [hx] at hcell e1 e2 e4
      simp only [Int.toNat_natCast] at e1
      have e5 := hs.out
      rw [e2] at e5
      have hxl : x ≤ lf := by omega
      have hnum' : Hid (nn + sumW j lf x + numT (xs.take j).reverse (lf - x) = num c xs) := by have := hnum.out; rw [e1] at this; unfold Hid; omega
      have hs' : Hid ((xs.take j).sum ≤ ((lf - x : Nat) : Int)) := by unfold Hid; omega
      have hb0 : nn + sumW j lf x < wys h c := by have := hnum'.out; omega
      have HM : Hid (∀ d, d ≤ x → sumW j lf d ≤ sumW j lf x) := fun d hd => sumW_mono hd
      clear hcells e1 e2 e3 e4 e5 hx hnum hs
      go_wp2_with (fail)
      go_loop [5, 22] (fun v dv => ∃ d : Nat, d ≤ x ∧ dv = .int .i64 d ∧ v = .int .i64 ((nn + sumW j lf d : Nat) : Int)) (fun _ dv => x - (intOf dv).toNat)
      case atStart => exact ⟨0, by omega, rfl, by simp [sumW]⟩
      case round =>
        obtain ⟨d, hd, rfl, rfl⟩ := hrel
        by_cases hdx : d < x
        · have hdi : (d : Int) < (x : Int) := by omega
          have hsub : ((lf : Int) - (d : Int)) = ((lf - d : Nat) : Int) := by omega
          have hm1 := HM.out (d + 1) (by omega)
          have hm2 := HM.out d (by omega)
          have E := Lib.hid (sumW_succ j lf d)
          have hm3 : sumW j lf d + wys j (lf - d) ≤ sumW j lf x := by rw [← E.out]; exact hm1
          have CL := Lib.hid (fun (W : World) => listsUpTo_any j (lf - d) W (by omega) (by omega))
          clear hm1
          go_wp2_with ((go_at_call 174; (try rw [hsub]); refine (CL.out _).mono ?_; rintro e w' ⟨rfl, rfl⟩))
          go_round
          case rel => exact ⟨d + 1, by omega, by go_num, by rw [E.out]; go_num⟩
          case measure => simp [intOf]; omega
        · have hdx2 : d = x := by omega
          subst hdx2
          go_wp2_with (fail)
          go_round
          case rel => exact ⟨j, nn + sumW j lf d, lf - d, by omega, by omega, by go_num, by go_num, rfl, hnum'.out, hs'.out⟩
          case measure => (simp [intOf]) <;> omega
set_option maxRecDepth 10000 in
set_option maxHeartbeats 1000000 in
theorem l10Number_any (p s : Int) (c h : Nat) (A : Option Addr) (n cp : Nat) (xs : List Int) (w : World) (hx : SL w A n xs) (hp : PosP h c xs) (hc : c ≤ 15) (hh : h ≤ 24) (hw6 : wys h c ≤ 1000000) :
    Calls Tryz.prog 134 #[.agg #[.int .i64 p, .int .i64 c, .int .i64 h, .int .i64 s], .slice A n cp] w fun e w' => e = .returned (.int .i64 (num c xs)) ∧ Below w.heap.size w w' := by
  have HB : Hid (Below w.heap.size w (w.alloc (.cells #[.int .i64 p, .int .i64 c, .int .i64 h, .int .i64 s] 29))) := (Below.refl _ _).alloc (Nat.le_refl _) _
  have hl : xs.length = n := hx.1
  have hn24 : n ≤ 24 := by have := hp.1; omega
  have hbd : num c xs < wys h c := num_lt hp
  have hwb := wys_bd (k := h) (m := c) (by omega) hc
  have HW : Hid (∀ i m, i ≤ h → m ≤ c → wys i m ≤ wys h c) := fun i m hi hm => wys_mono hi hm
  have HP := Lib.hid hp
  have HX := Lib.hid (hx.alloc (.cells #[.int .i64 p, .int .i64 c, .int .i64 h, .int .i64 s] 29))
  have HL := Lib.hid hl
  have hnh := Lib.hid (show n = h by rw [← hl]; exact hp.1)
  have HN : Hid (numT (xs.take n).reverse c = num c xs) := by unfold Hid num; rw [List.take_of_length_le (by omega)]
  have HS : Hid ((xs.take n).sum ≤ c) := by unfold Hid; rw [List.take_of_length_le (by omega)]; exact hp.2.2
  have HPN : Hid (∀ k, 0 ≤ (xs.take k).sum) := fun k => sum_take_nonneg xs k hp.2.1
  clear hx hl hp
  go_enter Tryz.func134, Tryz.ntmps134
  go_wp2
  go_loop [5, 6, 7] (fun v l i => ∃ (k nn lf : Nat), k ≤ n ∧ lf ≤ c ∧ i = .int .i64 ((k : Int) - 1) ∧ l = .int .i64 lf ∧ v = .int .i64 nn ∧ Hid (nn + numT (xs.take k).reverse lf = num c xs) ∧ Hid ((xs.take k).sum ≤ lf)) (fun _ _ i => (intOf i + 1).toNat)
  case atStart => exact ⟨n, 0, c, by omega, by omega, rfl, rfl, rfl, by unfold Hid; rw [HN.out]; omega, HS.out⟩
  case round =>
    obtain ⟨k, nn, lf, hk, hlf, hi, rfl, rfl, hnum, hs⟩ := hrel
    rcases k with _ | j
    · rw [show ((0 : Nat) : Int) - 1 = -1 from rfl] at hi
      subst hi
      have HR : Hid (nn = num c xs) := by have := hnum.out; unfold Hid; simpa [numT] using this
      go_wp2_with (fail)
      go_ret
      exact ⟨by rw [← HR.out]; rfl, HB.out⟩
    · rw [show ((j + 1 : Nat) : Int) - 1 = (j : Int) by omega] at hi
      subst hi
      obtain ⟨b, off, rfl, _, hcells⟩ := HX.out.2 (by omega)
      have hcell := hcells j (by omega)
      have e1 := numT_take (p := xs) (i := j) (left := lf) (by rw [HL.out]; omega)
      have e2 := sumT_take (p := xs) (i := j) (by rw [HL.out]; omega)
      have e3 := HPN.out j
      have e4 := HP.out.2.1 _ (getD_mem xs j (by rw [HL.out]; omega))
      obtain ⟨x, hx⟩ : ∃ x : Nat, xs.getD j 0 = (x : Int) := ⟨(xs.getD j 0).toNat, by omega⟩
      rw [hx] at hcell e1 e2 e4
      simp only [Int.toNat_natCast] at e1
      have e5 := hs.out
      rw [e2] at e5
      have hxl : x ≤ lf := by omega
      have hnum' : Hid (nn + sumW j lf x + numT (xs.take j).reverse (lf - x) = num c xs) := by have := hnum.out; rw [e1] at this; unfold Hid; omega
      have hs' : Hid ((xs.take j).sum ≤ ((lf - x : Nat) : Int)) := by unfold Hid; omega
      have hb0 : nn + sumW j lf x < wys h c := by have := hnum'.out; omega
      have HM : Hid (∀ d, d ≤ x → sumW j lf d ≤ sumW j lf x) := fun d hd => sumW_mono hd
      clear hcells e1 e2 e3 e4 e5 hx hnum hs
      go_wp2_with (fail)
      go_loop [5, 8] (fun v dv => ∃ d : Nat, d ≤ x ∧ dv = .int .i64 d ∧ v = .int .i64 ((nn + sumW j lf d : Nat) : Int)) (fun _ dv => x - (intOf dv).toNat)
      case atStart => exact ⟨0, by omega, rfl, by simp [sumW]⟩
      case round =>
        obtain ⟨d, hd, rfl, rfl⟩ := hrel
        by_cases hdx : d < x
        · have hdi : (d : Int) < (x : Int) := by omega
          have hsub : ((lf : Int) - (d : Int)) = ((lf - d : Nat) : Int) := by omega
          have hm1 := HM.out (d + 1) (by omega)
          have hm2 := HM.out d (by omega)
          have E := Lib.hid (sumW_succ j lf d)
          have hm3 : sumW j lf d + wys j (lf - d) ≤ sumW j lf x := by rw [← E.out]; exact hm1
          have CL := Lib.hid (fun (W : World) => (show Calls Tryz.prog 97 #[.int .i64 ((lf - d : Nat) : Int), .int .i64 j] W (fun e w' => e = .returned (.int .i64 (wys j (lf - d))) ∧ W = w') from by have h1 := l10Ways_any j (lf - d) W (by omega) (by omega); rw [wysC_ok (Nat.le_trans (HW.out _ _ (by have := hnh.out; omega) (by omega)) hw6)] at h1; exact h1))
          clear hm1
          go_wp2_with ((go_at_call 97; (try rw [hsub]); refine (CL.out _).mono ?_; rintro e w' ⟨rfl, rfl⟩))
          go_round
          case rel => exact ⟨d + 1, by omega, by go_num, by rw [E.out]; go_num⟩
          case measure => simp [intOf]; omega
        · have hdx2 : d = x := by omega
          subst hdx2
          go_wp2_with (fail)
          go_round
          case rel => exact ⟨j, nn + sumW j lf d, lf - d, by omega, by omega, by go_num, by go_num, rfl, hnum'.out, hs'.out⟩
          case measure => (simp [intOf]) <;> omega
end Go.Proofs.YtlbkfhdnhalpbaaGreat

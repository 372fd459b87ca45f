/- Contracts of the order of bear-off positions, the program's and the reference's, and of the highest place. There are no conditions. -/
import Derived.Test.YtlbkfhdnhalpbaaGreatMem
import Derived.Test.YtlbkfhdnhalpbaaGreatA2
import Derived.Test.YtlbkfhdnhalpbaaGreatPos2
namespace Go.Proofs.YtlbkfhdnhalpbaaGreat
set_option linter.unusedVariables false
set_option linter.unusedSimpArgs false
open Go.RowKit Ps

/-- The difference at the last of the first k places where p and q differ, 0 if none. -/
def cmpAt (p q : List Int) : Nat → Int
  | 0 => 0
  | k + 1 => if p.getD k 0 = q.getD k 0 then cmpAt p q k else p.getD k 0 - q.getD k 0
def cmpI (p q : List Int) : Int := cmpAt p q p.length
theorem cmpAt_eq {p q : List Int} {k : Nat} (h : p.getD k 0 = q.getD k 0) : cmpAt p q (k + 1) = cmpAt p q k := if_pos h
theorem cmpAt_ne {p q : List Int} {k : Nat} (h : ¬ p.getD k 0 = q.getD k 0) : cmpAt p q (k + 1) = p.getD k 0 - q.getD k 0 := if_neg h
theorem cmpAt_lt (p q : List Int) : ∀ k, cmpAt p q k < 0 ↔ ∃ i, i < k ∧ p.getD i 0 < q.getD i 0 ∧ ∀ j, i < j → j < k → p.getD j 0 = q.getD j 0
  | 0 => ⟨fun h => absurd h (by show ¬ (0 : Int) < 0; omega), fun ⟨i, h, _⟩ => by omega⟩
  | k + 1 => by
    by_cases h : p.getD k 0 = q.getD k 0
    · rw [cmpAt_eq h, cmpAt_lt p q k]
      constructor
      · rintro ⟨i, h1, h2, h3⟩
        exact ⟨i, by omega, h2, fun j h4 h5 => by
          by_cases e : j = k
          · rw [e]; exact h
          · exact h3 j h4 (by omega)⟩
      · rintro ⟨i, h1, h2, h3⟩
        refine ⟨i, ?_, h2, fun j h4 h5 => h3 j h4 (by omega)⟩
        by_cases e : i = k
        · subst e; omega
        · omega
    · rw [cmpAt_ne h]
      constructor
      · intro h1; exact ⟨k, by omega, by omega, fun j h2 h3 => by omega⟩
      · rintro ⟨i, h1, h2, h3⟩
        by_cases e : i = k
        · subst e; omega
        · exact absurd (h3 k (by omega) (by omega)) h
theorem cmpAt_neg (p q : List Int) : ∀ k, cmpAt q p k = - cmpAt p q k
  | 0 => rfl
  | k + 1 => by
    by_cases h : p.getD k 0 = q.getD k 0
    · rw [cmpAt_eq h, cmpAt_eq h.symm, cmpAt_neg p q k]
    · rw [cmpAt_ne h, cmpAt_ne (fun e => h e.symm)]; omega
theorem cmpI_lt {p q : List Int} : cmpI p q < 0 ↔ Bef p q := cmpAt_lt p q p.length
theorem cmpI_bef (p q : List Int) : decide (cmpI p q < 0) = befB p q := by
  cases h : befB p q with
  | true => exact decide_eq_true (cmpI_lt.2 (befB_yes.1 h))
  | false => exact decide_eq_false fun h' => befB_no.1 h (cmpI_lt.1 h')

theorem drw_ex {w wr : World} {k : Nat} (h : ∃ m, wr = w.drewN m) : ∃ m, wr.drewN k = w.drewN m := by obtain ⟨m, rfl⟩ := h; exact ⟨m + k, World.drewN_drewN ..⟩

set_option maxRecDepth 10000 in
theorem compareBearoffs_any (A B : Option Addr) (n ca cb : Nat) (p q : List Int) (w : World) (hx : SL w A n p) (hy : SL w B n q) (hn : n ≤ 2000) (hp : ∀ x ∈ p, 0 ≤ x ∧ x ≤ 1000) (hq : ∀ x ∈ q, 0 ≤ x ∧ x ≤ 1000) :
    Calls Tryz.prog 196 #[.slice A n ca, .slice B n cb] w fun e w' => e = .returned (.int .i64 (cmpI p q)) ∧ ∃ m, w' = w.drewN m := by
  have HX := Lib.hid hx
  have HY := Lib.hid hy
  have HP := Lib.hid hp
  have HQ := Lib.hid hq
  have hl1 := Lib.hid hx.1
  have hl2 := Lib.hid hy.1
  clear hx hy hp hq
  have hst : Hid (cmpI p q = cmpAt p q n) := by unfold Hid cmpI; rw [hl1.out]
  go_enter Tryz.func196, Tryz.ntmps196
  go_wp2
  go_loopw [5] (fun i wr => ∃ k : Nat, k ≤ n ∧ i = .int .i64 ((k : Int) - 1) ∧ Hid (cmpI p q = cmpAt p q k) ∧ Hid (∃ m, wr = w.drewN m)) (fun i _ => (intOf i + 1).toNat)
  case atStart => exact ⟨n, by omega, rfl, hst.out, 0, rfl⟩
  case round =>
    obtain ⟨k, hk, hi, hc, hw⟩ := hrel
    rcases k with _ | j
    · rw [show ((0 : Nat) : Int) - 1 = -1 from rfl] at hi
      subst hi
      have HR : Hid (cmpI p q = 0) := hc.out
      go_wp2_with (fail)
      go_ret
      exact ⟨by rw [HR.out]; rfl, hw.out⟩
    · rw [show ((j + 1 : Nat) : Int) - 1 = (j : Int) by omega] at hi
      subst hi
      obtain ⟨m, hm⟩ := hw.out
      have HX2 : SL wr A n p := by rw [hm]; exact HX.out
      have HY2 : SL wr B n q := by rw [hm]; exact HY.out
      obtain ⟨b1, o1, rfl, z1, c1⟩ := HX2.2 (by omega)
      obtain ⟨b2, o2, rfl, z2, c2⟩ := HY2.2 (by omega)
      have c1 := c1 j (by omega)
      have c2 := c2 j (by omega)
      have d1 := HP.out _ (getD_mem p j (by rw [hl1.out]; omega))
      have d2 := HQ.out _ (getD_mem q j (by rw [hl2.out]; omega))
      have E1 : Hid (p.getD j 0 = q.getD j 0 → cmpI p q = cmpAt p q j) := fun e => hc.out.trans (cmpAt_eq e)
      have E2 : Hid (¬ p.getD j 0 = q.getD j 0 → cmpI p q = p.getD j 0 - q.getD j 0) := fun e => hc.out.trans (cmpAt_ne e)
      clear HX2 HY2 hc hm
      generalize p.getD j 0 = x at *
      generalize q.getD j 0 = y at *
      by_cases hxy : x = y
      · have b0 : (x != y) = false := by simp [hxy]
        have HR := Lib.hid (E1.out hxy)
        clear hxy
        go_wp2_with (fail)
        go_quiet (fail)
        go_wp2_with (fail)
        go_roundw
        case rel => exact ⟨j, by omega, by go_num, HR.out, drw_ex hw.out⟩
        case measure => (simp [intOf]) <;> omega
      · have b0 : (x != y) = true := by simp [hxy]
        have HR := Lib.hid (E2.out hxy)
        clear hxy
        go_wp2_with (fail)
        go_quiet (fail)
        go_wp2_with (fail)
        go_quiet (fail)
        go_wp2_with (fail)
        go_ret
        exact ⟨by rw [HR.out]; rfl, by first | exact drw_ex (drw_ex hw.out) | (have := drw_ex (drw_ex hw.out); simpa using this)⟩
set_option maxRecDepth 10000 in
theorem l10Before_any (A B : Option Addr) (n ca cb : Nat) (p q : List Int) (w : World) (hx : SL w A n p) (hy : SL w B n q) (hn : n ≤ 2000) (hp : ∀ x ∈ p, 0 ≤ x ∧ x ≤ 1000) (hq : ∀ x ∈ q, 0 ≤ x ∧ x ≤ 1000) :
    Calls Tryz.prog 127 #[.slice A n ca, .slice B n cb] w fun e w' => e = .returned (.bool (befB p q)) ∧ ∃ m, w' = w.drewN m := by
  have HX := Lib.hid hx
  have HY := Lib.hid hy
  have HP := Lib.hid hp
  have HQ := Lib.hid hq
  have hl1 := Lib.hid hx.1
  have hl2 := Lib.hid hy.1
  clear hx hy hp hq
  have hst : Hid (cmpI p q = cmpAt p q n) := by unfold Hid cmpI; rw [hl1.out]
  go_enter Tryz.func127, Tryz.ntmps127
  go_wp2
  go_loopw [5] (fun i wr => ∃ k : Nat, k ≤ n ∧ i = .int .i64 ((k : Int) - 1) ∧ Hid (cmpI p q = cmpAt p q k) ∧ Hid (∃ m, wr = w.drewN m)) (fun i _ => (intOf i + 1).toNat)
  case atStart => exact ⟨n, by omega, rfl, hst.out, 0, rfl⟩
  case round =>
    obtain ⟨k, hk, hi, hc, hw⟩ := hrel
    rcases k with _ | j
    · rw [show ((0 : Nat) : Int) - 1 = -1 from rfl] at hi
      subst hi
      have HR : Hid (cmpI p q = 0) := hc.out
      go_wp2_with (fail)
      go_ret
      exact ⟨by rw [← cmpI_bef, HR.out]; rfl, hw.out⟩
    · rw [show ((j + 1 : Nat) : Int) - 1 = (j : Int) by omega] at hi
      subst hi
      obtain ⟨m, hm⟩ := hw.out
      have HX2 : SL wr A n p := by rw [hm]; exact HX.out
      have HY2 : SL wr B n q := by rw [hm]; exact HY.out
      obtain ⟨b1, o1, rfl, z1, c1⟩ := HX2.2 (by omega)
      obtain ⟨b2, o2, rfl, z2, c2⟩ := HY2.2 (by omega)
      have c1 := c1 j (by omega)
      have c2 := c2 j (by omega)
      have d1 := HP.out _ (getD_mem p j (by rw [hl1.out]; omega))
      have d2 := HQ.out _ (getD_mem q j (by rw [hl2.out]; omega))
      have E1 : Hid (p.getD j 0 = q.getD j 0 → cmpI p q = cmpAt p q j) := fun e => hc.out.trans (cmpAt_eq e)
      have E2 : Hid (¬ p.getD j 0 = q.getD j 0 → cmpI p q = p.getD j 0 - q.getD j 0) := fun e => hc.out.trans (cmpAt_ne e)
      clear HX2 HY2 hc hm
      generalize p.getD j 0 = x at *
      generalize q.getD j 0 = y at *
      by_cases hxy : x = y
      · have b0 : (x != y) = false := by simp [hxy]
        have HR := Lib.hid (E1.out hxy)
        clear hxy
        go_wp2_with (fail)
        go_quiet (fail)
        go_wp2_with (fail)
        go_roundw
        case rel => exact ⟨j, by omega, by go_num, HR.out, drw_ex hw.out⟩
        case measure => (simp [intOf]) <;> omega
      · have b0 : (x != y) = true := by simp [hxy]
        have HR := Lib.hid (E2.out hxy)
        clear hxy
        go_wp2_with (fail)
        go_quiet (fail)
        go_wp2_with (fail)
        go_quiet (fail)
        go_wp2_with (fail)
        go_ret
        exact ⟨by rw [← cmpI_bef, HR.out, show decide (x - y < 0) = decide (x < y) from decide_eq_decide.2 (by omega)]; rfl, by first | exact drw_ex (drw_ex hw.out) | (have := drw_ex (drw_ex hw.out); simpa using this)⟩

/-- The last place with a checker, -1 if there is none. -/
def topI (p : List Int) : Nat → Int
  | 0 => -1
  | k + 1 => if 0 < p.getD k 0 then (k : Int) else topI p k
set_option maxRecDepth 10000 in
theorem highest_any (A : Option Addr) (n c : Nat) (p : List Int) (w : World) (hx : SL w A n p) (hn : n ≤ 2000) :
    Calls Tryz.prog 194 #[.slice A n c] w fun e w' => e = .returned (.int .i64 (topI p n)) ∧ w = w' := by
  have HX := Lib.hid hx
  clear hx
  go_enter Tryz.func194, Tryz.ntmps194
  go_wp2
  go_loop [3] (fun i => ∃ k : Nat, k ≤ n ∧ i = .int .i64 ((k : Int) - 1) ∧ Hid (topI p n = topI p k)) (fun i => (intOf i + 1).toNat)
  case atStart => exact ⟨n, by omega, rfl, rfl⟩
  case round =>
    obtain ⟨k, hk, hi, hc⟩ := hrel
    rcases k with _ | j
    · rw [show ((0 : Nat) : Int) - 1 = -1 from rfl] at hi
      subst hi
      go_wp2_with (fail)
      go_ret
      exact ⟨by rw [hc.out]; rfl, rfl⟩
    · rw [show ((j + 1 : Nat) : Int) - 1 = (j : Int) by omega] at hi
      subst hi
      obtain ⟨b, off, rfl, _, hcl⟩ := HX.out.2 (by omega)
      have hcell := hcl j (by omega)
      have E : Hid (topI p n = if 0 < p.getD j 0 then (j : Int) else topI p j) := hc.out
      clear hcl hc
      generalize p.getD j 0 = x at *
      by_cases h0 : 0 < x
      · have HR : Hid (topI p n = j) := by have := E.out; rwa [if_pos h0] at this
        go_wp2_with (fail)
        go_ret
        exact ⟨by rw [HR.out]; rfl, rfl⟩
      · have HR : Hid (topI p n = topI p j) := by have := E.out; rwa [if_neg h0] at this
        go_wp2_with (fail)
        go_round
        case rel => exact ⟨j, by omega, by go_num, HR.out⟩
        case measure => (simp [intOf]) <;> omega
theorem topI_spec {p : List Int} : ∀ {k : Nat}, (topI p k = -1 ∧ ∀ j, j < k → p.getD j 0 ≤ 0) ∨ (∃ i : Nat, topI p k = i ∧ i < k ∧ 0 < p.getD i 0 ∧ ∀ j, i < j → j < k → p.getD j 0 ≤ 0)
  | 0 => .inl ⟨rfl, fun j h => by omega⟩
  | k + 1 => by
    by_cases h : 0 < p.getD k 0
    · exact .inr ⟨k, by unfold topI; rw [if_pos h], by omega, h, fun j h1 h2 => by omega⟩
    · have e : topI p (k + 1) = topI p k := by rw [topI, if_neg h]
      rw [e]
      rcases topI_spec (p := p) (k := k) with ⟨h1, h2⟩ | ⟨i, h1, h2, h3, h4⟩
      · refine .inl ⟨h1, fun j hj => ?_⟩
        by_cases e : j = k
        · rw [e]; omega
        · exact h2 j (by omega)
      · refine .inr ⟨i, h1, by omega, h3, fun j hj hj2 => ?_⟩
        by_cases e : j = k
        · rw [e]; omega
        · exact h4 j hj (by omega)
theorem getD_dropI (p : List Int) (k j : Nat) : (p.drop k).getD j 0 = p.getD (k + j) 0 := by simp [List.getD]
/-- At a place with a checker: it is the last one iff none lies behind. -/
theorem topI_last {p : List Int} {i : Nat} (h0 : ∀ x ∈ p, 0 ≤ x) (hi : i < p.length) (hc : p.getD i 0 ≠ 0) : topI p p.length = i ↔ (p.drop (i + 1)).sum = 0 := by
  have hpos : 0 < p.getD i 0 := by have := getD_nonneg h0 i; omega
  have hd : ∀ x ∈ p.drop (i + 1), 0 ≤ x := fun x hx => h0 x (List.mem_of_mem_drop hx)
  rcases topI_spec (p := p) (k := p.length) with ⟨h1, h2⟩ | ⟨t, h1, h2, h3, h4⟩
  · have := h2 i hi; omega
  · rw [h1]
    constructor
    · intro e
      have e : t = i := by omega
      subst e
      refine getD_zero_sum fun j hj => ?_
      rw [getD_dropI]
      have := h4 (t + 1 + j) (by omega) (by simp at hj; omega)
      have := getD_nonneg h0 (t + 1 + j)
      omega
    · intro hs
      by_cases e : t = i
      · rw [e]
      · exfalso
        have hti : i < t := by
          rcases Nat.lt_or_ge i t with h | h
          · exact h
          · have := h4 i (by omega) hi; omega
        have := sum_zero_getD hd hs (t - (i + 1))
        rw [getD_dropI, show i + 1 + (t - (i + 1)) = t by omega] at this
        omega
end Go.Proofs.YtlbkfhdnhalpbaaGreat

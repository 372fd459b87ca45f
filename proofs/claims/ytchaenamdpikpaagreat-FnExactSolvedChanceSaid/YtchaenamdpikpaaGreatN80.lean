/- Contracts on small variants, boards that are over, contact and solved boards. There are no conditions beyond those that each states. -/
import Derived.Test.YtchaenamdpikpaaGreatZa
import Derived.Test.YtchaenamdpikpaaGreatZc
import Derived.Test.YtchaenamdpikpaaGreatZe
namespace Go.Proofs.YtchaenamdpikpaaGreat
set_option linter.unusedVariables false
set_option linter.unusedSimpArgs false
open Go.RowKit Ps

def smB (p c h s : Int) : Bool := isVar p c h s && decide (p ≤ 6 ∧ c ≤ 3 ∧ s ≤ 3)
theorem smB_yes {p c h s : Int} (H : smB p c h s = true) : isVar p c h s = true ∧ p ≤ 6 ∧ c ≤ 3 ∧ s ≤ 3 := by
  simp only [smB, Bool.and_eq_true, decide_eq_true_eq] at H; exact H
theorem smB_no {p c h s : Int} (H : ¬ (p ≤ 6 ∧ c ≤ 3 ∧ s ≤ 3)) : smB p c h s = false := by simp [smB, H]
def smallB : Bool := (List.range 7).all fun h => (List.range 4).all fun c => decide (wys h c ≤ 500)
theorem smallB_ok : smallB = true := by decide +kernel
theorem wys_small {h c : Nat} (hh : h ≤ 6) (hc : c ≤ 3) : wys h c ≤ 500 := by
  have := List.all_eq_true.1 (List.all_eq_true.1 smallB_ok h (List.mem_range.2 (by omega))) c (List.mem_range.2 (by omega))
  exact of_decide_eq_true this
theorem sum_zero_of {xs : List Int} (h : ∀ x ∈ xs, x = 0) : xs.sum = 0 := by
  induction xs with
  | nil => rfl
  | cons a l ih => rw [List.sum_cons, h a (by simp), ih fun x hx => h x (by simp [hx])]; rfl
theorem topI_pos {xs : List Int} (h0 : ∀ x ∈ xs, 0 ≤ x) (hs : xs.sum ≠ 0) : 0 ≤ topI xs xs.length := by
  rcases topI_spec (p := xs) (k := xs.length) with ⟨_, h2⟩ | ⟨i, h1, _⟩
  · refine absurd (sum_zero_of fun x hx => ?_) hs
    obtain ⟨i, hi, rfl⟩ := List.getElem_of_mem hx
    have h3 := h2 i hi
    rw [List.getD_eq_getElem?_getD, List.getElem?_eq_getElem hi] at h3
    have h4 := h0 _ hx
    simp only [Option.getD_some] at h3
    omega
  · omega
theorem topI_bd (xs : List Int) (k : Nat) : -1 ≤ topI xs k ∧ topI xs k < k := by
  rcases topI_spec (p := xs) (k := k) with ⟨h1, _⟩ | ⟨i, h1, h2, _⟩
  · rw [h1]; omega
  · rw [h1]; omega

theorem IsSmallVariant_any (p c h s : Int) (w : World) : Calls Tryz.prog 37 #[.agg #[.int .i64 p, .int .i64 c, .int .i64 h, .int .i64 s]] w fun e w' => e = .returned (.bool (smB p c h s)) ∧ Below w.heap.size w w' := by
  have HB : Hid (Below w.heap.size w (w.alloc (.cells #[.int .i64 p, .int .i64 c, .int .i64 h, .int .i64 s] 25))) := (Below.refl _ _).alloc (Nat.le_refl _) _
  have CV0 := fun (W : World) => IsVariant_any p c h s W
  cases hv : isVar p c h s with
  | false =>
    have HR : Hid (smB p c h s = false) := by unfold Hid smB; rw [hv]; rfl
    rw [hv] at CV0
    have CV := Lib.hid CV0
    clear CV0 hv
    go_enter Tryz.func37, Tryz.ntmps37
    go_wp2_with (go_at_call 59; refine (more_first (CV.out _)).mono ?_; rintro e w' ⟨rfl, t, rfl⟩)
    go_ret
    exact ⟨by rw [HR.out]; first | rfl | (simp <;> first | omega | assumption), HB.out.trans ((below_more _ _).mono HB.out.size)⟩
  | true =>
    have HR0 : Hid (smB p c h s = decide (p ≤ 6 ∧ c ≤ 3 ∧ s ≤ 3)) := by unfold Hid smB; rw [hv]; rfl
    rw [hv] at CV0
    have CV := Lib.hid CV0
    clear CV0 hv
    by_cases h1 : p ≤ 6
    · by_cases h2 : c ≤ 3
      · by_cases h3 : s ≤ 3
        · have HR : Hid (smB p c h s = true) := by unfold Hid; rw [HR0.out]; exact decide_eq_true ⟨h1, h2, h3⟩
          go_enter Tryz.func37, Tryz.ntmps37
          go_wp2_with (go_at_call 59; refine (more_first (CV.out _)).mono ?_; rintro e w' ⟨rfl, t, rfl⟩)
          go_ret
          exact ⟨by rw [HR.out]; first | rfl | (simp <;> first | omega | assumption), HB.out.trans ((below_more _ _).mono HB.out.size)⟩
        · have HR : Hid (smB p c h s = false) := by unfold Hid; rw [HR0.out]; exact decide_eq_false fun h => h3 h.2.2
          go_enter Tryz.func37, Tryz.ntmps37
          go_wp2_with (go_at_call 59; refine (more_first (CV.out _)).mono ?_; rintro e w' ⟨rfl, t, rfl⟩)
          go_ret
          exact ⟨by rw [HR.out]; first | rfl | (simp <;> first | omega | assumption), HB.out.trans ((below_more _ _).mono HB.out.size)⟩
      · have HR : Hid (smB p c h s = false) := by unfold Hid; rw [HR0.out]; exact decide_eq_false fun h => h2 h.2.1
        go_enter Tryz.func37, Tryz.ntmps37
        go_wp2_with (go_at_call 59; refine (more_first (CV.out _)).mono ?_; rintro e w' ⟨rfl, t, rfl⟩)
        go_ret
        exact ⟨by rw [HR.out]; first | rfl | (simp <;> first | omega | assumption), HB.out.trans ((below_more _ _).mono HB.out.size)⟩
    · have HR : Hid (smB p c h s = false) := by unfold Hid; rw [HR0.out]; exact decide_eq_false fun h => h1 h.1
      go_enter Tryz.func37, Tryz.ntmps37
      go_wp2_with (go_at_call 59; refine (more_first (CV.out _)).mono ?_; rintro e w' ⟨rfl, t, rfl⟩)
      go_ret
      exact ⟨by rw [HR.out]; first | rfl | (simp <;> first | omega | assumption), HB.out.trans ((below_more _ _).mono HB.out.size)⟩
theorem sIsSmallVariant_any (p c h s : Int) (w : World) : Calls Tryz.prog 68 #[.agg #[.int .i64 p, .int .i64 c, .int .i64 h, .int .i64 s]] w fun e w' => e = .returned (.bool (smB p c h s)) ∧ Below w.heap.size w w' := by
  have HB : Hid (Below w.heap.size w (w.alloc (.cells #[.int .i64 p, .int .i64 c, .int .i64 h, .int .i64 s] 25))) := (Below.refl _ _).alloc (Nat.le_refl _) _
  have CV0 := fun (W : World) => sIsVariant_any p c h s W
  cases hv : isVar p c h s with
  | false =>
    have HR : Hid (smB p c h s = false) := by unfold Hid smB; rw [hv]; rfl
    rw [hv] at CV0
    have CV := Lib.hid CV0
    clear CV0 hv
    go_enter Tryz.func68, Tryz.ntmps68
    go_wp2_with (go_at_call 46; refine (more_first (CV.out _)).mono ?_; rintro e w' ⟨rfl, t, rfl⟩)
    go_ret
    exact ⟨by rw [HR.out]; first | rfl | (simp <;> first | omega | assumption), HB.out.trans ((below_more _ _).mono HB.out.size)⟩
  | true =>
    have HR0 : Hid (smB p c h s = decide (p ≤ 6 ∧ c ≤ 3 ∧ s ≤ 3)) := by unfold Hid smB; rw [hv]; rfl
    rw [hv] at CV0
    have CV := Lib.hid CV0
    clear CV0 hv
    by_cases h1 : p ≤ 6
    · by_cases h2 : c ≤ 3
      · by_cases h3 : s ≤ 3
        · have HR : Hid (smB p c h s = true) := by unfold Hid; rw [HR0.out]; exact decide_eq_true ⟨h1, h2, h3⟩
          go_enter Tryz.func68, Tryz.ntmps68
          go_wp2_with (go_at_call 46; refine (more_first (CV.out _)).mono ?_; rintro e w' ⟨rfl, t, rfl⟩)
          go_ret
          exact ⟨by rw [HR.out]; first | rfl | (simp <;> first | omega | assumption), HB.out.trans ((below_more _ _).mono HB.out.size)⟩
        · have HR : Hid (smB p c h s = false) := by unfold Hid; rw [HR0.out]; exact decide_eq_false fun h => h3 h.2.2
          go_enter Tryz.func68, Tryz.ntmps68
          go_wp2_with (go_at_call 46; refine (more_first (CV.out _)).mono ?_; rintro e w' ⟨rfl, t, rfl⟩)
          go_ret
          exact ⟨by rw [HR.out]; first | rfl | (simp <;> first | omega | assumption), HB.out.trans ((below_more _ _).mono HB.out.size)⟩
      · have HR : Hid (smB p c h s = false) := by unfold Hid; rw [HR0.out]; exact decide_eq_false fun h => h2 h.2.1
        go_enter Tryz.func68, Tryz.ntmps68
        go_wp2_with (go_at_call 46; refine (more_first (CV.out _)).mono ?_; rintro e w' ⟨rfl, t, rfl⟩)
        go_ret
        exact ⟨by rw [HR.out]; first | rfl | (simp <;> first | omega | assumption), HB.out.trans ((below_more _ _).mono HB.out.size)⟩
    · have HR : Hid (smB p c h s = false) := by unfold Hid; rw [HR0.out]; exact decide_eq_false fun h => h1 h.1
      go_enter Tryz.func68, Tryz.ntmps68
      go_wp2_with (go_at_call 46; refine (more_first (CV.out _)).mono ?_; rintro e w' ⟨rfl, t, rfl⟩)
      go_ret
      exact ⟨by rw [HR.out]; first | rfl | (simp <;> first | omega | assumption), HB.out.trans ((below_more _ _).mono HB.out.size)⟩

theorem boardOver_any (A1 A2 : Option Addr) (n1 c1 n2 c2 : Nat) (own other : List Int) (w : World) (h1 : SL w A1 n1 own) (h2 : SL w A2 n2 other) (hq1 : ∀ x ∈ own, 0 ≤ x) (hq2 : ∀ x ∈ other, 0 ≤ x) (hm1 : own.sum ≤ 2000000) (hm2 : other.sum ≤ 2000000) (hn1 : n1 ≤ 2000000) (hn2 : n2 ≤ 2000000) :
    Calls Tryz.prog 75 #[.agg #[.slice A1 n1 c1, .slice A2 n2 c2]] w fun e w' => e = .returned (.bool (decide (own.sum = 0 ∨ other.sum = 0))) ∧ Below w.heap.size w w' := by
  have HB : Hid (Below w.heap.size w (w.alloc (.cells #[.slice A1 n1 c1, .slice A2 n2 c2] 40))) := (Below.refl _ _).alloc (Nat.le_refl _) _
  have CT1 := Lib.hid (total_any A1 n1 c1 own _ (h1.below HB.out) hq1 hm1 hn1)
  have CT2 := Lib.hid (total_any A2 n2 c2 other _ (h2.below HB.out) hq2 hm2 hn2)
  clear h1 h2 hq1 hq2 hm1 hm2
  generalize own.sum = S1 at *
  generalize other.sum = S2 at *
  by_cases hz1 : S1 = 0
  · have HR : Hid (decide (S1 = 0 ∨ S2 = 0) = true) := decide_eq_true (.inl hz1)
    have b1 : (S1 == 0) = true := by simp [hz1]
    have HZ := Lib.hid hz1
    clear hz1
    go_enter Tryz.func75, Tryz.ntmps75
    go_wp2_with (go_at_call_of 26 A1; refine CT1.out.mono ?_; rintro e w' ⟨rfl, rfl⟩)
    go_ret
    exact ⟨by rw [HR.out]; first | rfl | (simp <;> first | omega | assumption), HB.out⟩
  · have b1 : (S1 == 0) = false := by simp [hz1]
    by_cases hz2 : S2 = 0
    · have HR : Hid (decide (S1 = 0 ∨ S2 = 0) = true) := decide_eq_true (.inr hz2)
      have b2 : (S2 == 0) = true := by simp [hz2]
      clear hz1 hz2
      go_enter Tryz.func75, Tryz.ntmps75
      go_wp2_with (first | (go_at_call_of 26 A1; refine CT1.out.mono ?_; rintro e w' ⟨rfl, rfl⟩) | (go_at_call_of 26 A2; refine CT2.out.mono ?_; rintro e w' ⟨rfl, rfl⟩))
      go_ret
      exact ⟨by rw [HR.out]; first | rfl | (simp <;> first | omega | assumption), HB.out⟩
    · have HR : Hid (decide (S1 = 0 ∨ S2 = 0) = false) := decide_eq_false fun h => h.elim hz1 hz2
      have b2 : (S2 == 0) = false := by simp [hz2]
      clear hz1 hz2
      go_enter Tryz.func75, Tryz.ntmps75
      go_wp2_with (first | (go_at_call_of 26 A1; refine CT1.out.mono ?_; rintro e w' ⟨rfl, rfl⟩) | (go_at_call_of 26 A2; refine CT2.out.mono ?_; rintro e w' ⟨rfl, rfl⟩))
      go_ret
      exact ⟨by rw [HR.out]; first | rfl | (simp <;> first | omega | assumption), HB.out⟩
theorem l02Over_any (A1 A2 : Option Addr) (n1 c1 n2 c2 : Nat) (own other : List Int) (w : World) (h1 : SL w A1 n1 own) (h2 : SL w A2 n2 other) (hq1 : ∀ x ∈ own, 0 ≤ x) (hq2 : ∀ x ∈ other, 0 ≤ x) (hm1 : own.sum ≤ 2000000) (hm2 : other.sum ≤ 2000000) (hn1 : n1 ≤ 2000000) (hn2 : n2 ≤ 2000000) :
    Calls Tryz.prog 69 #[.agg #[.slice A1 n1 c1, .slice A2 n2 c2]] w fun e w' => e = .returned (.bool (decide (own.sum = 0 ∨ other.sum = 0))) ∧ Below w.heap.size w w' := by
  have HB : Hid (Below w.heap.size w (w.alloc (.cells #[.slice A1 n1 c1, .slice A2 n2 c2] 40))) := (Below.refl _ _).alloc (Nat.le_refl _) _
  have CT1 := Lib.hid (l02Sum_any A1 n1 c1 own _ (h1.below HB.out) hq1 hm1 hn1)
  have CT2 := Lib.hid (l02Sum_any A2 n2 c2 other _ (h2.below HB.out) hq2 hm2 hn2)
  clear h1 h2 hq1 hq2 hm1 hm2
  generalize own.sum = S1 at *
  generalize other.sum = S2 at *
  by_cases hz1 : S1 = 0
  · have HR : Hid (decide (S1 = 0 ∨ S2 = 0) = true) := decide_eq_true (.inl hz1)
    have b1 : (S1 == 0) = true := by simp [hz1]
    have HZ := Lib.hid hz1
    clear hz1
    go_enter Tryz.func69, Tryz.ntmps69
    go_wp2_with (go_at_call_of 72 A1; refine CT1.out.mono ?_; rintro e w' ⟨rfl, rfl⟩)
    go_ret
    exact ⟨by rw [HR.out]; first | rfl | (simp <;> first | omega | assumption), HB.out⟩
  · have b1 : (S1 == 0) = false := by simp [hz1]
    by_cases hz2 : S2 = 0
    · have HR : Hid (decide (S1 = 0 ∨ S2 = 0) = true) := decide_eq_true (.inr hz2)
      have b2 : (S2 == 0) = true := by simp [hz2]
      clear hz1 hz2
      go_enter Tryz.func69, Tryz.ntmps69
      go_wp2_with (first | (go_at_call_of 72 A1; refine CT1.out.mono ?_; rintro e w' ⟨rfl, rfl⟩) | (go_at_call_of 72 A2; refine CT2.out.mono ?_; rintro e w' ⟨rfl, rfl⟩))
      go_ret
      exact ⟨by rw [HR.out]; first | rfl | (simp <;> first | omega | assumption), HB.out⟩
    · have HR : Hid (decide (S1 = 0 ∨ S2 = 0) = false) := decide_eq_false fun h => h.elim hz1 hz2
      have b2 : (S2 == 0) = false := by simp [hz2]
      clear hz1 hz2
      go_enter Tryz.func69, Tryz.ntmps69
      go_wp2_with (first | (go_at_call_of 72 A1; refine CT1.out.mono ?_; rintro e w' ⟨rfl, rfl⟩) | (go_at_call_of 72 A2; refine CT2.out.mono ?_; rintro e w' ⟨rfl, rfl⟩))
      go_ret
      exact ⟨by rw [HR.out]; first | rfl | (simp <;> first | omega | assumption), HB.out⟩

theorem l02Last_any (A : Option Addr) (n c : Nat) (p : List Int) (w : World) (hx : SL w A n p) (hn : n ≤ 2000) :
    Calls Tryz.prog 71 #[.slice A n c] w fun e w' => e = .returned (.int .i64 (topI p n)) ∧ w = w' := by
  have HX := Lib.hid hx
  clear hx
  go_enter Tryz.func71, Tryz.ntmps71
  go_wp2_with (fail)
  go_loop [3, 4] (fun l i => ∃ k : Nat, k ≤ n ∧ i = .int .i64 k ∧ l = .int .i64 (topI p k)) (fun _ i => n - (intOf i).toNat)
  case atStart => exact ⟨0, by omega, rfl, rfl⟩
  case round =>
    obtain ⟨k, hk, rfl, rfl⟩ := hrel
    by_cases hlt : k < n
    · have hki : (k : Int) < (n : Int) := by omega
      obtain ⟨b, off, rfl, _, hcl⟩ := HX.out.2 (by omega)
      have hcell := hcl k hlt
      have E : Hid (topI p (k + 1) = if 0 < p.getD k 0 then (k : Int) else topI p k) := rfl
      clear hcl
      generalize p.getD k 0 = x at *
      by_cases h0 : 0 < x
      · have HR : Hid (topI p (k + 1) = k) := by have := E.out; rwa [if_pos h0] at this
        go_wp2_with (fail)
        go_round
        case rel => exact ⟨k + 1, by omega, by go_num, by rw [HR.out]⟩
        case measure => (simp [intOf]) <;> omega
      · have HR : Hid (topI p (k + 1) = topI p k) := by have := E.out; rwa [if_neg h0] at this
        go_wp2_with (fail)
        go_round
        case rel => exact ⟨k + 1, by omega, by go_num, by rw [HR.out]⟩
        case measure => (simp [intOf]) <;> omega
    · have hke : k = n := by omega
      have HR : Hid (topI p k = topI p n) := by rw [hke]; rfl
      go_wp2_with (fail)
      go_ret
      exact ⟨rfl, rfl⟩
end Go.Proofs.YtchaenamdpikpaaGreat

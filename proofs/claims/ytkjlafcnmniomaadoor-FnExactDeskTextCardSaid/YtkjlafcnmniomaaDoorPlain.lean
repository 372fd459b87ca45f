/- Plain facts on lists and numbers: what a variant, a side, a board, a desk is. No program is in sight; there are no conditions. -/
namespace Go.Proofs.YtkjlafcnmniomaaDoor
set_option linter.unusedVariables false
set_option linter.unusedSimpArgs false

/-! ### sums of lists -/
theorem sum_take_succ (xs : List Int) (k : Nat) (h : k < xs.length) : (xs.take (k + 1)).sum = (xs.take k).sum + xs.getD k 0 := by
  rw [List.take_succ_eq_append_getElem h, List.sum_append]
  simp [List.getD, h]

theorem sum_nonneg (xs : List Int) (h : ∀ x ∈ xs, 0 ≤ x) : 0 ≤ xs.sum := by
  induction xs with
  | nil => simp
  | cons x r ih =>
    have h1 := h x (by simp)
    have h2 := ih fun y hy => h y (by simp [hy])
    simp only [List.sum_cons]; omega

theorem sum_take_le (xs : List Int) (k : Nat) (h : ∀ x ∈ xs, 0 ≤ x) : (xs.take k).sum ≤ xs.sum := by
  have e : xs.sum = (xs.take k).sum + (xs.drop k).sum := by rw [← List.sum_append, List.take_append_drop]
  have := sum_nonneg (xs.drop k) fun x hx => h x (List.mem_of_mem_drop hx)
  omega

theorem sum_take_nonneg (xs : List Int) (k : Nat) (h : ∀ x ∈ xs, 0 ≤ x) : 0 ≤ (xs.take k).sum :=
  sum_nonneg _ fun x hx => h x (List.mem_of_mem_take hx)

theorem mem_le_sum (xs : List Int) (h : ∀ x ∈ xs, 0 ≤ x) : ∀ x ∈ xs, x ≤ xs.sum := by
  induction xs with
  | nil => intro x hx; cases hx
  | cons y r ih =>
    intro x hx
    have h1 := h y (by simp)
    have h2 := sum_nonneg r fun z hz => h z (by simp [hz])
    simp only [List.sum_cons]
    rcases List.mem_cons.1 hx with rfl | hx
    · omega
    · have := ih (fun z hz => h z (by simp [hz])) x hx; omega

theorem sum_le_len (xs : List Int) (c : Int) (hc : 0 ≤ c) (h : ∀ x ∈ xs, x ≤ c) : xs.sum ≤ xs.length * c := by
  induction xs with
  | nil => simp
  | cons y r ih =>
    have h1 := h y (by simp)
    have h2 := ih fun z hz => h z (by simp [hz])
    simp only [List.sum_cons, List.length_cons]
    have e : ((r.length + 1 : Nat) : Int) * c = r.length * c + c := by rw [Int.natCast_add, Int.add_mul]; simp
    omega

theorem mem_take_getD {xs : List Int} {P : Int → Prop} {k : Nat} (h : ∀ x ∈ xs.take k, P x) (hk : k < xs.length) (h1 : P (xs.getD k 0)) : ∀ x ∈ xs.take (k + 1), P x := by
  intro x hx
  rw [List.take_succ_eq_append_getElem hk] at hx
  rcases List.mem_append.1 hx with hx | hx
  · exact h x hx
  · simp [List.getD, hk] at h1 hx; rw [hx]; exact h1

theorem getD_mem (xs : List Int) (k : Nat) (h : k < xs.length) : xs.getD k 0 ∈ xs := by simp [List.getD, h]

/-! ### variants, sides, boards -/
def isVar (p c h s : Int) : Bool := decide (2 ≤ p ∧ p ≤ 24 ∧ 1 ≤ c ∧ c ≤ 15 ∧ 1 ≤ h ∧ h ≤ p ∧ 1 ≤ s ∧ s ≤ 6)
theorem isVar_yes {p c h s : Int} (H : isVar p c h s = true) : 2 ≤ p ∧ p ≤ 24 ∧ 1 ≤ c ∧ c ≤ 15 ∧ 1 ≤ h ∧ h ≤ p ∧ 1 ≤ s ∧ s ≤ 6 := of_decide_eq_true H
theorem isVar_mk {p c h s : Int} (H : 2 ≤ p ∧ p ≤ 24 ∧ 1 ≤ c ∧ c ≤ 15 ∧ 1 ≤ h ∧ h ≤ p ∧ 1 ≤ s ∧ s ≤ 6) : isVar p c h s = true := decide_eq_true H
theorem isVar_no {p c h s : Int} (H : ¬ (2 ≤ p ∧ p ≤ 24 ∧ 1 ≤ c ∧ c ≤ 15 ∧ 1 ≤ h ∧ h ≤ p ∧ 1 ≤ s ∧ s ≤ 6)) : isVar p c h s = false := decide_eq_false H

/-- 'xs' is a side: p + 1 numbers, none negative, of sum at most c. -/
def SideP (p c : Int) (xs : List Int) : Prop := (xs.length : Int) = p + 1 ∧ (∀ x ∈ xs, 0 ≤ x) ∧ xs.sum ≤ c
instance (p c : Int) (xs : List Int) : Decidable (SideP p c xs) := by unfold SideP; infer_instance
def sideB (p c : Int) (xs : List Int) : Bool := decide (SideP p c xs)
theorem sideB_yes {p c : Int} {xs : List Int} (h : sideB p c xs = true) : (xs.length : Int) = p + 1 ∧ (∀ x ∈ xs, 0 ≤ x) ∧ xs.sum ≤ c := of_decide_eq_true h
theorem sideB_mk {p c : Int} {xs : List Int} (h : (xs.length : Int) = p + 1 ∧ (∀ x ∈ xs, 0 ≤ x) ∧ xs.sum ≤ c) : sideB p c xs = true := decide_eq_true h
theorem sideB_len {p c : Int} {xs : List Int} (h : ¬ (xs.length : Int) = p + 1) : sideB p c xs = false := decide_eq_false fun H => h H.1
theorem sideB_neg {p c : Int} {xs : List Int} {k : Nat} (hk : k < xs.length) (h : xs.getD k 0 < 0) : sideB p c xs = false :=
  decide_eq_false fun H => by have := H.2.1 _ (getD_mem xs k hk); omega
theorem sideB_big {p c : Int} {xs : List Int} {k : Nat} (hk : k < xs.length) (h : c < (xs.take k).sum + xs.getD k 0) : sideB p c xs = false :=
  decide_eq_false fun H => by
    have h1 := sum_take_le xs (k + 1) H.2.1
    rw [sum_take_succ xs k hk] at h1
    have h2 := H.2.2
    omega
theorem sideB_above {p c : Int} {xs : List Int} {k : Nat} (hk : k < xs.length) (h : c < xs.getD k 0) : sideB p c xs = false :=
  decide_eq_false fun H => by
    have h1 := mem_le_sum xs H.2.1 _ (getD_mem xs k hk)
    have h2 := H.2.2
    omega
theorem sideB_sum {p c : Int} {xs : List Int} (h : c < xs.sum) : sideB p c xs = false := decide_eq_false fun H => by have := H.2.2; omega

/-- No point has checkers of both. -/
def FreeP (p : Nat) (own other : List Int) : Prop := ∀ i, i < p → ¬ (0 < own.getD i 0 ∧ 0 < other.getD (p - 1 - i) 0)
instance (p : Nat) (own other : List Int) : Decidable (FreeP p own other) := by unfold FreeP; infer_instance

def BoardP (p c : Int) (own other : List Int) : Prop := SideP p c own ∧ SideP p c other ∧ own.sum + other.sum ≠ 0 ∧ FreeP p.toNat own other
instance (p c : Int) (own other : List Int) : Decidable (BoardP p c own other) := by unfold BoardP; infer_instance
def boardB (p c h s : Int) (own other : List Int) : Bool := isVar p c h s && decide (BoardP p c own other)
theorem board_novar {p c h s : Int} {own other : List Int} (H : isVar p c h s = false) : boardB p c h s own other = false := by simp [boardB, H]
theorem board_noown {p c h s : Int} {own other : List Int} (H : sideB p c own = false) : boardB p c h s own other = false := by
  have : ¬ BoardP p c own other := fun h => of_decide_eq_false H h.1
  simp [boardB, this]
theorem board_noother {p c h s : Int} {own other : List Int} (H : sideB p c other = false) : boardB p c h s own other = false := by
  have : ¬ BoardP p c own other := fun h => of_decide_eq_false H h.2.1
  simp [boardB, this]
theorem board_zero {p c h s : Int} {own other : List Int} (H : own.sum + other.sum = 0) : boardB p c h s own other = false := by
  have : ¬ BoardP p c own other := fun h => h.2.2.1 H
  simp [boardB, this]
theorem board_hit {c h s : Int} {P : Nat} {own other : List Int} {k : Nat} (hk : k < P) (h1 : 0 < own.getD k 0) (h2 : 0 < other.getD (P - 1 - k) 0) : boardB P c h s own other = false := by
  have : ¬ BoardP P c own other := fun h => h.2.2.2 k (by simpa using hk) (by simpa using ⟨h1, h2⟩)
  simp [boardB, this]
theorem board_mk {c h s : Int} {P : Nat} {own other : List Int} (hv : isVar P c h s = true) (h1 : sideB P c own = true) (h2 : sideB P c other = true) (h3 : own.sum + other.sum ≠ 0)
    (h4 : ∀ i, i < P → ¬ (0 < own.getD i 0 ∧ 0 < other.getD (P - 1 - i) 0)) : boardB P c h s own other = true := by
  have : BoardP P c own other := ⟨sideB_yes h1, sideB_yes h2, h3, fun i hi => by simpa using h4 i (by simpa using hi)⟩
  simp [boardB, this, hv]
theorem board_yes {p c h s : Int} {own other : List Int} (H : boardB p c h s own other = true) : isVar p c h s = true ∧ sideB p c own = true ∧ sideB p c other = true ∧ own.sum + other.sum ≠ 0 ∧ FreeP p.toNat own other := by
  simp only [boardB, Bool.and_eq_true, decide_eq_true_eq] at H
  exact ⟨H.1, sideB_mk H.2.1, sideB_mk H.2.2.1, H.2.2.2.1, H.2.2.2.2⟩
end Go.Proofs.YtkjlafcnmniomaaDoor

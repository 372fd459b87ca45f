/- Plain facts on the numbering of positions: how many lists of e numbers have at most a sum, the number of a list, that no two lists have one number. No program is in sight; there are no conditions. -/
import Derived.Test.YtlbkfhdnhalpbaaGreatLists
namespace Go.Proofs.YtlbkfhdnhalpbaaGreat.Ps
set_option linter.unusedVariables false
set_option linter.unusedSimpArgs false

/-- The sum of f 0 .. f m. -/
def upTo (f : Nat → Nat) : Nat → Nat
  | 0 => f 0
  | m + 1 => f (m + 1) + upTo f m
/-- How many lists of e numbers have a sum of at most m. -/
def wys : Nat → Nat → Nat
  | 0 => fun _ => 1
  | e + 1 => upTo (wys e)
theorem wys_zero (m : Nat) : wys 0 m = 1 := rfl
theorem wys_succ_zero (e : Nat) : wys (e + 1) 0 = wys e 0 := rfl
theorem wys_succ (e m : Nat) : wys (e + 1) (m + 1) = wys e (m + 1) + wys (e + 1) m := rfl
theorem wys_at_zero (e : Nat) : wys e 0 = 1 := by
  induction e with
  | zero => rfl
  | succ e ih => rw [wys_succ_zero, ih]

def fact : Nat → Nat
  | 0 => 1
  | n + 1 => (n + 1) * fact n
theorem fact_succ (n : Nat) : fact (n + 1) = (n + 1) * fact n := rfl
theorem fact_pos (n : Nat) : 0 < fact n := by
  induction n with
  | zero => exact Nat.one_pos
  | succ n ih => rw [fact_succ]; exact Nat.mul_pos (Nat.succ_pos n) ih

theorem wys_fact (e : Nat) : ∀ m, wys e m * (fact e * fact m) = fact (e + m) := by
  induction e with
  | zero => intro m; simp [wys_zero, fact]
  | succ e ih =>
    intro m
    induction m with
    | zero => simp [wys_at_zero, fact]
    | succ m ihm =>
      have h1 := ih (m + 1)
      have e1 : fact (e + 1) * fact (m + 1) = (e + 1) * (fact e * fact (m + 1)) := by rw [fact_succ e, Nat.mul_assoc]
      have e2 : fact (e + 1) * fact (m + 1) = (m + 1) * (fact (e + 1) * fact m) := by rw [fact_succ m, Nat.mul_left_comm]
      rw [wys_succ, Nat.add_mul, e1]
      rw [show wys (e + 1) m * ((e + 1) * (fact e * fact (m + 1))) = wys (e + 1) m * ((m + 1) * (fact (e + 1) * fact m)) by rw [← e1, e2]]
      rw [Nat.mul_left_comm, h1, Nat.mul_left_comm, ihm]
      have e3 : e + 1 + (m + 1) = (e + m + 1) + 1 := by omega
      have e4 : e + (m + 1) = e + m + 1 := by omega
      have e5 : e + 1 + m = e + m + 1 := by omega
      rw [e3, fact_succ (e + m + 1), e4, e5, ← Nat.add_mul]
      congr 1
      try omega

theorem wys_step (i m : Nat) : wys (i + 1) m * (i + 1) = wys i m * (m + i + 1) := by
  have h1 := wys_fact (i + 1) m
  have h2 := wys_fact i m
  have hp : 0 < fact i * fact m := Nat.mul_pos (fact_pos i) (fact_pos m)
  refine Nat.eq_of_mul_eq_mul_right hp ?_
  rw [fact_succ i, Nat.mul_assoc] at h1
  have e1 : wys (i + 1) m * (i + 1) * (fact i * fact m) = fact (i + 1 + m) := by rw [Nat.mul_assoc]; exact h1
  have e2 : wys i m * (m + i + 1) * (fact i * fact m) = (m + i + 1) * fact (i + m) := by rw [← h2, Nat.mul_right_comm, Nat.mul_comm]
  rw [e1, e2, show i + 1 + m = (i + m) + 1 by omega, fact_succ, show m + i + 1 = i + m + 1 by omega]

theorem wys_div (i m : Nat) : wys i m * (m + i + 1) / (i + 1) = wys (i + 1) m := by
  rw [← wys_step]; exact Nat.mul_div_cancel _ (Nat.succ_pos i)

theorem upTo_mono {f : Nat → Nat} {a b : Nat} (h : a ≤ b) : upTo f a ≤ upTo f b := by
  induction b with
  | zero => rw [Nat.le_zero.1 h]; exact Nat.le_refl _
  | succ b ih =>
    rcases Nat.lt_or_ge a (b + 1) with hl | hl
    · have := ih (by omega); show _ ≤ f (b + 1) + upTo f b; omega
    · rw [Nat.le_antisymm h hl]; exact Nat.le_refl _
theorem le_upTo (f : Nat → Nat) (m : Nat) : f m ≤ upTo f m := by
  cases m with
  | zero => exact Nat.le_refl _
  | succ m => show f (m + 1) ≤ f (m + 1) + upTo f m; omega
theorem wys_mono_right {e a b : Nat} (h : a ≤ b) : wys e a ≤ wys e b := by
  cases e with
  | zero => exact Nat.le_refl _
  | succ e => exact upTo_mono h
theorem wys_mono_succ (e m : Nat) : wys e m ≤ wys (e + 1) m := le_upTo (wys e) m
theorem wys_mono_left {d e : Nat} (h : d ≤ e) (m : Nat) : wys d m ≤ wys e m := by
  induction e with
  | zero => rw [Nat.le_zero.1 h]; exact Nat.le_refl _
  | succ e ih =>
    rcases Nat.lt_or_ge d (e + 1) with hl | hl
    · exact Nat.le_trans (ih (by omega)) (wys_mono_succ e m)
    · rw [Nat.le_antisymm h hl]; exact Nat.le_refl _
theorem wys_mono {d e a b : Nat} (h : d ≤ e) (k : a ≤ b) : wys d a ≤ wys e b := Nat.le_trans (wys_mono_left h a) (wys_mono_right k)
theorem wys_pos (e m : Nat) : 1 ≤ wys e m := by
  have := wys_mono (Nat.zero_le e) (Nat.zero_le m); rwa [wys_at_zero] at this

/-- The sum of wys i (left - d) for all d below x. -/
def sumW (i left : Nat) : Nat → Nat
  | 0 => 0
  | x + 1 => sumW i left x + wys i (left - x)
theorem sumW_succ (i left x : Nat) : sumW i left (x + 1) = sumW i left x + wys i (left - x) := rfl
theorem sumW_mono {i left x y : Nat} (h : x ≤ y) : sumW i left x ≤ sumW i left y := by
  induction y with
  | zero => rw [Nat.le_zero.1 h]; exact Nat.le_refl _
  | succ y ih =>
    rcases Nat.lt_or_ge x (y + 1) with hl | hl
    · have := ih (by omega); rw [sumW_succ]; omega
    · rw [Nat.le_antisymm h hl]; exact Nat.le_refl _
theorem sumW_upTo (i left : Nat) : ∀ x, x ≤ left → sumW i left x + upTo (wys i) (left - x) = upTo (wys i) left
  | 0, _ => by simp [sumW]
  | x + 1, h => by
    rw [sumW_succ, ← sumW_upTo i left x (by omega)]
    obtain ⟨k, hk⟩ : ∃ k, left - x = k + 1 := ⟨left - x - 1, by omega⟩
    rw [hk, show left - (x + 1) = k by omega]
    show _ + wys i (k + 1) + upTo (wys i) k = _ + (wys i (k + 1) + upTo (wys i) k)
    omega

/-- The number of a list whose last place comes first. -/
def numT : List Int → Nat → Nat
  | [], _ => 0
  | x :: r, left => sumW r.length left x.toNat + numT r (left - x.toNat)
theorem numT_cons (x : Int) (r : List Int) (left : Nat) : numT (x :: r) left = sumW r.length left x.toNat + numT r (left - x.toNat) := rfl

theorem numT_lt : ∀ (l : List Int) (left : Nat), (∀ x ∈ l, 0 ≤ x) → l.sum ≤ left → numT l left < wys l.length left
  | [], left, _, _ => by simp [numT, wys_zero]
  | x :: r, left, h0, hs => by
    have hx := h0 x (by simp)
    have hr : ∀ y ∈ r, 0 ≤ y := fun y hy => h0 y (by simp [hy])
    have hrs : 0 ≤ r.sum := by
      clear hs h0 hx
      induction r with
      | nil => simp
      | cons y r ih => have := hr y (by simp); have := ih fun z hz => hr z (by simp [hz]); simp only [List.sum_cons]; omega
    simp only [List.sum_cons] at hs
    have ih := numT_lt r (left - x.toNat) hr (by omega)
    have h1 := sumW_upTo r.length left x.toNat (by omega)
    have h2 := le_upTo (wys r.length) (left - x.toNat)
    rw [numT_cons]
    show _ < upTo (wys r.length) left
    omega

theorem numT_inj : ∀ (l k : List Int) (left : Nat), l.length = k.length → (∀ x ∈ l, 0 ≤ x) → (∀ x ∈ k, 0 ≤ x) → l.sum ≤ left → k.sum ≤ left → numT l left = numT k left → l = k
  | [], [], _, _, _, _, _, _, _ => rfl
  | [], _ :: _, _, h, _, _, _, _, _ => by simp at h
  | _ :: _, [], _, h, _, _, _, _, _ => by simp at h
  | x :: r, y :: q, left, hl, h0, k0, hs, ks, he => by
    have key : ∀ (x y : Int) (r q : List Int), r.length = q.length → (∀ z ∈ x :: r, 0 ≤ z) → (x :: r).sum ≤ left → 0 ≤ y → x < y → numT (x :: r) left < numT (y :: q) left := by
      intro x y r q hl h0 hs hy hxy
      have hx := h0 x (by simp)
      have hr : ∀ y ∈ r, 0 ≤ y := fun y hy => h0 y (by simp [hy])
      have hrs : 0 ≤ r.sum := by
        clear hs h0 hl
        induction r with
        | nil => simp
        | cons y r ih => have := hr y (by simp); have := ih fun z hz => hr z (by simp [hz]); simp only [List.sum_cons]; omega
      simp only [List.sum_cons] at hs
      have h1 := numT_lt r (left - x.toNat) hr (by omega)
      have h2 : sumW r.length left (x.toNat + 1) ≤ sumW r.length left y.toNat := sumW_mono (by omega)
      rw [sumW_succ] at h2
      rw [numT_cons, numT_cons, ← hl]
      omega
    have hl' : r.length = q.length := by simpa using hl
    have hx := h0 x (by simp)
    have hy := k0 y (by simp)
    rcases Int.lt_trichotomy x y with h | h | h
    · have := key x y r q hl' h0 hs hy h; omega
    · subst h
      rw [numT_cons, numT_cons, hl'] at he
      simp only [List.sum_cons] at hs ks
      have := numT_inj r q (left - x.toNat) hl' (fun z hz => h0 z (by simp [hz])) (fun z hz => k0 z (by simp [hz])) (by omega) (by omega) (by omega)
      rw [this]
    · have := key y x q r hl'.symm k0 ks hx h; omega

/-- A position: h numbers, none negative, of sum at most c. -/
def PosP (h c : Nat) (p : List Int) : Prop := p.length = h ∧ (∀ x ∈ p, 0 ≤ x) ∧ p.sum ≤ c
instance (h c : Nat) (p : List Int) : Decidable (PosP h c p) := by unfold PosP; infer_instance
def num (c : Nat) (p : List Int) : Nat := numT p.reverse c
theorem num_lt {h c : Nat} {p : List Int} (hp : PosP h c p) : num c p < wys h c := by
  have := numT_lt p.reverse c (fun x hx => hp.2.1 x (by simpa using hx)) (by rw [List.sum_reverse]; exact hp.2.2)
  rwa [List.length_reverse, hp.1] at this
theorem num_inj {h c : Nat} {p q : List Int} (hp : PosP h c p) (hq : PosP h c q) (he : num c p = num c q) : p = q := by
  have := numT_inj p.reverse q.reverse c (by rw [List.length_reverse, List.length_reverse, hp.1, hq.1]) (fun x hx => hp.2.1 x (by simpa using hx)) (fun x hx => hq.2.1 x (by simpa using hx))
    (by rw [List.sum_reverse]; exact hp.2.2) (by rw [List.sum_reverse]; exact hq.2.2) he
  simpa using congrArg List.reverse this
/-- One key for a pair of numbers below n. -/
theorem pair_inj {n a b c d : Nat} (hb : b < n) (hd : d < n) (h : a * n + b = c * n + d) : a = c ∧ b = d := by
  have h1 : (a * n + b) / n = a := by rw [Nat.add_comm, Nat.add_mul_div_right _ _ (by omega), Nat.div_eq_of_lt hb, Nat.zero_add]
  have h2 : (c * n + d) / n = c := by rw [Nat.add_comm, Nat.add_mul_div_right _ _ (by omega), Nat.div_eq_of_lt hd, Nat.zero_add]
  have : a = c := by rw [← h1, ← h2, h]
  subst this
  exact ⟨rfl, by omega⟩
theorem pair_lt {n a b : Nat} (ha : a < n) (hb : b < n) : a * n + b < n * n := by
  have : a * n + n ≤ n * n := by
    have := Nat.mul_le_mul_right n (show a + 1 ≤ n by omega)
    rw [Nat.add_mul] at this; omega
  omega
end Go.Proofs.YtlbkfhdnhalpbaaGreat.Ps

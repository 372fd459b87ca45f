/- Plain facts on exact numbers: a number over a power of a base in its one normal form. No program is in sight; there are no conditions. -/
namespace Go.Proofs.YtlbkfhdnhalpbaaGreat.Ex
set_option linter.unusedVariables false
set_option linter.unusedSimpArgs false

/-- B to the power k. -/
def pw (B : Int) : Nat → Int
  | 0 => 1
  | k + 1 => pw B k * B

theorem pw_zero (B : Int) : pw B 0 = 1 := rfl
theorem pw_succ (B : Int) (k : Nat) : pw B (k + 1) = pw B k * B := rfl
theorem pw_pos {B : Int} (hB : 1 ≤ B) (k : Nat) : 1 ≤ pw B k := by
  induction k with
  | zero => exact Int.le_refl _
  | succ k ih =>
    rw [pw_succ]
    have := Int.mul_le_mul ih hB (by omega) (by omega)
    omega
theorem pw_add (B : Int) (a b : Nat) : pw B (a + b) = pw B a * pw B b := by
  induction b with
  | zero => simp [pw_zero]
  | succ b ih => rw [← Nat.add_assoc, pw_succ, ih, pw_succ, Int.mul_assoc]
theorem pw_mono {B : Int} (hB : 1 ≤ B) {a b : Nat} (h : a ≤ b) : pw B a ≤ pw B b := by
  obtain ⟨k, rfl⟩ := Nat.exists_eq_add_of_le h
  rw [pw_add]
  have h1 := pw_pos hB a
  have h2 := pw_pos hB k
  have := Int.mul_le_mul (Int.le_refl (pw B a)) h2 (by omega) (by omega)
  omega
theorem pw_one (k : Nat) : pw 1 k = 1 := by
  induction k with
  | zero => rfl
  | succ k ih => rw [pw_succ, ih]; rfl

/-- A number over B^depth. -/
structure E where
  num : Int
  depth : Nat
  deriving DecidableEq

/-- In lowest form: no factor B can be struck. -/
def Low (B : Int) (x : E) : Prop := x.depth = 0 ∨ ¬ B ∣ x.num

/-- Both are the same number. -/
def Same (B : Int) (x y : E) : Prop := x.num * pw B y.depth = y.num * pw B x.depth

theorem low_unique {B : Int} (hB : 1 ≤ B) {x y : E} (hx : Low B x) (hy : Low B y) (h : Same B x y) : x = y := by
  have key : ∀ {x y : E}, Low B y → Same B x y → x.depth ≤ y.depth → x = y := by
    intro x y hy h hd
    obtain ⟨n, d⟩ := x
    obtain ⟨m, e⟩ := y
    obtain ⟨k, rfl⟩ := Nat.exists_eq_add_of_le hd
    simp only [Same] at h
    rw [pw_add, ← Int.mul_assoc, Int.mul_right_comm] at h
    have hp := pw_pos hB d
    have h' : n * pw B k = m := Int.eq_of_mul_eq_mul_right (by omega) h
    cases k with
    | zero => simp [pw_zero] at h'; simp [h']
    | succ k =>
      exfalso
      rcases hy with hy | hy
      · simp at hy
      · apply hy
        refine ⟨n * pw B k, ?_⟩
        rw [← h', pw_succ, ← Int.mul_assoc, Int.mul_comm]
  rcases Nat.le_total x.depth y.depth with hd | hd
  · exact key hy h hd
  · exact (key hx h.symm hd).symm

/-- Strike factors B as long as there are any. -/
def strip (B : Int) : Nat → Int → E
  | 0, n => ⟨n, 0⟩
  | d + 1, n => if B ∣ n then strip B d (n / B) else ⟨n, d + 1⟩

theorem strip_low {B : Int} : ∀ (d : Nat) (n : Int), Low B (strip B d n)
  | 0, n => .inl rfl
  | d + 1, n => by
    unfold strip
    split
    · exact strip_low d _
    · rename_i h; exact .inr h
theorem strip_depth {B : Int} : ∀ (d : Nat) (n : Int), (strip B d n).depth ≤ d
  | 0, n => Nat.le_refl _
  | d + 1, n => by
    unfold strip
    split
    · exact Nat.le_succ_of_le (strip_depth d _)
    · exact Nat.le_refl _
theorem strip_same {B : Int} (hB : 1 ≤ B) : ∀ (d : Nat) (n : Int), Same B (strip B d n) ⟨n, d⟩
  | 0, n => rfl
  | d + 1, n => by
    unfold strip
    split
    · rename_i h
      have ih := strip_same hB d (n / B)
      simp only [Same] at ih ⊢
      rw [pw_succ, ← Int.mul_assoc, ih, Int.mul_right_comm, Int.ediv_mul_cancel h]
    · rfl

theorem same_trans {B : Int} (hB : 1 ≤ B) {x y z : E} (h : Same B x y) (k : Same B y z) : Same B x z := by
  simp only [Same] at h k ⊢
  have hp := pw_pos hB y.depth
  refine Int.eq_of_mul_eq_mul_right (a := pw B y.depth) (by omega) ?_
  calc x.num * pw B z.depth * pw B y.depth = x.num * pw B y.depth * pw B z.depth := Int.mul_right_comm _ _ _
    _ = y.num * pw B x.depth * pw B z.depth := by rw [h]
    _ = y.num * pw B z.depth * pw B x.depth := Int.mul_right_comm _ _ _
    _ = z.num * pw B y.depth * pw B x.depth := by rw [k]
    _ = z.num * pw B x.depth * pw B y.depth := Int.mul_right_comm _ _ _
theorem same_symm {B : Int} {x y : E} (h : Same B x y) : Same B y x := h.symm

def maxNum : Int := 1000000000000000000
def maxScale : Int := 1000000000000000

/-- A valid exact number for the base B. -/
def Val (B : Int) (x : E) : Prop := -maxNum ≤ x.num ∧ x.num ≤ maxNum ∧ pw B x.depth ≤ maxScale ∧ Low B x ∧ (B = 1 → x.depth = 0)
instance (B : Int) (x : E) : Decidable (Val B x) := by unfold Val Low; infer_instance

/-- The valid exact number n / B^d, if there is one. -/
def mk (B : Int) (n : Int) (d : Nat) : Option E := if Val B (strip B d n) then some (strip B d n) else none

theorem strip_one : ∀ (d : Nat) (n : Int), strip 1 d n = ⟨n, 0⟩
  | 0, n => rfl
  | d + 1, n => by
    unfold strip
    rw [if_pos (Int.one_dvd n), Int.ediv_one]
    exact strip_one d n

theorem mk_some {B : Int} (hB : 1 ≤ B) {n : Int} {d : Nat} {x : E} (hv : Val B x) (h : Same B x ⟨n, d⟩) : mk B n d = some x := by
  have e : strip B d n = x := low_unique hB (strip_low d n) hv.2.2.2.1 (same_trans hB (strip_same hB d n) h.symm)
  unfold mk
  rw [e, if_pos hv]
theorem mk_none {B : Int} (hB : 1 ≤ B) {n : Int} {d : Nat} (h : ∀ x, Val B x → Same B x ⟨n, d⟩ → False) : mk B n d = none := by
  unfold mk
  rw [if_neg fun hv => h _ hv (strip_same hB d n)]
theorem mk_val {B : Int} (hB : 1 ≤ B) {n : Int} {d : Nat} {x : E} (h : mk B n d = some x) : Val B x ∧ Same B x ⟨n, d⟩ := by
  unfold mk at h
  split at h
  · rename_i hv
    injection h with h
    subst h
    exact ⟨hv, strip_same hB d n⟩
  · cases h

/-- The number of the normal form is the least in size of all with this denominator or a greater one. -/
theorem num_le {B : Int} (hB : 1 ≤ B) {x : E} {n : Int} {d : Nat} (h : Same B x ⟨n, d⟩) (hd : x.depth ≤ d) : x.num * pw B (d - x.depth) = n := by
  simp only [Same] at h
  obtain ⟨k, rfl⟩ := Nat.exists_eq_add_of_le hd
  rw [pw_add, ← Int.mul_assoc, Int.mul_right_comm] at h
  have hp := pw_pos hB x.depth
  have e : x.depth + k - x.depth = k := by omega
  rw [e]
  exact Int.eq_of_mul_eq_mul_right (by omega) h

end Go.Proofs.YtlbkfhdnhalpbaaGreat.Ex

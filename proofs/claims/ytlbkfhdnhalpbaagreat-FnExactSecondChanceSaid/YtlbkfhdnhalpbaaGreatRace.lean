/- Plain facts on races: sums, multiples and means of exact numbers in normal form, the win chance as a function of two positions. No program is in sight; there are no conditions. -/
import Derived.Test.YtlbkfhdnhalpbaaGreatPos
import Derived.Test.YtlbkfhdnhalpbaaGreatExact
namespace Go.Proofs.YtlbkfhdnhalpbaaGreat.Ra
set_option linter.unusedVariables false
set_option linter.unusedSimpArgs false
open Go.Proofs.YtlbkfhdnhalpbaaGreat.Ex Go.Proofs.YtlbkfhdnhalpbaaGreat.Ps

/-! ### numbers -/
def addE (B : Int) (x y : E) : Option E := mk B (x.num * pw B (max x.depth y.depth - x.depth) + y.num * pw B (max x.depth y.depth - y.depth)) (max x.depth y.depth)
def sclE (B : Int) (x : E) (k : Int) : Option E := mk B (x.num * k) x.depth
def negE (x : E) : E := ⟨-x.num, x.depth⟩
def oneE : E := ⟨1, 0⟩
def zeroE' : E := ⟨0, 0⟩
def oneM (B : Int) (x : E) : Option E := addE B oneE (negE x)
def subE (B : Int) (x y : E) : Option E := addE B x (negE y)
/-- x is less than y. -/
def ltE (B : Int) (x y : E) : Bool := decide (x.num * pw B y.depth < y.num * pw B x.depth)
theorem mk_isVal {B : Int} (hB : 1 ≤ B) {n : Int} {d : Nat} {x : E} (h : mk B n d = some x) : Val B x := (mk_val hB h).1
theorem addE_val {B : Int} (hB : 1 ≤ B) {x y z : E} (h : addE B x y = some z) : Val B z := mk_isVal hB h
theorem sclE_val {B : Int} (hB : 1 ≤ B) {x z : E} {k : Int} (h : sclE B x k = some z) : Val B z := mk_isVal hB h
theorem one_val {B : Int} : Val B oneE := ⟨by decide, by decide, by show (1 : Int) ≤ _; decide, .inl rfl, fun _ => rfl⟩
theorem zero_val {B : Int} : Val B zeroE' := ⟨by decide, by decide, by show (1 : Int) ≤ _; decide, .inl rfl, fun _ => rfl⟩
theorem neg_val {B : Int} {x : E} (h : Val B x) : Val B (negE x) := by
  obtain ⟨h1, h2, h3, h4, h5⟩ := h
  refine ⟨?_, ?_, h3, ?_, h5⟩
  · show -maxNum ≤ -x.num; omega
  · show -x.num ≤ maxNum; omega
  · rcases h4 with h4 | h4
    · exact .inl h4
    · exact .inr fun hd => h4 ((Int.dvd_neg).1 hd)

/-! ### rolls -/
def rowN (a : Nat) : Nat → List (Nat × Nat)
  | 0 => []
  | k + 1 => rowN a k ++ [(a, k + 1)]
def rollsN : Nat → List (Nat × Nat)
  | 0 => []
  | a + 1 => rollsN a ++ rowN (a + 1) (a + 1)
theorem rowN_length (a : Nat) : ∀ k, (rowN a k).length = k
  | 0 => rfl
  | k + 1 => by simp [rowN, rowN_length a k]
theorem rollsN_length : ∀ a, (rollsN a).length * 2 = a * (a + 1)
  | 0 => rfl
  | a + 1 => by
    have := rollsN_length a
    simp only [rollsN, List.length_append, rowN_length]
    rw [Nat.add_mul, this]
    simp only [Nat.mul_add, Nat.add_mul]; omega
theorem mem_rowN {a k : Nat} {r : Nat × Nat} : r ∈ rowN a k ↔ r.1 = a ∧ 1 ≤ r.2 ∧ r.2 ≤ k := by
  induction k with
  | zero => simp [rowN]; omega
  | succ k ih =>
    rw [rowN, List.mem_append, ih]
    obtain ⟨x, y⟩ := r
    simp only [List.mem_singleton, Prod.mk.injEq]
    omega
theorem mem_rollsN {s : Nat} {r : Nat × Nat} : r ∈ rollsN s ↔ 1 ≤ r.2 ∧ r.2 ≤ r.1 ∧ r.1 ≤ s := by
  induction s with
  | zero => simp [rollsN]; omega
  | succ s ih => rw [rollsN, List.mem_append, ih, mem_rowN]; omega
theorem rowN_get {a : Nat} : ∀ {k b : Nat}, b < k → (rowN a k).getD b (0, 0) = (a, b + 1)
  | 0, b, h => by omega
  | k + 1, b, h => by
    rw [rowN]
    by_cases e : b < k
    · rw [getD_app_lt _ _ _ (by rw [rowN_length]; exact e)]; exact rowN_get e
    · have : b = k := by omega
      subst this
      rw [getD_app_ge _ _ _ (by rw [rowN_length]; exact Nat.le_refl _), rowN_length, Nat.sub_self]; rfl
/-- The roll (a, b) has the number a * (a - 1) / 2 + b - 1. -/
theorem rollsN_get {s a b : Nat} (hb : 1 ≤ b) (hba : b ≤ a) (has : a ≤ s) : (rollsN s).getD (a * (a - 1) / 2 + b - 1) (0, 0) = (a, b) := by
  induction s with
  | zero => omega
  | succ s ih =>
    rw [rollsN]
    have hl := rollsN_length s
    by_cases e : a ≤ s
    · have h1 : a * (a - 1) / 2 + b - 1 < (rollsN s).length := by
        have h2 : a * (a - 1) + 2 * a ≤ s * (s + 1) := by
          have e1 : a * (a - 1) + 2 * a = a * (a + 1) := by
            obtain ⟨k, rfl⟩ : ∃ k, a = k + 1 := ⟨a - 1, by omega⟩
            simp only [Nat.add_sub_cancel, Nat.mul_add, Nat.add_mul]; omega
          rw [e1]; exact Nat.mul_le_mul e (by omega)
        omega
      rw [getD_app_lt _ _ _ h1]; exact ih e
    · have : a = s + 1 := by omega
      subst this
      have h2 : (s + 1) * (s + 1 - 1) / 2 = (rollsN s).length := by
        rw [Nat.add_sub_cancel, Nat.mul_comm, ← hl]; omega
      rw [h2, getD_app_ge _ _ _ (by omega)]
      rw [show (rollsN s).length + b - 1 - (rollsN s).length = b - 1 by omega, rowN_get (by omega)]
      simp; omega
def weight (r : Nat × Nat) : Int := if r.1 = r.2 then 1 else 2

/-! ### means -/
/-- The weighted sum, as far as all parts have a valid number. -/
def sumE (B : Int) (l : List ((Nat × Nat) × E)) : Option E := l.foldl (fun s rx => s.bind fun t => (sclE B rx.2 (weight rx.1)).bind fun x => addE B t x) (some zeroE')
def meanE (B : Int) (rs : List (Nat × Nat)) (xs : List E) : Option E := (sumE B (rs.zip xs)).bind fun t => mk B t.num (t.depth + 1)
theorem sumE_snoc (B : Int) (l : List ((Nat × Nat) × E)) (r : Nat × Nat) (x : E) : sumE B (l ++ [(r, x)]) = (sumE B l).bind fun t => (sclE B x (weight r)).bind fun y => addE B t y := by
  unfold sumE; rw [List.foldl_append]; rfl
theorem foldl_none {α β : Type} (f : α → β → Option α) : ∀ (l : List β), l.foldl (fun s b => s.bind fun t => f t b) none = none
  | [] => rfl
  | _ :: r => foldl_none f r
theorem sumE_none {B : Int} {l k : List ((Nat × Nat) × E)} (h : sumE B l = none) : sumE B (l ++ k) = none := by
  unfold sumE at h ⊢
  rw [List.foldl_append, h]
  exact foldl_none (fun t (rx : (Nat × Nat) × E) => (sclE B rx.2 (weight rx.1)).bind fun x => addE B t x) k
theorem sumE_val {B : Int} (hB : 1 ≤ B) {l : List ((Nat × Nat) × E)} {t : E} (h : sumE B l = some t) : Val B t := by
  rcases List.eq_nil_or_concat l with rfl | ⟨k, rx, rfl⟩
  · have : t = zeroE' := by unfold sumE at h; simpa using h.symm
    rw [this]; exact zero_val
  · obtain ⟨r, x⟩ := rx
    rw [List.concat_eq_append, sumE_snoc] at h
    cases hs : sumE B k with
    | none => rw [hs] at h; cases h
    | some u =>
      rw [hs] at h
      simp only [Option.bind_some] at h
      cases hm : sclE B x (weight r) with
      | none => rw [hm] at h; cases h
      | some y => rw [hm] at h; exact addE_val hB h

/-! ### the best of some positions -/
/-- How many were seen, the place of the best, its number. -/
def bestS (B : Int) (f : List Int → Option E) (l : List (List Int)) : Option (Nat × Nat × E) :=
  l.foldl (fun s q => s.bind fun t => (f q).map fun x => if t.1 = 0 ∨ ltE B t.2.2 x then (t.1 + 1, t.1, x) else (t.1 + 1, t.2.1, t.2.2)) (some (0, 0, zeroE'))
theorem bestS_nil (B : Int) (f : List Int → Option E) : bestS B f [] = some (0, 0, zeroE') := rfl
theorem bestS_snoc (B : Int) (f : List Int → Option E) (l : List (List Int)) (q : List Int) :
    bestS B f (l ++ [q]) = (bestS B f l).bind fun t => (f q).map fun x => if t.1 = 0 ∨ ltE B t.2.2 x then (t.1 + 1, t.1, x) else (t.1 + 1, t.2.1, t.2.2) := by
  unfold bestS; rw [List.foldl_append]; rfl
theorem bestS_none {B : Int} {f : List Int → Option E} {l k : List (List Int)} (h : bestS B f l = none) : bestS B f (l ++ k) = none := by
  unfold bestS at h ⊢
  rw [List.foldl_append, h]
  clear h
  induction k with
  | nil => rfl
  | cons q r ih => exact ih
theorem bestS_count {B : Int} {f : List Int → Option E} {l : List (List Int)} {t : Nat × Nat × E} (h : bestS B f l = some t) : t.1 = l.length ∧ (t.2.1 < l.length ∨ l = []) := by
  induction l using snoc_ind generalizing t with
  | nil => rw [bestS_nil] at h; injection h with h; subst h; exact ⟨rfl, .inr rfl⟩
  | snoc l q ih =>
    rw [bestS_snoc] at h
    cases hs : bestS B f l with
    | none => rw [hs] at h; cases h
    | some u =>
      rw [hs] at h
      obtain ⟨i1, i2⟩ := ih hs
      cases hf : f q with
      | none => rw [hf] at h; cases h
      | some x =>
        rw [hf] at h
        simp only [Option.bind_some, Option.map_some, Option.some.injEq] at h
        subst h
        split
        · simp [i1]
        · simp only [List.length_append, List.length_singleton]
          refine ⟨by omega, .inl ?_⟩
          rcases i2 with i2 | i2
          · omega
          · rename_i hc; subst i2; simp at i1; exact absurd (.inl i1) hc
theorem bestS_congr {B : Int} {f g : List Int → Option E} : ∀ {l : List (List Int)}, (∀ q ∈ l, f q = g q) → bestS B f l = bestS B g l := by
  intro l
  induction l using snoc_ind with
  | nil => intro _; rfl
  | snoc l q ih =>
    intro h
    rw [bestS_snoc, bestS_snoc, ih fun p hp => h p (by simp [hp]), h q (by simp)]

/-! ### win chances -/
/-- The numbers of all rolls of a list, as far as all are valid. -/
def allS (g : Nat × Nat → Option E) (l : List (Nat × Nat)) : Option (List E) := l.foldl (fun s r => s.bind fun t => (g r).map fun x => t ++ [x]) (some [])
theorem allS_snoc (g : Nat × Nat → Option E) (l : List (Nat × Nat)) (r : Nat × Nat) : allS g (l ++ [r]) = (allS g l).bind fun t => (g r).map fun x => t ++ [x] := by
  unfold allS; rw [List.foldl_append]; rfl
theorem allS_none {g : Nat × Nat → Option E} {l k : List (Nat × Nat)} (h : allS g l = none) : allS g (l ++ k) = none := by
  unfold allS at h ⊢
  rw [List.foldl_append, h]
  clear h
  induction k with
  | nil => rfl
  | cons q r ih => exact ih
theorem allS_congr {f g : Nat × Nat → Option E} : ∀ {l : List (Nat × Nat)}, (∀ q ∈ l, f q = g q) → allS f l = allS g l := by
  intro l
  induction l using snoc_ind with
  | nil => intro _; rfl
  | snoc l q ih =>
    intro h
    rw [allS_snoc, allS_snoc, ih fun p hp => h p (by simp [hp]), h q (by simp)]
theorem allS_length {g : Nat × Nat → Option E} {l : List (Nat × Nat)} {t : List E} (h : allS g l = some t) : t.length = l.length := by
  induction l using snoc_ind generalizing t with
  | nil => unfold allS at h; simp at h; subst h; rfl
  | snoc l q ih =>
    rw [allS_snoc] at h
    cases hs : allS g l with
    | none => rw [hs] at h; cases h
    | some u =>
      rw [hs] at h
      cases hf : g q with
      | none => rw [hf] at h; cases h
      | some x =>
        rw [hf] at h
        simp only [Option.bind_some, Option.map_some, Option.some.injEq] at h
        subst h
        simp [ih hs]

/-- The win chance by fuel. -/
noncomputable def val (s : Nat) : Nat → List Int → List Int → Option E
  | 0, _, _ => none
  | f + 1, own, other =>
    if own.sum = 0 then some oneE else if other.sum = 0 then some zeroE' else
      (allS (fun r => (bestS (s * s) (fun q => (val s f other q).bind (oneM (s * s))) (resultsL own r.1 r.2)).map fun t => t.2.2) (rollsN s)).bind (meanE (s * s) (rollsN s))
noncomputable def fuel (own other : List Int) : Nat := (pips own + pips other).toNat + 1
/-- The win chance. -/
noncomputable def win (s : Nat) (own other : List Int) : Option E := val s (fuel own other) own other
noncomputable def sec (s : Nat) (other q : List Int) : Option E := (win s other q).bind (oneM (s * s))
/-- The best of a roll's results. -/
noncomputable def best (s : Nat) (own other : List Int) (r : Nat × Nat) : Option (Nat × Nat × E) := bestS (s * s) (sec s other) (resultsL own r.1 r.2)
theorem val_fuel {h c s : Nat} : ∀ (f g : Nat) {own other : List Int}, PosP h c own → PosP h c other → pips own + pips other < f → pips own + pips other < g → val s f own other = val s g own other
  | 0, _, own, other, ho, ht, h1, _ => by have := pips_nonneg ho.2.1; have := pips_nonneg ht.2.1; omega
  | _ + 1, 0, own, other, ho, ht, _, h2 => by have := pips_nonneg ho.2.1; have := pips_nonneg ht.2.1; omega
  | f + 1, g + 1, own, other, ho, ht, h1, h2 => by
    unfold val
    by_cases h0 : own.sum = 0
    · rw [if_pos h0, if_pos h0]
    · rw [if_neg h0, if_neg h0]
      split
      · rfl
      · congr 1
        refine allS_congr fun r hr => ?_
        obtain ⟨r1, r2, r3⟩ := mem_rollsN.1 hr
        congr 1
        refine bestS_congr fun q hq => ?_
        obtain ⟨q1, q2, q3⟩ := results_pos (by omega) r1 ho q hq
        have := q3 h0
        rw [val_fuel f g ht q1 (by omega) (by omega)]
theorem win_eq {h c s : Nat} {own other : List Int} (ho : PosP h c own) (ht : PosP h c other) (h0 : own.sum ≠ 0) (h1 : other.sum ≠ 0) :
    win s own other = (allS (fun r => (best s own other r).map fun t => t.2.2) (rollsN s)).bind (meanE (s * s) (rollsN s)) := by
  have hp := pips_nonneg ho.2.1
  have hq := pips_nonneg ht.2.1
  unfold win fuel val
  rw [if_neg h0, if_neg h1]
  congr 1
  refine allS_congr fun r hr => ?_
  obtain ⟨r1, r2, r3⟩ := mem_rollsN.1 hr
  unfold best
  congr 1
  refine bestS_congr fun q hq => ?_
  obtain ⟨q1, q2, q3⟩ := results_pos (by omega) r1 ho q hq
  have := q3 h0
  have := pips_nonneg q1.2.1
  unfold sec win
  rw [val_fuel _ (fuel other q) ht q1 (by omega) (by unfold fuel; omega)]
theorem win_own {s : Nat} {own other : List Int} (h0 : own.sum = 0) : win s own other = some oneE := by unfold win fuel val; rw [if_pos h0]
theorem win_other {s : Nat} {own other : List Int} (h0 : own.sum ≠ 0) (h1 : other.sum = 0) : win s own other = some zeroE' := by unfold win fuel val; rw [if_neg h0, if_pos h1]
end Go.Proofs.YtlbkfhdnhalpbaaGreat.Ra

/- Plain facts on bear-off positions: their order, lists of positions without repeats in order, steps, what a roll reaches. No program is in sight; there are no conditions. -/
import Derived.Test.YtlbkfhdnhalpbaaGreatWays
namespace Go.Proofs.YtlbkfhdnhalpbaaGreat.Ps
set_option linter.unusedVariables false
set_option linter.unusedSimpArgs false

/-! ### the order -/
/-- p comes before q: at the last place where they differ p is less. -/
def Bef (p q : List Int) : Prop := ∃ i, i < p.length ∧ p.getD i 0 < q.getD i 0 ∧ ∀ j, i < j → j < p.length → p.getD j 0 = q.getD j 0
open Classical in
noncomputable def befB (p q : List Int) : Bool := decide (Bef p q)
theorem befB_yes {p q : List Int} : befB p q = true ↔ Bef p q := by unfold befB; exact @decide_eq_true_iff _ (Classical.propDecidable _)
theorem befB_no {p q : List Int} : befB p q = false ↔ ¬ Bef p q := by unfold befB; exact @decide_eq_false_iff_not _ (Classical.propDecidable _)
theorem bef_irrefl (p : List Int) : ¬ Bef p p := fun ⟨i, _, h, _⟩ => by omega
theorem bef_asymm {p q : List Int} (hl : p.length = q.length) (h : Bef p q) : ¬ Bef q p := by
  rintro ⟨k, hk, k1, k2⟩
  obtain ⟨i, hi, h1, h2⟩ := h
  rcases Nat.lt_trichotomy i k with hik | hik | hik
  · have := h2 k hik (by omega); omega
  · subst hik; omega
  · have := k2 i hik (by omega); omega
theorem bef_trans {p q r : List Int} (hl : p.length = q.length) (h : Bef p q) (k : Bef q r) : Bef p r := by
  obtain ⟨i, hi, h1, h2⟩ := h
  obtain ⟨j, hj, k1, k2⟩ := k
  rcases Nat.lt_trichotomy i j with hij | hij | hij
  · exact ⟨j, by omega, by rw [h2 j hij (by omega)]; exact k1, fun m hm hl' => by rw [h2 m (by omega) hl', k2 m hm (by omega)]⟩
  · subst hij; exact ⟨i, hi, by omega, fun m hm hl' => by rw [h2 m hm hl', k2 m hm (by omega)]⟩
  · exact ⟨i, hi, by rw [← k2 i hij (by omega)]; exact h1, fun m hm hl' => by rw [h2 m hm hl', k2 m (by omega) (by omega)]⟩
theorem ext_getD {p q : List Int} (hl : p.length = q.length) (h : ∀ i, i < p.length → p.getD i 0 = q.getD i 0) : p = q := by
  refine List.ext_getElem hl fun i h1 h2 => ?_
  have := h i h1
  simpa [List.getD, h1, h2] using this
theorem bef_total {p q : List Int} (hl : p.length = q.length) : Bef p q ∨ p = q ∨ Bef q p := by
  have key : ∀ m, m ≤ p.length → (∀ j, p.length - m ≤ j → j < p.length → p.getD j 0 = q.getD j 0) ∨ Bef p q ∨ Bef q p := by
    intro m
    induction m with
    | zero => intro _; exact .inl fun j h1 h2 => absurd h2 (by omega)
    | succ m ih =>
      intro hm
      rcases ih (by omega) with h | h | h
      · rcases Int.lt_trichotomy (p.getD (p.length - (m + 1)) 0) (q.getD (p.length - (m + 1)) 0) with h1 | h1 | h1
        · exact .inr (.inl ⟨_, by omega, h1, fun j hj hj2 => h j (by omega) hj2⟩)
        · refine .inl fun j hj hj2 => ?_
          by_cases e : j = p.length - (m + 1)
          · rw [e]; exact h1
          · exact h j (by omega) hj2
        · exact .inr (.inr ⟨_, by omega, h1, fun j hj hj2 => (h j (by omega) (by omega)).symm⟩)
      · exact .inr (.inl h)
      · exact .inr (.inr h)
  rcases key p.length (Nat.le_refl _) with h | h | h
  · exact .inr (.inl (ext_getD hl fun i hi => h i (by omega) hi))
  · exact .inl h
  · exact .inr (.inr h)

/-! ### lists of positions in order, each once -/
def Lens (n : Nat) (l : List (List Int)) : Prop := ∀ p ∈ l, p.length = n
def Srt (l : List (List Int)) : Prop := l.Pairwise Bef
theorem srt_uniq {n : Nat} : ∀ {a b : List (List Int)}, Lens n a → Lens n b → Srt a → Srt b → (∀ x, x ∈ a ↔ x ∈ b) → a = b
  | [], [], _, _, _, _, _ => rfl
  | [], y :: _, _, _, _, _, h => absurd ((h y).2 (by simp)) (by simp)
  | x :: _, [], _, _, _, _, h => absurd ((h x).1 (by simp)) (by simp)
  | x :: a, y :: b, la, lb, sa, sb, h => by
    have sa' := List.pairwise_cons.1 sa
    have sb' := List.pairwise_cons.1 sb
    have hx := la x (by simp)
    have hy := lb y (by simp)
    have e : x = y := by
      rcases List.mem_cons.1 ((h x).1 (by simp)) with h1 | h1
      · exact h1
      · rcases List.mem_cons.1 ((h y).2 (by simp)) with h2 | h2
        · exact h2.symm
        · exact absurd (sa'.1 y h2) (bef_asymm (by rw [hx, hy]) (sb'.1 x h1))
    subst e
    have : a = b := srt_uniq (fun p hp => la p (by simp [hp])) (fun p hp => lb p (by simp [hp])) sa'.2 sb'.2 fun z => by
      constructor
      · intro hz
        rcases List.mem_cons.1 ((h z).1 (by simp [hz])) with h1 | h1
        · subst h1; exact absurd (sa'.1 z hz) (bef_irrefl z)
        · exact h1
      · intro hz
        rcases List.mem_cons.1 ((h z).2 (by simp [hz])) with h1 | h1
        · subst h1; exact absurd (sb'.1 z hz) (bef_irrefl z)
        · exact h1
    rw [this]

/-- p put at its place in a list in order, once. -/
noncomputable def putL : List (List Int) → List Int → List (List Int)
  | [], p => [p]
  | q :: r, p => if befB q p then q :: putL r p else if befB p q then p :: q :: r else q :: r
theorem putL_cons (q : List Int) (r : List (List Int)) (p : List Int) : putL (q :: r) p = if befB q p then q :: putL r p else if befB p q then p :: q :: r else q :: r := rfl
theorem putL_at : ∀ (l : List (List Int)) (p : List Int) (k : Nat), k ≤ l.length → (∀ j, j < k → befB (l.getD j []) p = true) → (k < l.length → befB (l.getD k []) p = false) →
    putL l p = if k < l.length ∧ befB p (l.getD k []) = false then l else l.take k ++ p :: l.drop k
  | [], p, k, hk, _, _ => by
    have : k = 0 := by simpa using hk
    subst this
    simp [putL]
  | q :: r, p, 0, _, _, h2 => by
    have := h2 (by simp)
    simp only [List.getD_cons_zero] at this
    rw [putL_cons, this]
    cases hb : befB p q <;> simp [hb]
  | q :: r, p, k + 1, hk, h1, h2 => by
    have h0 := h1 0 (by omega)
    simp only [List.getD_cons_zero] at h0
    have ih := putL_at r p k (by simpa using hk) (fun j hj => by have := h1 (j + 1) (by omega); simpa using this) (fun h => by have := h2 (by simpa using h); simpa using this)
    rw [putL_cons, h0, if_pos rfl, ih]
    by_cases hc : k < r.length ∧ befB p (r.getD k []) = false
    · rw [if_pos hc, if_pos (by simpa using hc)]
    · rw [if_neg hc, if_neg (by simpa using hc)]; rfl
theorem lens_putL {n : Nat} : ∀ {l : List (List Int)} {p : List Int}, Lens n l → p.length = n → Lens n (putL l p)
  | [], p, _, hp => fun x hx => by simp [putL] at hx; rw [hx]; exact hp
  | q :: r, p, hl, hp => by
    have hr : Lens n r := fun x hx => hl x (by simp [hx])
    have hq := hl q (by simp)
    intro x hx
    rw [putL_cons] at hx
    split at hx
    · rcases List.mem_cons.1 hx with h | h
      · rw [h]; exact hq
      · exact lens_putL hr hp x h
    · split at hx
      · rcases List.mem_cons.1 hx with h | h
        · rw [h]; exact hp
        · exact hl x h
      · exact hl x hx
theorem mem_putL {n : Nat} : ∀ {l : List (List Int)} {p : List Int}, Lens n l → p.length = n → ∀ x, x ∈ putL l p ↔ x = p ∨ x ∈ l
  | [], p, _, _, x => by simp [putL]
  | q :: r, p, hl, hp, x => by
    have hr : Lens n r := fun x hx => hl x (by simp [hx])
    have hq := hl q (by simp)
    rw [putL_cons]
    split
    · rw [List.mem_cons, mem_putL hr hp x, List.mem_cons]
      constructor
      · rintro (h | h | h) <;> simp [h]
      · rintro (h | h | h) <;> simp [h]
    · rename_i h1
      split
      · simp
      · rename_i h2
        have e : p = q := by
          rcases bef_total (p := p) (q := q) (by rw [hp, hq]) with h | h | h
          · exact absurd (befB_yes.2 h) h2
          · exact h
          · exact absurd (befB_yes.2 h) h1
        subst e
        simp
theorem srt_putL {n : Nat} : ∀ {l : List (List Int)} {p : List Int}, Lens n l → p.length = n → Srt l → Srt (putL l p)
  | [], p, _, _, _ => List.pairwise_singleton _ _
  | q :: r, p, hl, hp, hs => by
    have hr : Lens n r := fun x hx => hl x (by simp [hx])
    have hq := hl q (by simp)
    have hs' := List.pairwise_cons.1 hs
    rw [putL_cons]
    split
    · rename_i h1
      refine List.pairwise_cons.2 ⟨fun x hx => ?_, srt_putL hr hp hs'.2⟩
      rcases (mem_putL hr hp x).1 hx with h | h
      · rw [h]; exact befB_yes.1 h1
      · exact hs'.1 x h
    · split
      · rename_i h2
        refine List.pairwise_cons.2 ⟨fun x hx => ?_, hs⟩
        rcases List.mem_cons.1 hx with h | h
        · rw [h]; exact befB_yes.1 h2
        · exact bef_trans (by rw [hp, hq]) (befB_yes.1 h2) (hs'.1 x h)
      · exact hs

noncomputable def putAll (acc l : List (List Int)) : List (List Int) := l.foldl putL acc
theorem putAll_nil (acc : List (List Int)) : putAll acc [] = acc := rfl
theorem putAll_snoc (acc l : List (List Int)) (p : List Int) : putAll acc (l ++ [p]) = putL (putAll acc l) p := by unfold putAll; rw [List.foldl_append]; rfl
theorem putAll_spec {n : Nat} : ∀ {l acc : List (List Int)}, Lens n acc → Lens n l → Srt acc → Lens n (putAll acc l) ∧ Srt (putAll acc l) ∧ ∀ x, x ∈ putAll acc l ↔ x ∈ acc ∨ x ∈ l
  | [], acc, ha, _, hs => ⟨ha, hs, fun x => by simp [putAll_nil]⟩
  | p :: r, acc, ha, hl, hs => by
    have hp := hl p (by simp)
    obtain ⟨h1, h2, h3⟩ := putAll_spec (l := r) (acc := putL acc p) (lens_putL ha hp) (fun x hx => hl x (by simp [hx])) (srt_putL ha hp hs)
    refine ⟨h1, h2, fun x => ?_⟩
    have : putAll acc (p :: r) = putAll (putL acc p) r := rfl
    rw [this, h3 x, mem_putL ha hp x, List.mem_cons]
    constructor
    · rintro ((h | h) | h) <;> simp [h]
    · rintro (h | h | h) <;> simp [h]
/-- The positions of a list in order, each once. -/
noncomputable def sortU (l : List (List Int)) : List (List Int) := putAll [] l
theorem sortU_spec {n : Nat} {l : List (List Int)} (hl : Lens n l) : Lens n (sortU l) ∧ Srt (sortU l) ∧ ∀ x, x ∈ sortU l ↔ x ∈ l := by
  obtain ⟨h1, h2, h3⟩ := putAll_spec (l := l) (acc := []) (fun x hx => by simp at hx) hl List.Pairwise.nil
  exact ⟨h1, h2, fun x => (h3 x).trans (by simp)⟩
theorem sortU_of {n : Nat} {l k : List (List Int)} (hl : Lens n l) (hk : Lens n k) (hs : Srt k) (h : ∀ x, x ∈ k ↔ x ∈ l) : sortU l = k := by
  obtain ⟨h1, h2, h3⟩ := sortU_spec hl
  exact srt_uniq h1 hk h2 hs fun x => (h3 x).trans (h x).symm
theorem sortU_congr {n : Nat} {l k : List (List Int)} (hl : Lens n l) (hk : Lens n k) (h : ∀ x, x ∈ k ↔ x ∈ l) : sortU l = sortU k := by
  obtain ⟨h1, h2, h3⟩ := sortU_spec hk
  exact sortU_of hl h1 h2 fun x => (h3 x).trans (h x)
theorem putAll_sortU {n : Nat} {a b : List (List Int)} (ha : Lens n a) (hb : Lens n b) : putAll (sortU a) (sortU b) = sortU (a ++ b) := by
  obtain ⟨a1, a2, a3⟩ := sortU_spec ha
  obtain ⟨b1, b2, b3⟩ := sortU_spec hb
  obtain ⟨h1, h2, h3⟩ := putAll_spec a1 b1 a2
  refine (sortU_of (n := n) (fun x hx => ?_) h1 h2 fun x => ?_).symm
  · rcases List.mem_append.1 hx with h | h
    · exact ha x h
    · exact hb x h
  · rw [h3 x, a3 x, b3 x, List.mem_append]

/-! ### weights -/
/-- The sum of f k * p[0], f (k + 1) * p[1], .. -/
def wsum (f : Nat → Int) : Nat → List Int → Int
  | _, [] => 0
  | k, x :: r => f k * x + wsum f (k + 1) r
theorem wsum_set (f : Nat → Int) : ∀ (p : List Int) (k i : Nat) (x : Int), i < p.length → wsum f k (p.set i x) = wsum f k p + f (k + i) * (x - p.getD i 0)
  | [], _, _, _, h => by simp at h
  | y :: r, k, 0, x, _ => by
    simp only [List.set_cons_zero, wsum, List.getD_cons_zero, Nat.add_zero, Int.mul_sub]; omega
  | y :: r, k, i + 1, x, h => by
    have ih := wsum_set f r (k + 1) i x (by simpa using h)
    simp only [List.set_cons_succ, wsum, List.getD_cons_succ, ih]
    rw [show k + 1 + i = k + (i + 1) by omega]; omega
theorem wsum_one : ∀ (p : List Int) (k : Nat), wsum (fun _ => 1) k p = p.sum
  | [], _ => rfl
  | x :: r, k => by simp only [wsum, wsum_one r (k + 1), List.sum_cons]; omega
theorem wsum_nonneg (f : Nat → Int) (hf : ∀ i, 0 ≤ f i) : ∀ (p : List Int) (k : Nat), (∀ x ∈ p, 0 ≤ x) → 0 ≤ wsum f k p
  | [], _, _ => Int.le_refl _
  | x :: r, k, h => by
    have h1 := Int.mul_nonneg (hf k) (h x (by simp))
    have h2 := wsum_nonneg f hf r (k + 1) fun y hy => h y (by simp [hy])
    simp only [wsum]; omega
def pips (p : List Int) : Int := wsum (fun i => (i : Int) + 1) 0 p
theorem pips_nonneg {p : List Int} (h : ∀ x ∈ p, 0 ≤ x) : 0 ≤ pips p := wsum_nonneg _ (fun i => by omega) p 0 h
def need (d : Nat) (p : List Int) : Int := wsum (fun i => (((i + d) / d : Nat) : Int)) 0 p

/-! ### steps -/
/-- One checker moves from place i by d, or off. -/
def stepTo (p : List Int) (i d : Nat) : List Int := if d ≤ i then (p.set i (p.getD i 0 - 1)).set (i - d) (p.getD (i - d) 0 + 1) else p.set i (p.getD i 0 - 1)
def canP (p : List Int) (i d : Nat) : Prop := p.getD i 0 ≠ 0 ∧ (d ≤ i + 1 ∨ (p.drop (i + 1)).sum = 0)
instance (p : List Int) (i d : Nat) : Decidable (canP p i d) := by unfold canP; infer_instance
def stepsN (p : List Int) (d : Nat) : Nat → List (List Int)
  | 0 => []
  | k + 1 => stepsN p d k ++ if canP p k d then [stepTo p k d] else []
def stepsL (p : List Int) (d : Nat) : List (List Int) := stepsN p d p.length
theorem mem_stepsN {p : List Int} {d : Nat} : ∀ {k : Nat} {q : List Int}, q ∈ stepsN p d k ↔ ∃ i, i < k ∧ canP p i d ∧ q = stepTo p i d
  | 0, q => by simp [stepsN]
  | k + 1, q => by
    rw [stepsN, List.mem_append, mem_stepsN]
    constructor
    · rintro (⟨i, h1, h2, h3⟩ | h)
      · exact ⟨i, by omega, h2, h3⟩
      · split at h
        · rename_i hc; exact ⟨k, by omega, hc, by simpa using h⟩
        · simp at h
    · rintro ⟨i, h1, h2, h3⟩
      by_cases e : i = k
      · subst e; right; rw [if_pos h2]; simp [h3]
      · exact .inl ⟨i, by omega, h2, h3⟩
theorem mem_stepsL {p : List Int} {d : Nat} {q : List Int} : q ∈ stepsL p d ↔ ∃ i, i < p.length ∧ canP p i d ∧ q = stepTo p i d := mem_stepsN

theorem getD_set_ne {p : List Int} {i j : Nat} {x : Int} (h : i ≠ j) : (p.set i x).getD j 0 = p.getD j 0 := by simp [List.getD, List.getElem?_set, h]
theorem stepTo_length (p : List Int) (i d : Nat) : (stepTo p i d).length = p.length := by unfold stepTo; split <;> simp
theorem stepTo_wsum (f : Nat → Int) {p : List Int} {i d : Nat} (hd : 1 ≤ d) (hi : i < p.length) : wsum f 0 (stepTo p i d) = wsum f 0 p - f i + (if d ≤ i then f (i - d) else 0) := by
  unfold stepTo
  split
  · rename_i h
    rw [wsum_set f _ 0 (i - d) _ (by simp; omega), wsum_set f _ 0 i _ hi, getD_set_ne (by omega)]
    simp only [Nat.zero_add]
    have e1 : p.getD i 0 - 1 - p.getD i 0 = -1 := by omega
    have e2 : p.getD (i - d) 0 + 1 - p.getD (i - d) 0 = 1 := by omega
    rw [e1, e2]; omega
  · rw [wsum_set f _ 0 i _ hi]
    simp only [Nat.zero_add]
    have e1 : p.getD i 0 - 1 - p.getD i 0 = -1 := by omega
    rw [e1]; omega
theorem mem_set_nonneg {p : List Int} {i : Nat} {x : Int} (h : ∀ y ∈ p, 0 ≤ y) (hx : 0 ≤ x) : ∀ y ∈ p.set i x, 0 ≤ y := by
  intro y hy
  rcases List.mem_or_eq_of_mem_set hy with h1 | h1
  · exact h y h1
  · rw [h1]; exact hx
theorem getD_nonneg {p : List Int} (h : ∀ y ∈ p, 0 ≤ y) (i : Nat) : 0 ≤ p.getD i 0 := by
  by_cases hi : i < p.length
  · have : p.getD i 0 = p[i] := by simp [List.getD, hi]
    rw [this]; exact h _ (List.getElem_mem hi)
  · have : p.getD i 0 = 0 := by simp [List.getD, List.getElem?_eq_none (by omega : p.length ≤ i)]
    omega
theorem stepTo_nonneg {p : List Int} {i d : Nat} (h : ∀ y ∈ p, 0 ≤ y) (hc : p.getD i 0 ≠ 0) : ∀ y ∈ stepTo p i d, 0 ≤ y := by
  have h1 := getD_nonneg h i
  unfold stepTo
  split
  · exact mem_set_nonneg (mem_set_nonneg h (by omega)) (by have := getD_nonneg h (i - d); omega)
  · exact mem_set_nonneg h (by omega)
theorem stepTo_sum {p : List Int} {i d : Nat} (hd : 1 ≤ d) (hi : i < p.length) : (stepTo p i d).sum = p.sum - 1 + (if d ≤ i then 1 else 0) := by
  have := stepTo_wsum (fun _ => 1) hd hi
  rwa [wsum_one, wsum_one] at this
theorem stepTo_pips {p : List Int} {i d : Nat} (hd : 1 ≤ d) (hi : i < p.length) : pips (stepTo p i d) < pips p := by
  have := stepTo_wsum (fun i => (i : Int) + 1) hd hi
  unfold pips
  rw [this]
  split <;> omega
theorem stepTo_need {p : List Int} {i d : Nat} (hd : 1 ≤ d) (hi : i < p.length) : need d (stepTo p i d) = need d p - 1 := by
  have := stepTo_wsum (fun i => (((i + d) / d : Nat) : Int)) hd hi
  unfold need
  rw [this]
  split
  · rename_i h
    have e : (i - d + d) / d = i / d := by rw [Nat.sub_add_cancel h]
    have e2 : (i + d) / d = i / d + 1 := Nat.add_div_right i hd
    rw [e, e2]
    generalize i / d = q
    omega
  · rename_i h
    have e : (i + d) / d = 1 := by rw [Nat.add_div_right _ hd, Nat.div_eq_of_lt (by omega)]
    rw [e]; omega

theorem step_pos {h c : Nat} {p q : List Int} {d : Nat} (hd : 1 ≤ d) (hp : PosP h c p) (hq : q ∈ stepsL p d) : PosP h c q ∧ pips q < pips p ∧ need d q = need d p - 1 ∧ p.sum - 1 ≤ q.sum ∧ q.sum ≤ p.sum := by
  obtain ⟨i, hi, hc, rfl⟩ := mem_stepsL.1 hq
  have hs := stepTo_sum (p := p) hd hi
  have h2 := hp.2.2
  refine ⟨⟨by rw [stepTo_length]; exact hp.1, stepTo_nonneg hp.2.1 hc.1, ?_⟩, stepTo_pips hd hi, stepTo_need hd hi, ?_, ?_⟩ <;> (rw [hs]; split <;> omega)

theorem sum_nn : ∀ {p : List Int}, (∀ x ∈ p, 0 ≤ x) → 0 ≤ p.sum
  | [], _ => by simp
  | x :: r, h => by have := h x (by simp); have := sum_nn (p := r) fun y hy => h y (by simp [hy]); simp only [List.sum_cons]; omega
theorem sum_zero_getD : ∀ {p : List Int}, (∀ x ∈ p, 0 ≤ x) → p.sum = 0 → ∀ i, p.getD i 0 = 0
  | [], _, _, i => by simp [List.getD]
  | x :: r, h, hs, i => by
    have hx := h x (by simp)
    have hr := sum_nn (p := r) fun y hy => h y (by simp [hy])
    simp only [List.sum_cons] at hs
    cases i with
    | zero => simp; omega
    | succ i => simp only [List.getD_cons_succ]; exact sum_zero_getD (fun y hy => h y (by simp [hy])) (by omega) i
theorem getD_zero_sum : ∀ {p : List Int}, (∀ i, i < p.length → p.getD i 0 = 0) → p.sum = 0
  | [], _ => rfl
  | x :: r, h => by
    have h0 := h 0 (by simp)
    have := getD_zero_sum (p := r) fun i hi => by have := h (i + 1) (by simpa using hi); simpa using this
    simp only [List.getD_cons_zero] at h0
    simp only [List.sum_cons]; omega
/-- The last place with a checker. -/
theorem top_exists : ∀ {p : List Int}, (∀ x ∈ p, 0 ≤ x) → p.sum ≠ 0 → ∃ i, i < p.length ∧ p.getD i 0 ≠ 0 ∧ (p.drop (i + 1)).sum = 0
  | [], _, h => by simp at h
  | x :: r, h, hs => by
    by_cases hr : r.sum = 0
    · exact ⟨0, by simp, by simp only [List.getD_cons_zero]; simp only [List.sum_cons] at hs; omega, by simpa using hr⟩
    · obtain ⟨i, h1, h2, h3⟩ := top_exists (fun y hy => h y (by simp [hy])) hr
      exact ⟨i + 1, by simpa using h1, by simpa using h2, by simpa using h3⟩
theorem steps_some {p : List Int} {d : Nat} (h : ∀ x ∈ p, 0 ≤ x) (hs : p.sum ≠ 0) : stepsL p d ≠ [] := by
  obtain ⟨i, h1, h2, h3⟩ := top_exists h hs
  have : stepTo p i d ∈ stepsL p d := mem_stepsL.2 ⟨i, h1, ⟨h2, .inr h3⟩, rfl⟩
  intro e; rw [e] at this; simp at this
theorem steps_none {p : List Int} {d : Nat} (h : ∀ x ∈ p, 0 ≤ x) (hs : p.sum = 0) : stepsL p d = [] := by
  rw [List.eq_nil_iff_forall_not_mem]
  intro q hq
  obtain ⟨i, hi, hc, _⟩ := mem_stepsL.1 hq
  exact hc.1 (sum_zero_getD h hs i)

/-! ### what dice reach -/
def reach : List Nat → List Int → List (List Int)
  | [], p => [p]
  | d :: ds, p => if p.sum = 0 then [p] else (stepsL p d).flatMap (reach ds)
theorem reach_nil (p : List Int) : reach [] p = [p] := rfl
theorem reach_cons (d : Nat) (ds : List Nat) (p : List Int) : reach (d :: ds) p = if p.sum = 0 then [p] else (stepsL p d).flatMap (reach ds) := rfl
theorem reach_pos {h c : Nat} : ∀ {ds : List Nat} {p : List Int}, (∀ d ∈ ds, 1 ≤ d) → PosP h c p → ∀ q ∈ reach ds p, PosP h c q ∧ pips q ≤ pips p ∧ (ds ≠ [] → p.sum ≠ 0 → pips q < pips p)
  | [], p, _, hp, q, hq => by
    have : q = p := by simpa [reach_nil] using hq
    subst this; exact ⟨hp, Int.le_refl _, fun h => absurd rfl h⟩
  | d :: ds, p, hd, hp, q, hq => by
    rw [reach_cons] at hq
    split at hq
    · rename_i h0
      have : q = p := by simpa using hq
      subst this; exact ⟨hp, Int.le_refl _, fun _ h => absurd h0 h⟩
    · obtain ⟨m, hm, hqm⟩ := List.mem_flatMap.1 hq
      obtain ⟨h1, h2, _⟩ := step_pos (hd d (by simp)) hp hm
      obtain ⟨h3, h4, _⟩ := reach_pos (fun d hd' => hd d (by simp [hd'])) h1 q hqm
      exact ⟨h3, by omega, fun _ _ => by omega⟩
theorem reach_lens {h c : Nat} {ds : List Nat} {p : List Int} (hd : ∀ d ∈ ds, 1 ≤ d) (hp : PosP h c p) : Lens h (reach ds p) := fun q hq => (reach_pos hd hp q hq).1.1
theorem reach_some {h c : Nat} : ∀ {ds : List Nat} {p : List Int}, (∀ d ∈ ds, 1 ≤ d) → PosP h c p → reach ds p ≠ []
  | [], p, _, _ => by simp [reach_nil]
  | d :: ds, p, hd, hp => by
    rw [reach_cons]
    split
    · simp
    · rename_i h0
      obtain ⟨m, hm⟩ := List.exists_mem_of_ne_nil _ (steps_some (d := d) hp.2.1 h0)
      have := reach_some (ds := ds) (fun d hd' => hd d (by simp [hd'])) (step_pos (hd d (by simp)) hp hm).1
      obtain ⟨q, hq⟩ := List.exists_mem_of_ne_nil _ this
      exact fun e => by have := List.mem_flatMap.2 ⟨m, hm, hq⟩; rw [e] at this; simp at this

/-- Every way of dice has n steps. -/
def Uni : List Nat → List Int → Nat → Prop
  | [], _, n => n = 0
  | d :: ds, p, n => if p.sum = 0 then n = 0 else ∃ m, n = m + 1 ∧ ∀ q ∈ stepsL p d, Uni ds q m
theorem uni_zero {ds : List Nat} {p : List Int} (h : p.sum = 0) : Uni ds p 0 := by
  cases ds with
  | nil => rfl
  | cons d ds => unfold Uni; rw [if_pos h]
theorem need_nonneg {p : List Int} (d : Nat) (h : ∀ x ∈ p, 0 ≤ x) : 0 ≤ need d p := wsum_nonneg _ (fun i => Int.natCast_nonneg _) p 0 h
theorem wsum_zero (f : Nat → Int) : ∀ (p : List Int) (k : Nat), (∀ x ∈ p, 0 ≤ x) → p.sum = 0 → wsum f k p = 0
  | [], _, _, _ => rfl
  | x :: r, k, h, hs => by
    have hx := h x (by simp)
    have hr := sum_nn (p := r) fun y hy => h y (by simp [hy])
    simp only [List.sum_cons] at hs
    have hx0 : x = 0 := by omega
    simp only [wsum, wsum_zero f r (k + 1) (fun y hy => h y (by simp [hy])) (by omega), hx0]; simp
theorem uni_double {h c : Nat} {d : Nat} (hd : 1 ≤ d) : ∀ (n : Nat) {p : List Int}, PosP h c p → ∃ m : Nat, (m : Int) = min (n : Int) (need d p) ∧ Uni (List.replicate n d) p m
  | 0, p, hp => ⟨0, by have := need_nonneg d hp.2.1; omega, rfl⟩
  | n + 1, p, hp => by
    by_cases h0 : p.sum = 0
    · refine ⟨0, ?_, uni_zero h0⟩
      have : need d p = 0 := wsum_zero _ p 0 hp.2.1 h0
      omega
    · obtain ⟨q, hq⟩ := List.exists_mem_of_ne_nil _ (steps_some (d := d) hp.2.1 h0)
      obtain ⟨hq1, _, hq3, _⟩ := step_pos hd hp hq
      obtain ⟨m, hm, _⟩ := uni_double hd n hq1
      have := need_nonneg d hq1.2.1
      refine ⟨m + 1, by omega, ?_⟩
      rw [List.replicate_succ]
      unfold Uni
      rw [if_neg h0]
      refine ⟨m, rfl, fun r hr => ?_⟩
      obtain ⟨hr1, _, hr3, _⟩ := step_pos hd hp hr
      obtain ⟨k, hk, hu⟩ := uni_double hd n hr1
      have : k = m := by omega
      rw [← this]; exact hu
theorem one_checker {p : List Int} (h : ∀ x ∈ p, 0 ≤ x) (hs : p.sum = 1) : ∀ {i j : Nat}, p.getD i 0 ≠ 0 → p.getD j 0 ≠ 0 → i = j := by
  induction p with
  | nil => simp at hs
  | cons x r ih =>
    intro i j hi hj
    have hx := h x (by simp)
    have hr := fun y hy => h y (List.mem_cons_of_mem _ hy)
    have hr0 := sum_nn hr
    simp only [List.sum_cons] at hs
    by_cases hx0 : x = 0
    · cases i with
      | zero => simp [hx0] at hi
      | succ i =>
        cases j with
        | zero => simp [hx0] at hj
        | succ j => exact congrArg (· + 1) (ih hr (by omega) (by simpa using hi) (by simpa using hj))
    · have h0 := sum_zero_getD hr (by omega)
      cases i with
      | zero =>
        cases j with
        | zero => rfl
        | succ j => rw [List.getD_cons_succ] at hj; exact absurd (h0 j) hj
      | succ i => rw [List.getD_cons_succ] at hi; exact absurd (h0 i) hi
theorem uni_pair {h c : Nat} {a b : Nat} (ha : 1 ≤ a) {p : List Int} (hp : PosP h c p) (h0 : p.sum ≠ 0) :
    Uni [a, b] p (if p.sum = 1 ∧ ∃ q ∈ stepsL p a, q.sum = 0 then 1 else 2) := by
  unfold Uni
  rw [if_neg h0]
  have hs := sum_nn hp.2.1
  split
  · rename_i hc
    refine ⟨0, rfl, fun q hq => ?_⟩
    obtain ⟨q0, hq0, hz⟩ := hc.2
    have : q = q0 := by
      obtain ⟨i, hi, hci, rfl⟩ := mem_stepsL.1 hq
      obtain ⟨j, hj, hcj, rfl⟩ := mem_stepsL.1 hq0
      rw [one_checker hp.2.1 hc.1 hci.1 hcj.1]
    rw [this]; exact uni_zero hz
  · rename_i hc
    refine ⟨1, rfl, fun q hq => ?_⟩
    obtain ⟨_, _, _, h1, _⟩ := step_pos ha hp hq
    have hq0 : q.sum ≠ 0 := by
      intro e
      exact hc ⟨by omega, q, hq, e⟩
    unfold Uni
    rw [if_neg hq0]
    exact ⟨0, rfl, fun r _ => rfl⟩

/-! ### the results of a roll -/
def dice (a b : Nat) : List (List Nat) := if a = b then [[a, a, a, a]] else [[a, b], [b, a]]
noncomputable def resultsL (p : List Int) (a b : Nat) : List (List Int) := sortU ((dice a b).flatMap fun ds => reach ds p)
theorem dice_pos {a b : Nat} (ha : 1 ≤ a) (hb : 1 ≤ b) : ∀ ds ∈ dice a b, (∀ d ∈ ds, 1 ≤ d) ∧ ds ≠ [] := by
  intro ds hds
  unfold dice at hds
  split at hds <;> simp at hds
  · subst hds; simp [ha]
  · rcases hds with rfl | rfl <;> simp [ha, hb]
theorem flat_lens {h c : Nat} {a b : Nat} {p : List Int} (ha : 1 ≤ a) (hb : 1 ≤ b) (hp : PosP h c p) : Lens h ((dice a b).flatMap fun ds => reach ds p) := by
  intro q hq
  obtain ⟨ds, hds, hq⟩ := List.mem_flatMap.1 hq
  exact reach_lens (dice_pos ha hb ds hds).1 hp q hq
theorem results_mem {h c : Nat} {a b : Nat} {p : List Int} (ha : 1 ≤ a) (hb : 1 ≤ b) (hp : PosP h c p) (q : List Int) : q ∈ resultsL p a b ↔ ∃ ds ∈ dice a b, q ∈ reach ds p := by
  unfold resultsL
  rw [(sortU_spec (flat_lens ha hb hp)).2.2 q, List.mem_flatMap]
theorem results_pos {h c : Nat} {a b : Nat} {p : List Int} (ha : 1 ≤ a) (hb : 1 ≤ b) (hp : PosP h c p) : ∀ q ∈ resultsL p a b, PosP h c q ∧ pips q ≤ pips p ∧ (p.sum ≠ 0 → pips q < pips p) := by
  intro q hq
  obtain ⟨ds, hds, hq⟩ := (results_mem ha hb hp q).1 hq
  obtain ⟨h1, h2⟩ := dice_pos ha hb ds hds
  obtain ⟨r1, r2, r3⟩ := reach_pos h1 hp q hq
  exact ⟨r1, r2, r3 h2⟩
theorem results_some {h c : Nat} {a b : Nat} {p : List Int} (ha : 1 ≤ a) (hb : 1 ≤ b) (hp : PosP h c p) : resultsL p a b ≠ [] := by
  have hex : ∃ ds, ds ∈ dice a b := by
    unfold dice; split
    · exact ⟨_, List.mem_singleton.2 rfl⟩
    · exact ⟨_, List.mem_cons.2 (.inl rfl)⟩
  obtain ⟨ds, hds⟩ := hex
  obtain ⟨q, hq⟩ := List.exists_mem_of_ne_nil _ (reach_some (dice_pos ha hb ds hds).1 hp)
  have := (results_mem ha hb hp q).2 ⟨ds, hds, hq⟩
  intro e; rw [e] at this; simp at this

/-! the program's rows -/
def adv (d : Nat) (q : List Int) : List (List Int) := if q.sum = 0 then [q] else stepsL q d
noncomputable def rowL : List Nat → List (List Int) → List (List Int)
  | [], row => row
  | d :: ds, row => rowL ds (sortU (row.flatMap (adv d)))
theorem adv_pos {h c : Nat} {d : Nat} {q r : List Int} (hd : 1 ≤ d) (hq : PosP h c q) (hr : r ∈ adv d q) : PosP h c r := by
  unfold adv at hr
  split at hr
  · have : r = q := by simpa using hr
    rw [this]; exact hq
  · exact (step_pos hd hq hr).1
theorem reach_zero (ds : List Nat) {p : List Int} (h : p.sum = 0) : reach ds p = [p] := by
  cases ds with
  | nil => rfl
  | cons d ds => rw [reach_cons, if_pos h]
theorem mem_adv {d : Nat} {ds : List Nat} {p x : List Int} : (∃ m ∈ adv d p, x ∈ reach ds m) ↔ x ∈ reach (d :: ds) p := by
  rw [reach_cons]; unfold adv
  split
  · rename_i h0
    constructor
    · rintro ⟨m, hm, hx⟩
      have : m = p := by simpa using hm
      rw [this, reach_zero ds h0] at hx; exact hx
    · intro hx
      exact ⟨p, by simp, by rw [reach_zero ds h0]; exact hx⟩
  · exact List.mem_flatMap.symm
theorem rowL_spec {h c : Nat} : ∀ {ds : List Nat} {row : List (List Int)}, (∀ d ∈ ds, 1 ≤ d) → (∀ p ∈ row, PosP h c p) → (∀ x, x ∈ rowL ds row ↔ ∃ p ∈ row, x ∈ reach ds p) ∧ ∀ x ∈ rowL ds row, PosP h c x
  | [], row, _, hr => ⟨fun x => by simp [rowL, reach_nil], fun x hx => hr x hx⟩
  | d :: ds, row, hd, hr => by
    have hd1 := hd d (by simp)
    have hf : ∀ x ∈ row.flatMap (adv d), PosP h c x := fun x hx => by
      obtain ⟨p, hp, hx⟩ := List.mem_flatMap.1 hx
      exact adv_pos hd1 (hr p hp) hx
    have hs := sortU_spec (n := h) (l := row.flatMap (adv d)) fun x hx => (hf x hx).1
    obtain ⟨ih1, ih2⟩ := rowL_spec (ds := ds) (row := sortU (row.flatMap (adv d))) (fun e he => hd e (by simp [he])) fun x hx => hf x ((hs.2.2 x).1 hx)
    refine ⟨fun x => ?_, ih2⟩
    show x ∈ rowL ds (sortU (row.flatMap (adv d))) ↔ _
    rw [ih1 x]
    constructor
    · rintro ⟨m, hm, hx⟩
      obtain ⟨p, hp, hmp⟩ := List.mem_flatMap.1 ((hs.2.2 m).1 hm)
      exact ⟨p, hp, mem_adv.1 ⟨m, hmp, hx⟩⟩
    · rintro ⟨p, hp, hx⟩
      obtain ⟨m, hm, hx⟩ := mem_adv.2 hx
      exact ⟨m, (hs.2.2 m).2 (List.mem_flatMap.2 ⟨p, hp, hm⟩), hx⟩
theorem rows_results {h c : Nat} {a b : Nat} {p : List Int} (ha : 1 ≤ a) (hb : 1 ≤ b) (hp : PosP h c p) : sortU ((dice a b).flatMap fun ds => rowL ds [p]) = resultsL p a b := by
  have key : ∀ ds ∈ dice a b, (∀ x, x ∈ rowL ds [p] ↔ x ∈ reach ds p) ∧ ∀ x ∈ rowL ds [p], PosP h c x := fun ds hds => by
    obtain ⟨h1, h2⟩ := rowL_spec (row := [p]) (dice_pos ha hb ds hds).1 (fun q hq => by have : q = p := by simpa using hq
                                                                                        rw [this]; exact hp)
    exact ⟨fun x => (h1 x).trans (by simp), h2⟩
  refine sortU_congr (n := h) (fun x hx => ?_) (flat_lens ha hb hp) fun x => ?_
  · obtain ⟨ds, hds, hx⟩ := List.mem_flatMap.1 hx
    exact ((key ds hds).2 x hx).1
  · rw [List.mem_flatMap, List.mem_flatMap]
    constructor
    · rintro ⟨ds, hds, hx⟩; exact ⟨ds, hds, ((key ds hds).1 x).2 hx⟩
    · rintro ⟨ds, hds, hx⟩; exact ⟨ds, hds, ((key ds hds).1 x).1 hx⟩
end Go.Proofs.YtlbkfhdnhalpbaaGreat.Ps

/- Plain facts on what the reference's walks over dice find, and on lists whose neighbours are made one. No program is in sight; there are no conditions. -/
import Derived.Test.YtlbkfhdnhalpbaaGreatPos
namespace Go.Proofs.YtlbkfhdnhalpbaaGreat.Ps
set_option linter.unusedVariables false
set_option linter.unusedSimpArgs false

theorem zero_list {p q : List Int} (hl : p.length = q.length) (hp : ∀ x ∈ p, 0 ≤ x) (hq : ∀ x ∈ q, 0 ≤ x) (h1 : p.sum = 0) (h2 : q.sum = 0) : p = q :=
  ext_getD hl fun i _ => by rw [sum_zero_getD hp h1 i, sum_zero_getD hq h2 i]
theorem stepTo_other {p : List Int} {i d j : Nat} (h1 : j ≠ i) (h2 : d ≤ i → j ≠ i - d) : (stepTo p i d).getD j 0 = p.getD j 0 := by
  unfold stepTo
  split
  · rename_i h
    rw [getD_set_ne (fun e => h2 h e.symm), getD_set_ne (Ne.symm h1)]
  · rw [getD_set_ne (Ne.symm h1)]
theorem reach_one {h c : Nat} {a b : Nat} {p : List Int} (ha : 1 ≤ a) (hb : 1 ≤ b) (hp : PosP h c p) (h1 : p.sum = 1) (hex : ∃ q ∈ stepsL p a, q.sum = 0) : ∀ x ∈ reach [b, a] p, x.sum = 0 := by
  intro x hx
  obtain ⟨q, hq, hz⟩ := hex
  obtain ⟨i, hi, hci, rfl⟩ := mem_stepsL.1 hq
  have hai : ¬ a ≤ i := by
    intro h'
    rw [stepTo_sum ha hi, if_pos h'] at hz
    omega
  rw [reach_cons, if_neg (by omega)] at hx
  obtain ⟨m, hm, hx⟩ := List.mem_flatMap.1 hx
  obtain ⟨hm1, _⟩ := step_pos hb hp hm
  rw [reach_cons] at hx
  split at hx
  · rename_i h0
    have : x = m := by simpa using hx
    rw [this]; exact h0
  · rename_i h0
    obtain ⟨y, hy, hx⟩ := List.mem_flatMap.1 hx
    have : x = y := by simpa [reach_nil] using hx
    subst this
    obtain ⟨k, hk, hck, rfl⟩ := mem_stepsL.1 hm
    have hki : k = i := one_checker hp.2.1 h1 hck.1 hci.1
    subst hki
    have hs := stepTo_sum (p := p) hb hk
    have hbk : b ≤ k := by
      by_cases h' : b ≤ k
      · exact h'
      · rw [if_neg h'] at hs; omega
    rw [if_pos hbk] at hs
    obtain ⟨j, hj, hcj, rfl⟩ := mem_stepsL.1 hy
    have hjk : j ≠ k := by
      intro e
      subst e
      apply hcj.1
      unfold stepTo
      rw [if_pos hbk, getD_set_ne (by omega)]
      have : p.getD j 0 = 1 := by
        have h2 : p.getD j 0 ≤ p.sum := by
          have e := wsum_set (fun _ => 1) p 0 j 0 hk
          rw [wsum_one, wsum_one] at e
          have := sum_nn (p := p.set j 0) (mem_set_nonneg hp.2.1 (Int.le_refl _))
          omega
        have := getD_nonneg hp.2.1 j
        have := hck.1
        omega
      simp [List.getD, List.getElem?_set, hk] at this ⊢
      omega
    have hjb : j = k - b := by
      apply Classical.byContradiction
      intro h'
      have e := stepTo_other (p := p) (i := k) (d := b) (j := j) hjk (fun _ => h')
      have h3 := hcj.1
      rw [e] at h3
      exact hjk (one_checker hp.2.1 h1 h3 hck.1)
    rw [stepTo_sum ha hj, if_neg (by omega)]
    omega
theorem reach_two {h c : Nat} {a b : Nat} {p : List Int} (hp : PosP h c p) (h1 : p.sum = 1) (hex : ∃ q ∈ stepsL p a, q.sum = 0) : ∀ x ∈ reach [a, b] p, x.sum = 0 := by
  intro x hx
  obtain ⟨q, hq, hz⟩ := hex
  rw [reach_cons, if_neg (by omega)] at hx
  obtain ⟨m, hm, hx⟩ := List.mem_flatMap.1 hx
  have : m = q := by
    obtain ⟨i, hi, hci, rfl⟩ := mem_stepsL.1 hq
    obtain ⟨j, hj, hcj, rfl⟩ := mem_stepsL.1 hm
    rw [one_checker hp.2.1 h1 hci.1 hcj.1]
  subst this
  rw [reach_zero _ hz] at hx
  have : x = m := by simpa using hx
  rw [this]; exact hz

/-! ### one walk over dice -/
/-- How many steps each way of two dice has. -/
def cntP (a : Nat) (p : List Int) : Nat := if p.sum = 0 then 0 else if p.sum = 1 ∧ ∃ q ∈ stepsL p a, q.sum = 0 then 1 else 2
theorem cntP_uni {h c : Nat} {a b : Nat} (ha : 1 ≤ a) {p : List Int} (hp : PosP h c p) : Uni [a, b] p (cntP a p) := by
  unfold cntP
  split
  · exact uni_zero ‹_›
  · exact uni_pair (b := b) ha hp ‹_›
theorem dice_ne {a b : Nat} (h : a ≠ b) : dice a b = [[a, b], [b, a]] := by unfold dice; rw [if_neg h]
theorem dice_eq (a : Nat) : dice a a = [[a, a, a, a]] := by unfold dice; rw [if_pos rfl]
theorem res_eq {h c : Nat} {a : Nat} {p : List Int} (ha : 1 ≤ a) (hp : PosP h c p) : sortU (reach [a, a, a, a] p) = resultsL p a a := by
  unfold resultsL; rw [dice_eq]; simp
theorem res_ne {a b : Nat} {p : List Int} (h : a ≠ b) : resultsL p a b = sortU (reach [a, b] p ++ reach [b, a] p) := by
  unfold resultsL; rw [dice_ne h]; simp
theorem res_both {h c : Nat} {a b : Nat} {p : List Int} (ha : 1 ≤ a) (hb : 1 ≤ b) (hp : PosP h c p) (hne : a ≠ b) : putAll (sortU (reach [a, b] p)) (sortU (reach [b, a] p)) = resultsL p a b := by
  rw [res_ne hne]
  exact putAll_sortU (n := h) (reach_lens (by simp [ha, hb]) hp) (reach_lens (by simp [ha, hb]) hp)
theorem res_same {h c : Nat} {a b : Nat} {p : List Int} (ha : 1 ≤ a) (hb : 1 ≤ b) (hp : PosP h c p) (hz : (∀ x ∈ reach [a, b] p, x.sum = 0) ∧ ∀ x ∈ reach [b, a] p, x.sum = 0) (hne : a ≠ b) :
    sortU (reach [a, b] p) = resultsL p a b ∧ sortU (reach [b, a] p) = resultsL p a b := by
  have r1 : ∀ x ∈ reach [a, b] p, PosP h c x := fun x hx => (reach_pos (by simp [ha, hb]) hp x hx).1
  have r2 : ∀ x ∈ reach [b, a] p, PosP h c x := fun x hx => (reach_pos (by simp [ha, hb]) hp x hx).1
  obtain ⟨y, hy⟩ := List.exists_mem_of_ne_nil _ (reach_some (ds := [a, b]) (by simp [ha, hb]) hp)
  obtain ⟨z, hz'⟩ := List.exists_mem_of_ne_nil _ (reach_some (ds := [b, a]) (by simp [ha, hb]) hp)
  have e : ∀ x z, PosP h c x → PosP h c z → x.sum = 0 → z.sum = 0 → x = z := fun x z hx hz s t => zero_list (by rw [hx.1, hz.1]) hx.2.1 hz.2.1 s t
  rw [res_ne hne]
  have l1 : Lens h (reach [a, b] p) := reach_lens (by simp [ha, hb]) hp
  have l2 : Lens h (reach [b, a] p) := reach_lens (by simp [ha, hb]) hp
  have l3 : Lens h (reach [a, b] p ++ reach [b, a] p) := fun x hx => (List.mem_append.1 hx).elim (l1 x) (l2 x)
  constructor
  · refine sortU_congr l1 l3 fun x => ?_
    rw [List.mem_append]
    exact ⟨fun h => h.elim id fun h => by rw [e x y (r2 x h) (r1 y hy) (hz.2 x h) (hz.1 y hy)]; exact hy, fun h => .inl h⟩
  · refine sortU_congr l2 l3 fun x => ?_
    rw [List.mem_append]
    exact ⟨fun h => h.elim (fun h => by rw [e x z (r1 x h) (r2 z hz') (hz.1 x h) (hz.2 z hz')]; exact hz') id, fun h => .inr h⟩
theorem cnt_less {a b : Nat} {p : List Int} (hl : cntP a p < cntP b p) : p.sum = 1 ∧ ∃ q ∈ stepsL p a, q.sum = 0 := by
  by_cases h0 : p.sum = 0
  · unfold cntP at hl; rw [if_pos h0, if_pos h0] at hl; omega
  · by_cases h1 : p.sum = 1 ∧ ∃ q ∈ stepsL p a, q.sum = 0
    · exact h1
    · exfalso
      unfold cntP at hl
      rw [if_neg h0, if_neg h0, if_neg h1] at hl
      by_cases h2 : p.sum = 1 ∧ ∃ q ∈ stepsL p b, q.sum = 0
      · rw [if_pos h2] at hl; omega
      · rw [if_neg h2] at hl; omega
theorem res_less {h c : Nat} {a b : Nat} {p : List Int} (ha : 1 ≤ a) (hb : 1 ≤ b) (hp : PosP h c p) (hne : a ≠ b) (hl : cntP a p < cntP b p) : sortU (reach [b, a] p) = resultsL p a b := by
  obtain ⟨h1, h2⟩ := cnt_less hl
  exact (res_same ha hb hp ⟨reach_two hp h1 h2, reach_one ha hb hp h1 h2⟩ hne).2
theorem res_more {h c : Nat} {a b : Nat} {p : List Int} (ha : 1 ≤ a) (hb : 1 ≤ b) (hp : PosP h c p) (hne : a ≠ b) (hl : cntP b p < cntP a p) : sortU (reach [a, b] p) = resultsL p a b := by
  obtain ⟨h1, h2⟩ := cnt_less hl
  exact (res_same ha hb hp ⟨reach_one hb ha hp h1 h2, reach_two hp h1 h2⟩ hne).1
/-- What the walk holds behind i first steps. -/
noncomputable def walkB (d : Nat) (ds : List Nat) (p : List Int) (i : Nat) : List (List Int) := sortU (((stepsL p d).take i).flatMap (reach ds))
theorem walkB_zero (d : Nat) (ds : List Nat) (p : List Int) : walkB d ds p 0 = [] := rfl
theorem walkB_step {h c : Nat} {d : Nat} {ds : List Nat} {p : List Int} (hd : ∀ e ∈ d :: ds, 1 ≤ e) (hp : PosP h c p) {i : Nat} (hi : i < (stepsL p d).length) :
    putAll (walkB d ds p i) (sortU (reach ds ((stepsL p d).getD i []))) = walkB d ds p (i + 1) := by
  unfold walkB
  rw [List.take_succ_eq_append_getElem hi, List.flatMap_append]
  have e : (stepsL p d).getD i [] = (stepsL p d)[i] := by simp [List.getD, hi]
  rw [e]
  have hl : ∀ q ∈ stepsL p d, Lens h (reach ds q) := fun q hq => reach_lens (fun e he => hd e (by simp [he])) (step_pos (hd d (by simp)) hp hq).1
  rw [putAll_sortU (n := h)]
  · simp
  · intro x hx
    obtain ⟨q, hq, hx⟩ := List.mem_flatMap.1 hx
    exact hl q (List.mem_of_mem_take hq) x hx
  · exact hl _ (List.getElem_mem hi)
theorem walkB_end {d : Nat} {ds : List Nat} {p : List Int} (h0 : p.sum ≠ 0) : walkB d ds p (stepsL p d).length = sortU (reach (d :: ds) p) := by
  unfold walkB; rw [List.take_length, reach_cons, if_neg h0]
theorem sortU_one (p : List Int) : sortU [p] = [p] := rfl

/-! ### neighbours made one -/
/-- A list without an element that stands behind itself. -/
def cmpct : List (List Int) → List (List Int) := fun l => l.foldl (fun acc x => if acc.getLast? = some x then acc else acc ++ [x]) []
theorem cmpct_snoc (l : List (List Int)) (x : List Int) : cmpct (l ++ [x]) = if (cmpct l).getLast? = some x then cmpct l else cmpct l ++ [x] := by unfold cmpct; rw [List.foldl_append]; rfl
theorem cmpct_last : ∀ (l : List (List Int)), (cmpct l).getLast? = l.getLast? := by
  intro l
  induction l using snoc_ind with
  | nil => rfl
  | snoc l x _ =>
    rw [cmpct_snoc]
    split
    · rename_i h; rw [h]; simp
    · simp
theorem cmpct_le (l : List (List Int)) : (cmpct l).length ≤ l.length := by
  induction l using snoc_ind with
  | nil => exact Nat.le_refl _
  | snoc l x ih =>
    rw [cmpct_snoc]
    split <;> simp <;> omega
theorem mem_cmpct (l : List (List Int)) : ∀ x, x ∈ cmpct l ↔ x ∈ l := by
  induction l using snoc_ind with
  | nil => intro x; exact Iff.rfl
  | snoc l y ih =>
    intro x
    rw [cmpct_snoc, List.mem_append]
    split
    · rename_i h
      rw [ih x]
      constructor
      · exact .inl
      · rintro (h' | h')
        · exact h'
        · have : x = y := by simpa using h'
          subst this
          rw [cmpct_last] at h
          exact List.mem_of_getLast? h
    · rw [List.mem_append, ih x]
theorem cmpct_srt {n : Nat} : ∀ {l : List (List Int)}, Lens n l → l.Pairwise (fun p q => ¬ Bef q p) → Srt (cmpct l) := by
  intro l
  induction l using snoc_ind with
  | nil => intro _ _; exact List.Pairwise.nil
  | snoc l x ih =>
    intro hl hs
    obtain ⟨h1, h2, h3⟩ := List.pairwise_append.1 hs
    have hr : Lens n l := fun p hp => hl p (by simp [hp])
    have ih' := ih hr h1
    rw [cmpct_snoc]
    split
    · exact ih'
    · rename_i hne
      refine List.pairwise_append.2 ⟨ih', List.pairwise_singleton _ _, fun y hy z hz => ?_⟩
      have hzx : z = x := by simpa using hz
      subst hzx
      have hyl := (mem_cmpct l y).1 hy
      have hnb := h3 y hyl z (by simp)
      rcases bef_total (p := y) (q := z) (by rw [hr y hyl, hl z (by simp)]) with h | h | h
      · exact h
      · exfalso
        subst h
        apply hne
        -- y is in l, and all behind it in l are not before it, nor after y = x: so the last is y
        rw [cmpct_last]
        obtain ⟨l', w, hw⟩ : ∃ l' w, l = l' ++ [w] := by
          rcases List.eq_nil_or_concat l with e | ⟨l', w, e⟩
          · rw [e] at hyl; simp at hyl
          · exact ⟨l', w, by rw [e, List.concat_eq_append]⟩
        have hwl : w ∈ l := by rw [hw]; simp
        have hnw := h3 w hwl y (by simp)
        have : w = y := by
          rw [hw] at hyl h1
          rcases List.mem_append.1 hyl with hy1 | hy1
          · have := (List.pairwise_append.1 h1).2.2 y hy1 w (by simp)
            rcases bef_total (p := y) (q := w) (by rw [hr w hwl, hl y (by simp)]) with h | h | h
            · exact absurd h hnw
            · exact h.symm
            · exact absurd h this
          · have : y = w := by simpa using hy1
            exact this.symm
        rw [hw, this]; simp
      · exact absurd h hnb
theorem cmpct_sortU {n : Nat} {l k : List (List Int)} (hk : Lens n k) (hm : ∀ x, x ∈ l ↔ x ∈ k) (hs : l.Pairwise (fun p q => ¬ Bef q p)) : cmpct l = sortU k := by
  have hl : Lens n l := fun x hx => hk x ((hm x).1 hx)
  refine (sortU_of hk (fun x hx => hl x ((mem_cmpct l x).1 hx)) (cmpct_srt hl hs) fun x => ?_).symm
  rw [mem_cmpct, hm x]
end Go.Proofs.YtlbkfhdnhalpbaaGreat.Ps

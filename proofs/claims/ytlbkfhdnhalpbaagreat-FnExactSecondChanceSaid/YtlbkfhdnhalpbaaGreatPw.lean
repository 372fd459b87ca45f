/- Slices of positions: their elements lie outside a set S of blocks and outside the slice's own block. No statement is proved here; there are no conditions. -/
import Derived.Test.YtlbkfhdnhalpbaaGreatMem
import Derived.Maps.AppendAt
namespace Go.Proofs.YtlbkfhdnhalpbaaGreat
set_option linter.unusedVariables false
set_option linter.unusedSimpArgs false
open Go.RowKit

/-- A slice of integers that reads as xs; its block, if it has an element, lies outside S. -/
def SQ (S : Nat → Prop) (w : World) (A : Option Addr) (n : Nat) (xs : List Int) : Prop := SL w A n xs ∧ (0 < n → ∀ b off s, A = some ⟨b, off, s⟩ → ¬ S b)
def PV (S : Nat → Prop) (w : World) (u : Value) (p : List Int) : Prop := ∃ A n c, u = .slice A n c ∧ SQ S w A n p ∧ n ≤ c
def PVs (S : Nat → Prop) (w : World) (cs : List Value) (ps : List (List Int)) : Prop := cs.length = ps.length ∧ ∀ i, i < cs.length → PV S w (cs.getD i undef) (ps.getD i [])
/-- A slice of positions. -/
def PL (S : Nat → Prop) (w : World) (A : Option Addr) (n : Nat) (ps : List (List Int)) : Prop := ∃ cs, SLZ 1 S w A n cs ∧ PVs S w cs ps
/-- S and the block of v. -/
def wth (S : Nat → Prop) (v : Value) : Nat → Prop := fun k => S k ∨ v.ownBlock = some k
/-- A slice of positions of the call's own. -/
def OP (S : Nat → Prop) (w : World) (base : Nat) (e : TypeId) (v : Value) (ps : List (List Int)) : Prop := ∃ cs, w.ownsRow base e 1 v ps.length cs ∧ PVs (wth S v) w cs ps ∧ ∀ k, v.ownBlock = some k → ¬ S k

section
variable {S S' : Nat → Prop} {w w' : World} {A : Option Addr} {n : Nat} {cs : List Value} {u v : Value} {p xs : List Int} {ps : List (List Int)} {base : Nat} {e : TypeId}
theorem SQ.frm (h : SQ S w A n xs) (hf : Frm S w w') : SQ S w' A n xs := by
  refine ⟨⟨h.1.1, fun hn => ?_⟩, h.2⟩
  obtain ⟨b, off, hA, hlt, hc⟩ := h.1.2 hn
  exact ⟨b, off, hA, Nat.lt_of_lt_of_le hlt hf.size, fun i hi => hf.cell' (hc i hi) (h.2 hn b off none hA)⟩
/-- Another set: what it has more lies at w's end or behind. -/
theorem SQ.set (h : SQ S w A n xs) (hS : ∀ k, S' k → S k ∨ w.heap.size ≤ k) : SQ S' w A n xs := by
  refine ⟨h.1, fun hn b off s hA hs => ?_⟩
  obtain ⟨b', off', hA', hlt, _⟩ := h.1.2 hn
  rw [hA] at hA'
  injection hA' with hA'
  injection hA' with h1 h2 h3
  subst h1
  rcases hS b hs with h4 | h4
  · exact h.2 hn b off s hA h4
  · omega
theorem PV.frm (h : PV S w u p) (hf : Frm S w w') : PV S w' u p := let ⟨A, n, c, hu, hs, hc⟩ := h; ⟨A, n, c, hu, hs.frm hf, hc⟩
theorem PV.set (h : PV S w u p) (hS : ∀ k, S' k → S k ∨ w.heap.size ≤ k) : PV S' w u p := let ⟨A, n, c, hu, hs, hc⟩ := h; ⟨A, n, c, hu, hs.set hS, hc⟩
theorem PVs.frm (h : PVs S w cs ps) (hf : Frm S w w') : PVs S w' cs ps := ⟨h.1, fun i hi => (h.2 i hi).frm hf⟩
theorem PVs.set (h : PVs S w cs ps) (hS : ∀ k, S' k → S k ∨ w.heap.size ≤ k) : PVs S' w cs ps := ⟨h.1, fun i hi => (h.2 i hi).set hS⟩
theorem PVs.nil_ (S : Nat → Prop) (w : World) : PVs S w [] [] := ⟨rfl, fun i hi => absurd hi (by simp)⟩
theorem PVs.append {ds : List Value} {qs : List (List Int)} (h : PVs S w cs ps) (k : PVs S w ds qs) : PVs S w (cs ++ ds) (ps ++ qs) := by
  refine ⟨by simp [h.1, k.1], fun i hi => ?_⟩
  by_cases hlt : i < cs.length
  · have := h.2 i hlt
    rw [getD_app_lt _ _ _ hlt, getD_app_lt _ _ _ (by rw [← h.1]; exact hlt)]; exact this
  · rw [getD_app_ge _ _ _ (by omega), getD_app_ge _ _ _ (by rw [← h.1]; omega), h.1]
    have := k.2 (i - cs.length) (by simp at hi; omega)
    rwa [h.1] at this
theorem PVs.one (h : PV S w u p) : PVs S w [u] [p] := ⟨rfl, fun i hi => by
  have : i = 0 := by simpa using hi
  subst this; exact h⟩
theorem PVs.snoc (h : PVs S w cs ps) (hu : PV S w u p) : PVs S w (cs ++ [u]) (ps ++ [p]) := h.append (PVs.one hu)
theorem PVs.take (h : PVs S w cs ps) (k : Nat) : PVs S w (cs.take k) (ps.take k) := by
  refine ⟨by simp [h.1], fun i hi => ?_⟩
  have hi' : i < k ∧ i < cs.length := by rw [List.length_take] at hi; omega
  have := h.2 i hi'.2
  simpa [List.getD, List.getElem?_take, hi'.1] using this
theorem PVs.drop (h : PVs S w cs ps) (k : Nat) : PVs S w (cs.drop k) (ps.drop k) := by
  refine ⟨by simp [h.1], fun i hi => ?_⟩
  have := h.2 (k + i) (by simp at hi; omega)
  simpa [List.getD, List.getElem?_drop] using this
theorem PL.frm (h : PL S w A n ps) (hf : Frm S w w') : PL S w' A n ps := let ⟨cs, h1, h2⟩ := h; ⟨cs, h1.frm hf, h2.frm hf⟩
theorem PL.below (h : PL S w A n ps) (hb : Below w.heap.size w w') : PL S w' A n ps := h.frm (Frm.of_below' S hb)
theorem PL.alloc (h : PL S w A n ps) (o : Obj) : PL S (w.alloc o) A n ps := h.frm ((Frm.refl S w).alloc o)
theorem PL.more (h : PL S w A n ps) (t : World) : PL S (more w t) A n ps := h.below (below_more w t)
theorem PL.set (h : PL S w A n ps) (hS : ∀ k, S' k → S k ∨ w.heap.size ≤ k) : PL S' w A n ps := by
  obtain ⟨cs, ⟨h1, h2⟩, h3⟩ := h
  refine ⟨cs, ⟨h1, fun hn => ?_⟩, h3.set hS⟩
  obtain ⟨b, off, hA, hlt, hs, hc⟩ := h2 hn
  exact ⟨b, off, hA, hlt, fun hb => by rcases hS b hb with h | h; exact hs h; omega, hc⟩
theorem PL.len (h : PL S w A n ps) : ps.length = n := by obtain ⟨cs, h1, h2⟩ := h; rw [← h2.1, h1.1, Nat.mul_one]
theorem PL.nil_ (S : Nat → Prop) (w : World) (A : Option Addr) : PL S w A 0 [] := ⟨[], ⟨rfl, fun h => absurd h (by omega)⟩, PVs.nil_ _ _⟩
/-- The element at k: its cell and what it reads as. -/
theorem PL.at (h : PL S w A n ps) {k : Nat} (hk : k < n) : ∃ b off B m c, A = some ⟨b, off, none⟩ ∧ b < w.heap.size ∧ w.cell? ⟨b, off + k, none⟩ = some (.slice B m c) ∧ SQ S w B m (ps.getD k []) ∧ m ≤ c := by
  obtain ⟨cs, ⟨hl, hc⟩, ha⟩ := h
  obtain ⟨b, off, hA, hlt, hs, hcell⟩ := hc (by omega)
  obtain ⟨B, m, c, hu, hp, hm⟩ := ha.2 k (by omega)
  exact ⟨b, off, B, m, c, hA, hlt, by rw [hcell k (by omega), hu], hp, hm⟩
theorem OP.frm (h : OP S w base e v ps) (hf : Frm S w w') : OP S w' base e v ps :=
  let ⟨cs, h1, h2, h3⟩ := h; ⟨cs, hf.row h1 h3, h2.frm (hf.mono fun k hk => .inl hk), h3⟩
theorem OP.below (h : OP S w base e v ps) (hb : Below w.heap.size w w') : OP S w' base e v ps := h.frm (Frm.of_below' S hb)
theorem OP.alloc (h : OP S w base e v ps) (o : Obj) : OP S (w.alloc o) base e v ps := h.frm ((Frm.refl S w).alloc o)
theorem OP.more (h : OP S w base e v ps) (t : World) : OP S (more w t) base e v ps := h.below (below_more w t)
theorem OP.mono (h : OP S w base e v ps) {base' : Nat} (hb : base' ≤ base) : OP S w base' e v ps := let ⟨cs, h1, h2, h3⟩ := h; ⟨cs, own_base h1 hb, h2, h3⟩
theorem OP.set (h : OP S w base e v ps) (hS : ∀ k, S' k → S k) : OP S' w base e v ps :=
  let ⟨cs, h1, h2, h3⟩ := h; ⟨cs, h1, h2.set fun k hk => .inl (hk.elim (fun h => .inl (hS k h)) .inr), fun k hk hs => h3 k hk (hS k hs)⟩
/-- A wider set: what it has more is neither an element's nor the slice's own block, for they lie between. -/
theorem OP.nil_ (S : Nat → Prop) (w : World) (base : Nat) (e : TypeId) : OP S w base e (.slice none 0 0) [] := ⟨[], World.ownsRow_nil _ _ _ _, PVs.nil_ _ _, fun k hk => by cases hk⟩
theorem OP.made (w : World) (hb : base ≤ w.heap.size) (hS : ∀ k, base ≤ k → ¬ S k) (h : PVs S w cs ps) (hm : ps.length ≤ maxLen) : OP S (w.alloc (.cells cs.toArray e)) base e (.slice (some ⟨w.heap.size, 0, none⟩) ps.length ps.length) ps := by
  refine ⟨cs, ⟨by rw [h.1, Nat.mul_one], .inr ⟨w.heap.size, ps.length, cs.toArray, rfl, hb, heap_alloc_new w _, Nat.le_refl _, hm, by simp [h.1], by rw [List.take_of_length_le (by simp [h.1])]⟩⟩, ?_, fun k hk => ?_⟩
  · refine (h.set fun k hk => ?_).frm ((Frm.refl _ w).alloc _)
    rcases hk with hk | hk
    · exact .inl hk
    · simp [Value.ownBlock] at hk; exact .inr (by omega)
  · simp [Value.ownBlock] at hk; subst hk; exact hS _ hb
theorem OP.read (h : OP S w base e v ps) : ∃ A c, v = .slice A ps.length c ∧ PL S w A ps.length ps ∧ ps.length ≤ c := by
  obtain ⟨cs, h1, h2, h3⟩ := h
  obtain ⟨A, c, hv, hs, hc⟩ := row_read h1 h3 (by omega)
  exact ⟨A, c, hv, ⟨cs, hs, h2.set fun k hk => .inl (.inl hk)⟩, hc⟩
/-- The frame of an append: elements outside S and the old block lie outside S and the new one. -/
theorem wth_new {v' : Value} (hat : v'.ownBlock = v.ownBlock ∨ v'.ownBlock = some w.heap.size) : ∀ k, wth S v' k → wth S v k ∨ w.heap.size ≤ k := by
  rintro k (hk | hk)
  · exact .inl (.inl hk)
  · rcases hat with h | h
    · exact .inl (.inr (by rw [← h]; exact hk))
    · rw [h] at hk; injection hk with hk; exact .inr (by omega)
theorem frm_own {w1 : World} (hg : w.grownBy w1 v.ownBlock) : Frm (wth S v) w w1 := (Frm.of_grown hg).mono fun k hk => .inr hk.symm
/-- Behind an append of elements that lie outside S and outside the old block. -/
theorem OP.grew {w1 : World} {v' : Value} {ds : List Value} {qs : List (List Int)} {m : Nat} (hp : PVs (wth S v) w cs ps) (hq : PVs (wth S v) w ds qs) (hown : w1.ownsRow base e 1 v' (ps.length + m) (cs ++ ds)) (hm : m = qs.length)
    (hg : w.grownBy w1 v.ownBlock) (hat : v'.ownBlock = v.ownBlock ∨ v'.ownBlock = some w.heap.size) (hS : ∀ k, base ≤ k → ¬ S k) : OP S w1 base e v' (ps ++ qs) := by
  subst hm
  refine ⟨cs ++ ds, by rw [List.length_append]; exact hown, ?_, fun k hk => hS k (World.ownsRow.lt hown k hk).1⟩
  have h1 := (hp.append hq).set (S' := fun k => wth S v k ∨ wth S v' k) fun k hk => hk.elim .inl (wth_new hat k)
  exact (h1.frm ((frm_own hg).mono fun k hk => .inl hk)).set fun k hk => .inl (.inr hk)
end
end Go.Proofs.YtlbkfhdnhalpbaaGreat

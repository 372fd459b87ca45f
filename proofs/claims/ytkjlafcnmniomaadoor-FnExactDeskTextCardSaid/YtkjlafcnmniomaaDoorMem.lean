/- Words for memory that race tables use: a frame that spares some blocks, slices whose elements are slices or small structs. No statement is proved here; there are no conditions. -/
import Derived.Test.YtkjlafcnmniomaaDoorBase2
import Derived.Test.YtkjlafcnmniomaaDoorLists
namespace Go.Proofs.YtkjlafcnmniomaaDoor
set_option linter.unusedVariables false
set_option linter.unusedSimpArgs false
open Go.RowKit

/-- What was there is as it was, but for the blocks of S. -/
structure Frm (S : Nat → Prop) (w w' : World) : Prop where
  os : w'.os = w.os
  tape : w'.tape = w.tape
  output : w'.output = w.output
  size : w.heap.size ≤ w'.heap.size
  block : ∀ k, k < w.heap.size → ¬ S k → w'.heap[k]? = w.heap[k]?

theorem Frm.of_grown {w w' : World} {r : Option Nat} (h : w.grownBy w' r) : Frm (fun k => some k = r) w w' := ⟨h.os, h.tape, h.output, h.size, fun k hk hn => h.block k hk hn⟩
theorem Frm.of_below {w w' : World} (h : Below w.heap.size w w') : Frm (fun _ => False) w w' := ⟨h.os, h.tape, h.output, h.size, fun k hk _ => h.block k hk⟩
theorem Frm.mono {S T : Nat → Prop} {w w' : World} (h : Frm S w w') (hst : ∀ k, S k → T k) : Frm T w w' := ⟨h.os, h.tape, h.output, h.size, fun k hk hn => h.block k hk fun hs => hn (hst k hs)⟩
theorem Frm.trans {S : Nat → Prop} {a b c : World} (h : Frm S a b) (k : Frm S b c) : Frm S a c :=
  ⟨k.os.trans h.os, k.tape.trans h.tape, k.output.trans h.output, Nat.le_trans h.size k.size, fun i hi hn => (k.block i (Nat.lt_of_lt_of_le hi h.size) hn).trans (h.block i hi hn)⟩
theorem Frm.below {S : Nat → Prop} {w w' : World} (h : Frm S w w') {B : Nat} (hB : B ≤ w.heap.size) (hS : ∀ k, S k → B ≤ k) : Below B w w' :=
  ⟨h.os, h.tape, h.output, h.size, fun k hk => h.block k (by omega) fun hs => by have := hS k hs; omega⟩
theorem Frm.cell {S : Nat → Prop} {w w' : World} (h : Frm S w w') {a : Addr} {v : Value} (hc : w.cell? a = some v) (hn : ¬ S a.block) : w'.cell? a = some v :=
  (World.cell?_of_block (h.block a.block (World.block_lt_of_cell? w a hc) hn)).trans hc
theorem Frm.cell' {S : Nat → Prop} {w w' : World} {b i : Nat} {v : Value} (h : Frm S w w') (hc : w.cell? ⟨b, i, none⟩ = some v) (hn : ¬ S b) : w'.cell? ⟨b, i, none⟩ = some v := h.cell hc hn
theorem Frm.row {S : Nat → Prop} {w w' : World} {base size n : Nat} {e : TypeId} {v : Value} {cs : List Value} (h : Frm S w w') (ho : w.ownsRow base e size v n cs) (hn : ∀ k, v.ownBlock = some k → ¬ S k) : w'.ownsRow base e size v n cs := by
  obtain ⟨h1, h2⟩ := ho
  refine ⟨h1, ?_⟩
  rcases h2 with h2 | ⟨g, cap, cur, hv, hb, hh, r⟩
  · exact .inl h2
  · refine .inr ⟨g, cap, cur, hv, hb, ?_, r⟩
    rw [h.block g (Array.getElem?_eq_some_iff.1 hh).1 (hn g (by rw [hv]; rfl))]
    exact hh
theorem Frm.own {S : Nat → Prop} {w w' : World} {base : Nat} {e : TypeId} {v : Value} {xs : List Int} (h : Frm S w w') (ho : OwnS w base e v xs) (hn : ∀ k, v.ownBlock = some k → ¬ S k) : OwnS w' base e v xs := h.row ho hn
theorem Frm.refl (S : Nat → Prop) (w : World) : Frm S w w := ⟨rfl, rfl, rfl, Nat.le_refl _, fun _ _ _ => rfl⟩
theorem Frm.alloc {S : Nat → Prop} {w w' : World} (h : Frm S w w') (o : Obj) : Frm S w (w'.alloc o) := h.trans ((Frm.of_below ((Below.refl _ _).alloc (Nat.le_refl _) o)).mono fun _ h => h.elim)
theorem Frm.drew {S : Nat → Prop} {w w' : World} (h : Frm S w w') : Frm S w w'.drew := ⟨h.os, h.tape, h.output, h.size, h.block⟩
theorem Frm.drewN {S : Nat → Prop} {w w' : World} (h : Frm S w w') (k : Nat) : Frm S w (w'.drewN k) := ⟨h.os, h.tape, h.output, h.size, h.block⟩
theorem Frm.of_below' (S : Nat → Prop) {w w' : World} (h : Below w.heap.size w w') : Frm S w w' := (Frm.of_below h).mono fun _ h => h.elim

/-! ### slices outside the blocks of S -/
/-- A slice of integers that reads as xs and lies outside S. -/
def SLa (S : Nat → Prop) (w : World) (A : Option Addr) (n : Nat) (xs : List Int) : Prop := SL w A n xs ∧ ∀ b off s, A = some ⟨b, off, s⟩ → ¬ S b
/-- A slice of n elements of z cells each, which holds the values cs and lies outside S. -/
def SLZ (z : Nat) (S : Nat → Prop) (w : World) (A : Option Addr) (n : Nat) (cs : List Value) : Prop :=
  cs.length = n * z ∧ (0 < n → ∃ b off, A = some ⟨b, off, none⟩ ∧ b < w.heap.size ∧ ¬ S b ∧ ∀ i, i < n * z → w.cell? ⟨b, off + i, none⟩ = some (cs.getD i undef))

section
variable {S : Nat → Prop} {w w' : World} {A : Option Addr} {n z : Nat} {xs : List Int} {cs : List Value}
theorem SLa.frm (h : SLa S w A n xs) (hf : Frm S w w') : SLa S w' A n xs := by
  refine ⟨⟨h.1.1, fun hn => ?_⟩, h.2⟩
  obtain ⟨b, off, hA, hlt, hc⟩ := h.1.2 hn
  exact ⟨b, off, hA, Nat.lt_of_lt_of_le hlt hf.size, fun i hi => hf.cell' (hc i hi) (h.2 b off none hA)⟩
theorem SLa.below (h : SLa S w A n xs) (hb : Below w.heap.size w w') : SLa S w' A n xs := h.frm (Frm.of_below' S hb)
theorem SLa.alloc (h : SLa S w A n xs) (o : Obj) : SLa S (w.alloc o) A n xs := h.frm ((Frm.refl S w).alloc o)
theorem SLa.drew (h : SLa S w A n xs) : SLa S w.drew A n xs := h
theorem SLa.more (h : SLa S w A n xs) (t : World) : SLa S (more w t) A n xs := h.below (below_more w t)
theorem SLa.nil_ (S : Nat → Prop) (w : World) : SLa S w none 0 [] := ⟨SL.nil_ w, fun _ _ _ h => by cases h⟩
theorem SLZ.frm (h : SLZ z S w A n cs) (hf : Frm S w w') : SLZ z S w' A n cs := by
  refine ⟨h.1, fun hn => ?_⟩
  obtain ⟨b, off, hA, hlt, hs, hc⟩ := h.2 hn
  exact ⟨b, off, hA, Nat.lt_of_lt_of_le hlt hf.size, hs, fun i hi => hf.cell' (hc i hi) hs⟩
theorem SLZ.below (h : SLZ z S w A n cs) (hb : Below w.heap.size w w') : SLZ z S w' A n cs := h.frm (Frm.of_below' S hb)
theorem SLZ.alloc (h : SLZ z S w A n cs) (o : Obj) : SLZ z S (w.alloc o) A n cs := h.frm ((Frm.refl S w).alloc o)
theorem SLZ.drew (h : SLZ z S w A n cs) : SLZ z S w.drew A n cs := h
theorem SLZ.nil_ (z : Nat) (S : Nat → Prop) (w : World) : SLZ z S w none 0 [] := ⟨by simp, fun h => absurd h (by omega)⟩
end

/-! ### positions as elements -/
/-- The value u is a slice that reads as p, outside S. -/
def PosV (S : Nat → Prop) (w : World) (u : Value) (p : List Int) : Prop := ∃ A n c, u = .slice A n c ∧ SLa S w A n p ∧ n ≤ c
/-- The values cs read as the positions ps. -/
def AllP (S : Nat → Prop) (w : World) (cs : List Value) (ps : List (List Int)) : Prop := cs.length = ps.length ∧ ∀ i, i < cs.length → PosV S w (cs.getD i undef) (ps.getD i [])
/-- A slice of positions. -/
def LL (S : Nat → Prop) (w : World) (A : Option Addr) (n : Nat) (ps : List (List Int)) : Prop := ∃ cs, SLZ 1 S w A n cs ∧ AllP S w cs ps
/-- A slice of positions, of the call's own. -/
def OwnL (S : Nat → Prop) (w : World) (base : Nat) (e : TypeId) (v : Value) (ps : List (List Int)) : Prop := ∃ cs, w.ownsRow base e 1 v ps.length cs ∧ AllP S w cs ps ∧ ∀ k, v.ownBlock = some k → ¬ S k
section
variable {S : Nat → Prop} {w w' : World} {A : Option Addr} {n : Nat} {cs : List Value} {u : Value} {p : List Int} {ps : List (List Int)} {base : Nat} {e : TypeId} {v : Value}
theorem PosV.frm (h : PosV S w u p) (hf : Frm S w w') : PosV S w' u p := let ⟨A, n, c, hu, hs, hc⟩ := h; ⟨A, n, c, hu, hs.frm hf, hc⟩
theorem PosV.below (h : PosV S w u p) (hb : Below w.heap.size w w') : PosV S w' u p := h.frm (Frm.of_below' S hb)
theorem AllP.frm (h : AllP S w cs ps) (hf : Frm S w w') : AllP S w' cs ps := ⟨h.1, fun i hi => (h.2 i hi).frm hf⟩
theorem AllP.below (h : AllP S w cs ps) (hb : Below w.heap.size w w') : AllP S w' cs ps := h.frm (Frm.of_below' S hb)
theorem AllP.nil_ (S : Nat → Prop) (w : World) : AllP S w [] [] := ⟨rfl, fun i hi => absurd hi (by simp)⟩
theorem AllP.snoc (h : AllP S w cs ps) (hu : PosV S w u p) : AllP S w (cs ++ [u]) (ps ++ [p]) := by
  refine ⟨by simp [h.1], fun i hi => ?_⟩
  by_cases hlt : i < cs.length
  · have := h.2 i hlt
    rw [getD_app_lt _ _ _ hlt, getD_app_lt _ _ _ (by rw [← h.1]; exact hlt)]; exact this
  · have e : i = cs.length := by simp at hi; omega
    subst e
    rw [getD_app_ge _ _ _ (Nat.le_refl _), getD_app_ge _ _ _ (by rw [h.1]; exact Nat.le_refl _), h.1]
    simpa using hu
theorem AllP.append {ds : List Value} {qs : List (List Int)} (h : AllP S w cs ps) (k : AllP S w ds qs) : AllP S w (cs ++ ds) (ps ++ qs) := by
  refine ⟨by simp [h.1, k.1], fun i hi => ?_⟩
  by_cases hlt : i < cs.length
  · have := h.2 i hlt
    rw [getD_app_lt _ _ _ hlt, getD_app_lt _ _ _ (by rw [← h.1]; exact hlt)]; exact this
  · rw [getD_app_ge _ _ _ (by omega), getD_app_ge _ _ _ (by rw [← h.1]; omega), h.1]
    have := k.2 (i - cs.length) (by simp at hi; omega)
    rwa [h.1] at this
theorem LL.frm (h : LL S w A n ps) (hf : Frm S w w') : LL S w' A n ps := let ⟨cs, h1, h2⟩ := h; ⟨cs, h1.frm hf, h2.frm hf⟩
theorem LL.below (h : LL S w A n ps) (hb : Below w.heap.size w w') : LL S w' A n ps := h.frm (Frm.of_below' S hb)
theorem LL.alloc (h : LL S w A n ps) (o : Obj) : LL S (w.alloc o) A n ps := h.frm ((Frm.refl S w).alloc o)
theorem LL.drew (h : LL S w A n ps) : LL S w.drew A n ps := h
theorem LL.more (h : LL S w A n ps) (t : World) : LL S (more w t) A n ps := h.below (below_more w t)
theorem LL.len (h : LL S w A n ps) : ps.length = n := by obtain ⟨cs, h1, h2⟩ := h; rw [← h2.1, h1.1, Nat.mul_one]
/-- The element at k: its cell and what it reads as. -/
theorem LL.at (h : LL S w A n ps) {k : Nat} (hk : k < n) : ∃ b off B m c, A = some ⟨b, off, none⟩ ∧ b < w.heap.size ∧ ¬ S b ∧ w.cell? ⟨b, off + k, none⟩ = some (.slice B m c) ∧ SLa S w B m (ps.getD k []) ∧ m ≤ c := by
  obtain ⟨cs, ⟨hl, hc⟩, ha⟩ := h
  obtain ⟨b, off, hA, hlt, hs, hcell⟩ := hc (by omega)
  obtain ⟨B, m, c, hu, hp, hm⟩ := ha.2 k (by omega)
  exact ⟨b, off, B, m, c, hA, hlt, hs, by rw [hcell k (by omega), hu], hp, hm⟩
theorem LL.nil_ (S : Nat → Prop) (w : World) : LL S w none 0 [] := ⟨[], SLZ.nil_ _ _ _, AllP.nil_ _ _⟩
theorem OwnL.frm (h : OwnL S w base e v ps) (hf : Frm S w w') : OwnL S w' base e v ps := let ⟨cs, h1, h2, h3⟩ := h; ⟨cs, hf.row h1 h3, h2.frm hf, h3⟩
theorem OwnL.below (h : OwnL S w base e v ps) (hb : Below w.heap.size w w') : OwnL S w' base e v ps := h.frm (Frm.of_below' S hb)
theorem OwnL.alloc (h : OwnL S w base e v ps) (o : Obj) : OwnL S (w.alloc o) base e v ps := h.frm ((Frm.refl S w).alloc o)
theorem OwnL.mono (h : OwnL S w base e v ps) {base' : Nat} (hb : base' ≤ base) : OwnL S w base' e v ps := let ⟨cs, h1, h2, h3⟩ := h; ⟨cs, own_base h1 hb, h2, h3⟩
theorem row_read {z : Nat} (h : w.ownsRow base e z v n cs) (hS : ∀ k, v.ownBlock = some k → ¬ S k) (hz : 0 < z) : ∃ A c, v = .slice A n c ∧ SLZ z S w A n cs ∧ n ≤ c := by
  obtain ⟨h1, h2⟩ := h
  rcases h2 with ⟨rfl, h0⟩ | ⟨g, cap, cur, rfl, hb, hh, hnc, hcm, hcs, ht⟩
  · subst h0
    have : cs = [] := List.eq_nil_of_length_eq_zero (by rw [h1]; simp)
    subst this
    exact ⟨none, 0, rfl, SLZ.nil_ _ _ _, Nat.le_refl _⟩
  · refine ⟨_, _, rfl, ⟨h1, fun hn => ⟨g, 0, rfl, (Array.getElem?_eq_some_iff.1 hh).1, hS g rfl, fun i hi => ?_⟩⟩, hnc⟩
    have hown : w.ownsRow base e z (.slice (some ⟨g, 0, none⟩) n cap) n cs := ⟨h1, .inr ⟨g, cap, cur, rfl, hb, hh, hnc, hcm, hcs, ht⟩⟩
    rw [Nat.zero_add, hown.cellAt i (by omega)]
    simp [List.getD, show i < cs.length by omega]
theorem OwnL.read (h : OwnL S w base e v ps) : ∃ A c, v = .slice A ps.length c ∧ LL S w A ps.length ps ∧ ps.length ≤ c := by
  obtain ⟨cs, h1, h2, h3⟩ := h
  obtain ⟨A, c, hv, hs, hc⟩ := row_read h1 h3 (by omega)
  exact ⟨A, c, hv, ⟨cs, hs, h2⟩, hc⟩
theorem OwnL.ll (h : OwnL S w base e v ps) {A : Option Addr} {n c : Nat} (hv : v = .slice A n c) : LL S w A n ps ∧ n ≤ c ∧ n = ps.length := by
  obtain ⟨A', c', hv', hs, hc⟩ := h.read
  rw [hv'] at hv
  injection hv with h1 h2 h3
  subst h1 h2 h3
  exact ⟨hs, hc, rfl⟩
end
theorem OwnS.sla {S : Nat → Prop} {w : World} {base : Nat} {e : TypeId} {v : Value} {xs : List Int} (h : OwnS w base e v xs) {A : Option Addr} {n c : Nat} (hv : v = .slice A n c) (hS : ∀ k, base ≤ k → ¬ S k) : SLa S w A n xs ∧ n ≤ c := by
  obtain ⟨h1, h2⟩ := h.sl hv
  refine ⟨⟨h1, fun b off s hA => ?_⟩, h2⟩
  refine hS b (h.lt b ?_).1
  subst hv hA
  rfl
end Go.Proofs.YtkjlafcnmniomaaDoor

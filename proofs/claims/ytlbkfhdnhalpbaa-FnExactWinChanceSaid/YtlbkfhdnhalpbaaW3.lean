/- Joined texts of one proof: Mem, Pw, Ways. Each part tells what it shows. There are no conditions. -/
import Derived.Test.YtlbkfhdnhalpbaaW2
import Derived.Maps.AppendAt

/- Words for memory that race tables use: a frame that spares some blocks, slices whose elements are slices or small structs. No statement is proved here; there are no conditions. -/
namespace Go.Proofs.Ytlbkfhdnhalpbaa
set_option linter.unusedVariables false
set_option linter.unusedSimpArgs false
open Go.RowKit

/-- What was there is as it was, but for the blocks of S. -/
structure Frm (S : Nat → Prop) (w w' : World) : Prop where
  os : w'.os = w.os
  tape : w'.tape = w.tape
  output : w'.output = w.output
  size : w.heap.size ≤ w'.heap.size
  block : ∀ k, k < w.heap.size → ¬ S k → w'.heap[k]? = w.heap[k]?

theorem Frm.of_grown {w w' : World} {r : Option Nat} (h : w.grownBy w' r) : Frm (fun k => some k = r) w w' := ⟨h.os, h.tape, h.output, h.size, fun k hk hn => h.block k hk hn⟩
theorem Frm.of_below {w w' : World} (h : Below w.heap.size w w') : Frm (fun _ => False) w w' := ⟨h.os, h.tape, h.output, h.size, fun k hk _ => h.block k hk⟩
theorem Frm.mono {S T : Nat → Prop} {w w' : World} (h : Frm S w w') (hst : ∀ k, S k → T k) : Frm T w w' := ⟨h.os, h.tape, h.output, h.size, fun k hk hn => h.block k hk fun hs => hn (hst k hs)⟩
theorem Frm.trans {S : Nat → Prop} {a b c : World} (h : Frm S a b) (k : Frm S b c) : Frm S a c :=
  ⟨k.os.trans h.os, k.tape.trans h.tape, k.output.trans h.output, Nat.le_trans h.size k.size, fun i hi hn => (k.block i (Nat.lt_of_lt_of_le hi h.size) hn).trans (h.block i hi hn)⟩
theorem Frm.below {S : Nat → Prop} {w w' : World} (h : Frm S w w') {B : Nat} (hB : B ≤ w.heap.size) (hS : ∀ k, S k → B ≤ k) : Below B w w' :=
  ⟨h.os, h.tape, h.output, h.size, fun k hk => h.block k (by omega) fun hs => by have := hS k hs; omega⟩
theorem Frm.cell {S : Nat → Prop} {w w' : World} (h : Frm S w w') {a : Addr} {v : Value} (hc : w.cell? a = some v) (hn : ¬ S a.block) : w'.cell? a = some v :=
  (World.cell?_of_block (h.block a.block (World.block_lt_of_cell? w a hc) hn)).trans hc
theorem Frm.cell' {S : Nat → Prop} {w w' : World} {b i : Nat} {v : Value} (h : Frm S w w') (hc : w.cell? ⟨b, i, none⟩ = some v) (hn : ¬ S b) : w'.cell? ⟨b, i, none⟩ = some v := h.cell hc hn
theorem Frm.row {S : Nat → Prop} {w w' : World} {base size n : Nat} {e : TypeId} {v : Value} {cs : List Value} (h : Frm S w w') (ho : w.ownsRow base e size v n cs) (hn : ∀ k, v.ownBlock = some k → ¬ S k) : w'.ownsRow base e size v n cs := by
  obtain ⟨h1, h2⟩ := ho
  refine ⟨h1, ?_⟩
  rcases h2 with h2 | ⟨g, cap, cur, hv, hb, hh, r⟩
  · exact .inl h2
  · refine .inr ⟨g, cap, cur, hv, hb, ?_, r⟩
    rw [h.block g (Array.getElem?_eq_some_iff.1 hh).1 (hn g (by rw [hv]; rfl))]
    exact hh
theorem Frm.own {S : Nat → Prop} {w w' : World} {base : Nat} {e : TypeId} {v : Value} {xs : List Int} (h : Frm S w w') (ho : OwnS w base e v xs) (hn : ∀ k, v.ownBlock = some k → ¬ S k) : OwnS w' base e v xs := h.row ho hn
theorem Frm.refl (S : Nat → Prop) (w : World) : Frm S w w := ⟨rfl, rfl, rfl, Nat.le_refl _, fun _ _ _ => rfl⟩
theorem Frm.alloc {S : Nat → Prop} {w w' : World} (h : Frm S w w') (o : Obj) : Frm S w (w'.alloc o) := h.trans ((Frm.of_below ((Below.refl _ _).alloc (Nat.le_refl _) o)).mono fun _ h => h.elim)
theorem Frm.drew {S : Nat → Prop} {w w' : World} (h : Frm S w w') : Frm S w w'.drew := ⟨h.os, h.tape, h.output, h.size, h.block⟩
theorem Frm.drewN {S : Nat → Prop} {w w' : World} (h : Frm S w w') (k : Nat) : Frm S w (w'.drewN k) := ⟨h.os, h.tape, h.output, h.size, h.block⟩
theorem Frm.of_below' (S : Nat → Prop) {w w' : World} (h : Below w.heap.size w w') : Frm S w w' := (Frm.of_below h).mono fun _ h => h.elim

/-! ### slices outside the blocks of S -/
/-- A slice of integers that reads as xs and lies outside S. -/
def SLa (S : Nat → Prop) (w : World) (A : Option Addr) (n : Nat) (xs : List Int) : Prop := SL w A n xs ∧ ∀ b off s, A = some ⟨b, off, s⟩ → ¬ S b
/-- A slice of n elements of z cells each, which holds the values cs and lies outside S. -/
def SLZ (z : Nat) (S : Nat → Prop) (w : World) (A : Option Addr) (n : Nat) (cs : List Value) : Prop :=
  cs.length = n * z ∧ (0 < n → ∃ b off, A = some ⟨b, off, none⟩ ∧ b < w.heap.size ∧ ¬ S b ∧ ∀ i, i < n * z → w.cell? ⟨b, off + i, none⟩ = some (cs.getD i undef))

section
variable {S : Nat → Prop} {w w' : World} {A : Option Addr} {n z : Nat} {xs : List Int} {cs : List Value}
theorem SLa.frm (h : SLa S w A n xs) (hf : Frm S w w') : SLa S w' A n xs := by
  refine ⟨⟨h.1.1, fun hn => ?_⟩, h.2⟩
  obtain ⟨b, off, hA, hlt, hc⟩ := h.1.2 hn
  exact ⟨b, off, hA, Nat.lt_of_lt_of_le hlt hf.size, fun i hi => hf.cell' (hc i hi) (h.2 b off none hA)⟩
theorem SLa.below (h : SLa S w A n xs) (hb : Below w.heap.size w w') : SLa S w' A n xs := h.frm (Frm.of_below' S hb)
theorem SLa.alloc (h : SLa S w A n xs) (o : Obj) : SLa S (w.alloc o) A n xs := h.frm ((Frm.refl S w).alloc o)
theorem SLa.drew (h : SLa S w A n xs) : SLa S w.drew A n xs := h
theorem SLa.more (h : SLa S w A n xs) (t : World) : SLa S (more w t) A n xs := h.below (below_more w t)
theorem SLa.nil_ (S : Nat → Prop) (w : World) : SLa S w none 0 [] := ⟨SL.nil_ w, fun _ _ _ h => by cases h⟩
theorem SLZ.frm (h : SLZ z S w A n cs) (hf : Frm S w w') : SLZ z S w' A n cs := by
  refine ⟨h.1, fun hn => ?_⟩
  obtain ⟨b, off, hA, hlt, hs, hc⟩ := h.2 hn
  exact ⟨b, off, hA, Nat.lt_of_lt_of_le hlt hf.size, hs, fun i hi => hf.cell' (hc i hi) hs⟩
theorem SLZ.below (h : SLZ z S w A n cs) (hb : Below w.heap.size w w') : SLZ z S w' A n cs := h.frm (Frm.of_below' S hb)
theorem SLZ.alloc (h : SLZ z S w A n cs) (o : Obj) : SLZ z S (w.alloc o) A n cs := h.frm ((Frm.refl S w).alloc o)
theorem SLZ.drew (h : SLZ z S w A n cs) : SLZ z S w.drew A n cs := h
theorem SLZ.nil_ (z : Nat) (S : Nat → Prop) (w : World) : SLZ z S w none 0 [] := ⟨by simp, fun h => absurd h (by omega)⟩
end

/-! ### positions as elements -/
/-- The value u is a slice that reads as p, outside S. -/
def PosV (S : Nat → Prop) (w : World) (u : Value) (p : List Int) : Prop := ∃ A n c, u = .slice A n c ∧ SLa S w A n p ∧ n ≤ c
/-- The values cs read as the positions ps. -/
def AllP (S : Nat → Prop) (w : World) (cs : List Value) (ps : List (List Int)) : Prop := cs.length = ps.length ∧ ∀ i, i < cs.length → PosV S w (cs.getD i undef) (ps.getD i [])
/-- A slice of positions. -/
def LL (S : Nat → Prop) (w : World) (A : Option Addr) (n : Nat) (ps : List (List Int)) : Prop := ∃ cs, SLZ 1 S w A n cs ∧ AllP S w cs ps
/-- A slice of positions, of the call's own. -/
def OwnL (S : Nat → Prop) (w : World) (base : Nat) (e : TypeId) (v : Value) (ps : List (List Int)) : Prop := ∃ cs, w.ownsRow base e 1 v ps.length cs ∧ AllP S w cs ps ∧ ∀ k, v.ownBlock = some k → ¬ S k
section
variable {S : Nat → Prop} {w w' : World} {A : Option Addr} {n : Nat} {cs : List Value} {u : Value} {p : List Int} {ps : List (List Int)} {base : Nat} {e : TypeId} {v : Value}
theorem PosV.frm (h : PosV S w u p) (hf : Frm S w w') : PosV S w' u p := let ⟨A, n, c, hu, hs, hc⟩ := h; ⟨A, n, c, hu, hs.frm hf, hc⟩
theorem PosV.below (h : PosV S w u p) (hb : Below w.heap.size w w') : PosV S w' u p := h.frm (Frm.of_below' S hb)
theorem AllP.frm (h : AllP S w cs ps) (hf : Frm S w w') : AllP S w' cs ps := ⟨h.1, fun i hi => (h.2 i hi).frm hf⟩
theorem AllP.below (h : AllP S w cs ps) (hb : Below w.heap.size w w') : AllP S w' cs ps := h.frm (Frm.of_below' S hb)
theorem AllP.nil_ (S : Nat → Prop) (w : World) : AllP S w [] [] := ⟨rfl, fun i hi => absurd hi (by simp)⟩
theorem AllP.snoc (h : AllP S w cs ps) (hu : PosV S w u p) : AllP S w (cs ++ [u]) (ps ++ [p]) := by
  refine ⟨by simp [h.1], fun i hi => ?_⟩
  by_cases hlt : i < cs.length
  · have := h.2 i hlt
    rw [getD_app_lt _ _ _ hlt, getD_app_lt _ _ _ (by rw [← h.1]; exact hlt)]; exact this
  · have e : i = cs.length := by simp at hi; omega
    subst e
    rw [getD_app_ge _ _ _ (Nat.le_refl _), getD_app_ge _ _ _ (by rw [h.1]; exact Nat.le_refl _), h.1]
    simpa using hu
theorem AllP.append {ds : List Value} {qs : List (List Int)} (h : AllP S w cs ps) (k : AllP S w ds qs) : AllP S w (cs ++ ds) (ps ++ qs) := by
  refine ⟨by simp [h.1, k.1], fun i hi => ?_⟩
  by_cases hlt : i < cs.length
  · have := h.2 i hlt
    rw [getD_app_lt _ _ _ hlt, getD_app_lt _ _ _ (by rw [← h.1]; exact hlt)]; exact this
  · rw [getD_app_ge _ _ _ (by omega), getD_app_ge _ _ _ (by rw [← h.1]; omega), h.1]
    have := k.2 (i - cs.length) (by simp at hi; omega)
    rwa [h.1] at this
theorem LL.frm (h : LL S w A n ps) (hf : Frm S w w') : LL S w' A n ps := let ⟨cs, h1, h2⟩ := h; ⟨cs, h1.frm hf, h2.frm hf⟩
theorem LL.below (h : LL S w A n ps) (hb : Below w.heap.size w w') : LL S w' A n ps := h.frm (Frm.of_below' S hb)
theorem LL.alloc (h : LL S w A n ps) (o : Obj) : LL S (w.alloc o) A n ps := h.frm ((Frm.refl S w).alloc o)
theorem LL.drew (h : LL S w A n ps) : LL S w.drew A n ps := h
theorem LL.more (h : LL S w A n ps) (t : World) : LL S (more w t) A n ps := h.below (below_more w t)
theorem LL.len (h : LL S w A n ps) : ps.length = n := by obtain ⟨cs, h1, h2⟩ := h; rw [← h2.1, h1.1, Nat.mul_one]
/-- The element at k: its cell and what it reads as. -/
theorem LL.at (h : LL S w A n ps) {k : Nat} (hk : k < n) : ∃ b off B m c, A = some ⟨b, off, none⟩ ∧ b < w.heap.size ∧ ¬ S b ∧ w.cell? ⟨b, off + k, none⟩ = some (.slice B m c) ∧ SLa S w B m (ps.getD k []) ∧ m ≤ c := by
  obtain ⟨cs, ⟨hl, hc⟩, ha⟩ := h
  obtain ⟨b, off, hA, hlt, hs, hcell⟩ := hc (by omega)
  obtain ⟨B, m, c, hu, hp, hm⟩ := ha.2 k (by omega)
  exact ⟨b, off, B, m, c, hA, hlt, hs, by rw [hcell k (by omega), hu], hp, hm⟩
theorem LL.nil_ (S : Nat → Prop) (w : World) : LL S w none 0 [] := ⟨[], SLZ.nil_ _ _ _, AllP.nil_ _ _⟩
theorem OwnL.frm (h : OwnL S w base e v ps) (hf : Frm S w w') : OwnL S w' base e v ps := let ⟨cs, h1, h2, h3⟩ := h; ⟨cs, hf.row h1 h3, h2.frm hf, h3⟩
theorem OwnL.below (h : OwnL S w base e v ps) (hb : Below w.heap.size w w') : OwnL S w' base e v ps := h.frm (Frm.of_below' S hb)
theorem OwnL.alloc (h : OwnL S w base e v ps) (o : Obj) : OwnL S (w.alloc o) base e v ps := h.frm ((Frm.refl S w).alloc o)
theorem OwnL.mono (h : OwnL S w base e v ps) {base' : Nat} (hb : base' ≤ base) : OwnL S w base' e v ps := let ⟨cs, h1, h2, h3⟩ := h; ⟨cs, own_base h1 hb, h2, h3⟩
theorem row_read {z : Nat} (h : w.ownsRow base e z v n cs) (hS : ∀ k, v.ownBlock = some k → ¬ S k) (hz : 0 < z) : ∃ A c, v = .slice A n c ∧ SLZ z S w A n cs ∧ n ≤ c := by
  obtain ⟨h1, h2⟩ := h
  rcases h2 with ⟨rfl, h0⟩ | ⟨g, cap, cur, rfl, hb, hh, hnc, hcm, hcs, ht⟩
  · subst h0
    have : cs = [] := List.eq_nil_of_length_eq_zero (by rw [h1]; simp)
    subst this
    exact ⟨none, 0, rfl, SLZ.nil_ _ _ _, Nat.le_refl _⟩
  · refine ⟨_, _, rfl, ⟨h1, fun hn => ⟨g, 0, rfl, (Array.getElem?_eq_some_iff.1 hh).1, hS g rfl, fun i hi => ?_⟩⟩, hnc⟩
    have hown : w.ownsRow base e z (.slice (some ⟨g, 0, none⟩) n cap) n cs := ⟨h1, .inr ⟨g, cap, cur, rfl, hb, hh, hnc, hcm, hcs, ht⟩⟩
    rw [Nat.zero_add, hown.cellAt i (by omega)]
    simp [List.getD, show i < cs.length by omega]
theorem OwnL.read (h : OwnL S w base e v ps) : ∃ A c, v = .slice A ps.length c ∧ LL S w A ps.length ps ∧ ps.length ≤ c := by
  obtain ⟨cs, h1, h2, h3⟩ := h
  obtain ⟨A, c, hv, hs, hc⟩ := row_read h1 h3 (by omega)
  exact ⟨A, c, hv, ⟨cs, hs, h2⟩, hc⟩
theorem OwnL.ll (h : OwnL S w base e v ps) {A : Option Addr} {n c : Nat} (hv : v = .slice A n c) : LL S w A n ps ∧ n ≤ c ∧ n = ps.length := by
  obtain ⟨A', c', hv', hs, hc⟩ := h.read
  rw [hv'] at hv
  injection hv with h1 h2 h3
  subst h1 h2 h3
  exact ⟨hs, hc, rfl⟩
end
theorem OwnS.sla {S : Nat → Prop} {w : World} {base : Nat} {e : TypeId} {v : Value} {xs : List Int} (h : OwnS w base e v xs) {A : Option Addr} {n c : Nat} (hv : v = .slice A n c) (hS : ∀ k, base ≤ k → ¬ S k) : SLa S w A n xs ∧ n ≤ c := by
  obtain ⟨h1, h2⟩ := h.sl hv
  refine ⟨⟨h1, fun b off s hA => ?_⟩, h2⟩
  refine hS b (h.lt b ?_).1
  subst hv hA
  rfl
end Go.Proofs.Ytlbkfhdnhalpbaa

/- Slices of positions: their elements lie outside a set S of blocks and outside the slice's own block. No statement is proved here; there are no conditions. -/
namespace Go.Proofs.Ytlbkfhdnhalpbaa
set_option linter.unusedVariables false
set_option linter.unusedSimpArgs false
open Go.RowKit

/-- A slice of integers that reads as xs; its block, if it has an element, lies outside S. -/
def SQ (S : Nat → Prop) (w : World) (A : Option Addr) (n : Nat) (xs : List Int) : Prop := SL w A n xs ∧ (0 < n → ∀ b off s, A = some ⟨b, off, s⟩ → ¬ S b)
def PV (S : Nat → Prop) (w : World) (u : Value) (p : List Int) : Prop := ∃ A n c, u = .slice A n c ∧ SQ S w A n p ∧ n ≤ c
def PVs (S : Nat → Prop) (w : World) (cs : List Value) (ps : List (List Int)) : Prop := cs.length = ps.length ∧ ∀ i, i < cs.length → PV S w (cs.getD i undef) (ps.getD i [])
/-- A slice of positions. -/
def PL (S : Nat → Prop) (w : World) (A : Option Addr) (n : Nat) (ps : List (List Int)) : Prop := ∃ cs, SLZ 1 S w A n cs ∧ PVs S w cs ps
/-- S and the block of v. -/
def wth (S : Nat → Prop) (v : Value) : Nat → Prop := fun k => S k ∨ v.ownBlock = some k
/-- A slice of positions of the call's own. -/
def OP (S : Nat → Prop) (w : World) (base : Nat) (e : TypeId) (v : Value) (ps : List (List Int)) : Prop := ∃ cs, w.ownsRow base e 1 v ps.length cs ∧ PVs (wth S v) w cs ps ∧ ∀ k, v.ownBlock = some k → ¬ S k

section
variable {S S' : Nat → Prop} {w w' : World} {A : Option Addr} {n : Nat} {cs : List Value} {u v : Value} {p xs : List Int} {ps : List (List Int)} {base : Nat} {e : TypeId}
theorem SQ.frm (h : SQ S w A n xs) (hf : Frm S w w') : SQ S w' A n xs := by
  refine ⟨⟨h.1.1, fun hn => ?_⟩, h.2⟩
  obtain ⟨b, off, hA, hlt, hc⟩ := h.1.2 hn
  exact ⟨b, off, hA, Nat.lt_of_lt_of_le hlt hf.size, fun i hi => hf.cell' (hc i hi) (h.2 hn b off none hA)⟩
/-- Another set: what it has more lies at w's end or behind. -/
theorem SQ.set (h : SQ S w A n xs) (hS : ∀ k, S' k → S k ∨ w.heap.size ≤ k) : SQ S' w A n xs := by
  refine ⟨h.1, fun hn b off s hA hs => ?_⟩
  obtain ⟨b', off', hA', hlt, _⟩ := h.1.2 hn
  rw [hA] at hA'
  injection hA' with hA'
  injection hA' with h1 h2 h3
  subst h1
  rcases hS b hs with h4 | h4
  · exact h.2 hn b off s hA h4
  · omega
theorem PV.frm (h : PV S w u p) (hf : Frm S w w') : PV S w' u p := let ⟨A, n, c, hu, hs, hc⟩ := h; ⟨A, n, c, hu, hs.frm hf, hc⟩
theorem PV.set (h : PV S w u p) (hS : ∀ k, S' k → S k ∨ w.heap.size ≤ k) : PV S' w u p := let ⟨A, n, c, hu, hs, hc⟩ := h; ⟨A, n, c, hu, hs.set hS, hc⟩
theorem PVs.frm (h : PVs S w cs ps) (hf : Frm S w w') : PVs S w' cs ps := ⟨h.1, fun i hi => (h.2 i hi).frm hf⟩
theorem PVs.set (h : PVs S w cs ps) (hS : ∀ k, S' k → S k ∨ w.heap.size ≤ k) : PVs S' w cs ps := ⟨h.1, fun i hi => (h.2 i hi).set hS⟩
theorem PVs.nil_ (S : Nat → Prop) (w : World) : PVs S w [] [] := ⟨rfl, fun i hi => absurd hi (by simp)⟩
theorem PVs.append {ds : List Value} {qs : List (List Int)} (h : PVs S w cs ps) (k : PVs S w ds qs) : PVs S w (cs ++ ds) (ps ++ qs) := by
  refine ⟨by simp [h.1, k.1], fun i hi => ?_⟩
  by_cases hlt : i < cs.length
  · have := h.2 i hlt
    rw [getD_app_lt _ _ _ hlt, getD_app_lt _ _ _ (by rw [← h.1]; exact hlt)]; exact this
  · rw [getD_app_ge _ _ _ (by omega), getD_app_ge _ _ _ (by rw [← h.1]; omega), h.1]
    have := k.2 (i - cs.length) (by simp at hi; omega)
    rwa [h.1] at this
theorem PVs.one (h : PV S w u p) : PVs S w [u] [p] := ⟨rfl, fun i hi => by
  have : i = 0 := by simpa using hi
  subst this; exact h⟩
theorem PVs.snoc (h : PVs S w cs ps) (hu : PV S w u p) : PVs S w (cs ++ [u]) (ps ++ [p]) := h.append (PVs.one hu)
theorem PVs.take (h : PVs S w cs ps) (k : Nat) : PVs S w (cs.take k) (ps.take k) := by
  refine ⟨by simp [h.1], fun i hi => ?_⟩
  have hi' : i < k ∧ i < cs.length := by rw [List.length_take] at hi; omega
  have := h.2 i hi'.2
  simpa [List.getD, List.getElem?_take, hi'.1] using this
theorem PVs.drop (h : PVs S w cs ps) (k : Nat) : PVs S w (cs.drop k) (ps.drop k) := by
  refine ⟨by simp [h.1], fun i hi => ?_⟩
  have := h.2 (k + i) (by simp at hi; omega)
  simpa [List.getD, List.getElem?_drop] using this
theorem PL.frm (h : PL S w A n ps) (hf : Frm S w w') : PL S w' A n ps := let ⟨cs, h1, h2⟩ := h; ⟨cs, h1.frm hf, h2.frm hf⟩
theorem PL.below (h : PL S w A n ps) (hb : Below w.heap.size w w') : PL S w' A n ps := h.frm (Frm.of_below' S hb)
theorem PL.alloc (h : PL S w A n ps) (o : Obj) : PL S (w.alloc o) A n ps := h.frm ((Frm.refl S w).alloc o)
theorem PL.more (h : PL S w A n ps) (t : World) : PL S (more w t) A n ps := h.below (below_more w t)
theorem PL.set (h : PL S w A n ps) (hS : ∀ k, S' k → S k ∨ w.heap.size ≤ k) : PL S' w A n ps := by
  obtain ⟨cs, ⟨h1, h2⟩, h3⟩ := h
  refine ⟨cs, ⟨h1, fun hn => ?_⟩, h3.set hS⟩
  obtain ⟨b, off, hA, hlt, hs, hc⟩ := h2 hn
  exact ⟨b, off, hA, hlt, fun hb => by rcases hS b hb with h | h; exact hs h; omega, hc⟩
theorem PL.len (h : PL S w A n ps) : ps.length = n := by obtain ⟨cs, h1, h2⟩ := h; rw [← h2.1, h1.1, Nat.mul_one]
theorem PL.nil_ (S : Nat → Prop) (w : World) (A : Option Addr) : PL S w A 0 [] := ⟨[], ⟨rfl, fun h => absurd h (by omega)⟩, PVs.nil_ _ _⟩
/-- The element at k: its cell and what it reads as. -/
theorem PL.at (h : PL S w A n ps) {k : Nat} (hk : k < n) : ∃ b off B m c, A = some ⟨b, off, none⟩ ∧ b < w.heap.size ∧ w.cell? ⟨b, off + k, none⟩ = some (.slice B m c) ∧ SQ S w B m (ps.getD k []) ∧ m ≤ c := by
  obtain ⟨cs, ⟨hl, hc⟩, ha⟩ := h
  obtain ⟨b, off, hA, hlt, hs, hcell⟩ := hc (by omega)
  obtain ⟨B, m, c, hu, hp, hm⟩ := ha.2 k (by omega)
  exact ⟨b, off, B, m, c, hA, hlt, by rw [hcell k (by omega), hu], hp, hm⟩
theorem OP.frm (h : OP S w base e v ps) (hf : Frm S w w') : OP S w' base e v ps :=
  let ⟨cs, h1, h2, h3⟩ := h; ⟨cs, hf.row h1 h3, h2.frm (hf.mono fun k hk => .inl hk), h3⟩
theorem OP.below (h : OP S w base e v ps) (hb : Below w.heap.size w w') : OP S w' base e v ps := h.frm (Frm.of_below' S hb)
theorem OP.alloc (h : OP S w base e v ps) (o : Obj) : OP S (w.alloc o) base e v ps := h.frm ((Frm.refl S w).alloc o)
theorem OP.more (h : OP S w base e v ps) (t : World) : OP S (more w t) base e v ps := h.below (below_more w t)
theorem OP.mono (h : OP S w base e v ps) {base' : Nat} (hb : base' ≤ base) : OP S w base' e v ps := let ⟨cs, h1, h2, h3⟩ := h; ⟨cs, own_base h1 hb, h2, h3⟩
theorem OP.set (h : OP S w base e v ps) (hS : ∀ k, S' k → S k) : OP S' w base e v ps :=
  let ⟨cs, h1, h2, h3⟩ := h; ⟨cs, h1, h2.set fun k hk => .inl (hk.elim (fun h => .inl (hS k h)) .inr), fun k hk hs => h3 k hk (hS k hs)⟩
/-- A wider set: what it has more is neither an element's nor the slice's own block, for they lie between. -/
theorem OP.nil_ (S : Nat → Prop) (w : World) (base : Nat) (e : TypeId) : OP S w base e (.slice none 0 0) [] := ⟨[], World.ownsRow_nil _ _ _ _, PVs.nil_ _ _, fun k hk => by cases hk⟩
theorem OP.made (w : World) (hb : base ≤ w.heap.size) (hS : ∀ k, base ≤ k → ¬ S k) (h : PVs S w cs ps) (hm : ps.length ≤ maxLen) : OP S (w.alloc (.cells cs.toArray e)) base e (.slice (some ⟨w.heap.size, 0, none⟩) ps.length ps.length) ps := by
  refine ⟨cs, ⟨by rw [h.1, Nat.mul_one], .inr ⟨w.heap.size, ps.length, cs.toArray, rfl, hb, heap_alloc_new w _, Nat.le_refl _, hm, by simp [h.1], by rw [List.take_of_length_le (by simp [h.1])]⟩⟩, ?_, fun k hk => ?_⟩
  · refine (h.set fun k hk => ?_).frm ((Frm.refl _ w).alloc _)
    rcases hk with hk | hk
    · exact .inl hk
    · simp [Value.ownBlock] at hk; exact .inr (by omega)
  · simp [Value.ownBlock] at hk; subst hk; exact hS _ hb
theorem OP.read (h : OP S w base e v ps) : ∃ A c, v = .slice A ps.length c ∧ PL S w A ps.length ps ∧ ps.length ≤ c := by
  obtain ⟨cs, h1, h2, h3⟩ := h
  obtain ⟨A, c, hv, hs, hc⟩ := row_read h1 h3 (by omega)
  exact ⟨A, c, hv, ⟨cs, hs, h2.set fun k hk => .inl (.inl hk)⟩, hc⟩
/-- The frame of an append: elements outside S and the old block lie outside S and the new one. -/
theorem wth_new {v' : Value} (hat : v'.ownBlock = v.ownBlock ∨ v'.ownBlock = some w.heap.size) : ∀ k, wth S v' k → wth S v k ∨ w.heap.size ≤ k := by
  rintro k (hk | hk)
  · exact .inl (.inl hk)
  · rcases hat with h | h
    · exact .inl (.inr (by rw [← h]; exact hk))
    · rw [h] at hk; injection hk with hk; exact .inr (by omega)
theorem frm_own {w1 : World} (hg : w.grownBy w1 v.ownBlock) : Frm (wth S v) w w1 := (Frm.of_grown hg).mono fun k hk => .inr hk.symm
/-- Behind an append of elements that lie outside S and outside the old block. -/
theorem OP.grew {w1 : World} {v' : Value} {ds : List Value} {qs : List (List Int)} {m : Nat} (hp : PVs (wth S v) w cs ps) (hq : PVs (wth S v) w ds qs) (hown : w1.ownsRow base e 1 v' (ps.length + m) (cs ++ ds)) (hm : m = qs.length)
    (hg : w.grownBy w1 v.ownBlock) (hat : v'.ownBlock = v.ownBlock ∨ v'.ownBlock = some w.heap.size) (hS : ∀ k, base ≤ k → ¬ S k) : OP S w1 base e v' (ps ++ qs) := by
  subst hm
  refine ⟨cs ++ ds, by rw [List.length_append]; exact hown, ?_, fun k hk => hS k (World.ownsRow.lt hown k hk).1⟩
  have h1 := (hp.append hq).set (S' := fun k => wth S v k ∨ wth S v' k) fun k hk => hk.elim .inl (wth_new hat k)
  exact (h1.frm ((frm_own hg).mono fun k hk => .inl hk)).set fun k hk => .inl (.inr hk)
end
end Go.Proofs.Ytlbkfhdnhalpbaa

/- Plain facts on the numbering of positions: how many lists of e numbers have at most a sum, the number of a list, that no two lists have one number. No program is in sight; there are no conditions. -/
namespace Go.Proofs.Ytlbkfhdnhalpbaa.Ps
set_option linter.unusedVariables false
set_option linter.unusedSimpArgs false

/-- The sum of f 0 .. f m. -/
def upTo (f : Nat → Nat) : Nat → Nat
  | 0 => f 0
  | m + 1 => f (m + 1) + upTo f m
/-- How many lists of e numbers have a sum of at most m. -/
def wys : Nat → Nat → Nat
  | 0 => fun _ => 1
  | e + 1 => upTo (wys e)
theorem wys_zero (m : Nat) : wys 0 m = 1 := rfl
theorem wys_succ_zero (e : Nat) : wys (e + 1) 0 = wys e 0 := rfl
theorem wys_succ (e m : Nat) : wys (e + 1) (m + 1) = wys e (m + 1) + wys (e + 1) m := rfl
theorem wys_at_zero (e : Nat) : wys e 0 = 1 := by
  induction e with
  | zero => rfl
  | succ e ih => rw [wys_succ_zero, ih]

def fact : Nat → Nat
  | 0 => 1
  | n + 1 => (n + 1) * fact n
theorem fact_succ (n : Nat) : fact (n + 1) = (n + 1) * fact n := rfl
theorem fact_pos (n : Nat) : 0 < fact n := by
  induction n with
  | zero => exact Nat.one_pos
  | succ n ih => rw [fact_succ]; exact Nat.mul_pos (Nat.succ_pos n) ih

theorem wys_fact (e : Nat) : ∀ m, wys e m * (fact e * fact m) = fact (e + m) := by
  induction e with
  | zero => intro m; simp [wys_zero, fact]
  | succ e ih =>
    intro m
    induction m with
    | zero => simp [wys_at_zero, fact]
    | succ m ihm =>
      have h1 := ih (m + 1)
      have e1 : fact (e + 1) * fact (m + 1) = (e + 1) * (fact e * fact (m + 1)) := by rw [fact_succ e, Nat.mul_assoc]
      have e2 : fact (e + 1) * fact (m + 1) = (m + 1) * (fact (e + 1) * fact m) := by rw [fact_succ m, Nat.mul_left_comm]
      rw [wys_succ, Nat.add_mul, e1]
      rw [show wys (e + 1) m * ((e + 1) * (fact e * fact (m + 1))) = wys (e + 1) m * ((m + 1) * (fact (e + 1) * fact m)) by rw [← e1, e2]]
      rw [Nat.mul_left_comm, h1, Nat.mul_left_comm, ihm]
      have e3 : e + 1 + (m + 1) = (e + m + 1) + 1 := by omega
      have e4 : e + (m + 1) = e + m + 1 := by omega
      have e5 : e + 1 + m = e + m + 1 := by omega
      rw [e3, fact_succ (e + m + 1), e4, e5, ← Nat.add_mul]
      congr 1
      try omega

theorem wys_step (i m : Nat) : wys (i + 1) m * (i + 1) = wys i m * (m + i + 1) := by
  have h1 := wys_fact (i + 1) m
  have h2 := wys_fact i m
  have hp : 0 < fact i * fact m := Nat.mul_pos (fact_pos i) (fact_pos m)
  refine Nat.eq_of_mul_eq_mul_right hp ?_
  rw [fact_succ i, Nat.mul_assoc] at h1
  have e1 : wys (i + 1) m * (i + 1) * (fact i * fact m) = fact (i + 1 + m) := by rw [Nat.mul_assoc]; exact h1
  have e2 : wys i m * (m + i + 1) * (fact i * fact m) = (m + i + 1) * fact (i + m) := by rw [← h2, Nat.mul_right_comm, Nat.mul_comm]
  rw [e1, e2, show i + 1 + m = (i + m) + 1 by omega, fact_succ, show m + i + 1 = i + m + 1 by omega]

theorem wys_div (i m : Nat) : wys i m * (m + i + 1) / (i + 1) = wys (i + 1) m := by
  rw [← wys_step]; exact Nat.mul_div_cancel _ (Nat.succ_pos i)

theorem upTo_mono {f : Nat → Nat} {a b : Nat} (h : a ≤ b) : upTo f a ≤ upTo f b := by
  induction b with
  | zero => rw [Nat.le_zero.1 h]; exact Nat.le_refl _
  | succ b ih =>
    rcases Nat.lt_or_ge a (b + 1) with hl | hl
    · have := ih (by omega); show _ ≤ f (b + 1) + upTo f b; omega
    · rw [Nat.le_antisymm h hl]; exact Nat.le_refl _
theorem le_upTo (f : Nat → Nat) (m : Nat) : f m ≤ upTo f m := by
  cases m with
  | zero => exact Nat.le_refl _
  | succ m => show f (m + 1) ≤ f (m + 1) + upTo f m; omega
theorem wys_mono_right {e a b : Nat} (h : a ≤ b) : wys e a ≤ wys e b := by
  cases e with
  | zero => exact Nat.le_refl _
  | succ e => exact upTo_mono h
theorem wys_mono_succ (e m : Nat) : wys e m ≤ wys (e + 1) m := le_upTo (wys e) m
theorem wys_mono_left {d e : Nat} (h : d ≤ e) (m : Nat) : wys d m ≤ wys e m := by
  induction e with
  | zero => rw [Nat.le_zero.1 h]; exact Nat.le_refl _
  | succ e ih =>
    rcases Nat.lt_or_ge d (e + 1) with hl | hl
    · exact Nat.le_trans (ih (by omega)) (wys_mono_succ e m)
    · rw [Nat.le_antisymm h hl]; exact Nat.le_refl _
theorem wys_mono {d e a b : Nat} (h : d ≤ e) (k : a ≤ b) : wys d a ≤ wys e b := Nat.le_trans (wys_mono_left h a) (wys_mono_right k)
theorem wys_pos (e m : Nat) : 1 ≤ wys e m := by
  have := wys_mono (Nat.zero_le e) (Nat.zero_le m); rwa [wys_at_zero] at this

/-- The sum of wys i (left - d) for all d below x. -/
def sumW (i left : Nat) : Nat → Nat
  | 0 => 0
  | x + 1 => sumW i left x + wys i (left - x)
theorem sumW_succ (i left x : Nat) : sumW i left (x + 1) = sumW i left x + wys i (left - x) := rfl
theorem sumW_mono {i left x y : Nat} (h : x ≤ y) : sumW i left x ≤ sumW i left y := by
  induction y with
  | zero => rw [Nat.le_zero.1 h]; exact Nat.le_refl _
  | succ y ih =>
    rcases Nat.lt_or_ge x (y + 1) with hl | hl
    · have := ih (by omega); rw [sumW_succ]; omega
    · rw [Nat.le_antisymm h hl]; exact Nat.le_refl _
theorem sumW_upTo (i left : Nat) : ∀ x, x ≤ left → sumW i left x + upTo (wys i) (left - x) = upTo (wys i) left
  | 0, _ => by simp [sumW]
  | x + 1, h => by
    rw [sumW_succ, ← sumW_upTo i left x (by omega)]
    obtain ⟨k, hk⟩ : ∃ k, left - x = k + 1 := ⟨left - x - 1, by omega⟩
    rw [hk, show left - (x + 1) = k by omega]
    show _ + wys i (k + 1) + upTo (wys i) k = _ + (wys i (k + 1) + upTo (wys i) k)
    omega

/-- The number of a list whose last place comes first. -/
def numT : List Int → Nat → Nat
  | [], _ => 0
  | x :: r, left => sumW r.length left x.toNat + numT r (left - x.toNat)
theorem numT_cons (x : Int) (r : List Int) (left : Nat) : numT (x :: r) left = sumW r.length left x.toNat + numT r (left - x.toNat) := rfl

theorem numT_lt : ∀ (l : List Int) (left : Nat), (∀ x ∈ l, 0 ≤ x) → l.sum ≤ left → numT l left < wys l.length left
  | [], left, _, _ => by simp [numT, wys_zero]
  | x :: r, left, h0, hs => by
    have hx := h0 x (by simp)
    have hr : ∀ y ∈ r, 0 ≤ y := fun y hy => h0 y (by simp [hy])
    have hrs : 0 ≤ r.sum := by
      clear hs h0 hx
      induction r with
      | nil => simp
      | cons y r ih => have := hr y (by simp); have := ih fun z hz => hr z (by simp [hz]); simp only [List.sum_cons]; omega
    simp only [List.sum_cons] at hs
    have ih := numT_lt r (left - x.toNat) hr (by omega)
    have h1 := sumW_upTo r.length left x.toNat (by omega)
    have h2 := le_upTo (wys r.length) (left - x.toNat)
    rw [numT_cons]
    show _ < upTo (wys r.length) left
    omega

theorem numT_inj : ∀ (l k : List Int) (left : Nat), l.length = k.length → (∀ x ∈ l, 0 ≤ x) → (∀ x ∈ k, 0 ≤ x) → l.sum ≤ left → k.sum ≤ left → numT l left = numT k left → l = k
  | [], [], _, _, _, _, _, _, _ => rfl
  | [], _ :: _, _, h, _, _, _, _, _ => by simp at h
  | _ :: _, [], _, h, _, _, _, _, _ => by simp at h
  | x :: r, y :: q, left, hl, h0, k0, hs, ks, he => by
    have key : ∀ (x y : Int) (r q : List Int), r.length = q.length → (∀ z ∈ x :: r, 0 ≤ z) → (x :: r).sum ≤ left → 0 ≤ y → x < y → numT (x :: r) left < numT (y :: q) left := by
      intro x y r q hl h0 hs hy hxy
      have hx := h0 x (by simp)
      have hr : ∀ y ∈ r, 0 ≤ y := fun y hy => h0 y (by simp [hy])
      have hrs : 0 ≤ r.sum := by
        clear hs h0 hl
        induction r with
        | nil => simp
        | cons y r ih => have := hr y (by simp); have := ih fun z hz => hr z (by simp [hz]); simp only [List.sum_cons]; omega
      simp only [List.sum_cons] at hs
      have h1 := numT_lt r (left - x.toNat) hr (by omega)
      have h2 : sumW r.length left (x.toNat + 1) ≤ sumW r.length left y.toNat := sumW_mono (by omega)
      rw [sumW_succ] at h2
      rw [numT_cons, numT_cons, ← hl]
      omega
    have hl' : r.length = q.length := by simpa using hl
    have hx := h0 x (by simp)
    have hy := k0 y (by simp)
    rcases Int.lt_trichotomy x y with h | h | h
    · have := key x y r q hl' h0 hs hy h; omega
    · subst h
      rw [numT_cons, numT_cons, hl'] at he
      simp only [List.sum_cons] at hs ks
      have := numT_inj r q (left - x.toNat) hl' (fun z hz => h0 z (by simp [hz])) (fun z hz => k0 z (by simp [hz])) (by omega) (by omega) (by omega)
      rw [this]
    · have := key y x q r hl'.symm k0 ks hx h; omega

/-- A position: h numbers, none negative, of sum at most c. -/
def PosP (h c : Nat) (p : List Int) : Prop := p.length = h ∧ (∀ x ∈ p, 0 ≤ x) ∧ p.sum ≤ c
instance (h c : Nat) (p : List Int) : Decidable (PosP h c p) := by unfold PosP; infer_instance
def num (c : Nat) (p : List Int) : Nat := numT p.reverse c
theorem num_lt {h c : Nat} {p : List Int} (hp : PosP h c p) : num c p < wys h c := by
  have := numT_lt p.reverse c (fun x hx => hp.2.1 x (by simpa using hx)) (by rw [List.sum_reverse]; exact hp.2.2)
  rwa [List.length_reverse, hp.1] at this
theorem num_inj {h c : Nat} {p q : List Int} (hp : PosP h c p) (hq : PosP h c q) (he : num c p = num c q) : p = q := by
  have := numT_inj p.reverse q.reverse c (by rw [List.length_reverse, List.length_reverse, hp.1, hq.1]) (fun x hx => hp.2.1 x (by simpa using hx)) (fun x hx => hq.2.1 x (by simpa using hx))
    (by rw [List.sum_reverse]; exact hp.2.2) (by rw [List.sum_reverse]; exact hq.2.2) he
  simpa using congrArg List.reverse this
/-- One key for a pair of numbers below n. -/
theorem pair_inj {n a b c d : Nat} (hb : b < n) (hd : d < n) (h : a * n + b = c * n + d) : a = c ∧ b = d := by
  have h1 : (a * n + b) / n = a := by rw [Nat.add_comm, Nat.add_mul_div_right _ _ (by omega), Nat.div_eq_of_lt hb, Nat.zero_add]
  have h2 : (c * n + d) / n = c := by rw [Nat.add_comm, Nat.add_mul_div_right _ _ (by omega), Nat.div_eq_of_lt hd, Nat.zero_add]
  have : a = c := by rw [← h1, ← h2, h]
  subst this
  exact ⟨rfl, by omega⟩
theorem pair_lt {n a b : Nat} (ha : a < n) (hb : b < n) : a * n + b < n * n := by
  have : a * n + n ≤ n * n := by
    have := Nat.mul_le_mul_right n (show a + 1 ≤ n by omega)
    rw [Nat.add_mul] at this; omega
  omega
end Go.Proofs.Ytlbkfhdnhalpbaa.Ps

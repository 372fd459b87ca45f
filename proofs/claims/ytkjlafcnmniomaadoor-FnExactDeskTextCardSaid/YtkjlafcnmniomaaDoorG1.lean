/- Words for the laws' walks: blocks that the law itself has made, copies of arguments, what a drawn region's operations give. No statement is proved here; there are no conditions. -/
import Derived.Test.YtkjlafcnmniomaaDoorQX
import Derived.Test.YtkjlafcnmniomaaDoorBase2
import Derived.Test.YtkjlafcnmniomaaDoorFr2
namespace Go.Proofs.YtkjlafcnmniomaaDoor
set_option linter.unusedVariables false
set_option linter.unusedSimpArgs false
open Go.RowKit

def Bel (a b : World) : Prop := Below a.heap.size a b
theorem Bel.trans {a b c : World} (h : Bel a b) (k : Bel b c) : Bel a c := Below.trans h (Below.mono k (Below.size h))
theorem Bel.rfl' (a : World) : Bel a a := Below.refl _ _
theorem Bel.out {a b : World} (h : Bel a b) : Below a.heap.size a b := h
theorem Bel.drew (a : World) : Bel a { a with drawn := a.drawn + 1 } := ⟨rfl, rfl, rfl, Nat.le_refl _, fun _ _ => rfl⟩
theorem Bel.alloc (a : World) (o : Obj) : Bel a (a.alloc o) := (Below.refl _ _).alloc (Nat.le_refl _) o
/-- Block g of W holds cs and may be written. -/
structure Cel (W : World) (g : Nat) (cs : List Value) : Prop where
  lt : g < W.heap.size
  cell : ∀ i x, cs[i]? = some x → W.cell? ⟨g, i, none⟩ = some x
  froz : ∀ i x, cs[i]? = some x → W.frozen? ⟨g, i, none⟩ = false
theorem Cel.below {W W' : World} {g : Nat} {cs : List Value} (h : Cel W g cs) (hb : Below W.heap.size W W') : Cel W' g cs :=
  ⟨Nat.lt_of_lt_of_le h.lt hb.size, fun i x hx => keep_cell (h.cell i x hx) hb, fun i x hx => keep_froz (h.froz i x hx) (h.cell i x hx) hb⟩
theorem Cel.alloc {W : World} {g : Nat} {cs : List Value} (h : Cel W g cs) (o : Obj) : Cel (W.alloc o) g cs := h.below (Bel.alloc W o)
theorem Cel.drew {W : World} {g : Nat} {cs : List Value} (h : Cel W g cs) : Cel W.drew g cs := ⟨h.lt, h.cell, h.froz⟩
theorem Cel.new (W : World) (cs : Array Value) (T : TypeId) : Cel (W.alloc (.cells cs T)) W.heap.size cs.toList := by
  have h := (Fr.start W).allocT (by simp) cs T
  exact ⟨by simp, fun i x hx => h.cellA 0 i rfl (by simpa [frAt] using hx), fun i x hx => h.frozA 0 i rfl (by simpa [frAt] using hx)⟩
theorem Cel.new' (W : World) (cs : Array Value) (T : TypeId) {g : Nat} (hg : g = W.heap.size) : Cel (W.alloc (.cells cs T)) g cs.toList := by subst hg; exact Cel.new W cs T
theorem Cel.at {W : World} {g : Nat} {cs : List Value} (h : Cel W g cs) (i : Nat) {x : Value} (hx : cs[i]? = some x) : W.cell? ⟨g, i, none⟩ = some x := h.cell i x hx
/-- A store into a block. -/
theorem Cel.st {W : World} {g : Nat} {cs : List Value} (h : Cel W g cs) {i : Nat} {v : Value} (hi : i < cs.length) : Cel (W.setCell ⟨g, i, none⟩ v) g (cs.set i v) := by
  have hc : W.cell? ⟨g, i, none⟩ = some cs[i] := h.cell i _ (List.getElem?_eq_getElem hi)
  refine ⟨by simpa using h.lt, fun j x hx => ?_, fun j x hx => ?_⟩
  · by_cases e : j = i
    · subst e
      rw [List.getElem?_set_self hi] at hx
      injection hx with hx; subst hx
      simp [go_sem, hc]
    · rw [List.getElem?_set_ne (Ne.symm e)] at hx
      have := h.cell j x hx
      simp [go_sem, e, this]
  · by_cases e : j = i
    · subst e
      have := h.froz j _ (List.getElem?_eq_getElem hi)
      simpa [go_sem] using this
    · rw [List.getElem?_set_ne (Ne.symm e)] at hx
      have := h.froz j x hx
      simpa [go_sem] using this
/-- A store into another block. -/
theorem Cel.far {W : World} {g b i : Nat} {v : Value} {cs : List Value} (h : Cel W g cs) (hne : g ≠ b) : Cel (W.setCell ⟨b, i, none⟩ v) g cs := by
  refine ⟨by simpa using h.lt, fun j x hx => ?_, fun j x hx => ?_⟩
  · have := h.cell j x hx
    simp [go_sem, hne, this]
  · have := h.froz j x hx
    simpa [go_sem] using this

theorem more_bel {W w' : World} (h : ∃ t, w' = more W t) : Below W.heap.size W w' := by obtain ⟨t, rfl⟩ := h; exact below_more _ _
/-! ### what the operations of a drawn region give -/
abbrev RP : Type := Value → World → Prop
def Stb (P : RP) : Prop := ∀ v W W', P v W → Bel W W' → P v W'
def GL (l : List RP) (i : Nat) (v : Value) (W : World) : Prop := (l.getD i (fun _ _ => True)) v W
inductive AllStb : List RP → Prop
  | nil : AllStb []
  | cons {P : RP} {l : List RP} : Stb P → AllStb l → AllStb (P :: l)
theorem GL.stab : ∀ {l : List RP}, AllStb l → ∀ i v W W', GL l i v W → Bel W W' → GL l i v W'
  | _, .nil, _, _, _, _, _, _ => trivial
  | _, .cons h _, 0, v, W, W', hg, hb => h v W W' hg hb
  | _, .cons _ h, i + 1, v, W, W', hg, hb => GL.stab h i v W W' hg hb
def Eqv (x : Value) : RP := fun v _ => v = x
theorem stb_eq (x : Value) : Stb (Eqv x) := fun _ _ _ h _ => h
/-- A copy of a list. -/
def Cpy (xs : List Int) : RP := fun v W => ∃ X k, v = .slice X xs.length k ∧ SL W X xs.length xs ∧ xs.length ≤ k
theorem stb_cpy (xs : List Int) : Stb (Cpy xs) := fun _ _ _ ⟨X, k, h1, h2, h3⟩ hb => ⟨X, k, h1, h2.below hb, h3⟩
/-- A block of the region's own. -/
def Alc (lo : Nat) (cs : List Value) : RP := fun v W => ∃ g, v = .pointer (some ⟨g, 0, none⟩) ∧ lo ≤ g ∧ Cel W g cs
theorem stb_alc (lo : Nat) (cs : List Value) : Stb (Alc lo cs) := fun _ _ _ ⟨g, h1, h2, h3⟩ hb => ⟨g, h1, h2, h3.below hb⟩
theorem alc_new {lo : Nat} (W : World) (cs : Array Value) (T : TypeId) (h : lo ≤ W.heap.size) : Alc lo cs.toList (.pointer (some ⟨W.heap.size, 0, none⟩)) (W.alloc (.cells cs T)) := ⟨_, rfl, h, Cel.new W cs T⟩
/-- Anything. -/
def Any : RP := fun _ _ => True
theorem stb_any : Stb Any := fun _ _ _ _ _ => trivial
end Go.Proofs.YtkjlafcnmniomaaDoor

/- Contracts of the functions that make sides: empty and first sides, copies. There are no conditions. -/
import Derived.Test.YtkjlafcnmniomaaDoorA3
import Derived.Laws.AppendOwnNone
import Derived.Laws.StructEq
import Derived.Deep.RegionHeld3
import Derived.Deep.DrawnRows
import Derived.RegionTactic
namespace Go.Proofs.YtkjlafcnmniomaaDoor
set_option linter.unusedVariables false
set_option linter.unusedSimpArgs false
open Go.RowKit

theorem Tryd.infoI : (Tryd.prog.info? 2).map (fun i => (i.zero, i.size, i.bytes)) = some (some (.int .i64 0), 1, 8) := by kernel_rfl

section
variable {w w' : World} {base : Nat} {e : TypeId} {v : Value} {xs : List Int}
theorem own_below {size n : Nat} {cs : List Value} (h : w.ownsRow base e size v n cs) (hb : Below w.heap.size w w') : w'.ownsRow base e size v n cs :=
  h.kept (row := none) ⟨hb.os, hb.tape, hb.output, hb.size, fun k hk _ => hb.block k hk⟩ (by cases hv : v.ownBlock <;> simp)
theorem own_base {size n base' : Nat} {cs : List Value} (h : w.ownsRow base e size v n cs) (hb : base' ≤ base) : w.ownsRow base' e size v n cs := by
  obtain ⟨h1, h2⟩ := h
  refine ⟨h1, ?_⟩
  rcases h2 with h2 | ⟨g, cap, cur, hv, hg, r⟩
  · exact .inl h2
  · exact .inr ⟨g, cap, cur, hv, Nat.le_trans hb hg, r⟩
theorem OwnS.below (h : OwnS w base e v xs) (hb : Below w.heap.size w w') : OwnS w' base e v xs := own_below h hb
theorem OwnS.mono (h : OwnS w base e v xs) {base' : Nat} (hb : base' ≤ base) : OwnS w base' e v xs := own_base h hb
theorem OwnS.sl (h : OwnS w base e v xs) {A : Option Addr} {n c : Nat} (hv : v = .slice A n c) : SL w A n xs ∧ n ≤ c := by
  obtain ⟨A', c', hv', hs, hc⟩ := h.read
  rw [hv'] at hv
  injection hv with h1 h2 h3
  subst h1 h2 h3
  exact ⟨hs, hc⟩
theorem OwnS.lt (h : OwnS w base e v xs) : ∀ k, v.ownBlock = some k → base ≤ k ∧ k < w.heap.size := World.ownsRow.lt h
end

theorem own_form {w : World} {base : Nat} {e : TypeId} {A : Option Addr} {n c : Nat} {xs : List Int} (h : OwnS w base e (.slice A n c) xs) (hn : 0 < n) : ∃ g, A = some ⟨g, 0, none⟩ ∧ base ≤ g ∧ g < w.heap.size ∧
    (∀ j, j < n → w.cell? ⟨g, j, none⟩ = some (.int .i64 (xs.getD j 0))) ∧ (∀ j, w.frozen? ⟨g, j, none⟩ = false) := by
  have hs := (h.sl rfl).1
  obtain ⟨h1, h2⟩ := h
  rcases h2 with ⟨h2, h3⟩ | ⟨g, cap, cur, hv, hb, hh, r⟩
  · have := hs.1; omega
  · injection hv with hv1 hv2 hv3
    subst hv1
    refine ⟨g, rfl, hb, (Array.getElem?_eq_some_iff.1 hh).1, fun j hj => ?_, fun j => frozen_of_row w g j cur e hh⟩
    obtain ⟨b, off, hA, _, hc⟩ := hs.2 hn
    injection hA with hA
    injection hA with hA1 hA2
    subst hA1 hA2
    simpa using hc j hj
theorem OwnS.stored {w : World} {base : Nat} {e : TypeId} {g n c : Nat} {xs : List Int} (h : OwnS w base e (.slice (some ⟨g, 0, none⟩) n c) xs) (j : Nat) (x : Int) :
    OwnS (w.setCell ⟨g, j, none⟩ (.int .i64 x)) base e (.slice (some ⟨g, 0, none⟩) n c) (xs.set j x) := by
  have hn := (h.sl rfl).1.1
  unfold OwnS at h ⊢
  subst hn
  have h1 := (World.ownsRow.stored h j (.int .i64 x)).1
  rw [← List.map_set] at h1
  have e : (xs.set j x).length = xs.length := List.length_set
  rw [e]
  exact h1

theorem keep_cell {w w' : World} {a : Addr} {v : Value} (h : w.cell? a = some v) (hb : Below w.heap.size w w') : w'.cell? a = some v := (hb.cell (World.block_lt_of_cell? w _ h)).trans h
theorem keep_froz {w w' : World} {a : Addr} {v : Value} (hf : w.frozen? a = false) (h : w.cell? a = some v) (hb : Below w.heap.size w w') : w'.frozen? a = false := (hb.frozen (World.block_lt_of_cell? w _ h)).trans hf

/-- A call hands back a slice of the call's own that holds xs; what was there before is as it was. -/
def RetO (w : World) (e : TypeId) (xs : List Int) (en : Ending) (w' : World) : Prop := ∃ A c, en = .returned (.slice A xs.length c) ∧ OwnS w' w.heap.size e (.slice A xs.length c) xs ∧ Below w.heap.size w w'
theorem RetO.mk {w w' : World} {e : TypeId} {xs : List Int} {v : Value} (h : OwnS w' w.heap.size e v xs) (hb : Below w.heap.size w w') : RetO w e xs (.returned v) w' := by
  obtain ⟨A, c, rfl, _⟩ := h.read
  exact ⟨A, c, rfl, h, hb⟩
/-! ### structs held against each other -/
theorem eql_variant (p c h s p' c' h' s' : Int) (w : World) : (binOp .eql 34 (.agg #[.int .i64 p, .int .i64 c, .int .i64 h, .int .i64 s]) (.agg #[.int .i64 p', .int .i64 c', .int .i64 h', .int .i64 s'])).run Tryd.prog w =
    .ok (.bool (decide (p = p' ∧ c = c' ∧ h = h' ∧ s = s'))) w := by
  have u3 := Tryd.underlying2
  have hS : Tryd.prog.underlying 34 = some (.struct (Tryd.prog.fieldsOf 34)) := by kernel_rfl
  have hp : Tryd.prog.stoodInHeld 34 = false := by kernel_rfl
  rw [run_eql_struct, show (10000 : Nat) = 9999 + 1 from rfl, run_equalIn_agg w 9999 34 _ _ hS hp]
  simp only [Program.fieldsOf, Tryd.underlying34]
  go_simp
  by_cases h1 : p = p' <;> by_cases h2 : c = c' <;> by_cases h3 : h = h' <;> by_cases h4 : s = s' <;> simp [h1, h2, h3, h4]

/-! ### the first board -/
def startL (P : Nat) (ch h s : Int) : List Int :=
  if P = 24 ∧ ch = 15 ∧ h = 6 ∧ s = 6 then ((((List.replicate 25 (0 : Int)).set 5 5).set 7 3).set 12 5).set 23 2
  else ((List.replicate (P + 1) (0 : Int)).set (P - 1) (ch / 2)).set (P / 2 - 1) (ch - ch / 2)

theorem OwnS.setLow {w : World} {base : Nat} {e : TypeId} {v : Value} {xs : List Int} (h : OwnS w base e v xs) {a : Addr} (ha : a.block < base) (u : Value) : OwnS (w.setCell a u) base e v xs := ownsRow_setCell_below h ha u
theorem own_apart {w w' : World} {b1 b2 : Nat} {e1 e2 : TypeId} {v1 v2 : Value} {x1 x2 : List Int} (h1 : OwnS w b1 e1 v1 x1) (h2 : OwnS w' b2 e2 v2 x2) (hle : w.heap.size ≤ b2) : v1.ownBlock = none ∨ v1.ownBlock ≠ v2.ownBlock := by
  cases hv1 : v1.ownBlock with
  | none => exact .inl rfl
  | some k =>
    refine .inr ?_
    cases hv2 : v2.ownBlock with
    | none => intro h; cases h
    | some k2 =>
      intro h
      injection h with h
      have := (h1.lt k hv1).2
      have := (h2.lt k2 hv2).1
      omega

/-- A call hands back a board of the call's own, of two slices that share nothing, and a bool or a number behind it. -/
def RetB (w : World) (own other : List Int) (t : List Value) (en : Ending) (w' : World) : Prop := ∃ A1 c1 A2 c2, en = .returned (.tuple (#[.agg #[.slice A1 own.length c1, .slice A2 other.length c2]] ++ t.toArray)) ∧
  OwnS w' w.heap.size 2 (.slice A1 own.length c1) own ∧ OwnS w' w.heap.size 2 (.slice A2 other.length c2) other ∧
  ((Value.slice A1 own.length c1).ownBlock = none ∨ (Value.slice A1 own.length c1).ownBlock ≠ (Value.slice A2 other.length c2).ownBlock) ∧ Below w.heap.size w w'

def board0 : Value := .agg #[.slice none 0 0, .slice none 0 0]
theorem getD_rep (n i : Nat) : (List.replicate n (0 : Int)).getD i 0 = 0 := by
  by_cases h : i < n <;> simp [List.getD, h]
end Go.Proofs.YtkjlafcnmniomaaDoor

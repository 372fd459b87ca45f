/- Words for memory that all walks of this family use: a slice of integers that reads as a list, slices of boards, and what keeps them. No statement is proved here; there are no conditions. -/
import Derived.WalkKit
import Derived.WalkSpells
import Derived.WalkLawsBesides
import Derived.WalkSmall
import Derived.Lib.Hide
import Derived.Laws.OwnMore
import Derived.Deep.QuietTactic
import Derived.BigQuiet
import Derived.Deep.Draws
import Derived.Deep.RegionWith
namespace Go.Proofs.YtkjlafcnmniomaaDoor
set_option linter.unusedVariables false
set_option linter.unusedSimpArgs false
open Go.RowKit

/-- The slice value '.slice A n c' of 64-bit integers reads as xs in w. -/
def SL (w : World) (A : Option Addr) (n : Nat) (xs : List Int) : Prop :=
  xs.length = n ∧ (0 < n → ∃ b off, A = some ⟨b, off, none⟩ ∧ b < w.heap.size ∧ ∀ i, i < n → w.cell? ⟨b, off + i, none⟩ = some (.int .i64 (xs.getD i 0)))

/-- The slice value reads as xs, and its memory is a block of the call's own, from 'base' on. -/
def OwnS (w : World) (base : Nat) (e : TypeId) (v : Value) (xs : List Int) : Prop := w.ownsRow base e 1 v xs.length (xs.map (Value.int .i64))

section
variable {w w' : World} {A : Option Addr} {n : Nat} {xs : List Int}

theorem SL.len (h : SL w A n xs) : xs.length = n := h.1
theorem SL.nil_ (w : World) : SL w none 0 [] := ⟨rfl, fun h => absurd h (by omega)⟩
theorem SL.empty (w : World) (A : Option Addr) : SL w A 0 [] := ⟨rfl, fun h => absurd h (by omega)⟩

theorem SL.cells (h : SL w A n xs) (hn : 0 < n) : ∃ b off, A = some ⟨b, off, none⟩ ∧ b < w.heap.size ∧ ∀ i, i < n → w.cell? ⟨b, off + i, none⟩ = some (.int .i64 (xs.getD i 0)) := h.2 hn

theorem SL.keep {B : Nat} (h : SL w A n xs) (hw : w.heap.size ≤ B) (hb : Below B w w') : SL w' A n xs :=
  ⟨h.1, fun hn => by
    obtain ⟨b, off, hA, hlt, hc⟩ := h.2 hn
    exact ⟨b, off, hA, Nat.lt_of_lt_of_le hlt hb.size, fun i hi => (hb.cell (p := ⟨b, off + i, none⟩) (Nat.lt_of_lt_of_le hlt hw)).trans (hc i hi)⟩⟩

theorem SL.below (h : SL w A n xs) (hb : Below w.heap.size w w') : SL w' A n xs := h.keep (Nat.le_refl _) hb
theorem SL.drew (h : SL w A n xs) : SL w.drew A n xs := h
theorem SL.drewN (h : SL w A n xs) (k : Nat) : SL (w.drewN k) A n xs := h
theorem SL.alloc (h : SL w A n xs) (o : Obj) : SL (w.alloc o) A n xs := h.below ((Below.refl _ _).alloc (Nat.le_refl _) o)

theorem getD_map_int (xs : List Int) (i : Nat) (h : i < xs.length) : (xs.map (Value.int .i64))[i]? = some (.int .i64 (xs.getD i 0)) := by
  simp [List.getD, h]

theorem OwnS.read {base : Nat} {e : TypeId} {v : Value} (h : OwnS w base e v xs) : ∃ A c, v = .slice A xs.length c ∧ SL w A xs.length xs ∧ xs.length ≤ c := by
  obtain ⟨h1, h2⟩ := h
  rcases h2 with ⟨rfl, h0⟩ | ⟨g, cap, cur, rfl, hb, hh, hnc, hcm, hcs, ht⟩
  · exact ⟨none, 0, by rw [h0], by rw [List.eq_nil_of_length_eq_zero h0]; exact SL.nil_ _, by omega⟩
  · refine ⟨_, _, rfl, ⟨rfl, fun hn => ⟨g, 0, rfl, (Array.getElem?_eq_some_iff.1 hh).1, fun i hi => ?_⟩⟩, hnc⟩
    have hown : w.ownsRow base e 1 (.slice (some ⟨g, 0, none⟩) xs.length cap) xs.length (xs.map (Value.int .i64)) := ⟨h1, .inr ⟨g, cap, cur, rfl, hb, hh, hnc, hcm, hcs, ht⟩⟩
    rw [Nat.zero_add, hown.cellAt i (by omega), getD_map_int xs i hi]

theorem SL.cut (h : SL w A n xs) {k cap : Nat} (hk : k ≤ n) (hc : n ≤ cap) : SL w (if cap = k then A else A.map (·.add k)) (n - k) (xs.drop k) := by
  refine ⟨by rw [List.length_drop, h.1], fun hn => ?_⟩
  obtain ⟨b, off, rfl, hlt, hcell⟩ := h.2 (by omega)
  rw [if_neg (by omega)]
  refine ⟨b, off + k, by simp [Addr.add_lit], hlt, fun i hi => ?_⟩
  rw [Nat.add_assoc, hcell (k + i) (by omega)]
  simp [List.getD, List.getElem?_drop]
end

theorem bcell {W w1 : World} (hb : Below W.heap.size W w1) : (∀ b o, b < W.heap.size → w1.cell? ⟨b, o, none⟩ = W.cell? ⟨b, o, none⟩) ∧ (∀ b o, b < W.heap.size → w1.frozen? ⟨b, o, none⟩ = W.frozen? ⟨b, o, none⟩) :=
  ⟨fun b o h => hb.cell (p := ⟨b, o, none⟩) h, fun b o h => hb.frozen (p := ⟨b, o, none⟩) h⟩

theorem ret_int {k : IntKind} {a b : Int} (h : a = b) : Ending.returned (.int k a) = .returned (.int k b) := by rw [h]
theorem ret_bool {a b : Bool} (h : a = b) : Ending.returned (.bool a) = .returned (.bool b) := by rw [h]

theorem below_drewN' {B : Nat} {a w : World} (h : Below B a w) (n : Nat) : Below B a (w.drewN n) := ⟨h.os, h.tape, h.output, h.size, h.block⟩


/-! ### the worlds that have only more blocks than w: a class for regions that draw their order and hold calls that make memory -/
open Classical in
noncomputable def more (w t : World) : World := if Below w.heap.size w t then t else w

theorem below_more (w t : World) : Below w.heap.size w (more w t) := by
  unfold more
  split
  · assumption
  · exact Below.refl _ _
theorem more_of {w w' : World} (h : Below w.heap.size w w') : ∃ t, w' = more w t := ⟨w', by unfold more; rw [if_pos h]⟩
theorem cell_more (w t : World) (a : Addr) (h : a.block < w.heap.size) : (more w t).cell? a = w.cell? a := (below_more w t).cell h
theorem frozen_more (w t : World) (a : Addr) (h : a.block < w.heap.size) : (more w t).frozen? a = w.frozen? a := (below_more w t).frozen h
theorem size_more (w t : World) : w.heap.size ≤ (more w t).heap.size := (below_more w t).size

section
variable {P : Program}
theorem wp_region_more {id : Nat} {Q : Exit → Act → World → Prop} {a : Act} {w : World} {l : List Oper} (hm : P.follows .mixedOrders = true) (hB : Region.lexB .any l.toArray = true)
    (h : wpQuiet P l.toArray (fun w' => ∃ t, w' = more w t) (fun a' => ∀ w', (∃ t, w' = more w t) → Q .normal a' w') l a) : (Code.region id l.toArray true).wp P Q a w :=
  wp_region_quiet (C := fun w' => ∃ t, w' = more w t) hm hB (more_of ⟨rfl, rfl, rfl, Nat.le_refl _, fun _ _ => rfl⟩) (by simpa using h)

theorem more_call {f : FuncId} {args : Array Value} {w t : World} {v : Value}
    (h : Calls P f args (more w t) fun e w' => e = .returned v ∧ Below (more w t).heap.size (more w t) w') : Calls P f args (more w t) fun e w'' => e = .returned v ∧ ∃ m, w'' = more w m :=
  h.mono fun _ _ ⟨he, hm⟩ => ⟨he, more_of ((below_more w t).trans (hm.mono (size_more w t)))⟩
theorem more_first {f : FuncId} {args : Array Value} {w : World} {v : Value}
    (h : Calls P f args w fun e w' => e = .returned v ∧ Below w.heap.size w w') : Calls P f args w fun e w'' => e = .returned v ∧ ∃ m, w'' = more w m :=
  h.mono fun _ _ ⟨he, hm⟩ => ⟨he, more_of hm⟩
theorem more_same {f : FuncId} {args : Array Value} {w t : World} {v : Value}
    (h : Calls P f args (more w t) fun e w' => e = .returned v ∧ more w t = w') : Calls P f args (more w t) fun e w'' => e = .returned v ∧ ∃ m, w'' = more w m :=
  h.mono fun _ _ ⟨he, hm⟩ => ⟨he, t, hm.symm⟩
end
theorem lt_more {w t : World} {b : Nat} (h : b < w.heap.size) : (b < (more w t).heap.size) = True := eq_true (Nat.lt_of_lt_of_le h (size_more w t))
theorem more_step {w t w' : World} (h : Below (more w t).heap.size (more w t) w') : ∃ m, w' = more w m := more_of ((below_more w t).trans (h.mono (size_more w t)))
attribute [irreducible] more
attribute [go_sem] cell_more frozen_more lt_more
theorem SL.more {w : World} {A : Option Addr} {n : Nat} {xs : List Int} (h : SL w A n xs) (t : World) : SL (more w t) A n xs := h.below (below_more w t)
end Go.Proofs.YtkjlafcnmniomaaDoor

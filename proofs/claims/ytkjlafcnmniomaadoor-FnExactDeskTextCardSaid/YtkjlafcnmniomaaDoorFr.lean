/- The frame of a call: the blocks that the call itself has made so far, with what they hold. No statement is proved here; there are no conditions. -/
import Derived.Test.YtkjlafcnmniomaaDoorMem
import Derived.Test.YtkjlafcnmniomaaDoorQT
namespace Go.Proofs.YtkjlafcnmniomaaDoor
set_option linter.unusedVariables false
set_option linter.unusedSimpArgs false
open Go.RowKit

theorem blw {B : Nat} {a w t : World} (h : Below B a w) (hB : B ≤ a.heap.size) : Below B a (more w t) := h.trans ((below_more w t).mono (Nat.le_trans hB h.size))
theorem alw {B : Nat} {a w : World} {o : Obj} (h : Below B a w) (hB : B ≤ a.heap.size) : Below B a (w.alloc o) := h.alloc (Nat.le_trans hB h.size) o
theorem stw {B b i : Nat} {a w : World} {v : Value} (h : Below B a w) (hB : B ≤ b) : Below B a (w.setCell ⟨b, i, none⟩ v) := h.setCell (p := ⟨b, i, none⟩) hB v
theorem drw {B : Nat} {a w : World} (h : Below B a w) : Below B a w.drew := ⟨h.os, h.tape, h.output, h.size, h.block⟩
theorem wp_region_more2 {P : Program} {id : Nat} {Q : Exit → Act → World → Prop} {a : Act} {w t : World} {l : List Oper} (hm : P.follows .mixedOrders = true) (hB : Region.lexB .any l.toArray = true)
    (h : wpQuiet P l.toArray (fun w' => ∃ t, w' = more w t) (fun a' => ∀ w', (∃ t, w' = more w t) → Q .normal a' w') l a) : (Code.region id l.toArray true).wp P Q a (more w t) :=
  wp_region_quiet (C := fun w' => ∃ t, w' = more w t) hm hB (more_of ⟨(below_more w t).os, (below_more w t).tape, (below_more w t).output, (below_more w t).size, (below_more w t).block⟩) (by simpa using h)

/-- The j-th cell of the i-th block. -/
def frAt (L : List (List Value)) (i j : Nat) : Option Value := match L[i]? with | some l => l[j]? | none => none
/-- wr comes from w; the blocks from w's end on hold L. -/
structure Fr (w wr : World) (L : List (List Value)) : Prop where
  b : Below w.heap.size w wr
  z : w.heap.size + L.length ≤ wr.heap.size
  cell : ∀ i j v, frAt L i j = some v → wr.cell? ⟨w.heap.size + i, j, none⟩ = some v
  froz : ∀ i j v, frAt L i j = some v → wr.frozen? ⟨w.heap.size + i, j, none⟩ = false

section
variable {w wr w2 : World} {L : List (List Value)}
theorem Fr.cellA (h : Fr w wr L) {b : Nat} (i j : Nat) {v : Value} (hb : b = w.heap.size + i) (hv : frAt L i j = some v) : wr.cell? ⟨b, j, none⟩ = some v := by subst hb; exact h.cell i j v hv
theorem Fr.frozA (h : Fr w wr L) {b : Nat} (i j : Nat) {v : Value} (hb : b = w.heap.size + i) (hv : frAt L i j = some v) : wr.frozen? ⟨b, j, none⟩ = false := by subst hb; exact h.froz i j v hv
theorem Fr.ltA (h : Fr w wr L) {b : Nat} (i : Nat) (hb : b = w.heap.size + i) (hi : i < L.length) : b < wr.heap.size := by have := h.z; omega
theorem Fr.c0 (h : Fr w wr L) (j : Nat) {v : Value} (hv : frAt L 0 j = some v) : wr.cell? ⟨w.heap.size, j, none⟩ = some v := h.cellA 0 j rfl hv
theorem Fr.f0 (h : Fr w wr L) (j : Nat) {v : Value} (hv : frAt L 0 j = some v) : wr.frozen? ⟨w.heap.size, j, none⟩ = false := h.frozA 0 j rfl hv
theorem Fr.l0 (h : Fr w wr L) (hi : 0 < L.length) : w.heap.size < wr.heap.size := h.ltA 0 rfl hi
theorem Fr.c1 (h : Fr w wr L) (j : Nat) {v : Value} (hv : frAt L 1 j = some v) : wr.cell? ⟨w.heap.size + 1, j, none⟩ = some v := h.cellA 1 j rfl hv
theorem Fr.f1 (h : Fr w wr L) (j : Nat) {v : Value} (hv : frAt L 1 j = some v) : wr.frozen? ⟨w.heap.size + 1, j, none⟩ = false := h.frozA 1 j rfl hv
theorem Fr.l1 (h : Fr w wr L) (hi : 1 < L.length) : w.heap.size + 1 < wr.heap.size := h.ltA 1 rfl hi
theorem Fr.c2 (h : Fr w wr L) (j : Nat) {v : Value} (hv : frAt L 2 j = some v) : wr.cell? ⟨w.heap.size + 1 + 1, j, none⟩ = some v := h.cellA 2 j rfl hv
theorem Fr.f2 (h : Fr w wr L) (j : Nat) {v : Value} (hv : frAt L 2 j = some v) : wr.frozen? ⟨w.heap.size + 1 + 1, j, none⟩ = false := h.frozA 2 j rfl hv
theorem Fr.l2 (h : Fr w wr L) (hi : 2 < L.length) : w.heap.size + 1 + 1 < wr.heap.size := h.ltA 2 rfl hi
theorem Fr.c3 (h : Fr w wr L) (j : Nat) {v : Value} (hv : frAt L 3 j = some v) : wr.cell? ⟨w.heap.size + 1 + 1 + 1, j, none⟩ = some v := h.cellA 3 j rfl hv
theorem Fr.f3 (h : Fr w wr L) (j : Nat) {v : Value} (hv : frAt L 3 j = some v) : wr.frozen? ⟨w.heap.size + 1 + 1 + 1, j, none⟩ = false := h.frozA 3 j rfl hv
theorem Fr.l3 (h : Fr w wr L) (hi : 3 < L.length) : w.heap.size + 1 + 1 + 1 < wr.heap.size := h.ltA 3 rfl hi
theorem Fr.c4 (h : Fr w wr L) (j : Nat) {v : Value} (hv : frAt L 4 j = some v) : wr.cell? ⟨w.heap.size + 1 + 1 + 1 + 1, j, none⟩ = some v := h.cellA 4 j rfl hv
theorem Fr.f4 (h : Fr w wr L) (j : Nat) {v : Value} (hv : frAt L 4 j = some v) : wr.frozen? ⟨w.heap.size + 1 + 1 + 1 + 1, j, none⟩ = false := h.frozA 4 j rfl hv
theorem Fr.l4 (h : Fr w wr L) (hi : 4 < L.length) : w.heap.size + 1 + 1 + 1 + 1 < wr.heap.size := h.ltA 4 rfl hi
theorem Fr.c5 (h : Fr w wr L) (j : Nat) {v : Value} (hv : frAt L 5 j = some v) : wr.cell? ⟨w.heap.size + 1 + 1 + 1 + 1 + 1, j, none⟩ = some v := h.cellA 5 j rfl hv
theorem Fr.f5 (h : Fr w wr L) (j : Nat) {v : Value} (hv : frAt L 5 j = some v) : wr.frozen? ⟨w.heap.size + 1 + 1 + 1 + 1 + 1, j, none⟩ = false := h.frozA 5 j rfl hv
theorem Fr.l5 (h : Fr w wr L) (hi : 5 < L.length) : w.heap.size + 1 + 1 + 1 + 1 + 1 < wr.heap.size := h.ltA 5 rfl hi
theorem Fr.start (w : World) : Fr w w [] := ⟨Below.refl _ _, Nat.le_refl _, fun i j v h => by simp [frAt] at h, fun i j v h => by simp [frAt] at h⟩
theorem Fr.below (h : Fr w wr L) (hb : Below wr.heap.size wr w2) : Fr w w2 L :=
  ⟨h.b.trans (hb.mono h.b.size), Nat.le_trans h.z hb.size, fun i j v hv => keep_cell (h.cell i j v hv) hb, fun i j v hv => keep_froz (h.froz i j v hv) (h.cell i j v hv) hb⟩
theorem Fr.more (h : Fr w wr L) (t : World) : Fr w (more wr t) L := h.below (below_more wr t)
theorem Fr.drew (h : Fr w wr L) : Fr w wr.drew L := ⟨drw h.b, h.z, h.cell, h.froz⟩
theorem Fr.drewN (h : Fr w wr L) (n : Nat) : Fr w (wr.drewN n) L := ⟨below_drewN' h.b n, h.z, h.cell, h.froz⟩
theorem Fr.alloc (h : Fr w wr L) (o : Obj) : Fr w (wr.alloc o) L := h.below ((Below.refl _ _).alloc (Nat.le_refl _) o)
theorem Fr.frm (h : Fr w wr L) {S : Nat → Prop} (hf : Frm S wr w2) (hS : ∀ k, S k → w.heap.size ≤ k) (hn : ∀ k, S k → w.heap.size + L.length ≤ k) : Fr w w2 L := by
  have key : ∀ i j v, frAt L i j = some v → i < L.length := fun i j v hv => by
    unfold frAt at hv
    cases hL : L[i]? with
    | none => rw [hL] at hv; cases hv
    | some l => exact (List.getElem?_eq_some_iff.1 hL).1
  refine ⟨h.b.trans (hf.below h.b.size hS), Nat.le_trans h.z hf.size, fun i j v hv => hf.cell' (h.cell i j v hv) fun hs => ?_, fun i j v hv => ?_⟩
  · have := hn _ hs; have := key i j v hv; omega
  · have hk : w.heap.size + i < wr.heap.size := by have := h.z; have := key i j v hv; omega
    have e := hf.block _ hk fun hs => by have := hn _ hs; have := key i j v hv; omega
    have h2 := h.froz i j v hv
    simpa [World.frozen?, e] using h2
/-- For a call that leaves all blocks below alone but for those of S. -/
theorem Fr.frm2 (h : Fr w wr L) {S : Nat → Prop} (hf : Frm S wr w2) (hw : ∀ k, S k → w.heap.size ≤ k ∧ ∀ i, i < L.length → k ≠ w.heap.size + i) : Fr w w2 L := by
  have key : ∀ i j v, frAt L i j = some v → i < L.length := fun i j v hv => by
    unfold frAt at hv
    cases hL : L[i]? with
    | none => rw [hL] at hv; cases hv
    | some l => exact (List.getElem?_eq_some_iff.1 hL).1
  refine ⟨h.b.trans (hf.below h.b.size fun k hk => (hw k hk).1), Nat.le_trans h.z hf.size, fun i j v hv => hf.cell' (h.cell i j v hv) fun hs => ?_, fun i j v hv => ?_⟩
  · exact (hw _ hs).2 i (key i j v hv) rfl
  · have hk : w.heap.size + i < wr.heap.size := by have := h.z; have := key i j v hv; omega
    have e := hf.block _ hk fun hs => (hw _ hs).2 i (key i j v hv) rfl
    have h2 := h.froz i j v hv
    simpa [World.frozen?, e] using h2
theorem frAt_app_lt {L : List (List Value)} {x : List Value} {i j : Nat} {v : Value} (h : frAt (L ++ [x]) i j = some v) (hi : i < L.length) : frAt L i j = some v := by
  unfold frAt at h ⊢
  rw [List.getElem?_append_left hi] at h; exact h
/-- The next block. -/
theorem Fr.allocT (h : Fr w wr L) (hz : wr.heap.size = w.heap.size + L.length) (cs : Array Value) (T : TypeId) : Fr w (wr.alloc (.cells cs T)) (L ++ [cs.toList]) := by
  have ha := h.alloc (.cells cs T)
  have new : ∀ i j v, frAt (L ++ [cs.toList]) i j = some v → ¬ i < L.length → i = L.length ∧ cs[j]? = some v := fun i j v hv hi => by
    unfold frAt at hv
    rw [List.getElem?_append_right (by omega)] at hv
    have : i - L.length = 0 := by
      rcases Nat.eq_zero_or_pos (i - L.length) with h' | h'
      · exact h'
      · rw [List.getElem?_eq_none (by simp; omega)] at hv; cases hv
    rw [this] at hv
    simp at hv
    exact ⟨by omega, by simpa using hv⟩
  refine ⟨ha.b, by simp; omega, fun i j v hv => ?_, fun i j v hv => ?_⟩
  · by_cases hi : i < L.length
    · exact ha.cell i j v (frAt_app_lt hv hi)
    · obtain ⟨rfl, hc⟩ := new i j v hv hi
      rw [← hz]; simp [go_sem, hc]
  · by_cases hi : i < L.length
    · exact ha.froz i j v (frAt_app_lt hv hi)
    · obtain ⟨rfl, hc⟩ := new i j v hv hi
      rw [← hz]; simp [go_sem]
/-- A store into one of the blocks. -/
theorem Fr.set (h : Fr w wr L) {b : Nat} (i j : Nat) (hb : b = w.heap.size + i) {u : Value} (hu : frAt L i j = some u) (v : Value) : Fr w (wr.setCell ⟨b, j, none⟩ v) (L.modify i (·.set j v)) := by
  subst hb
  have hc := h.cell i j u hu
  refine ⟨stw h.b (by omega), by simp; exact h.z, fun i' j' v' hv => ?_, fun i' j' v' hv => ?_⟩
  · by_cases hi : i' = i
    · subst hi
      cases hL : L[i']? with
      | none => simp [frAt, hL] at hu
      | some l =>
        simp [frAt, hL] at hv hu
        by_cases hj : j' = j
        · subst hj
          rw [List.getElem?_set_self (List.getElem?_eq_some_iff.1 hu).1] at hv
          injection hv with hv
          subst hv
          simp [go_sem, hc]
        · rw [List.getElem?_set_ne (by omega)] at hv
          have := h.cell i' j' v' (by simp [frAt, hL, hv])
          have hne : ¬ j' = j := hj
          simp [go_sem, this, hne, Ne.symm hne]
    · have : frAt L i' j' = some v' := by
        unfold frAt at hv ⊢
        rw [List.getElem?_modify] at hv
        simp [Ne.symm hi] at hv
        exact hv
      have := h.cell i' j' v' this
      have hne : ¬ w.heap.size + i' = w.heap.size + i := by omega
      have hne2 : ¬ w.heap.size + i = w.heap.size + i' := by omega
      simp [go_sem, this, hne, hne2]
      try omega
  · have : ∃ u', frAt L i' j' = some u' := by
      unfold frAt at hv ⊢
      rw [List.getElem?_modify] at hv
      cases hL : L[i']? with
      | none => simp [hL] at hv
      | some l =>
        by_cases hi : i = i'
        · simp [hL, hi] at hv
          have : j' < l.length := by have := (List.getElem?_eq_some_iff.1 hv).1; simpa using this
          exact ⟨l[j'], by simp [this]⟩
        · simp [hL, hi] at hv
          exact ⟨v', by simpa using hv⟩
    obtain ⟨u', hu'⟩ := this
    have := h.froz i' j' u' hu'
    simp [go_sem, this]
end
end Go.Proofs.YtkjlafcnmniomaaDoor

/- The frame of a call beside slices of the call's own. No statement is proved here; there are no conditions. -/
import Derived.Test.YtkjlafcnmniomaaDoorFr
import Derived.Test.YtkjlafcnmniomaaDoorQA
namespace Go.Proofs.YtkjlafcnmniomaaDoor
set_option linter.unusedVariables false
set_option linter.unusedSimpArgs false
open Go.RowKit

theorem row_made (w : World) {base : Nat} (e : TypeId) {z n : Nat} (cs : Array Value) (hb : base ≤ w.heap.size) (hm : n ≤ maxLen) (hs : cs.size = n * z) :
    (w.alloc (.cells cs e)).ownsRow base e z (.slice (some ⟨w.heap.size, 0, none⟩) n n) n cs.toList :=
  ⟨by simp [hs], .inr ⟨w.heap.size, n, cs, rfl, hb, heap_alloc_new w _, Nat.le_refl _, hm, hs, by rw [List.take_of_length_le (by simp [hs])]⟩⟩
theorem OwnS.made (w : World) {base : Nat} (e : TypeId) (xs : List Int) {n : Nat} (cs : Array Value) (hn : xs.length = n) (hc : cs.toList = xs.map (Value.int .i64)) (hb : base ≤ w.heap.size) (hm : n ≤ maxLen) :
    OwnS (w.alloc (.cells cs e)) base e (.slice (some ⟨w.heap.size, 0, none⟩) n n) xs := by
  unfold OwnS
  rw [← hc, hn]
  exact row_made w e cs hb hm (by rw [Nat.mul_one, ← Array.length_toList, hc, List.length_map, hn])
theorem row_block {w : World} {base : Nat} {e : TypeId} {z n : Nat} {v : Value} {xs : List Value} (h : w.ownsRow base e z v n xs) : ∀ k, some k = v.ownBlock → base ≤ k := fun k hk => (World.ownsRow.lt h k hk.symm).1
theorem Fr.grow {w W w1 : World} {L : List (List Value)} (h : Fr w W L) {v : Value} (hg : W.grownBy w1 v.ownBlock) {base : Nat} {e : TypeId} {z n : Nat} {xs : List Value} (ho : W.ownsRow base e z v n xs) (hb : w.heap.size + L.length ≤ base) : Fr w w1 L :=
  h.frm (Frm.of_grown hg) (fun k hk => by have := row_block ho k hk; omega) (fun k hk => by have := row_block ho k hk; omega)
theorem grow_base {W w1 : World} {v : Value} (hg : W.grownBy w1 v.ownBlock) {base : Nat} {e : TypeId} {z n : Nat} {xs : List Value} (ho : W.ownsRow base e z v n xs) : Frm (fun k => base ≤ k) W w1 :=
  (Frm.of_grown hg).mono fun k hk => row_block ho k hk
theorem OwnS.alloc' {w : World} {base : Nat} {e : TypeId} {v : Value} {xs : List Int} (h : OwnS w base e v xs) (o : Obj) : OwnS (w.alloc o) base e v xs := h.below ((Below.refl _ _).alloc (Nat.le_refl _) o)
theorem OwnS.moreW {w : World} {base : Nat} {e : TypeId} {v : Value} {xs : List Int} (h : OwnS w base e v xs) (t : World) : OwnS (more w t) base e v xs := h.below (below_more w t)
theorem row_alloc {w : World} {base : Nat} {e : TypeId} {z n : Nat} {v : Value} {xs : List Value} (h : w.ownsRow base e z v n xs) (o : Obj) : (w.alloc o).ownsRow base e z v n xs := own_below h ((Below.refl _ _).alloc (Nat.le_refl _) o)
theorem row_more {w : World} {base : Nat} {e : TypeId} {z n : Nat} {v : Value} {xs : List Value} (h : w.ownsRow base e z v n xs) (t : World) : (more w t).ownsRow base e z v n xs := own_below h (below_more w t)
/-- One new cell behind w. -/
theorem one_new (w : World) (v : Value) (e : TypeId) : ∀ j u, [v][j]? = some u → (w.alloc (.cells #[v] e)).cell? ((⟨w.heap.size, 0, none⟩ : Addr).add j) = some u := by
  intro j u hu
  have hj : j = 0 := by
    have := (List.getElem?_eq_some_iff.1 hu).1
    simpa using this
  subst hj
  simp at hu
  subst hu
  rw [Addr.add_lit]
  simp [go_sem]
theorem int_cell (x : Int) : ∀ u ∈ [Value.int .i64 x], u.oneCell' = true := fun u hu => by simp at hu; subst hu; rfl
theorem Frm.set (w : World) (b i : Nat) (v : Value) : Frm (fun k => k = b) w (w.setCell ⟨b, i, none⟩ v) := by
  have h := (Below.refl 0 w).setCell (p := ⟨b, i, none⟩) (Nat.zero_le _) v
  exact ⟨h.os, h.tape, h.output, h.size, fun k _ hk => RowKit.Below.heap_setCell _ _ _ _ hk⟩
theorem Fr.setOut {w wr : World} {L : List (List Value)} (h : Fr w wr L) {b i : Nat} {v : Value} (hb : w.heap.size + L.length ≤ b) : Fr w (wr.setCell ⟨b, i, none⟩ v) L :=
  h.frm (Frm.set wr b i v) (fun k hk => by omega) (fun k hk => by omega)
theorem blk_below (W t1 t2 : World) (o : Obj) : Below W.heap.size W (more ((more W t1).alloc o) t2) := blw (alw (below_more W t1) (Nat.le_refl _)) (Nat.le_refl _)
end Go.Proofs.YtkjlafcnmniomaaDoor

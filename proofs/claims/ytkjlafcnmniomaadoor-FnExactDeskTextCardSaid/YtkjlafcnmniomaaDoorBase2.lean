/- More words for memory: blocks that a call makes behind other calls. There are no conditions. -/
import Derived.Test.YtkjlafcnmniomaaDoorA4
namespace Go.Proofs.YtkjlafcnmniomaaDoor
set_option linter.unusedVariables false
set_option linter.unusedSimpArgs false
open Go.RowKit

theorem cell_alloc_lt (w : World) (o : Obj) (a : Addr) (h : a.block < w.heap.size) : (w.alloc o).cell? a = w.cell? a := World.cell?_alloc_lt w o a h
theorem frozen_alloc_lt (w : World) (o : Obj) (a : Addr) (h : a.block < w.heap.size) : (w.alloc o).frozen? a = w.frozen? a := ((Below.refl _ _).alloc (Nat.le_refl _) o).frozen h
theorem lt_more_add {w t : World} {b k : Nat} (h : b < w.heap.size) : (b < (more w t).heap.size + k) = True := eq_true (Nat.lt_of_lt_of_le (Nat.lt_of_lt_of_le h (size_more w t)) (Nat.le_add_right _ _))
theorem ne_more {w t : World} {b : Nat} (h : b < w.heap.size) : (b = (more w t).heap.size) = False := eq_false (by have := size_more w t; omega)
theorem ne_more' {w t : World} {b : Nat} (h : b < w.heap.size) : ((more w t).heap.size = b) = False := eq_false (by have := size_more w t; omega)
theorem ne_more_add {w t : World} {b k : Nat} (h : b < w.heap.size) : (b = (more w t).heap.size + k) = False := eq_false (by have := size_more w t; omega)
theorem ne_more_add' {w t : World} {b k : Nat} (h : b < w.heap.size) : ((more w t).heap.size + k = b) = False := eq_false (by have := size_more w t; omega)
attribute [go_sem] lt_more_add ne_more ne_more' ne_more_add ne_more_add'
theorem cell_more_alloc (w t : World) (o : Obj) (a : Addr) (h : a.block < w.heap.size) : ((more w t).alloc o).cell? a = w.cell? a :=
  (cell_alloc_lt _ o a (Nat.lt_of_lt_of_le h (size_more w t))).trans (cell_more w t a h)
theorem frozen_more_alloc (w t : World) (o : Obj) (a : Addr) (h : a.block < w.heap.size) : ((more w t).alloc o).frozen? a = w.frozen? a :=
  (frozen_alloc_lt _ o a (Nat.lt_of_lt_of_le h (size_more w t))).trans (frozen_more w t a h)
theorem cell_more_alloc2 (w t : World) (o o' : Obj) (a : Addr) (h : a.block < w.heap.size) : (((more w t).alloc o).alloc o').cell? a = w.cell? a :=
  (cell_alloc_lt _ o' a (by have := size_more w t; simp; omega)).trans (cell_more_alloc w t o a h)
theorem frozen_more_alloc2 (w t : World) (o o' : Obj) (a : Addr) (h : a.block < w.heap.size) : (((more w t).alloc o).alloc o').frozen? a = w.frozen? a :=
  (frozen_alloc_lt _ o' a (by have := size_more w t; simp; omega)).trans (frozen_more_alloc w t o a h)
attribute [go_sem] cell_more_alloc frozen_more_alloc cell_more_alloc2 frozen_more_alloc2
theorem OwnS.alloc {w : World} {base : Nat} {e : TypeId} {v : Value} {xs : List Int} (h : OwnS w base e v xs) (o : Obj) : OwnS (w.alloc o) base e v xs := h.below ((Below.refl _ _).alloc (Nat.le_refl _) o)
end Go.Proofs.YtkjlafcnmniomaaDoor

/- Contracts of marking a desk without a past, and of looking at the marks. There are no conditions. -/
import Derived.Test.YtlbkfhdnhalpbaaL1
namespace Go.Proofs.Ytlbkfhdnhalpbaa
set_option linter.unusedVariables false
set_option linter.unusedSimpArgs false
open Go.RowKit

/-- What was there is as it was, but for the blocks of S. -/
structure Frm (S : Nat → Prop) (w w' : World) : Prop where
  os : w'.os = w.os
  tape : w'.tape = w.tape
  output : w'.output = w.output
  size : w.heap.size ≤ w'.heap.size
  block : ∀ k, k < w.heap.size → ¬ S k → w'.heap[k]? = w.heap[k]?

theorem Frm.of_grown {w w' : World} {r : Option Nat} (h : w.grownBy w' r) : Frm (fun k => some k = r) w w' := ⟨h.os, h.tape, h.output, h.size, fun k hk hn => h.block k hk hn⟩
theorem Frm.of_below {w w' : World} (h : Below w.heap.size w w') : Frm (fun _ => False) w w' := ⟨h.os, h.tape, h.output, h.size, fun k hk _ => h.block k hk⟩
theorem Frm.mono {S T : Nat → Prop} {w w' : World} (h : Frm S w w') (hst : ∀ k, S k → T k) : Frm T w w' := ⟨h.os, h.tape, h.output, h.size, fun k hk hn => h.block k hk fun hs => hn (hst k hs)⟩
theorem Frm.trans {S : Nat → Prop} {a b c : World} (h : Frm S a b) (k : Frm S b c) : Frm S a c :=
  ⟨k.os.trans h.os, k.tape.trans h.tape, k.output.trans h.output, Nat.le_trans h.size k.size, fun i hi hn => (k.block i (Nat.lt_of_lt_of_le hi h.size) hn).trans (h.block i hi hn)⟩
theorem Frm.below {S : Nat → Prop} {w w' : World} (h : Frm S w w') {B : Nat} (hB : B ≤ w.heap.size) (hS : ∀ k, S k → B ≤ k) : Below B w w' :=
  ⟨h.os, h.tape, h.output, h.size, fun k hk => h.block k (by omega) fun hs => by have := hS k hs; omega⟩
theorem Frm.cell {S : Nat → Prop} {w w' : World} (h : Frm S w w') {a : Addr} {v : Value} (hc : w.cell? a = some v) (hn : ¬ S a.block) : w'.cell? a = some v :=
  (World.cell?_of_block (h.block a.block (World.block_lt_of_cell? w a hc) hn)).trans hc
theorem Frm.cell' {S : Nat → Prop} {w w' : World} {b i : Nat} {v : Value} (h : Frm S w w') (hc : w.cell? ⟨b, i, none⟩ = some v) (hn : ¬ S b) : w'.cell? ⟨b, i, none⟩ = some v := h.cell hc hn
theorem Frm.own {S : Nat → Prop} {w w' : World} {base : Nat} {e : TypeId} {v : Value} {xs : List Int} (h : Frm S w w') (ho : OwnS w base e v xs) (hn : ∀ k, v.ownBlock = some k → ¬ S k) : OwnS w' base e v xs := by
  obtain ⟨h1, h2⟩ := ho
  refine ⟨h1, ?_⟩
  rcases h2 with h2 | ⟨g, cap, cur, hv, hb, hh, r⟩
  · exact .inl h2
  · refine .inr ⟨g, cap, cur, hv, hb, ?_, r⟩
    rw [h.block g (Array.getElem?_eq_some_iff.1 hh).1 (hn g (by rw [hv]; rfl))]
    exact hh

theorem markBoardS_zero (A : Option Addr) (c : Nat) (k : Int) (w : World) :
    Calls Try.prog 33 #[.slice A 0 c, .int .i64 k] w fun en w' => en = .returned (.int .i64 k) ∧ w = w' := by
  go_enter Try.func33, Try.ntmps33
  go_wp2_with (fail)
  refine wp_loop_rounds 1 ?_
  rw [rounds_succ]
  go_wp2
  go_ret
  exact ⟨rfl, rfl⟩
theorem heldBoardS_zero (A : Option Addr) (c : Nat) (k : Int) (w : World) :
    Calls Try.prog 35 #[.slice A 0 c, .int .i64 k] w fun en w' => en = .returned (.int .i64 k) ∧ w = w' := by
  go_enter Try.func35, Try.ntmps35
  go_wp2_with (fail)
  refine wp_loop_rounds 1 ?_
  rw [rounds_succ]
  go_wp2
  go_ret
  exact ⟨rfl, rfl⟩
theorem eqBoardS_zero (A B : Option Addr) (c d : Nat) (w : World) :
    Calls Try.prog 31 #[.slice A 0 c, .slice B 0 d] w fun en w' => en = .returned (.bool true) ∧ w = w' := by
  go_enter Try.func31, Try.ntmps31
  go_wp2_with (fail)
  refine wp_loop_rounds 1 ?_
  rw [rounds_succ]
  go_wp2
  go_ret
  exact ⟨rfl, rfl⟩

/-- The slices v1 and v2 lie apart. -/
def Apart (v1 v2 : Value) : Prop := v1.ownBlock = none ∨ v1.ownBlock ≠ v2.ownBlock

theorem markBoard_any (A1 A2 : Option Addr) (n1 c1 n2 c2 b : Nat) (e : TypeId) (xs ys : List Int) (k : Nat) (w : World) (h1 : OwnS w b e (.slice A1 n1 c1) xs) (h2 : OwnS w b e (.slice A2 n2 c2) ys)
    (ha : Apart (.slice A1 n1 c1) (.slice A2 n2 c2)) (hn1 : n1 ≤ 2000000) (hn2 : n2 ≤ 2000000) (hk : k ≤ 90000000) :
    Calls Try.prog 32 #[.agg #[.slice A1 n1 c1, .slice A2 n2 c2], .int .i64 k] w fun en w' => en = .returned (.int .i64 ((k + n1 + n2 : Nat) : Int)) ∧ OwnS w' b e (.slice A1 n1 c1) (seqL k n1) ∧ OwnS w' b e (.slice A2 n2 c2) (seqL (k + n1) n2) ∧
      Frm (fun j => some j = (Value.slice A1 n1 c1).ownBlock ∨ some j = (Value.slice A2 n2 c2).ownBlock) w w' := by
  have l1 := h1.lt
  have l2 := h2.lt
  have H1 := Lib.hid (h1.alloc (.cells #[.slice A1 n1 c1, .slice A2 n2 c2] 27))
  have H2 := Lib.hid (h2.alloc (.cells #[.slice A1 n1 c1, .slice A2 n2 c2] 27))
  have HA := Lib.hid ha
  have L1 := Lib.hid l1
  have L2 := Lib.hid l2
  clear h1 h2 ha l1 l2
  go_enter Try.func32, Try.ntmps32
  go_wp2_with (fail)
  refine (markInt64S_any A1 n1 c1 b e xs k _ H1.out hn1 (by omega)).mono ?_
  rintro en w1 ⟨rfl, ho1, hg1⟩
  have d1 : w1.cell? ⟨w.heap.size, 1, none⟩ = some (.slice A2 n2 c2) := hg1.cell (v := .slice A2 n2 c2) (by simp [go_sem]) (fun h => by have := (L1.out _ h.symm).2; simp at this)
  have O2 := Lib.hid ((Frm.of_grown hg1).own H2.out fun j hj hs => by
    rcases HA.out with h | h
    · rw [h] at hs; cases hs
    · exact h (hs.symm.trans hj.symm))
  have O1 := Lib.hid ho1
  have F1 := Lib.hid ((Frm.of_grown hg1).mono (T := fun j => some j = (Value.slice A1 n1 c1).ownBlock ∨ some j = (Value.slice A2 n2 c2).ownBlock) fun _ h => .inl h)
  clear ho1 hg1
  go_wp2_with (fail)
  refine (markInt64S_any A2 n2 c2 b e ys (k + n1) _ O2.out hn2 (by omega)).mono ?_
  rintro en w2 ⟨rfl, ho2, hg2⟩
  have P1 := Lib.hid ((Frm.of_grown hg2).own O1.out fun j hj hs => by
    rcases HA.out with h | h
    · rw [h] at hj; cases hj
    · exact h (hj.trans hs))
  have P2 := Lib.hid ho2
  have F2 := Lib.hid ((Frm.of_grown hg2).mono (T := fun j => some j = (Value.slice A1 n1 c1).ownBlock ∨ some j = (Value.slice A2 n2 c2).ownBlock) fun _ h => .inr h)
  clear ho2 hg2
  go_wp2_with (fail)
  go_ret
  refine ⟨ret_int (by simp), P1.out, P2.out, ?_⟩
  exact ((Frm.of_below ((Below.refl _ _).alloc (Nat.le_refl _) _)).mono (fun _ h => h.elim)).trans (F1.out.trans F2.out)

theorem heldBoard_yes (A1 A2 : Option Addr) (n1 c1 n2 c2 k : Nat) (w : World) (h1 : SL w A1 n1 (seqL k n1)) (h2 : SL w A2 n2 (seqL (k + n1) n2)) (hn1 : n1 ≤ 2000000) (hn2 : n2 ≤ 2000000) (hk : k ≤ 90000000) :
    Calls Try.prog 34 #[.agg #[.slice A1 n1 c1, .slice A2 n2 c2], .int .i64 k] w fun en w' => en = .returned (.int .i64 ((k + n1 + n2 : Nat) : Int)) ∧ Below w.heap.size w w' := by
  have H1 := Lib.hid (h1.alloc (.cells #[.slice A1 n1 c1, .slice A2 n2 c2] 27))
  have H2 := Lib.hid (h2.alloc (.cells #[.slice A1 n1 c1, .slice A2 n2 c2] 27))
  clear h1 h2
  go_enter Try.func34, Try.ntmps34
  go_wp2_with (fail)
  refine (heldInt64S_yes A1 n1 c1 k _ H1.out hn1 (by omega)).mono ?_
  rintro en w1 ⟨rfl, rfl⟩
  go_wp2_with (fail)
  refine (heldInt64S_yes A2 n2 c2 (k + n1) _ H2.out hn2 (by omega)).mono ?_
  rintro en w1 ⟨rfl, rfl⟩
  go_wp2_with (fail)
  go_ret
  exact ⟨ret_int (by simp), (Below.refl _ _).alloc (Nat.le_refl _) _⟩
end Go.Proofs.Ytlbkfhdnhalpbaa

/- Contracts of the functions that make sides: empty and first sides, copies. There are no conditions. -/
import Derived.Test.YtlbkfhdnhalpbaaGreatA3
import Derived.Laws.AppendOwnNone
import Derived.Laws.StructEq
import Derived.Deep.RegionHeld3
import Derived.Deep.DrawnRows
import Derived.RegionTactic
namespace Go.Proofs.YtlbkfhdnhalpbaaGreat
set_option linter.unusedVariables false
set_option linter.unusedSimpArgs false
open Go.RowKit

theorem Tryz.infoI : (Tryz.prog.info? 2).map (fun i => (i.zero, i.size, i.bytes)) = some (some (.int .i64 0), 1, 8) := by kernel_rfl

section
variable {w w' : World} {base : Nat} {e : TypeId} {v : Value} {xs : List Int}
theorem own_below {size n : Nat} {cs : List Value} (h : w.ownsRow base e size v n cs) (hb : Below w.heap.size w w') : w'.ownsRow base e size v n cs :=
  h.kept (row := none) ⟨hb.os, hb.tape, hb.output, hb.size, fun k hk _ => hb.block k hk⟩ (by cases hv : v.ownBlock <;> simp)
theorem own_base {size n base' : Nat} {cs : List Value} (h : w.ownsRow base e size v n cs) (hb : base' ≤ base) : w.ownsRow base' e size v n cs := by
  obtain ⟨h1, h2⟩ := h
  refine ⟨h1, ?_⟩
  rcases h2 with h2 | ⟨g, cap, cur, hv, hg, r⟩
  · exact .inl h2
  · exact .inr ⟨g, cap, cur, hv, Nat.le_trans hb hg, r⟩
theorem OwnS.below (h : OwnS w base e v xs) (hb : Below w.heap.size w w') : OwnS w' base e v xs := own_below h hb
theorem OwnS.mono (h : OwnS w base e v xs) {base' : Nat} (hb : base' ≤ base) : OwnS w base' e v xs := own_base h hb
theorem OwnS.sl (h : OwnS w base e v xs) {A : Option Addr} {n c : Nat} (hv : v = .slice A n c) : SL w A n xs ∧ n ≤ c := by
  obtain ⟨A', c', hv', hs, hc⟩ := h.read
  rw [hv'] at hv
  injection hv with h1 h2 h3
  subst h1 h2 h3
  exact ⟨hs, hc⟩
theorem OwnS.lt (h : OwnS w base e v xs) : ∀ k, v.ownBlock = some k → base ≤ k ∧ k < w.heap.size := World.ownsRow.lt h
end

theorem own_form {w : World} {base : Nat} {e : TypeId} {A : Option Addr} {n c : Nat} {xs : List Int} (h : OwnS w base e (.slice A n c) xs) (hn : 0 < n) : ∃ g, A = some ⟨g, 0, none⟩ ∧ base ≤ g ∧ g < w.heap.size ∧
    (∀ j, j < n → w.cell? ⟨g, j, none⟩ = some (.int .i64 (xs.getD j 0))) ∧ (∀ j, w.frozen? ⟨g, j, none⟩ = false) := by
  have hs := (h.sl rfl).1
  obtain ⟨h1, h2⟩ := h
  rcases h2 with ⟨h2, h3⟩ | ⟨g, cap, cur, hv, hb, hh, r⟩
  · have := hs.1; omega
  · injection hv with hv1 hv2 hv3
    subst hv1
    refine ⟨g, rfl, hb, (Array.getElem?_eq_some_iff.1 hh).1, fun j hj => ?_, fun j => frozen_of_row w g j cur e hh⟩
    obtain ⟨b, off, hA, _, hc⟩ := hs.2 hn
    injection hA with hA
    injection hA with hA1 hA2
    subst hA1 hA2
    simpa using hc j hj
theorem OwnS.stored {w : World} {base : Nat} {e : TypeId} {g n c : Nat} {xs : List Int} (h : OwnS w base e (.slice (some ⟨g, 0, none⟩) n c) xs) (j : Nat) (x : Int) :
    OwnS (w.setCell ⟨g, j, none⟩ (.int .i64 x)) base e (.slice (some ⟨g, 0, none⟩) n c) (xs.set j x) := by
  have hn := (h.sl rfl).1.1
  unfold OwnS at h ⊢
  subst hn
  have h1 := (World.ownsRow.stored h j (.int .i64 x)).1
  rw [← List.map_set] at h1
  have e : (xs.set j x).length = xs.length := List.length_set
  rw [e]
  exact h1

theorem keep_cell {w w' : World} {a : Addr} {v : Value} (h : w.cell? a = some v) (hb : Below w.heap.size w w') : w'.cell? a = some v := (hb.cell (World.block_lt_of_cell? w _ h)).trans h
theorem keep_froz {w w' : World} {a : Addr} {v : Value} (hf : w.frozen? a = false) (h : w.cell? a = some v) (hb : Below w.heap.size w w') : w'.frozen? a = false := (hb.frozen (World.block_lt_of_cell? w _ h)).trans hf

/-- A call hands back a slice of the call's own that holds xs; what was there before is as it was. -/
def RetO (w : World) (e : TypeId) (xs : List Int) (en : Ending) (w' : World) : Prop := ∃ A c, en = .returned (.slice A xs.length c) ∧ OwnS w' w.heap.size e (.slice A xs.length c) xs ∧ Below w.heap.size w w'
theorem RetO.mk {w w' : World} {e : TypeId} {xs : List Int} {v : Value} (h : OwnS w' w.heap.size e v xs) (hb : Below w.heap.size w w') : RetO w e xs (.returned v) w' := by
  obtain ⟨A, c, rfl, _⟩ := h.read
  exact ⟨A, c, rfl, h, hb⟩

theorem l02Empty_any (P : Nat) (ch h s : Int) (w : World) (hP : P ≤ 1000) :
    Calls Tryz.prog 74 #[.agg #[.int .i64 P, .int .i64 ch, .int .i64 h, .int .i64 s]] w (RetO w 2 (List.replicate (P + 1) 0)) := by
  obtain ⟨i0, hi, hz0, hz1, hz2⟩ := info_parts Tryz.infoI
  go_enter Tryz.func74, Tryz.ntmps74
  go_wp2_with (at_make; refine wpList_make_full _ rfl _ _ 24 rfl w.heap.size 2 i0 (.int .i64 0) 1 Tryz.underlying24 hi hz0 hz1 _ _ _ _ (P + 1) rfl rfl (by omega) (by omega) (by rw [hz2]; omega) (by unfold maxLen; omega) (by simp) ?_; intro w1 hown hgrow)
  have hb : Below w.heap.size w w1 := ((Below.refl _ _).alloc (Nat.le_refl _) _).grown hgrow (by simp) (by simp)
  have H : RetO w 2 (List.replicate (P + 1) 0) (.returned (.slice (some ⟨w.heap.size + 1, 0, none⟩) (P + 1) (P + 1))) w1 := by
    refine RetO.mk ?_ hb
    unfold OwnS
    simp only [List.length_replicate, List.map_replicate]
    have e : (madeCells (Value.int .i64 0).cells ((P + 1) * 1)).toList = List.replicate (P + 1) (Value.int .i64 0) := by rw [Nat.mul_one]; exact toList_madeCells_one _ _
    rw [e] at hown
    simpa using hown
  have H' := Lib.hid H
  clear H hown hgrow
  go_ret
  exact H'.out

set_option maxRecDepth 100000 in
theorem Clone_any (A : Option Addr) (n c : Nat) (xs : List Int) (w : World) (hx : SL w A n xs) (hn : n ≤ 2000000) :
    Calls Tryz.prog 69 #[.slice A n c] w (RetO w 2 xs) := by
  obtain ⟨i0, hi, hz0, hz1, hz2⟩ := info_parts Tryz.infoI
  have hq := fun (W : World) => Lib.run_eql_slice_nil (P := Tryz.prog) W 24 2 A n c 0 0 Tryz.underlying24
  have hl := hx.1
  cases A with
  | none =>
    have h0 : xs = [] := by
      rcases Nat.eq_zero_or_pos n with h | h
      · exact List.eq_nil_of_length_eq_zero (by omega)
      · obtain ⟨b, off, h, _⟩ := hx.2 h; cases h
    subst h0
    have H := Lib.hid (RetO.mk (w := w) (w' := w) (e := 2) (xs := []) (v := .slice none 0 0) (World.ownsRow_nil _ _ _ _) (Below.refl _ _))
    clear hx hl
    go_enter Tryz.func69, Tryz.ntmps69
    go_wp2
    go_ret
    exact H.out
  | some a =>
    have hnews : ∀ j u, (xs.map (Value.int .i64))[j]? = some u → w.cell? (a.add j) = some u := by
      intro j u hu
      have hj : j < xs.length := by have := (List.getElem?_eq_some_iff.1 hu).1; simpa using this
      obtain ⟨b, off, h, _, hc⟩ := hx.2 (by omega)
      injection h with h
      subst h
      rw [Addr.add_lit, hc j (by omega), ← getD_map_int xs j hj, hu]
    have HN : Hid (∀ j u, (xs.map (Value.int .i64))[j]? = some u → (w.alloc (.cells #[] 2)).cell? (a.add j) = some u) := by
      intro j u hu
      have h := hnews j u hu
      exact (World.cell?_alloc_lt w _ _ (World.block_lt_of_cell? w _ h)).trans h
    have HO : Hid ((w.alloc (.cells #[] 2)).ownsRow w.heap.size 2 1 (.slice (some ⟨w.heap.size, 0, none⟩) 0 0) 0 []) := World.ownsRow_made w #[] 0 (Nat.le_refl _) (by decide) rfl
    have HL := Lib.hid hl
    clear hx hl hnews
    go_enter Tryz.func69, Tryz.ntmps69
    go_wp2_with (at_builtin; refine wpList_append_own _ rfl _ _ 24 rfl w.heap.size 2 i0 (.int .i64 0) 1 8 Tryz.underlying24 hi hz0 hz1 hz2 rfl (by decide) _ 0 [] rfl HO.out a n c (xs.map (Value.int .i64)) rfl ?c1 HN.out ?c2 ?c3 ?c4 ?c5 ?_)
    case c1 => rw [List.length_map, HL.out, Nat.mul_one]
    case c2 => exact ints_oneCell _ _
    case c3 => unfold maxLen; omega
    case c4 => omega
    case c5 => simp
    · intro v' w1 hown hgrow _
      have hb : Below w.heap.size w w1 := ((Below.refl _ _).alloc (Nat.le_refl _) _).grown hgrow (by simp) (by simp [Value.ownBlock])
      have H : RetO w 2 xs (.returned v') w1 := by
        refine RetO.mk ?_ hb
        unfold OwnS
        rw [HL.out]
        simpa using hown
      have H' := Lib.hid H
      clear H hown hgrow
      go_wp2
      go_ret
      exact H'.out

/-! ### structs held against each other -/
theorem eql_variant (p c h s p' c' h' s' : Int) (w : World) : (binOp .eql 29 (.agg #[.int .i64 p, .int .i64 c, .int .i64 h, .int .i64 s]) (.agg #[.int .i64 p', .int .i64 c', .int .i64 h', .int .i64 s'])).run Tryz.prog w =
    .ok (.bool (decide (p = p' ∧ c = c' ∧ h = h' ∧ s = s'))) w := by
  have u3 := Tryz.underlying2
  have hS : Tryz.prog.underlying 29 = some (.struct (Tryz.prog.fieldsOf 29)) := by kernel_rfl
  have hp : Tryz.prog.stoodInHeld 29 = false := by kernel_rfl
  rw [run_eql_struct, show (10000 : Nat) = 9999 + 1 from rfl, run_equalIn_agg w 9999 29 _ _ hS hp]
  simp only [Program.fieldsOf, Tryz.underlying29]
  go_simp
  by_cases h1 : p = p' <;> by_cases h2 : c = c' <;> by_cases h3 : h = h' <;> by_cases h4 : s = s' <;> simp [h1, h2, h3, h4]

/-! ### the first board -/
def startL (P : Nat) (ch h s : Int) : List Int :=
  if P = 24 ∧ ch = 15 ∧ h = 6 ∧ s = 6 then ((((List.replicate 25 (0 : Int)).set 5 5).set 7 3).set 12 5).set 23 2
  else ((List.replicate (P + 1) (0 : Int)).set (P - 1) (ch / 2)).set (P / 2 - 1) (ch - ch / 2)

theorem OwnS.setLow {w : World} {base : Nat} {e : TypeId} {v : Value} {xs : List Int} (h : OwnS w base e v xs) {a : Addr} (ha : a.block < base) (u : Value) : OwnS (w.setCell a u) base e v xs := ownsRow_setCell_below h ha u
theorem own_apart {w w' : World} {b1 b2 : Nat} {e1 e2 : TypeId} {v1 v2 : Value} {x1 x2 : List Int} (h1 : OwnS w b1 e1 v1 x1) (h2 : OwnS w' b2 e2 v2 x2) (hle : w.heap.size ≤ b2) : v1.ownBlock = none ∨ v1.ownBlock ≠ v2.ownBlock := by
  cases hv1 : v1.ownBlock with
  | none => exact .inl rfl
  | some k =>
    refine .inr ?_
    cases hv2 : v2.ownBlock with
    | none => intro h; cases h
    | some k2 =>
      intro h
      injection h with h
      have := (h1.lt k hv1).2
      have := (h2.lt k2 hv2).1
      omega

/-- A call hands back a board of the call's own, of two slices that share nothing, and a bool or a number behind it. -/
def RetB (w : World) (own other : List Int) (t : List Value) (en : Ending) (w' : World) : Prop := ∃ A1 c1 A2 c2, en = .returned (.tuple (#[.agg #[.slice A1 own.length c1, .slice A2 other.length c2]] ++ t.toArray)) ∧
  OwnS w' w.heap.size 2 (.slice A1 own.length c1) own ∧ OwnS w' w.heap.size 2 (.slice A2 other.length c2) other ∧
  ((Value.slice A1 own.length c1).ownBlock = none ∨ (Value.slice A1 own.length c1).ownBlock ≠ (Value.slice A2 other.length c2).ownBlock) ∧ Below w.heap.size w w'

def board0 : Value := .agg #[.slice none 0 0, .slice none 0 0]
theorem getD_rep (n i : Nat) : (List.replicate n (0 : Int)).getD i 0 = 0 := by
  by_cases h : i < n <;> simp [List.getD, h]
end Go.Proofs.YtlbkfhdnhalpbaaGreat

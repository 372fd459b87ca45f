/- Joined texts of one proof: A4, Base2, Lists. Each part tells what it shows. There are no conditions. -/
import Derived.Test.YtlbkfhdnhalpbaaW1
import Derived.Laws.AppendOwnNone
import Derived.Laws.StructEq
import Derived.Deep.RegionHeld3
import Derived.Deep.DrawnRows
import Derived.RegionTactic

/- Contracts of the functions that make sides: empty and first sides, copies. There are no conditions. -/
namespace Go.Proofs.Ytlbkfhdnhalpbaa
set_option linter.unusedVariables false
set_option linter.unusedSimpArgs false
open Go.RowKit

theorem Try.infoI : (Try.prog.info? 2).map (fun i => (i.zero, i.size, i.bytes)) = some (some (.int .i64 0), 1, 8) := by kernel_rfl

section
variable {w w' : World} {base : Nat} {e : TypeId} {v : Value} {xs : List Int}
theorem own_below {size n : Nat} {cs : List Value} (h : w.ownsRow base e size v n cs) (hb : Below w.heap.size w w') : w'.ownsRow base e size v n cs :=
  h.kept (row := none) ⟨hb.os, hb.tape, hb.output, hb.size, fun k hk _ => hb.block k hk⟩ (by cases hv : v.ownBlock <;> simp)
theorem own_base {size n base' : Nat} {cs : List Value} (h : w.ownsRow base e size v n cs) (hb : base' ≤ base) : w.ownsRow base' e size v n cs := by
  obtain ⟨h1, h2⟩ := h
  refine ⟨h1, ?_⟩
  rcases h2 with h2 | ⟨g, cap, cur, hv, hg, r⟩
  · exact .inl h2
  · exact .inr ⟨g, cap, cur, hv, Nat.le_trans hb hg, r⟩
theorem OwnS.below (h : OwnS w base e v xs) (hb : Below w.heap.size w w') : OwnS w' base e v xs := own_below h hb
theorem OwnS.mono (h : OwnS w base e v xs) {base' : Nat} (hb : base' ≤ base) : OwnS w base' e v xs := own_base h hb
theorem OwnS.sl (h : OwnS w base e v xs) {A : Option Addr} {n c : Nat} (hv : v = .slice A n c) : SL w A n xs ∧ n ≤ c := by
  obtain ⟨A', c', hv', hs, hc⟩ := h.read
  rw [hv'] at hv
  injection hv with h1 h2 h3
  subst h1 h2 h3
  exact ⟨hs, hc⟩
theorem OwnS.lt (h : OwnS w base e v xs) : ∀ k, v.ownBlock = some k → base ≤ k ∧ k < w.heap.size := World.ownsRow.lt h
end

theorem own_form {w : World} {base : Nat} {e : TypeId} {A : Option Addr} {n c : Nat} {xs : List Int} (h : OwnS w base e (.slice A n c) xs) (hn : 0 < n) : ∃ g, A = some ⟨g, 0, none⟩ ∧ base ≤ g ∧ g < w.heap.size ∧
    (∀ j, j < n → w.cell? ⟨g, j, none⟩ = some (.int .i64 (xs.getD j 0))) ∧ (∀ j, w.frozen? ⟨g, j, none⟩ = false) := by
  have hs := (h.sl rfl).1
  obtain ⟨h1, h2⟩ := h
  rcases h2 with ⟨h2, h3⟩ | ⟨g, cap, cur, hv, hb, hh, r⟩
  · have := hs.1; omega
  · injection hv with hv1 hv2 hv3
    subst hv1
    refine ⟨g, rfl, hb, (Array.getElem?_eq_some_iff.1 hh).1, fun j hj => ?_, fun j => frozen_of_row w g j cur e hh⟩
    obtain ⟨b, off, hA, _, hc⟩ := hs.2 hn
    injection hA with hA
    injection hA with hA1 hA2
    subst hA1 hA2
    simpa using hc j hj
theorem OwnS.stored {w : World} {base : Nat} {e : TypeId} {g n c : Nat} {xs : List Int} (h : OwnS w base e (.slice (some ⟨g, 0, none⟩) n c) xs) (j : Nat) (x : Int) :
    OwnS (w.setCell ⟨g, j, none⟩ (.int .i64 x)) base e (.slice (some ⟨g, 0, none⟩) n c) (xs.set j x) := by
  have hn := (h.sl rfl).1.1
  unfold OwnS at h ⊢
  subst hn
  have h1 := (World.ownsRow.stored h j (.int .i64 x)).1
  rw [← List.map_set] at h1
  have e : (xs.set j x).length = xs.length := List.length_set
  rw [e]
  exact h1

theorem keep_cell {w w' : World} {a : Addr} {v : Value} (h : w.cell? a = some v) (hb : Below w.heap.size w w') : w'.cell? a = some v := (hb.cell (World.block_lt_of_cell? w _ h)).trans h
theorem keep_froz {w w' : World} {a : Addr} {v : Value} (hf : w.frozen? a = false) (h : w.cell? a = some v) (hb : Below w.heap.size w w') : w'.frozen? a = false := (hb.frozen (World.block_lt_of_cell? w _ h)).trans hf

/-- A call hands back a slice of the call's own that holds xs; what was there before is as it was. -/
def RetO (w : World) (e : TypeId) (xs : List Int) (en : Ending) (w' : World) : Prop := ∃ A c, en = .returned (.slice A xs.length c) ∧ OwnS w' w.heap.size e (.slice A xs.length c) xs ∧ Below w.heap.size w w'
theorem RetO.mk {w w' : World} {e : TypeId} {xs : List Int} {v : Value} (h : OwnS w' w.heap.size e v xs) (hb : Below w.heap.size w w') : RetO w e xs (.returned v) w' := by
  obtain ⟨A, c, rfl, _⟩ := h.read
  exact ⟨A, c, rfl, h, hb⟩

theorem l02Empty_any (P : Nat) (ch h s : Int) (w : World) (hP : P ≤ 1000) :
    Calls Try.prog 79 #[.agg #[.int .i64 P, .int .i64 ch, .int .i64 h, .int .i64 s]] w (RetO w 2 (List.replicate (P + 1) 0)) := by
  obtain ⟨i0, hi, hz0, hz1, hz2⟩ := info_parts Try.infoI
  go_enter Try.func79, Try.ntmps79
  go_wp2_with (at_make; refine wpList_make_full _ rfl _ _ 25 rfl w.heap.size 2 i0 (.int .i64 0) 1 Try.underlying25 hi hz0 hz1 _ _ _ _ (P + 1) rfl rfl (by omega) (by omega) (by rw [hz2]; omega) (by unfold maxLen; omega) (by simp) ?_; intro w1 hown hgrow)
  have hb : Below w.heap.size w w1 := ((Below.refl _ _).alloc (Nat.le_refl _) _).grown hgrow (by simp) (by simp)
  have H : RetO w 2 (List.replicate (P + 1) 0) (.returned (.slice (some ⟨w.heap.size + 1, 0, none⟩) (P + 1) (P + 1))) w1 := by
    refine RetO.mk ?_ hb
    unfold OwnS
    simp only [List.length_replicate, List.map_replicate]
    have e : (madeCells (Value.int .i64 0).cells ((P + 1) * 1)).toList = List.replicate (P + 1) (Value.int .i64 0) := by rw [Nat.mul_one]; exact toList_madeCells_one _ _
    rw [e] at hown
    simpa using hown
  have H' := Lib.hid H
  clear H hown hgrow
  go_ret
  exact H'.out

set_option maxRecDepth 100000 in
theorem Clone_any (A : Option Addr) (n c : Nat) (xs : List Int) (w : World) (hx : SL w A n xs) (hn : n ≤ 2000000) :
    Calls Try.prog 57 #[.slice A n c] w (RetO w 2 xs) := by
  obtain ⟨i0, hi, hz0, hz1, hz2⟩ := info_parts Try.infoI
  have hq := fun (W : World) => Lib.run_eql_slice_nil (P := Try.prog) W 25 2 A n c 0 0 Try.underlying25
  have hl := hx.1
  cases A with
  | none =>
    have h0 : xs = [] := by
      rcases Nat.eq_zero_or_pos n with h | h
      · exact List.eq_nil_of_length_eq_zero (by omega)
      · obtain ⟨b, off, h, _⟩ := hx.2 h; cases h
    subst h0
    have H := Lib.hid (RetO.mk (w := w) (w' := w) (e := 2) (xs := []) (v := .slice none 0 0) (World.ownsRow_nil _ _ _ _) (Below.refl _ _))
    clear hx hl
    go_enter Try.func57, Try.ntmps57
    go_wp2
    go_ret
    exact H.out
  | some a =>
    have hnews : ∀ j u, (xs.map (Value.int .i64))[j]? = some u → w.cell? (a.add j) = some u := by
      intro j u hu
      have hj : j < xs.length := by have := (List.getElem?_eq_some_iff.1 hu).1; simpa using this
      obtain ⟨b, off, h, _, hc⟩ := hx.2 (by omega)
      injection h with h
      subst h
      rw [Addr.add_lit, hc j (by omega), ← getD_map_int xs j hj, hu]
    have HN : Hid (∀ j u, (xs.map (Value.int .i64))[j]? = some u → (w.alloc (.cells #[] 2)).cell? (a.add j) = some u) := by
      intro j u hu
      have h := hnews j u hu
      exact (World.cell?_alloc_lt w _ _ (World.block_lt_of_cell? w _ h)).trans h
    have HO : Hid ((w.alloc (.cells #[] 2)).ownsRow w.heap.size 2 1 (.slice (some ⟨w.heap.size, 0, none⟩) 0 0) 0 []) := World.ownsRow_made w #[] 0 (Nat.le_refl _) (by decide) rfl
    have HL := Lib.hid hl
    clear hx hl hnews
    go_enter Try.func57, Try.ntmps57
    go_wp2_with (at_builtin; refine wpList_append_own _ rfl _ _ 25 rfl w.heap.size 2 i0 (.int .i64 0) 1 8 Try.underlying25 hi hz0 hz1 hz2 rfl (by decide) _ 0 [] rfl HO.out a n c (xs.map (Value.int .i64)) rfl ?c1 HN.out ?c2 ?c3 ?c4 ?c5 ?_)
    case c1 => rw [List.length_map, HL.out, Nat.mul_one]
    case c2 => exact ints_oneCell _ _
    case c3 => unfold maxLen; omega
    case c4 => omega
    case c5 => simp
    · intro v' w1 hown hgrow _
      have hb : Below w.heap.size w w1 := ((Below.refl _ _).alloc (Nat.le_refl _) _).grown hgrow (by simp) (by simp [Value.ownBlock])
      have H : RetO w 2 xs (.returned v') w1 := by
        refine RetO.mk ?_ hb
        unfold OwnS
        rw [HL.out]
        simpa using hown
      have H' := Lib.hid H
      clear H hown hgrow
      go_wp2
      go_ret
      exact H'.out

/-! ### structs held against each other -/
theorem eql_variant (p c h s p' c' h' s' : Int) (w : World) : (binOp .eql 24 (.agg #[.int .i64 p, .int .i64 c, .int .i64 h, .int .i64 s]) (.agg #[.int .i64 p', .int .i64 c', .int .i64 h', .int .i64 s'])).run Try.prog w =
    .ok (.bool (decide (p = p' ∧ c = c' ∧ h = h' ∧ s = s'))) w := by
  have u3 := Try.underlying2
  have hS : Try.prog.underlying 24 = some (.struct (Try.prog.fieldsOf 24)) := by kernel_rfl
  have hp : Try.prog.stoodInHeld 24 = false := by kernel_rfl
  rw [run_eql_struct, show (10000 : Nat) = 9999 + 1 from rfl, run_equalIn_agg w 9999 24 _ _ hS hp]
  simp only [Program.fieldsOf, Try.underlying24]
  go_simp
  by_cases h1 : p = p' <;> by_cases h2 : c = c' <;> by_cases h3 : h = h' <;> by_cases h4 : s = s' <;> simp [h1, h2, h3, h4]

/-! ### the first board -/
def startL (P : Nat) (ch h s : Int) : List Int :=
  if P = 24 ∧ ch = 15 ∧ h = 6 ∧ s = 6 then ((((List.replicate 25 (0 : Int)).set 5 5).set 7 3).set 12 5).set 23 2
  else ((List.replicate (P + 1) (0 : Int)).set (P - 1) (ch / 2)).set (P / 2 - 1) (ch - ch / 2)

theorem FullVariant_any (w : World) : Calls Try.prog 56 #[] w fun e w' => e = .returned (.agg #[.int .i64 24, .int .i64 15, .int .i64 6, .int .i64 6]) ∧ Below w.heap.size w w' := by
  go_enter Try.func56, Try.ntmps56
  go_wp2
  exact bodyPost_ret (v := .agg #[.int .i64 24, .int .i64 15, .int .i64 6, .int .i64 6]) (by simp [results, Try.results56, go_sem]) rfl ⟨rfl, (Below.refl _ _).alloc (Nat.le_refl _) _⟩
theorem sFullVariant_any (w : World) : Calls Try.prog 80 #[] w fun e w' => e = .returned (.agg #[.int .i64 24, .int .i64 15, .int .i64 6, .int .i64 6]) ∧ Below w.heap.size w w' := by
  go_enter Try.func80, Try.ntmps80
  go_wp2
  exact bodyPost_ret (v := .agg #[.int .i64 24, .int .i64 15, .int .i64 6, .int .i64 6]) (by simp [results, Try.results80, go_sem]) rfl ⟨rfl, (Below.refl _ _).alloc (Nat.le_refl _) _⟩


set_option maxRecDepth 100000 in
theorem l02Start_full (w : World) :
    Calls Try.prog 54 #[.agg #[.int .i64 24, .int .i64 15, .int .i64 6, .int .i64 6]] w (RetO w 2 (startL 24 15 6 6)) := by
  go_enter Try.func54, Try.ntmps54
  go_wp2_with (fail)
  refine (l02Empty_any 24 15 6 6 _ (by omega)).mono ?_
  rintro e w1 ⟨A, c, rfl, hown, hb1⟩
  obtain ⟨g, rfl, hg1, hg2, hcl, hfr⟩ := own_form hown (by simp)
  simp at hg1
  have hs0 : w.heap.size < w1.heap.size := by omega
  have hne : w.heap.size ≠ g := by omega
  have hne2 : g ≠ w.heap.size := by omega
  have cb := fun i (_ : i < 4) => hb1.cell (p := ⟨w.heap.size, i, none⟩) (by simp)
  have c0 := (cb 0 (by omega)).trans (by simp [go_sem]; rfl)
  have c1 := (cb 1 (by omega)).trans (by simp [go_sem]; rfl)
  have c2 := (cb 2 (by omega)).trans (by simp [go_sem]; rfl)
  have c3 := (cb 3 (by omega)).trans (by simp [go_sem]; rfl)
  have HO := Lib.hid hown
  have HB := Lib.hid (((Below.refl w.heap.size w).alloc (Nat.le_refl _) _).trans (hb1.mono (by simp)))
  clear hown cb hb1
  simp only [List.length_replicate] at hcl
  have d5 := hcl 5 (by omega)
  have d7 := hcl 7 (by omega)
  have d12 := hcl 12 (by omega)
  have d23 := hcl 23 (by omega)
  clear hcl
  go_wp2_with (fail)
  refine wp_region_more (by kernel_rfl) (by kernel_rfl) ?_
  repeat (first | go_big_quiet_step ((go_at_call 80; exact more_call (sFullVariant_any _))) | quiet_step ((go_at_call 80; exact more_call (sFullVariant_any _))))
  refine wpQuiet_nil ?_
  intro _ hw'
  obtain ⟨tq, hw''⟩ := hw'
  subst hw''
  have HM := Lib.hid (below_more w1 tq)
  have HO1 := Lib.hid (((((HO.out.mono (base' := w.heap.size) (by simp)).below HM.out).stored 5 5).stored 7 3).stored 12 5 |>.stored 23 2)
  have HB1 := Lib.hid ((((((HB.out.trans (HM.out.mono HB.out.size)).setCell (p := ⟨g, 5, none⟩) (by simp; omega) (.int .i64 5)).setCell (p := ⟨g, 7, none⟩) (by simp; omega) (.int .i64 3)).setCell (p := ⟨g, 12, none⟩) (by simp; omega) (.int .i64 5)).setCell (p := ⟨g, 23, none⟩) (by simp; omega) (.int .i64 2)))
  go_wp2
  go_ret
  exact RetO.mk (v := .slice (some ⟨g, 0, none⟩) 25 c) HO1.out HB1.out

set_option maxRecDepth 100000 in
theorem l02Start_part (P : Nat) (ch h s : Int) (w : World) (hP : P ≤ 24) (hP4 : 4 ≤ P) (hc : 0 ≤ ch) (hc2 : ch ≤ 15) (hn : ¬ (P = 24 ∧ ch = 15 ∧ h = 6 ∧ s = 6)) :
    Calls Try.prog 54 #[.agg #[.int .i64 P, .int .i64 ch, .int .i64 h, .int .i64 s]] w (RetO w 2 (startL P ch h s)) := by
  have HN := Lib.hid hn
  clear hn
  go_enter Try.func54, Try.ntmps54
  go_wp2_with (fail)
  refine (l02Empty_any P ch h s _ (by omega)).mono ?_
  rintro e w1 ⟨A, c, rfl, hown, hb1⟩
  obtain ⟨g, rfl, hg1, hg2, hcl, hfr⟩ := own_form hown (by simp)
  simp at hg1
  have hs0 : w.heap.size < w1.heap.size := by omega
  have hne : w.heap.size ≠ g := by omega
  have hne2 : g ≠ w.heap.size := by omega
  have cb := fun i (_ : i < 4) => hb1.cell (p := ⟨w.heap.size, i, none⟩) (by simp)
  have c0 := (cb 0 (by omega)).trans (by simp [go_sem]; rfl)
  have c1 := (cb 1 (by omega)).trans (by simp [go_sem]; rfl)
  have c2 := (cb 2 (by omega)).trans (by simp [go_sem]; rfl)
  have c3 := (cb 3 (by omega)).trans (by simp [go_sem]; rfl)
  have HO := Lib.hid hown
  have HB := Lib.hid (((Below.refl w.heap.size w).alloc (Nat.le_refl _) _).trans (hb1.mono (by simp)))
  clear hown cb hb1
  simp only [List.length_replicate] at hcl
  have hg : w.heap.size ≤ g := by omega
  have d1 := hcl (P - 1) (by omega)
  have d2 := hcl (P / 2 - 1) (by omega)
  have i1 : ((P : Int) - 1).toNat = P - 1 := by omega
  have i2 : ((P : Int) / 2 - 1).toNat = P / 2 - 1 := by omega
  have i3 : P / 2 - 1 ≠ P - 1 := by omega
  have i4 : P - 1 ≠ P / 2 - 1 := by omega
  have hq : ∀ W : World, (binOp .eql 24 (.agg #[.int .i64 (P : Int), .int .i64 ch, .int .i64 h, .int .i64 s]) (.agg #[.int .i64 24, .int .i64 15, .int .i64 6, .int .i64 6])).run Try.prog W = .ok (.bool false) W := fun W => by
    rw [eql_variant, decide_eq_false]; have := HN.out; omega
  clear hcl
  go_wp2_with (fail)
  refine wp_region_more (by kernel_rfl) (by kernel_rfl) ?_
  repeat (first | go_big_quiet_step ((go_at_call 80; exact more_call (sFullVariant_any _))) | quiet_step ((go_at_call 80; exact more_call (sFullVariant_any _))))
  refine wpQuiet_nil ?_
  intro _ hw'
  obtain ⟨tq, hw''⟩ := hw'
  subst hw''
  have HM := Lib.hid (below_more w1 tq)
  have HO1 := Lib.hid (((HO.out.mono (base' := w.heap.size) (by simp)).below HM.out).stored (P - 1) (ch / 2) |>.stored (P / 2 - 1) (ch - ch / 2))
  have HB1 := Lib.hid ((((HB.out.trans (HM.out.mono HB.out.size)).setCell (p := ⟨g, P - 1, none⟩) (by simp; omega) (.int .i64 (ch / 2))).setCell (p := ⟨g, P / 2 - 1, none⟩) (by simp; omega) (.int .i64 (ch - ch / 2))))
  have e : startL P ch h s = ((List.replicate (P + 1) (0 : Int)).set (P - 1) (ch / 2)).set (P / 2 - 1) (ch - ch / 2) := by unfold startL; rw [if_neg HN.out]
  have hl : (startL P ch h s).length = P + 1 := by rw [e]; simp
  have HF : Hid (RetO w 2 (startL P ch h s) (.returned (.slice (some ⟨g, 0, none⟩) (P + 1) c)) (((more w1 tq).setCell ⟨g, P - 1, none⟩ (.int .i64 (ch / 2))).setCell ⟨g, P / 2 - 1, none⟩ (.int .i64 (ch - ch / 2)))) := by
    refine RetO.mk ?_ HB1.out
    have := HO1.out
    rw [List.length_replicate] at this
    rw [e]
    exact this
  clear e hl
  go_wp2
  go_ret
  exact HF.out

theorem l02Start_any (P : Nat) (ch h s : Int) (w : World) (hP : P ≤ 24) (hP4 : 4 ≤ P) (hc : 0 ≤ ch) (hc2 : ch ≤ 15) :
    Calls Try.prog 54 #[.agg #[.int .i64 P, .int .i64 ch, .int .i64 h, .int .i64 s]] w (RetO w 2 (startL P ch h s)) := by
  by_cases hn : P = 24 ∧ ch = 15 ∧ h = 6 ∧ s = 6
  · obtain ⟨rfl, rfl, rfl, rfl⟩ := hn
    exact l02Start_full w
  · exact l02Start_part P ch h s w hP hP4 hc hc2 hn

theorem OwnS.setLow {w : World} {base : Nat} {e : TypeId} {v : Value} {xs : List Int} (h : OwnS w base e v xs) {a : Addr} (ha : a.block < base) (u : Value) : OwnS (w.setCell a u) base e v xs := ownsRow_setCell_below h ha u
theorem own_apart {w w' : World} {b1 b2 : Nat} {e1 e2 : TypeId} {v1 v2 : Value} {x1 x2 : List Int} (h1 : OwnS w b1 e1 v1 x1) (h2 : OwnS w' b2 e2 v2 x2) (hle : w.heap.size ≤ b2) : v1.ownBlock = none ∨ v1.ownBlock ≠ v2.ownBlock := by
  cases hv1 : v1.ownBlock with
  | none => exact .inl rfl
  | some k =>
    refine .inr ?_
    cases hv2 : v2.ownBlock with
    | none => intro h; cases h
    | some k2 =>
      intro h
      injection h with h
      have := (h1.lt k hv1).2
      have := (h2.lt k2 hv2).1
      omega

/-- A call hands back a board of the call's own, of two slices that share nothing, and a bool or a number behind it. -/
def RetB (w : World) (own other : List Int) (t : List Value) (en : Ending) (w' : World) : Prop := ∃ A1 c1 A2 c2, en = .returned (.tuple (#[.agg #[.slice A1 own.length c1, .slice A2 other.length c2]] ++ t.toArray)) ∧
  OwnS w' w.heap.size 2 (.slice A1 own.length c1) own ∧ OwnS w' w.heap.size 2 (.slice A2 other.length c2) other ∧
  ((Value.slice A1 own.length c1).ownBlock = none ∨ (Value.slice A1 own.length c1).ownBlock ≠ (Value.slice A2 other.length c2).ownBlock) ∧ Below w.heap.size w w'


set_option maxRecDepth 100000 in
theorem sStartBoard_yes (P : Nat) (ch h s : Int) (w : World) (hv : isVar P ch h s = true) (hP4 : 4 ≤ P) :
    Calls Try.prog 24 #[.agg #[.int .i64 P, .int .i64 ch, .int .i64 h, .int .i64 s]] w (RetB w (startL P ch h s) (startL P ch h s) [.bool true]) := by
  obtain ⟨_, hP, hc, hc2, _⟩ := isVar_yes hv
  go_enter Try.func24, Try.ntmps24
  go_wp2_with (go_at_call 21; refine (more_first (sIsVariant_any _ _ _ _ _)).mono ?_; rintro e w' ⟨rfl, t, rfl⟩)
  have HB := Lib.hid ((((Below.refl w.heap.size w).alloc (Nat.le_refl _) (.cells #[.int .i64 (P : Int), .int .i64 ch, .int .i64 h, .int .i64 s] 24)).alloc (by simp) (.cells #[.slice none 0 0, .slice none 0 0] 27)).trans ((below_more _ t).mono (by simp; omega)))
  have hz : w.heap.size + 1 < (more ((w.alloc (.cells #[.int .i64 (P : Int), .int .i64 ch, .int .i64 h, .int .i64 s] 24)).alloc (.cells #[.slice none 0 0, .slice none 0 0] 27)) t).heap.size := by
    have := size_more ((w.alloc (.cells #[.int .i64 (P : Int), .int .i64 ch, .int .i64 h, .int .i64 s] 24)).alloc (.cells #[.slice none 0 0, .slice none 0 0] 27)) t
    simp at this; omega
  have q := fun a ha => cell_more ((w.alloc (.cells #[.int .i64 (P : Int), .int .i64 ch, .int .i64 h, .int .i64 s] 24)).alloc (.cells #[.slice none 0 0, .slice none 0 0] 27)) t a ha
  have c0 := (q ⟨w.heap.size, 0, none⟩ (by simp; omega)).trans (by simp [go_sem]; rfl)
  have c1 := (q ⟨w.heap.size, 1, none⟩ (by simp; omega)).trans (by simp [go_sem]; rfl)
  have c2 := (q ⟨w.heap.size, 2, none⟩ (by simp; omega)).trans (by simp [go_sem]; rfl)
  have c3 := (q ⟨w.heap.size, 3, none⟩ (by simp; omega)).trans (by simp [go_sem]; rfl)
  have d0 := (q ⟨w.heap.size + 1, 0, none⟩ (by simp)).trans (by simp [go_sem]; rfl)
  have d1 := (q ⟨w.heap.size + 1, 1, none⟩ (by simp)).trans (by simp [go_sem]; rfl)
  have f0 : (more ((w.alloc (.cells #[.int .i64 (P : Int), .int .i64 ch, .int .i64 h, .int .i64 s] 24)).alloc (.cells #[.slice none 0 0, .slice none 0 0] 27)) t).frozen? ⟨w.heap.size + 1, 0, none⟩ = false := by rw [frozen_more _ _ _ (by simp)]; simp [go_sem]
  have f1 : (more ((w.alloc (.cells #[.int .i64 (P : Int), .int .i64 ch, .int .i64 h, .int .i64 s] 24)).alloc (.cells #[.slice none 0 0, .slice none 0 0] 27)) t).frozen? ⟨w.heap.size + 1, 1, none⟩ = false := by rw [frozen_more _ _ _ (by simp)]; simp [go_sem]
  clear q
  generalize more ((w.alloc (.cells #[.int .i64 (P : Int), .int .i64 ch, .int .i64 h, .int .i64 s] 24)).alloc (.cells #[.slice none 0 0, .slice none 0 0] 27)) t = W at *
  have tok1 : True := trivial
  go_region_held3 (fun w' => w'.cell? ⟨w.heap.size, 0, none⟩ = some (.int .i64 (P : Int)) ∧ w'.cell? ⟨w.heap.size, 1, none⟩ = some (.int .i64 ch) ∧ w'.cell? ⟨w.heap.size, 2, none⟩ = some (.int .i64 h) ∧ w'.cell? ⟨w.heap.size, 3, none⟩ = some (.int .i64 s))
    (first | (go_split_ands; exact ⟨keep_cell (by assumption) hb2, keep_cell (by assumption) hb2, keep_cell (by assumption) hb2, keep_cell (by assumption) hb2⟩) | (go_split_ands; exact ⟨keep_cell (by assumption) hb1, keep_cell (by assumption) hb1, keep_cell (by assumption) hb1, keep_cell (by assumption) hb1⟩) | go_keep)
    (first
      | (go_at_call 54; have _t := tok1; refine (l02Start_any P ch h s _ (by omega) hP4 (by omega) hc2).mono ?_; rintro e w1 ⟨A1, k1, rfl, hown1, hb1⟩; have d0' := d0; have d1' := d1; have d0 := keep_cell (by exact d0) hb1; have d1 := keep_cell (by exact d1) hb1; have f0 := keep_froz (by exact f0) (by exact d0') hb1; have f1 := keep_froz (by exact f1) (by exact d1') hb1; clear tok1)
      | (go_at_call 54; refine (l02Start_any P ch h s _ (by omega) hP4 (by omega) hc2).mono ?_; rintro e w2 ⟨A2, k2, rfl, hown2, hb2⟩; have d0'' := d0; have d1'' := d1; have d0 := keep_cell (by exact d0) hb2; have d1 := keep_cell (by exact d1) hb2; have f0 := keep_froz (by exact f0) (by exact d0'') hb2; have f1 := keep_froz (by exact f1) (by exact d1'') hb2))
  rename_i hHeld
  clear hHeld
  have HR : Hid (RetB w (startL P ch h s) (startL P ch h s) [.bool true] (.returned (.tuple #[.agg #[.slice A1 (startL P ch h s).length k1, .slice A2 (startL P ch h s).length k2], .bool true]))
      ((w2.setCell ⟨w.heap.size + 1, 0, none⟩ (.slice A1 (startL P ch h s).length k1)).setCell ⟨w.heap.size + 1, 1, none⟩ (.slice A2 (startL P ch h s).length k2))) := by
    have hsz1 : W.heap.size ≤ w1.heap.size := hb1.size
    refine ⟨A1, k1, A2, k2, rfl, ?_, ?_, ?_, ?_⟩
    · exact (((hown1.below hb2).setLow (a := ⟨w.heap.size + 1, 0, none⟩) (by exact hz) _).setLow (a := ⟨w.heap.size + 1, 1, none⟩) (by exact hz) _).mono (by show w.heap.size ≤ W.heap.size; omega)
    · exact ((hown2.setLow (a := ⟨w.heap.size + 1, 0, none⟩) (by show w.heap.size + 1 < w1.heap.size; omega) _).setLow (a := ⟨w.heap.size + 1, 1, none⟩) (by show w.heap.size + 1 < w1.heap.size; omega) _).mono (by omega)
    · exact own_apart hown1 hown2 (Nat.le_refl _)
    · have hbw : Below w.heap.size w w1 := HB.out.trans ((Below.refl _ _).drew.trans (hb1.mono (by show w.heap.size ≤ W.heap.size; omega)))
      exact ((hbw.trans (hb2.mono (by omega))).setCell (by simp) _).setCell (by simp) _
  clear hown1 hown2 hb1 hb2 d0' d1' d0'' d1''
  go_wp2
  exact bodyPost_ret (by simp [results, Try.results24, go_sem, d0, d1]) rfl HR.out

def board0 : Value := .agg #[.slice none 0 0, .slice none 0 0]
theorem sStartBoard_no (p ch h s : Int) (w : World) (hv : ¬ (isVar p ch h s = true ∧ 4 ≤ p)) :
    Calls Try.prog 24 #[.agg #[.int .i64 p, .int .i64 ch, .int .i64 h, .int .i64 s]] w fun e w' => e = .returned (.tuple #[.agg #[.slice none 0 0, .slice none 0 0], .bool false]) ∧ Below w.heap.size w w' := by
  have HB : Hid (Below w.heap.size w ((w.alloc (.cells #[.int .i64 p, .int .i64 ch, .int .i64 h, .int .i64 s] 24)).alloc (.cells #[.slice none 0 0, .slice none 0 0] 27))) := ((Below.refl _ _).alloc (Nat.le_refl _) _).alloc (by simp) _
  by_cases hv1 : isVar p ch h s = true
  · have hp : p < 4 := Int.not_le.1 fun h => hv ⟨hv1, h⟩
    have hd : decide (p < 4) = true := by simp; omega
    clear hv
    go_enter Try.func24, Try.ntmps24
    go_wp2_with (go_at_call 21; refine (more_first (sIsVariant_any _ _ _ _ _)).mono ?_; rintro e w' ⟨rfl, t, rfl⟩)
    exact bodyPost_ret (v := .tuple #[.agg #[.slice none 0 0, .slice none 0 0], .bool false]) (by simp [results, Try.results24, go_sem]) rfl ⟨rfl, ((HB.out.trans ((below_more _ t).mono HB.out.size)).setCell (by simp) _).setCell (by simp) _⟩
  · replace hv1 : isVar p ch h s = false := by simpa using hv1
    clear hv
    go_enter Try.func24, Try.ntmps24
    go_wp2_with (go_at_call 21; refine (more_first (sIsVariant_any _ _ _ _ _)).mono ?_; rintro e w' ⟨rfl, t, rfl⟩)
    exact bodyPost_ret (v := .tuple #[.agg #[.slice none 0 0, .slice none 0 0], .bool false]) (by simp [results, Try.results24, go_sem]) rfl ⟨rfl, ((HB.out.trans ((below_more _ t).mono HB.out.size)).setCell (by simp) _).setCell (by simp) _⟩
theorem StartBoard_no (p ch h s : Int) (w : World) (hv : ¬ (isVar p ch h s = true ∧ 4 ≤ p)) :
    Calls Try.prog 26 #[.agg #[.int .i64 p, .int .i64 ch, .int .i64 h, .int .i64 s]] w fun e w' => e = .returned (.tuple #[.agg #[.slice none 0 0, .slice none 0 0], .bool false]) ∧ Below w.heap.size w w' := by
  have HB : Hid (Below w.heap.size w ((w.alloc (.cells #[.int .i64 p, .int .i64 ch, .int .i64 h, .int .i64 s] 24)).alloc (.cells #[.slice none 0 0, .slice none 0 0] 27))) := ((Below.refl _ _).alloc (Nat.le_refl _) _).alloc (by simp) _
  by_cases hv1 : isVar p ch h s = true
  · have hp : p < 4 := Int.not_le.1 fun h => hv ⟨hv1, h⟩
    have hd : decide (p < 4) = true := by simp; omega
    clear hv
    go_enter Try.func26, Try.ntmps26
    go_wp2_with (go_at_call 25; refine (more_first (IsVariant_any _ _ _ _ _)).mono ?_; rintro e w' ⟨rfl, t, rfl⟩)
    exact bodyPost_ret (v := .tuple #[.agg #[.slice none 0 0, .slice none 0 0], .bool false]) (by simp [results, Try.results26, go_sem]) rfl ⟨rfl, ((HB.out.trans ((below_more _ t).mono HB.out.size)).setCell (by simp) _).setCell (by simp) _⟩
  · replace hv1 : isVar p ch h s = false := by simpa using hv1
    clear hv
    go_enter Try.func26, Try.ntmps26
    go_wp2_with (go_at_call 25; refine (more_first (IsVariant_any _ _ _ _ _)).mono ?_; rintro e w' ⟨rfl, t, rfl⟩)
    exact bodyPost_ret (v := .tuple #[.agg #[.slice none 0 0, .slice none 0 0], .bool false]) (by simp [results, Try.results26, go_sem]) rfl ⟨rfl, ((HB.out.trans ((below_more _ t).mono HB.out.size)).setCell (by simp) _).setCell (by simp) _⟩

theorem getD_rep (n i : Nat) : (List.replicate n (0 : Int)).getD i 0 = 0 := by
  by_cases h : i < n <;> simp [List.getD, h]


set_option maxRecDepth 100000 in
theorem StartBoard_part (P : Nat) (ch h s : Int) (w : World) (hv : isVar P ch h s = true) (hP4 : 4 ≤ P) (hn : ¬ (P = 24 ∧ ch = 15 ∧ h = 6 ∧ s = 6)) :
    Calls Try.prog 26 #[.agg #[.int .i64 P, .int .i64 ch, .int .i64 h, .int .i64 s]] w (RetB w (startL P ch h s) (startL P ch h s) [.bool true]) := by
  obtain ⟨_, hP, hc, hc2, _⟩ := isVar_yes hv
  obtain ⟨i0, hi, hi0, hi1, hi2⟩ := info_parts Try.infoI
  have HN := Lib.hid hn
  have hd : decide ((P : Int) < 4) = false := by simp; omega
  clear hn
  go_enter Try.func26, Try.ntmps26
  go_wp2_with (first | (go_at_call 25; refine (more_first (IsVariant_any _ _ _ _ _)).mono ?_; rintro e w' ⟨rfl, t, rfl⟩) | (at_make; refine wpList_make_full _ rfl _ _ 25 rfl _ 2 i0 (.int .i64 0) 1 Try.underlying25 hi hi0 hi1 _ _ _ _ (P + 1) rfl rfl (by omega) (by omega) (by rw [hi2]; omega) (by unfold maxLen; omega) (Nat.le_refl _) ?_))
  intro w1 hown hgrow
  have HB := Lib.hid ((((Below.refl w.heap.size w).alloc (Nat.le_refl _) (.cells #[.int .i64 (P : Int), .int .i64 ch, .int .i64 h, .int .i64 s] 24)).alloc (by simp) (.cells #[.slice none 0 0, .slice none 0 0] 27)).trans ((below_more _ t).mono (by simp; omega)))
  have hz : w.heap.size + 1 < (more ((w.alloc (.cells #[.int .i64 (P : Int), .int .i64 ch, .int .i64 h, .int .i64 s] 24)).alloc (.cells #[.slice none 0 0, .slice none 0 0] 27)) t).heap.size := by
    have := size_more ((w.alloc (.cells #[.int .i64 (P : Int), .int .i64 ch, .int .i64 h, .int .i64 s] 24)).alloc (.cells #[.slice none 0 0, .slice none 0 0] 27)) t
    simp at this; omega
  have q := fun a ha => cell_more ((w.alloc (.cells #[.int .i64 (P : Int), .int .i64 ch, .int .i64 h, .int .i64 s] 24)).alloc (.cells #[.slice none 0 0, .slice none 0 0] 27)) t a ha
  have c0 := (q ⟨w.heap.size, 0, none⟩ (by simp; omega)).trans (by simp [go_sem]; rfl)
  have c1 := (q ⟨w.heap.size, 1, none⟩ (by simp; omega)).trans (by simp [go_sem]; rfl)
  have c2 := (q ⟨w.heap.size, 2, none⟩ (by simp; omega)).trans (by simp [go_sem]; rfl)
  have c3 := (q ⟨w.heap.size, 3, none⟩ (by simp; omega)).trans (by simp [go_sem]; rfl)
  have d0 := (q ⟨w.heap.size + 1, 0, none⟩ (by simp)).trans (by simp [go_sem]; rfl)
  have d1 := (q ⟨w.heap.size + 1, 1, none⟩ (by simp)).trans (by simp [go_sem]; rfl)
  have f0 : (more ((w.alloc (.cells #[.int .i64 (P : Int), .int .i64 ch, .int .i64 h, .int .i64 s] 24)).alloc (.cells #[.slice none 0 0, .slice none 0 0] 27)) t).frozen? ⟨w.heap.size + 1, 0, none⟩ = false := by rw [frozen_more _ _ _ (by simp)]; simp [go_sem]
  have f1 : (more ((w.alloc (.cells #[.int .i64 (P : Int), .int .i64 ch, .int .i64 h, .int .i64 s] 24)).alloc (.cells #[.slice none 0 0, .slice none 0 0] 27)) t).frozen? ⟨w.heap.size + 1, 1, none⟩ = false := by rw [frozen_more _ _ _ (by simp)]; simp [go_sem]
  clear q
  generalize more ((w.alloc (.cells #[.int .i64 (P : Int), .int .i64 ch, .int .i64 h, .int .i64 s] 24)).alloc (.cells #[.slice none 0 0, .slice none 0 0] 27)) t = W at *
  have hO : OwnS w1 W.heap.size 2 (.slice (some ⟨W.heap.size, 0, none⟩) (P + 1) (P + 1)) (List.replicate (P + 1) 0) := by
    unfold OwnS
    simp only [List.length_replicate, List.map_replicate]
    have e : (madeCells #[Value.int .i64 0] (P + 1)).toList = List.replicate (P + 1) (Value.int .i64 0) := toList_madeCells_one _ _
    rw [e] at hown
    exact hown
  have hb1 : Below W.heap.size W w1 := (Below.refl _ _).grown hgrow (Nat.le_refl _) (by simp)
  obtain ⟨_, hg0, _, hg2, hcl, hfr⟩ := own_form hO (by omega)
  injection hg0 with hg0
  injection hg0 with hg0 _
  subst hg0
  have c0 := keep_cell c0 hb1
  have c1 := keep_cell c1 hb1
  have c2 := keep_cell c2 hb1
  have c3 := keep_cell c3 hb1
  have f0 := keep_froz f0 d0 hb1
  have f1 := keep_froz f1 d1 hb1
  have d0 := keep_cell d0 hb1
  have d1 := keep_cell d1 hb1
  have HO := Lib.hid hO
  have HB1 := Lib.hid (HB.out.trans (hb1.mono HB.out.size))
  have hs0 : w.heap.size < w1.heap.size := by omega
  have hs1 : w.heap.size + 1 < w1.heap.size := by omega
  clear hO hb1 hown hgrow HB
  generalize W.heap.size = g at *
  have hn1 : w.heap.size ≠ g := by omega
  have hn2 : g ≠ w.heap.size := by omega
  have hn3 : w.heap.size + 1 ≠ g := by omega
  have hn4 : g ≠ w.heap.size + 1 := by omega
  have e2 := hcl (P - 1) (by omega)
  have e3 := hcl (P / 2 - 1) (by omega)
  simp only [getD_rep] at e2 e3
  have i1 : ((P : Int) - 1).toNat = P - 1 := by omega
  have i2 : ((P : Int) / 2 - 1).toNat = P / 2 - 1 := by omega
  have i3 : P / 2 - 1 ≠ P - 1 := by omega
  have i4 : P - 1 ≠ P / 2 - 1 := by omega
  have j1 : (0 : Int) ≤ (P : Int) / 2 - 1 := by omega
  have j2 : (P : Int) / 2 - 1 < (P : Int) + 1 := by omega
  have hq : ∀ W : World, (binOp .eql 24 (.agg #[.int .i64 (P : Int), .int .i64 ch, .int .i64 h, .int .i64 s]) (.agg #[.int .i64 24, .int .i64 15, .int .i64 6, .int .i64 6])).run Try.prog W = .ok (.bool false) W := fun W => by
    rw [eql_variant, decide_eq_false]; have := HN.out; omega
  clear hcl
  go_wp2_with (fail)
  refine wp_region_more (by kernel_rfl) (by kernel_rfl) ?_
  repeat (first | go_big_quiet_step ((go_at_call 56; exact more_call (FullVariant_any _))) | quiet_step ((go_at_call 56; exact more_call (FullVariant_any _))))
  refine wpQuiet_nil ?_
  intro _ hw'
  obtain ⟨tq, hw''⟩ := hw'
  subst hw''
  go_wp2_with (fail)
  go_region
  go_wp2_with (fail)
  have HM := Lib.hid (below_more w1 tq)
  have HO1 := Lib.hid ((HO.out.below HM.out).stored (P - 1) (ch / 2) |>.stored (P / 2 - 1) (ch - ch / 2))
  have HE : Hid (startL P ch h s = ((List.replicate (P + 1) (0 : Int)).set (P - 1) (ch / 2)).set (P / 2 - 1) (ch - ch / 2)) := by unfold startL Hid; rw [if_neg HN.out]
  generalize hWc : ((more w1 tq).setCell ⟨g, P - 1, none⟩ (.int .i64 (ch / 2))).setCell ⟨g, P / 2 - 1, none⟩ (.int .i64 (ch - ch / 2)) = Wc at *
  have HBc : Hid (Below w.heap.size w Wc) := by
    rw [← hWc]
    exact (((HB1.out.trans (HM.out.mono HB1.out.size)).setCell (p := ⟨g, P - 1, none⟩) (by simp; omega) _).setCell (p := ⟨g, P / 2 - 1, none⟩) (by simp; omega) _)
  have d0c : Wc.cell? ⟨w.heap.size + 1, 0, none⟩ = some (.slice none 0 0) := by
    rw [← hWc, World.cell?_setCell_other _ _ _ _ (by first | (simp; done) | (simp; omega)), World.cell?_setCell_other _ _ _ _ (by first | (simp; done) | (simp; omega)), cell_more _ _ _ hs1]; exact d0
  have d1c : Wc.cell? ⟨w.heap.size + 1, 1, none⟩ = some (.slice none 0 0) := by
    rw [← hWc, World.cell?_setCell_other _ _ _ _ (by first | (simp; done) | (simp; omega)), World.cell?_setCell_other _ _ _ _ (by first | (simp; done) | (simp; omega)), cell_more _ _ _ hs1]; exact d1
  have f0c : Wc.frozen? ⟨w.heap.size + 1, 0, none⟩ = false := by
    rw [← hWc]; simp only [World.frozen?_setCell]; rw [frozen_more _ _ _ hs1]; exact f0
  have f1c : Wc.frozen? ⟨w.heap.size + 1, 1, none⟩ = false := by
    rw [← hWc]; simp only [World.frozen?_setCell]; rw [frozen_more _ _ _ hs1]; exact f1
  clear hWc d0 d1 f0 f1
  have hO1 := HO1.out
  rw [← HE.out] at hO1
  have hL : (startL P ch h s).length = P + 1 := by rw [HE.out]; simp
  have HOc := Lib.hid hO1
  have HL := Lib.hid hL
  clear hO1 hL HO1 HE
  refine (Clone_any _ _ _ (startL P ch h s) _ (by exact (HOc.out.sl rfl).1) (by omega)).mono ?_
  rintro e w3 ⟨A2, k2, rfl, hown2, hb2'⟩
  have hb2 : Below Wc.heap.size Wc w3 := by first | exact hb2' | exact (Below.refl _ _).drew.trans hb2'
  have hown2 : OwnS w3 Wc.heap.size 2 (.slice A2 (startL P ch h s).length k2) (startL P ch h s) := hown2
  clear hb2'
  have d0 := keep_cell d0c hb2
  have d1 := keep_cell d1c hb2
  have f0 := keep_froz f0c d0c hb2
  have f1 := keep_froz f1c d1c hb2
  have HR : Hid (RetB w (startL P ch h s) (startL P ch h s) [.bool true] (.returned (.tuple #[.agg #[.slice (some ⟨g, 0, none⟩) (P + 1) (P + 1), .slice A2 (startL P ch h s).length k2], .bool true]))
      ((w3.setCell ⟨w.heap.size + 1, 0, none⟩ (.slice (some ⟨g, 0, none⟩) (P + 1) (P + 1))).setCell ⟨w.heap.size + 1, 1, none⟩ (.slice A2 (startL P ch h s).length k2))) := by
    have hsz : Wc.heap.size ≤ w3.heap.size := hb2.size
    have hgl : g < Wc.heap.size := (HOc.out.lt g rfl).2
    refine ⟨some ⟨g, 0, none⟩, P + 1, A2, k2, by rw [HL.out]; rfl, ?_, ?_, ?_, ?_⟩
    · rw [HL.out]; exact (((HOc.out.below hb2).setLow (a := ⟨w.heap.size + 1, 0, none⟩) (by show w.heap.size + 1 < g; omega) _).setLow (a := ⟨w.heap.size + 1, 1, none⟩) (by show w.heap.size + 1 < g; omega) _).mono (by omega)
    · exact ((hown2.setLow (a := ⟨w.heap.size + 1, 0, none⟩) (by show w.heap.size + 1 < Wc.heap.size; omega) _).setLow (a := ⟨w.heap.size + 1, 1, none⟩) (by show w.heap.size + 1 < Wc.heap.size; omega) _).mono (by show w.heap.size ≤ Wc.heap.size; omega)
    · rw [HL.out] at hown2 ⊢; exact own_apart HOc.out hown2 (Nat.le_refl _)
    · exact ((HBc.out.trans (hb2.mono (by omega))).setCell (by simp) _).setCell (by simp) _
  clear hown2 hb2
  go_wp2
  exact bodyPost_ret (by simp [results, Try.results26, go_sem, d0, d1]) rfl HR.out

set_option maxRecDepth 100000 in
theorem StartBoard_full (P : Nat) (ch h s : Int) (w : World) (hv : isVar P ch h s = true) (HQ : Hid (P = 24 ∧ ch = 15 ∧ h = 6 ∧ s = 6)) :
    Calls Try.prog 26 #[.agg #[.int .i64 P, .int .i64 ch, .int .i64 h, .int .i64 s]] w (RetB w (startL P ch h s) (startL P ch h s) [.bool true]) := by
  obtain ⟨i0, hi, hi0, hi1, hi2⟩ := info_parts Try.infoI
  have hPl : P ≤ 24 := by have := HQ.out; omega
  have hPg : 24 ≤ P := by have := HQ.out; omega
  have HN : Hid True := trivial
  have hd : decide ((P : Int) < 4) = false := by simp; omega
  go_enter Try.func26, Try.ntmps26
  go_wp2_with (first | (go_at_call 25; refine (more_first (IsVariant_any _ _ _ _ _)).mono ?_; rintro e w' ⟨rfl, t, rfl⟩) | (at_make; refine wpList_make_full _ rfl _ _ 25 rfl _ 2 i0 (.int .i64 0) 1 Try.underlying25 hi hi0 hi1 _ _ _ _ (P + 1) rfl rfl (by omega) (by omega) (by rw [hi2]; omega) (by unfold maxLen; omega) (Nat.le_refl _) ?_))
  intro w1 hown hgrow
  have HB := Lib.hid ((((Below.refl w.heap.size w).alloc (Nat.le_refl _) (.cells #[.int .i64 (P : Int), .int .i64 ch, .int .i64 h, .int .i64 s] 24)).alloc (by simp) (.cells #[.slice none 0 0, .slice none 0 0] 27)).trans ((below_more _ t).mono (by simp; omega)))
  have hz : w.heap.size + 1 < (more ((w.alloc (.cells #[.int .i64 (P : Int), .int .i64 ch, .int .i64 h, .int .i64 s] 24)).alloc (.cells #[.slice none 0 0, .slice none 0 0] 27)) t).heap.size := by
    have := size_more ((w.alloc (.cells #[.int .i64 (P : Int), .int .i64 ch, .int .i64 h, .int .i64 s] 24)).alloc (.cells #[.slice none 0 0, .slice none 0 0] 27)) t
    simp at this; omega
  have q := fun a ha => cell_more ((w.alloc (.cells #[.int .i64 (P : Int), .int .i64 ch, .int .i64 h, .int .i64 s] 24)).alloc (.cells #[.slice none 0 0, .slice none 0 0] 27)) t a ha
  have c0 := (q ⟨w.heap.size, 0, none⟩ (by simp; omega)).trans (by simp [go_sem]; rfl)
  have c1 := (q ⟨w.heap.size, 1, none⟩ (by simp; omega)).trans (by simp [go_sem]; rfl)
  have c2 := (q ⟨w.heap.size, 2, none⟩ (by simp; omega)).trans (by simp [go_sem]; rfl)
  have c3 := (q ⟨w.heap.size, 3, none⟩ (by simp; omega)).trans (by simp [go_sem]; rfl)
  have d0 := (q ⟨w.heap.size + 1, 0, none⟩ (by simp)).trans (by simp [go_sem]; rfl)
  have d1 := (q ⟨w.heap.size + 1, 1, none⟩ (by simp)).trans (by simp [go_sem]; rfl)
  have f0 : (more ((w.alloc (.cells #[.int .i64 (P : Int), .int .i64 ch, .int .i64 h, .int .i64 s] 24)).alloc (.cells #[.slice none 0 0, .slice none 0 0] 27)) t).frozen? ⟨w.heap.size + 1, 0, none⟩ = false := by rw [frozen_more _ _ _ (by simp)]; simp [go_sem]
  have f1 : (more ((w.alloc (.cells #[.int .i64 (P : Int), .int .i64 ch, .int .i64 h, .int .i64 s] 24)).alloc (.cells #[.slice none 0 0, .slice none 0 0] 27)) t).frozen? ⟨w.heap.size + 1, 1, none⟩ = false := by rw [frozen_more _ _ _ (by simp)]; simp [go_sem]
  clear q
  generalize more ((w.alloc (.cells #[.int .i64 (P : Int), .int .i64 ch, .int .i64 h, .int .i64 s] 24)).alloc (.cells #[.slice none 0 0, .slice none 0 0] 27)) t = W at *
  have hO : OwnS w1 W.heap.size 2 (.slice (some ⟨W.heap.size, 0, none⟩) (P + 1) (P + 1)) (List.replicate (P + 1) 0) := by
    unfold OwnS
    simp only [List.length_replicate, List.map_replicate]
    have e : (madeCells #[Value.int .i64 0] (P + 1)).toList = List.replicate (P + 1) (Value.int .i64 0) := toList_madeCells_one _ _
    rw [e] at hown
    exact hown
  have hb1 : Below W.heap.size W w1 := (Below.refl _ _).grown hgrow (Nat.le_refl _) (by simp)
  obtain ⟨_, hg0, _, hg2, hcl, hfr⟩ := own_form hO (by omega)
  injection hg0 with hg0
  injection hg0 with hg0 _
  subst hg0
  have c0 := keep_cell c0 hb1
  have c1 := keep_cell c1 hb1
  have c2 := keep_cell c2 hb1
  have c3 := keep_cell c3 hb1
  have f0 := keep_froz f0 d0 hb1
  have f1 := keep_froz f1 d1 hb1
  have d0 := keep_cell d0 hb1
  have d1 := keep_cell d1 hb1
  have HO := Lib.hid hO
  have HB1 := Lib.hid (HB.out.trans (hb1.mono HB.out.size))
  have hs0 : w.heap.size < w1.heap.size := by omega
  have hs1 : w.heap.size + 1 < w1.heap.size := by omega
  clear hO hb1 hown hgrow HB
  generalize W.heap.size = g at *
  have hn1 : w.heap.size ≠ g := by omega
  have hn2 : g ≠ w.heap.size := by omega
  have hn3 : w.heap.size + 1 ≠ g := by omega
  have hn4 : g ≠ w.heap.size + 1 := by omega
  have e5 := hcl 5 (by omega)
  have e7 := hcl 7 (by omega)
  have e12 := hcl 12 (by omega)
  have e23 := hcl 23 (by omega)
  simp only [getD_rep] at e5 e7 e12 e23
  have hq : ∀ W : World, (binOp .eql 24 (.agg #[.int .i64 (P : Int), .int .i64 ch, .int .i64 h, .int .i64 s]) (.agg #[.int .i64 24, .int .i64 15, .int .i64 6, .int .i64 6])).run Try.prog W = .ok (.bool true) W := fun W => by
    rw [eql_variant, decide_eq_true]; have := HQ.out; omega
  clear hcl
  go_wp2_with (fail)
  refine wp_region_more (by kernel_rfl) (by kernel_rfl) ?_
  repeat (first | go_big_quiet_step ((go_at_call 56; exact more_call (FullVariant_any _))) | quiet_step ((go_at_call 56; exact more_call (FullVariant_any _))))
  refine wpQuiet_nil ?_
  intro _ hw'
  obtain ⟨tq, hw''⟩ := hw'
  subst hw''
  go_wp2_with (fail)
  have HM := Lib.hid (below_more w1 tq)
  have HO1 := Lib.hid (((HO.out.below HM.out).stored 5 5).stored 7 3 |>.stored 12 5 |>.stored 23 2)
  have HE : Hid (startL P ch h s = ((((List.replicate (P + 1) (0 : Int)).set 5 5).set 7 3).set 12 5).set 23 2) := by
    obtain ⟨rfl, rfl, rfl, rfl⟩ := HQ.out; rfl
  generalize hWc : ((((more w1 tq).setCell ⟨g, 5, none⟩ (.int .i64 5)).setCell ⟨g, 7, none⟩ (.int .i64 3)).setCell ⟨g, 12, none⟩ (.int .i64 5)).setCell ⟨g, 23, none⟩ (.int .i64 2) = Wc at *
  have HBc : Hid (Below w.heap.size w Wc) := by
    rw [← hWc]
    exact (((((HB1.out.trans (HM.out.mono HB1.out.size)).setCell (p := ⟨g, 5, none⟩) (by simp; omega) _).setCell (p := ⟨g, 7, none⟩) (by simp; omega) _).setCell (p := ⟨g, 12, none⟩) (by simp; omega) _).setCell (p := ⟨g, 23, none⟩) (by simp; omega) _)
  have d0c : Wc.cell? ⟨w.heap.size + 1, 0, none⟩ = some (.slice none 0 0) := by
    rw [← hWc, World.cell?_setCell_other _ _ _ _ (by first | (simp; done) | (simp; omega)), World.cell?_setCell_other _ _ _ _ (by first | (simp; done) | (simp; omega)), World.cell?_setCell_other _ _ _ _ (by first | (simp; done) | (simp; omega)), World.cell?_setCell_other _ _ _ _ (by first | (simp; done) | (simp; omega)), cell_more _ _ _ hs1]; exact d0
  have d1c : Wc.cell? ⟨w.heap.size + 1, 1, none⟩ = some (.slice none 0 0) := by
    rw [← hWc, World.cell?_setCell_other _ _ _ _ (by first | (simp; done) | (simp; omega)), World.cell?_setCell_other _ _ _ _ (by first | (simp; done) | (simp; omega)), World.cell?_setCell_other _ _ _ _ (by first | (simp; done) | (simp; omega)), World.cell?_setCell_other _ _ _ _ (by first | (simp; done) | (simp; omega)), cell_more _ _ _ hs1]; exact d1
  have f0c : Wc.frozen? ⟨w.heap.size + 1, 0, none⟩ = false := by
    rw [← hWc]; simp only [World.frozen?_setCell]; rw [frozen_more _ _ _ hs1]; exact f0
  have f1c : Wc.frozen? ⟨w.heap.size + 1, 1, none⟩ = false := by
    rw [← hWc]; simp only [World.frozen?_setCell]; rw [frozen_more _ _ _ hs1]; exact f1
  clear hWc d0 d1 f0 f1
  have hO1 := HO1.out
  rw [← HE.out] at hO1
  have hL : (startL P ch h s).length = P + 1 := by rw [HE.out]; simp
  have HOc := Lib.hid hO1
  have HL := Lib.hid hL
  clear hO1 hL HO1 HE
  refine (Clone_any _ _ _ (startL P ch h s) _ (by exact (HOc.out.sl rfl).1) (by omega)).mono ?_
  rintro e w3 ⟨A2, k2, rfl, hown2, hb2'⟩
  have hb2 : Below Wc.heap.size Wc w3 := by first | exact hb2' | exact (Below.refl _ _).drew.trans hb2'
  have hown2 : OwnS w3 Wc.heap.size 2 (.slice A2 (startL P ch h s).length k2) (startL P ch h s) := hown2
  clear hb2'
  have d0 := keep_cell d0c hb2
  have d1 := keep_cell d1c hb2
  have f0 := keep_froz f0c d0c hb2
  have f1 := keep_froz f1c d1c hb2
  have HR : Hid (RetB w (startL P ch h s) (startL P ch h s) [.bool true] (.returned (.tuple #[.agg #[.slice (some ⟨g, 0, none⟩) (P + 1) (P + 1), .slice A2 (startL P ch h s).length k2], .bool true]))
      ((w3.setCell ⟨w.heap.size + 1, 0, none⟩ (.slice (some ⟨g, 0, none⟩) (P + 1) (P + 1))).setCell ⟨w.heap.size + 1, 1, none⟩ (.slice A2 (startL P ch h s).length k2))) := by
    have hsz : Wc.heap.size ≤ w3.heap.size := hb2.size
    have hgl : g < Wc.heap.size := (HOc.out.lt g rfl).2
    refine ⟨some ⟨g, 0, none⟩, P + 1, A2, k2, by rw [HL.out]; rfl, ?_, ?_, ?_, ?_⟩
    · rw [HL.out]; exact (((HOc.out.below hb2).setLow (a := ⟨w.heap.size + 1, 0, none⟩) (by show w.heap.size + 1 < g; omega) _).setLow (a := ⟨w.heap.size + 1, 1, none⟩) (by show w.heap.size + 1 < g; omega) _).mono (by omega)
    · exact ((hown2.setLow (a := ⟨w.heap.size + 1, 0, none⟩) (by show w.heap.size + 1 < Wc.heap.size; omega) _).setLow (a := ⟨w.heap.size + 1, 1, none⟩) (by show w.heap.size + 1 < Wc.heap.size; omega) _).mono (by show w.heap.size ≤ Wc.heap.size; omega)
    · rw [HL.out] at hown2 ⊢; exact own_apart HOc.out hown2 (Nat.le_refl _)
    · exact ((HBc.out.trans (hb2.mono (by omega))).setCell (by simp) _).setCell (by simp) _
  clear hown2 hb2
  go_wp2
  exact bodyPost_ret (by simp [results, Try.results26, go_sem, d0, d1]) rfl HR.out

theorem StartBoard_yes (P : Nat) (ch h s : Int) (w : World) (hv : isVar P ch h s = true) (hP4 : 4 ≤ P) :
    Calls Try.prog 26 #[.agg #[.int .i64 P, .int .i64 ch, .int .i64 h, .int .i64 s]] w (RetB w (startL P ch h s) (startL P ch h s) [.bool true]) := by
  by_cases hn : P = 24 ∧ ch = 15 ∧ h = 6 ∧ s = 6
  · exact StartBoard_full P ch h s w hv hn
  · exact StartBoard_part P ch h s w hv hP4 hn
end Go.Proofs.Ytlbkfhdnhalpbaa

/- More words for memory: blocks that a call makes behind other calls. There are no conditions. -/
namespace Go.Proofs.Ytlbkfhdnhalpbaa
set_option linter.unusedVariables false
set_option linter.unusedSimpArgs false
open Go.RowKit

theorem cell_alloc_lt (w : World) (o : Obj) (a : Addr) (h : a.block < w.heap.size) : (w.alloc o).cell? a = w.cell? a := World.cell?_alloc_lt w o a h
theorem frozen_alloc_lt (w : World) (o : Obj) (a : Addr) (h : a.block < w.heap.size) : (w.alloc o).frozen? a = w.frozen? a := ((Below.refl _ _).alloc (Nat.le_refl _) o).frozen h
theorem lt_more_add {w t : World} {b k : Nat} (h : b < w.heap.size) : (b < (more w t).heap.size + k) = True := eq_true (Nat.lt_of_lt_of_le (Nat.lt_of_lt_of_le h (size_more w t)) (Nat.le_add_right _ _))
theorem ne_more {w t : World} {b : Nat} (h : b < w.heap.size) : (b = (more w t).heap.size) = False := eq_false (by have := size_more w t; omega)
theorem ne_more' {w t : World} {b : Nat} (h : b < w.heap.size) : ((more w t).heap.size = b) = False := eq_false (by have := size_more w t; omega)
theorem ne_more_add {w t : World} {b k : Nat} (h : b < w.heap.size) : (b = (more w t).heap.size + k) = False := eq_false (by have := size_more w t; omega)
theorem ne_more_add' {w t : World} {b k : Nat} (h : b < w.heap.size) : ((more w t).heap.size + k = b) = False := eq_false (by have := size_more w t; omega)
attribute [go_sem] lt_more_add ne_more ne_more' ne_more_add ne_more_add'
theorem cell_more_alloc (w t : World) (o : Obj) (a : Addr) (h : a.block < w.heap.size) : ((more w t).alloc o).cell? a = w.cell? a :=
  (cell_alloc_lt _ o a (Nat.lt_of_lt_of_le h (size_more w t))).trans (cell_more w t a h)
theorem frozen_more_alloc (w t : World) (o : Obj) (a : Addr) (h : a.block < w.heap.size) : ((more w t).alloc o).frozen? a = w.frozen? a :=
  (frozen_alloc_lt _ o a (Nat.lt_of_lt_of_le h (size_more w t))).trans (frozen_more w t a h)
theorem cell_more_alloc2 (w t : World) (o o' : Obj) (a : Addr) (h : a.block < w.heap.size) : (((more w t).alloc o).alloc o').cell? a = w.cell? a :=
  (cell_alloc_lt _ o' a (by have := size_more w t; simp; omega)).trans (cell_more_alloc w t o a h)
theorem frozen_more_alloc2 (w t : World) (o o' : Obj) (a : Addr) (h : a.block < w.heap.size) : (((more w t).alloc o).alloc o').frozen? a = w.frozen? a :=
  (frozen_alloc_lt _ o' a (by have := size_more w t; simp; omega)).trans (frozen_more_alloc w t o a h)
attribute [go_sem] cell_more_alloc frozen_more_alloc cell_more_alloc2 frozen_more_alloc2
theorem OwnS.alloc {w : World} {base : Nat} {e : TypeId} {v : Value} {xs : List Int} (h : OwnS w base e v xs) (o : Obj) : OwnS (w.alloc o) base e v xs := h.below ((Below.refl _ _).alloc (Nat.le_refl _) o)
end Go.Proofs.Ytlbkfhdnhalpbaa

/- Plain facts on lists. No program is in sight; there are no conditions. -/
namespace Go.Proofs.Ytlbkfhdnhalpbaa
set_option linter.unusedVariables false
set_option linter.unusedSimpArgs false

theorem getD_app_lt {α : Type} (a b : List α) (d : α) {i : Nat} (h : i < a.length) : (a ++ b).getD i d = a.getD i d := by
  simp [List.getD, List.getElem?_append_left h]
theorem getD_app_ge {α : Type} (a b : List α) (d : α) {i : Nat} (h : a.length ≤ i) : (a ++ b).getD i d = b.getD (i - a.length) d := by
  simp [List.getD, List.getElem?_append_right h]
theorem snoc_ind {α : Type} {motive : List α → Prop} (l : List α) (nil : motive []) (snoc : ∀ l a, motive l → motive (l ++ [a])) : motive l := by
  have key : ∀ n (l : List α), l.length = n → motive l := by
    intro n
    induction n with
    | zero => intro l hl; rw [List.eq_nil_of_length_eq_zero hl]; exact nil
    | succ n ih =>
      intro l hl
      have hne : l ≠ [] := by intro e; rw [e] at hl; simp at hl
      rw [← List.dropLast_concat_getLast hne]
      exact snoc _ _ (ih _ (by rw [List.length_dropLast, hl]; rfl))
  exact key _ l rfl
theorem take_snoc_getD {α : Type} (l : List α) (d : α) {k : Nat} (h : k < l.length) : l.take (k + 1) = l.take k ++ [l.getD k d] := by
  rw [List.take_succ_eq_append_getElem h]; simp [List.getD, h]
theorem getD_take {α : Type} (l : List α) (d : α) {i k : Nat} (h : i < k) : (l.take k).getD i d = l.getD i d := by simp [List.getD, h]
theorem getD_drop {α : Type} (l : List α) (d : α) (i k : Nat) : (l.drop k).getD i d = l.getD (k + i) d := by simp [List.getD]
theorem getD_mem' {α : Type} (l : List α) (d : α) {k : Nat} (h : k < l.length) : l.getD k d ∈ l := by simp [List.getD, h]
theorem mem_getD {α : Type} {l : List α} (d : α) {x : α} (h : x ∈ l) : ∃ k, k < l.length ∧ l.getD k d = x := by
  obtain ⟨k, hk, rfl⟩ := List.mem_iff_getElem.1 h
  exact ⟨k, hk, by simp [List.getD, hk]⟩
theorem getD_map {α β : Type} (f : α → β) (l : List α) (d : α) (e : β) {k : Nat} (h : k < l.length) : (l.map f).getD k e = f (l.getD k d) := by simp [List.getD, h]
end Go.Proofs.Ytlbkfhdnhalpbaa

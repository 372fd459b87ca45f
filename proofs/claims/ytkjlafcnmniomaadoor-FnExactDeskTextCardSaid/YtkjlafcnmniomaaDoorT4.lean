/- Contract of the program's text of a variant. There are no conditions beyond those that each states. -/
import Derived.Test.YtkjlafcnmniomaaDoorT3
namespace Go.Proofs.YtkjlafcnmniomaaDoor
set_option linter.unusedVariables false
set_option linter.unusedSimpArgs false
open Go.RowKit

theorem Tryd.infoStr : (Tryd.prog.info? 9).map (fun i => (i.zero, i.size, i.bytes)) = some (some (.string { data := #[] }), 1, 16) := by kernel_rfl
theorem bd_at {w : World} {b i : Nat} (hb : w.heap.size ≤ b) (v : Value) : Below w.heap.size w (w.setCell ⟨b, i, none⟩ v) := (Below.refl _ _).setCell hb v
theorem made4 : (madeCells (Value.string { data := #[] }).cells (4 * 1)).toList = [.string { data := #[] }, .string { data := #[] }, .string { data := #[] }, .string { data := #[] }] := by kernel_rfl
def wl4 (l : List Nat) (k : Nat) : List Value := (List.range 4).map fun j => if j < k then strV (Lib.decDigits (l.getD j 0)) else .string { data := #[] }
set_option maxRecDepth 100000 in
set_option maxHeartbeats 2000000 in
theorem joinNumbers4 (a b c d g cap : Nat) (w : World) (ha : a < 1000000000000000000) (hb : b < 1000000000000000000) (hc : c < 1000000000000000000) (hd : d < 1000000000000000000) (hC : Cel w g [.int .i64 (a : Int), .int .i64 (b : Int), .int .i64 (c : Int), .int .i64 (d : Int)]) (ht : TBok w) :
    Calls Tryd.prog 46 #[.slice (some ⟨g, 0, none⟩) 4 cap, .string { data := #[47] }] w fun e w' => e = .returned (strV (varT a b c d)) ∧ Below w.heap.size w w' := by
  have hgw : g < w.heap.size := hC.lt
  obtain ⟨i0, hi, iz0, iz1, iz2⟩ := info_parts Tryd.infoStr
  obtain ⟨W', hrun0, hown, hgr⟩ := run_make_full (P := Tryd.prog) w w.heap.size 55 9 i0 (.string { data := #[] }) 1 Tryd.underlying55 hi iz0 iz1 .i64 .i64 4 (by rw [iz2]; decide) (by decide) (Nat.le_refl _)
  have hrun : (Instr.makeSlice 55 (.int .i64 4) (.int .i64 4)).run Tryd.prog w = .ok (.slice (some ⟨w.heap.size, 0, none⟩) 4 4) W' := hrun0
  have HB0 : Hid (Below w.heap.size w W') := (Below.refl _ _).grown hgr (Nat.le_refl _) (fun k hk => by cases hk)
  have HW0 : Hid (Cel W' w.heap.size (wl4 [a, b, c, d] 0)) := by
    have hl := (World.ownsRow.lt hown w.heap.size rfl).2
    have h4 : ∀ j, j < 4 → W'.cell? ⟨w.heap.size, j, none⟩ = some (.string { data := #[] }) := fun j hj => by
      have h1 := World.ownsRow.cellAt hown j (by omega)
      have hj4 : j = 0 ∨ j = 1 ∨ j = 2 ∨ j = 3 := by omega
      rw [h1, made4]
      rcases hj4 with rfl | rfl | rfl | rfl <;> rfl
    have hw : wl4 [a, b, c, d] 0 = [.string { data := #[] }, .string { data := #[] }, .string { data := #[] }, .string { data := #[] }] := rfl
    refine ⟨hl, fun j x hx => ?_, fun j x _ => World.ownsRow.frozenAt hown j⟩
    rw [hw] at hx
    have hj : j < 4 := by
      have := (List.getElem?_eq_some_iff.1 hx).1
      simpa using this
    rw [h4 j hj]
    have hj4 : j = 0 ∨ j = 1 ∨ j = 2 ∨ j = 3 := by omega
    rcases hj4 with rfl | rfl | rfl | rfl <;> exact hx
  have HC0 := Lib.hid (hC.below HB0.out)
  have HTw := Lib.hid ht
  have hzW : w.heap.size < W'.heap.size := HW0.out.lt
  have HJ : Hid (∀ W : World, Cel W w.heap.size (wl4 [a, b, c, d] 4) → Calls Tryd.prog 26 #[.slice (some ⟨w.heap.size, 0, none⟩) 4 4, .string { data := #[47] }] W fun e w' => e = .returned (strV (varT a b c d)) ∧ Below W.heap.size W w') := fun W hW => by
    obtain ⟨q1, q2, q3, q4, q5, q6⟩ := vr_len a b c d ha hb hc hd
    have l0 := dec_len a ha
    have l2 := dec_len b hb
    have l4 := dec_len c hc
    have l6 := dec_len d hd
    have hw : wl4 [a, b, c, d] 4 = [strV (Lib.decDigits a), strV (Lib.decDigits b), strV (Lib.decDigits c), strV (Lib.decDigits d)] := rfl
    have he : Lib.join [Lib.decDigits a, Lib.decDigits b, Lib.decDigits c, Lib.decDigits d] [47] = varT a b c d := by
      rw [Lib.join_cons]
      unfold varT vrT6 vrT5 vrT4 vrT3 vrT2 vrT1 Lib.joinTail
      simp
    have hj := Tryd.strings_Join w.heap.size 0 4 [⟨(Lib.decDigits a).toArray⟩, ⟨(Lib.decDigits b).toArray⟩, ⟨(Lib.decDigits c).toArray⟩, ⟨(Lib.decDigits d).toArray⟩] { data := #[47] } W (fun j x hx => by
      have hj : j < 4 := by
        have := (List.getElem?_eq_some_iff.1 hx).1
        simpa using this
      have h1 := hW.cell j (.string x) (by
        rw [hw]
        have hj4 : j = 0 ∨ j = 1 ∨ j = 2 ∨ j = 3 := by omega
        rcases hj4 with rfl | rfl | rfl | rfl <;> (simp at hx; rw [← hx]; rfl))
      simpa using h1) hW.lt (by simp) (by simp) (by
        show (Lib.join [Lib.decDigits a, Lib.decDigits b, Lib.decDigits c, Lib.decDigits d] [47]).length ≤ _
        rw [he]
        have : varT a b c d = vrT6 a b c d := rfl
        rw [this]; omega)
    refine hj.mono fun e w' ⟨h1, h2⟩ => ⟨?_, h2⟩
    rw [h1]
    show Ending.returned (strV (Lib.join [Lib.decDigits a, Lib.decDigits b, Lib.decDigits c, Lib.decDigits d] [47])) = _
    rw [he]
  clear hC ht hown hgr hrun0
  go_enter Tryd.func46, Tryd.ntmps46
  go_wp2_with (fail)
  go_loopw [13] (fun v13 wr => ∃ k : Nat, k ≤ 4 ∧ v13 = .int .i64 k ∧ Hid (Cel wr w.heap.size (wl4 [a, b, c, d] k)) ∧ Hid (Cel wr g [.int .i64 (a : Int), .int .i64 (b : Int), .int .i64 (c : Int), .int .i64 (d : Int)]) ∧ Hid (Below w.heap.size w wr)) (fun v13 _ => 4 - (intOf v13).toNat)
  case atStart => exact ⟨0, by omega, rfl, HW0.out, HC0.out, HB0.out⟩
  case round =>
    clear HW0 HC0 HB0
    obtain ⟨k, hk, rfl, HW, HC, HB⟩ := hrel
    have hk5 : k = 0 ∨ k = 1 ∨ k = 2 ∨ k = 3 ∨ k = 4 := by omega
    rcases hk5 with rfl | rfl | rfl | rfl | rfl
    · skip
      have y0 := HC.out.cell 0 _ rfl
      have yz := HC.out.lt
      have x0 := HW.out.cell 0 _ rfl
      have x0' := HW.out.froz 0 _ rfl
      have xz := HW.out.lt
      have CD := Lib.hid fun (W : World) (h : TBok W) => dec_yes ([a, b, c, d].getD 0 0) W (by simp; omega) h
      go_wp2_with (fail)
      refine (CD.out _ (HTw.out.below HB.out)).mono ?_
      rintro e w5 ⟨rfl, hb5⟩
      unfold strV
      have HW5 := Lib.hid (HW.out.below hb5)
      have HC5 := Lib.hid (HC.out.below hb5)
      have HB5 := Lib.hid (HB.out.trans (hb5.mono HB.out.size))
      clear hb5 HW HC HB y0 yz x0 x0' xz
      have x0 := HW5.out.cell 0 _ rfl
      have x0' := HW5.out.froz 0 _ rfl
      have xz := HW5.out.lt
      go_wp2_with (fail)
      go_roundw
      case rel => exact ⟨0 + 1, by omega, rfl, HW5.out.st (i := 0) (by simp [wl4]), HC5.out.far (by omega), HB5.out.setCell (by simp) _⟩
      case measure => (simp [intOf]) <;> omega
    · skip
      have y0 := HC.out.cell 1 _ rfl
      have yz := HC.out.lt
      have x0 := HW.out.cell 1 _ rfl
      have x0' := HW.out.froz 1 _ rfl
      have xz := HW.out.lt
      have CD := Lib.hid fun (W : World) (h : TBok W) => dec_yes ([a, b, c, d].getD 1 0) W (by simp; omega) h
      go_wp2_with (fail)
      refine (CD.out _ (HTw.out.below HB.out)).mono ?_
      rintro e w5 ⟨rfl, hb5⟩
      unfold strV
      have HW5 := Lib.hid (HW.out.below hb5)
      have HC5 := Lib.hid (HC.out.below hb5)
      have HB5 := Lib.hid (HB.out.trans (hb5.mono HB.out.size))
      clear hb5 HW HC HB y0 yz x0 x0' xz
      have x0 := HW5.out.cell 1 _ rfl
      have x0' := HW5.out.froz 1 _ rfl
      have xz := HW5.out.lt
      go_wp2_with (fail)
      go_roundw
      case rel => exact ⟨1 + 1, by omega, rfl, HW5.out.st (i := 1) (by simp [wl4]), HC5.out.far (by omega), HB5.out.setCell (by simp) _⟩
      case measure => (simp [intOf]) <;> omega
    · skip
      have y0 := HC.out.cell 2 _ rfl
      have yz := HC.out.lt
      have x0 := HW.out.cell 2 _ rfl
      have x0' := HW.out.froz 2 _ rfl
      have xz := HW.out.lt
      have CD := Lib.hid fun (W : World) (h : TBok W) => dec_yes ([a, b, c, d].getD 2 0) W (by simp; omega) h
      go_wp2_with (fail)
      refine (CD.out _ (HTw.out.below HB.out)).mono ?_
      rintro e w5 ⟨rfl, hb5⟩
      unfold strV
      have HW5 := Lib.hid (HW.out.below hb5)
      have HC5 := Lib.hid (HC.out.below hb5)
      have HB5 := Lib.hid (HB.out.trans (hb5.mono HB.out.size))
      clear hb5 HW HC HB y0 yz x0 x0' xz
      have x0 := HW5.out.cell 2 _ rfl
      have x0' := HW5.out.froz 2 _ rfl
      have xz := HW5.out.lt
      go_wp2_with (fail)
      go_roundw
      case rel => exact ⟨2 + 1, by omega, rfl, HW5.out.st (i := 2) (by simp [wl4]), HC5.out.far (by omega), HB5.out.setCell (by simp) _⟩
      case measure => (simp [intOf]) <;> omega
    · skip
      have y0 := HC.out.cell 3 _ rfl
      have yz := HC.out.lt
      have x0 := HW.out.cell 3 _ rfl
      have x0' := HW.out.froz 3 _ rfl
      have xz := HW.out.lt
      have CD := Lib.hid fun (W : World) (h : TBok W) => dec_yes ([a, b, c, d].getD 3 0) W (by simp; omega) h
      go_wp2_with (fail)
      refine (CD.out _ (HTw.out.below HB.out)).mono ?_
      rintro e w5 ⟨rfl, hb5⟩
      unfold strV
      have HW5 := Lib.hid (HW.out.below hb5)
      have HC5 := Lib.hid (HC.out.below hb5)
      have HB5 := Lib.hid (HB.out.trans (hb5.mono HB.out.size))
      clear hb5 HW HC HB y0 yz x0 x0' xz
      have x0 := HW5.out.cell 3 _ rfl
      have x0' := HW5.out.froz 3 _ rfl
      have xz := HW5.out.lt
      go_wp2_with (fail)
      go_roundw
      case rel => exact ⟨3 + 1, by omega, rfl, HW5.out.st (i := 3) (by simp [wl4]), HC5.out.far (by omega), HB5.out.setCell (by simp) _⟩
      case measure => (simp [intOf]) <;> omega
    · go_wp2_with (fail)
      refine (HJ.out _ HW.out).mono ?_
      rintro e w5 ⟨rfl, hb5⟩
      go_wp2_with (fail)
      go_ret
      exact ⟨rfl, HB.out.trans (hb5.mono HB.out.size)⟩
end Go.Proofs.YtkjlafcnmniomaaDoor

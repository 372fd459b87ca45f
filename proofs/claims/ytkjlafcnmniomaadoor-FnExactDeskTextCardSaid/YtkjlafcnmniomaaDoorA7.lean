/- How the laws copy what comes in: numbers, boards, rolls. There are no conditions. -/
import Derived.Test.YtkjlafcnmniomaaDoorA6
namespace Go.Proofs.YtkjlafcnmniomaaDoor
set_option linter.unusedVariables false
set_option linter.unusedSimpArgs false
open Go.RowKit

theorem mixZ_step (xs : List Int) (n k : Nat) (hl : xs.length = n) (h : k < n) : (xs.take k ++ List.replicate (n - k) (0 : Int)).set k (xs.getD k 0) = xs.take (k + 1) ++ List.replicate (n - (k + 1)) 0 := by
  have hk : (xs.take k).length = k := by rw [List.length_take]; omega
  have e : n - k = (n - (k + 1)) + 1 := by omega
  have h' : k < xs.length := by omega
  have g : xs.getD k 0 = xs[k] := by simp [List.getD, h']
  rw [List.set_append_right _ _ (by omega), hk, Nat.sub_self, e, List.replicate_succ, List.set_cons_zero, List.take_succ_eq_append_getElem h', List.append_assoc, g]
  rfl

theorem toInt64S_any (A : Option Addr) (n c : Nat) (xs : List Int) (w : World) (hx : SL w A n xs) (hn : n ≤ 2000000) :
    Calls Tryd.prog 41 #[.slice A n c] w (RetO w 2 xs) := by
  obtain ⟨i0, hi, hz0, hz1, hz2⟩ := info_parts Tryd.infoI
  have HX := Lib.hid hx
  clear hx
  go_enter Tryd.func41, Tryd.ntmps41
  go_wp2_with (at_make; refine wpList_make_full _ rfl _ _ 24 rfl w.heap.size 2 i0 (.int .i64 0) 1 Tryd.underlying24 hi hz0 hz1 _ _ _ _ n rfl rfl rfl rfl (by rw [hz2]; omega) (by unfold maxLen; omega) (Nat.le_refl _) ?_; intro w1 hown hgrow)
  have hb : Below w.heap.size w w1 := (Below.refl _ _).grown hgrow (Nat.le_refl _) (by simp)
  have hO : OwnS w1 w.heap.size 2 (.slice (some ⟨w.heap.size, 0, none⟩) n n) (xs.take 0 ++ List.replicate (n - 0) 0) := by
    unfold OwnS
    simp only [List.take_zero, List.nil_append, Nat.sub_zero, List.length_replicate, List.map_replicate]
    have e : (madeCells #[Value.int .i64 0] (n * 1)).toList = List.replicate n (Value.int .i64 0) := by rw [Nat.mul_one]; exact toList_madeCells_one _ _
    first | (rw [show (Value.int IntKind.i64 0).cells = #[Value.int .i64 0] from rfl, e] at hown; exact hown) | (rw [e] at hown; exact hown) | (rw [Nat.mul_one] at e; rw [e] at hown; exact hown)
  have HO := Lib.hid hO
  have HB := Lib.hid hb
  have hg2 : w.heap.size < w1.heap.size := (hO.lt _ rfl).2
  clear hown hgrow hb hO
  go_wp2_with (fail)
  go_loopw [4] (fun i wr => ∃ k : Nat, k ≤ n ∧ i = .int .i64 k ∧ OwnS wr w.heap.size 2 (.slice (some ⟨w.heap.size, 0, none⟩) n n) (xs.take k ++ List.replicate (n - k) 0) ∧ Below w.heap.size w wr) (fun i _ => n - (intOf i).toNat)
  case atStart => exact ⟨0, by omega, rfl, HO.out, HB.out⟩
  case round =>
    obtain ⟨k, hk, rfl, ho, hb⟩ := hrel
    by_cases hlt : k < n
    · obtain ⟨b, off, rfl, hbl, hc⟩ := (HX.out.keep (Nat.le_refl _) hb).2 (by omega)
      have q1 := hc k hlt
      obtain ⟨b', off', hA', hbl', _⟩ := HX.out.2 (by omega)
      injection hA' with hA'
      injection hA' with hA1 hA2
      subst hA1 hA2
      obtain ⟨g, hg0, _, _, hcl, hfr⟩ := own_form ho (by omega)
      injection hg0 with hg0
      injection hg0 with hg0 _
      subst hg0
      have q2 := hcl k hlt
      have q3 := hfr k
      have hki : (k : Int) < (n : Int) := by omega
      have hk0 : (0 : Int) ≤ (k : Int) := by omega
      have HN := Lib.hid (ho.stored k (xs.getD k 0))
      have HM := Lib.hid (mixZ_step xs n k HX.out.1 hlt)
      have HB2 := Lib.hid (hb.setCell (p := ⟨w.heap.size, k, none⟩) (Nat.le_refl _) (.int .i64 (xs.getD k 0)))
      have hne : b ≠ w.heap.size := by omega
      clear hc hcl hfr ho hb
      generalize (xs.take k ++ List.replicate (n - k) 0).getD k 0 = u at *
      generalize xs.getD k 0 = x at *
      go_wp2_with (fail)
      go_roundw
      case rel => exact ⟨k + 1, by omega, by go_num, by rw [← HM.out]; exact HN.out, HB2.out⟩
      case measure => simp [intOf]; omega
    · obtain rfl : k = n := by omega
      have HF : Hid (RetO w 2 xs (.returned (.slice (some ⟨w.heap.size, 0, none⟩) k k)) wr) := by
        have h := ho
        rw [List.take_of_length_le (by rw [HX.out.1]; exact Nat.le_refl _), Nat.sub_self, List.replicate_zero, List.append_nil] at h
        exact RetO.mk h hb
      clear ho hb
      go_wp2_with (fail)
      go_ret
      exact HF.out

/-- A call hands back a board of the call's own. -/
def RetBd (w : World) (own other : List Int) (en : Ending) (w' : World) : Prop := ∃ A1 c1 A2 c2, en = .returned (.agg #[.slice A1 own.length c1, .slice A2 other.length c2]) ∧
  OwnS w' w.heap.size 2 (.slice A1 own.length c1) own ∧ OwnS w' w.heap.size 2 (.slice A2 other.length c2) other ∧
  ((Value.slice A1 own.length c1).ownBlock = none ∨ (Value.slice A1 own.length c1).ownBlock ≠ (Value.slice A2 other.length c2).ownBlock) ∧ Below w.heap.size w w'

theorem toRoll_any (a b : Int) (w : World) :
    Calls Tryd.prog 19 #[.agg #[.int .i64 a, .int .i64 b]] w fun e w' => e = .returned (.agg #[.int .i64 a, .int .i64 b]) ∧ Below w.heap.size w w' := by
  go_enter Tryd.func19, Tryd.ntmps19
  go_wp2
  exact bodyPost_ret (v := .agg #[.int .i64 a, .int .i64 b]) (by simp [results, Tryd.results19, go_sem]) rfl ⟨rfl, (((Below.refl _ _).alloc (Nat.le_refl _) _).alloc (by simp) _).alloc (by simp; omega) _⟩

set_option maxRecDepth 100000 in
theorem toBoard_any (A1 A2 : Option Addr) (n1 c1 n2 c2 : Nat) (xs ys : List Int) (w : World) (h1 : SL w A1 n1 xs) (h2 : SL w A2 n2 ys) (hn1 : n1 ≤ 2000000) (hn2 : n2 ≤ 2000000) :
    Calls Tryd.prog 18 #[.agg #[.slice A1 n1 c1, .slice A2 n2 c2]] w (RetBd w xs ys) := by
  have HB : Hid (Below w.heap.size w (((w.alloc (.cells #[.slice A1 n1 c1, .slice A2 n2 c2] 26)).alloc (.cells #[.slice none 0 0, .slice none 0 0] 35)).alloc (.cells #[.slice none 0 0, .slice none 0 0] 35))) := (((Below.refl _ _).alloc (Nat.le_refl _) _).alloc (by simp) _).alloc (by simp; omega) _
  have H1 := Lib.hid (h1.below HB.out)
  have H2 := Lib.hid h2
  clear h1 h2
  go_enter Tryd.func18, Tryd.ntmps18
  go_wp2_with (fail)
  refine (toInt64S_any A1 n1 c1 xs _ H1.out hn1).mono ?_
  rintro e w1 ⟨B1, k1, rfl, ho1, hb1⟩
  obtain ⟨W0, hW0⟩ : ∃ W, W = (((w.alloc (.cells #[.slice A1 n1 c1, .slice A2 n2 c2] 26)).alloc (.cells #[.slice none 0 0, .slice none 0 0] 35)).alloc (.cells #[.slice none 0 0, .slice none 0 0] 35)) := ⟨_, rfl⟩
  rw [← hW0] at hb1 ho1
  have b1 : w1.cell? ⟨w.heap.size, 1, none⟩ = some (.slice A2 n2 c2) := keep_cell (by rw [hW0]; simp [go_sem]) hb1
  have d0 : w1.cell? ⟨w.heap.size + 1 + 1, 0, none⟩ = some (.slice none 0 0) := keep_cell (by rw [hW0]; simp [go_sem]) hb1
  have d1 : w1.cell? ⟨w.heap.size + 1 + 1, 1, none⟩ = some (.slice none 0 0) := keep_cell (by rw [hW0]; simp [go_sem]) hb1
  have e0 : w1.cell? ⟨w.heap.size + 1, 0, none⟩ = some (.slice none 0 0) := keep_cell (by rw [hW0]; simp [go_sem]) hb1
  have e1 : w1.cell? ⟨w.heap.size + 1, 1, none⟩ = some (.slice none 0 0) := keep_cell (by rw [hW0]; simp [go_sem]) hb1
  have fd0 : w1.frozen? ⟨w.heap.size + 1 + 1, 0, none⟩ = false := keep_froz (w := W0) (v := .slice none 0 0) (by rw [hW0]; simp [go_sem]) (by rw [hW0]; simp [go_sem]) hb1
  have fd1 : w1.frozen? ⟨w.heap.size + 1 + 1, 1, none⟩ = false := keep_froz (w := W0) (v := .slice none 0 0) (by rw [hW0]; simp [go_sem]) (by rw [hW0]; simp [go_sem]) hb1
  have fe0 : w1.frozen? ⟨w.heap.size + 1, 0, none⟩ = false := keep_froz (w := W0) (v := .slice none 0 0) (by rw [hW0]; simp [go_sem]) (by rw [hW0]; simp [go_sem]) hb1
  have fe1 : w1.frozen? ⟨w.heap.size + 1, 1, none⟩ = false := keep_froz (w := W0) (v := .slice none 0 0) (by rw [hW0]; simp [go_sem]) (by rw [hW0]; simp [go_sem]) hb1
  have hz0 : w.heap.size + 2 < W0.heap.size := by rw [hW0]; simp
  have HB1 := Lib.hid ((by rw [hW0]; exact HB.out : Below w.heap.size w W0).trans (hb1.mono (by omega)))
  have HO1 := Lib.hid ho1
  have hsz1 := hb1.size
  clear hb1 ho1 hW0 H1 HB
  go_wp2_with (fail)
  have HBs := Lib.hid (HB1.out.setCell (p := ⟨w.heap.size + 1 + 1, 0, none⟩) (by simp; omega) (.slice B1 xs.length k1))
  have HOs := Lib.hid (HO1.out.setLow (a := ⟨w.heap.size + 1 + 1, 0, none⟩) (by exact hz0) (.slice B1 xs.length k1))
  refine (toInt64S_any A2 n2 c2 ys _ (H2.out.keep (Nat.le_refl _) HBs.out) hn2).mono ?_
  rintro e w2 ⟨B2, k2, rfl, ho2, hb2⟩
  have q0 : w2.cell? ⟨w.heap.size + 1 + 1, 0, none⟩ = some (.slice B1 xs.length k1) := keep_cell (by simp [go_sem, d0]) hb2
  have q1 : w2.cell? ⟨w.heap.size + 1 + 1, 1, none⟩ = some (.slice none 0 0) := keep_cell (by simp [go_sem, d1]) hb2
  have r0 : w2.cell? ⟨w.heap.size + 1, 0, none⟩ = some (.slice none 0 0) := keep_cell (by simp [go_sem, e0]) hb2
  have r1 : w2.cell? ⟨w.heap.size + 1, 1, none⟩ = some (.slice none 0 0) := keep_cell (by simp [go_sem, e1]) hb2
  have fq1 : w2.frozen? ⟨w.heap.size + 1 + 1, 1, none⟩ = false := keep_froz (v := .slice none 0 0) (by simp [go_sem, fd1]) (by simp [go_sem, d1]) hb2
  have fr0 : w2.frozen? ⟨w.heap.size + 1, 0, none⟩ = false := keep_froz (v := .slice none 0 0) (by simp [go_sem, fe0]) (by simp [go_sem, e0]) hb2
  have fr1 : w2.frozen? ⟨w.heap.size + 1, 1, none⟩ = false := keep_froz (v := .slice none 0 0) (by simp [go_sem, fe1]) (by simp [go_sem, e1]) hb2
  have hsz2 : w1.heap.size ≤ w2.heap.size := by have := hb2.size; simpa using this
  have HF : Hid (RetBd w xs ys (.returned (.agg #[.slice B1 xs.length k1, .slice B2 ys.length k2])) (((w2.setCell ⟨w.heap.size + 1 + 1, 1, none⟩ (.slice B2 ys.length k2)).setCell ⟨w.heap.size + 1, 0, none⟩ (.slice B1 xs.length k1)).setCell ⟨w.heap.size + 1, 1, none⟩ (.slice B2 ys.length k2))) := by
    have hz1 : w.heap.size + 2 < (w1.setCell ⟨w.heap.size + 1 + 1, 0, none⟩ (.slice B1 xs.length k1)).heap.size := by simp; omega
    have hsA : W0.heap.size ≤ (w1.setCell ⟨w.heap.size + 1 + 1, 0, none⟩ (.slice B1 xs.length k1)).heap.size := by simp; omega
    refine ⟨B1, k1, B2, k2, rfl, ?_, ?_, ?_, ?_⟩
    · exact ((((HOs.out.below hb2).setLow (a := ⟨w.heap.size + 1 + 1, 1, none⟩) (by exact hz0) _).setLow (a := ⟨w.heap.size + 1, 0, none⟩) (by show w.heap.size + 1 < W0.heap.size; omega) _).setLow (a := ⟨w.heap.size + 1, 1, none⟩) (by show w.heap.size + 1 < W0.heap.size; omega) _).mono (by omega)
    · exact (((ho2.setLow (a := ⟨w.heap.size + 1 + 1, 1, none⟩) (by exact hz1) _).setLow (a := ⟨w.heap.size + 1, 0, none⟩) (Nat.lt_trans (by show w.heap.size + 1 < w.heap.size + 2; omega) hz1) _).setLow (a := ⟨w.heap.size + 1, 1, none⟩) (Nat.lt_trans (by show w.heap.size + 1 < w.heap.size + 2; omega) hz1) _).mono (by omega)
    · exact own_apart HOs.out ho2 (Nat.le_refl _)
    · exact ((((HBs.out.trans (hb2.mono (by omega))).setCell (by simp; omega) _).setCell (by simp) _).setCell (by simp) _)
  clear hb2 ho2 hsz1 hsz2
  go_wp2_with (fail)
  exact bodyPost_ret (v := .agg #[.slice B1 xs.length k1, .slice B2 ys.length k2]) (by simp [results, Tryd.results18, go_sem, r0, r1]) rfl HF.out
end Go.Proofs.YtkjlafcnmniomaaDoor

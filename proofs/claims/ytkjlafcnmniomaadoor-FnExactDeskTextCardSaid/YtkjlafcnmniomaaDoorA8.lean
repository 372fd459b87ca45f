/- How the laws copy slices of boards, and desks. There are no conditions. -/
import Derived.Test.YtkjlafcnmniomaaDoorA7
namespace Go.Proofs.YtkjlafcnmniomaaDoor
set_option linter.unusedVariables false
set_option linter.unusedSimpArgs false
open Go.RowKit

theorem Tryd.infoB : (Tryd.prog.info? 35).map (fun i => (i.zero, i.size, i.bytes)) = some (some (.agg #[.slice none 0 0, .slice none 0 0]), 2, 48) := by kernel_rfl

/-- Block g holds the row of n boards, of which the first k are as bs says, each in slices of the call's own behind g. -/
def OwnBs (w : World) (base g n : Nat) (bs : List (List Int × List Int)) (k : Nat) : Prop := ∃ cs : List Value, w.ownsRow base 35 2 (.slice (some ⟨g, 0, none⟩) n n) n cs ∧
  ∀ i, i < k → ∃ A1 c1 A2 c2, cs[i * 2]? = some (.slice A1 (bs.getD i ([], [])).1.length c1) ∧ cs[i * 2 + 1]? = some (.slice A2 (bs.getD i ([], [])).2.length c2) ∧
    OwnS w (g + 1) 2 (.slice A1 (bs.getD i ([], [])).1.length c1) (bs.getD i ([], [])).1 ∧ OwnS w (g + 1) 2 (.slice A2 (bs.getD i ([], [])).2.length c2) (bs.getD i ([], [])).2

theorem OwnBs.below {w w' : World} {base g n k : Nat} {bs : List (List Int × List Int)} (h : OwnBs w base g n bs k) (hb : Below w.heap.size w w') : OwnBs w' base g n bs k := by
  obtain ⟨cs, h1, h2⟩ := h
  refine ⟨cs, own_below h1 hb, fun i hi => ?_⟩
  obtain ⟨A1, c1, A2, c2, q1, q2, o1, o2⟩ := h2 i hi
  exact ⟨A1, c1, A2, c2, q1, q2, o1.below hb, o2.below hb⟩
theorem OwnBs.lt {w : World} {base g n k : Nat} {bs : List (List Int × List Int)} (h : OwnBs w base g n bs k) : base ≤ g ∧ g < w.heap.size := by
  obtain ⟨cs, h1, _⟩ := h
  exact h1.lt g rfl
theorem OwnBs.cell {w : World} {base g n k : Nat} {bs : List (List Int × List Int)} (h : OwnBs w base g n bs k) (i : Nat) (hi : i < n * 2) : ∃ v, w.cell? ⟨g, i, none⟩ = some v := by
  obtain ⟨cs, h1, _⟩ := h
  refine ⟨cs[i]'(by rw [h1.1]; exact hi), ?_⟩
  rw [h1.cellAt i hi]
  exact List.getElem?_eq_getElem _
theorem OwnBs.frozen {w : World} {base g n k : Nat} {bs : List (List Int × List Int)} (h : OwnBs w base g n bs k) (i : Nat) : w.frozen? ⟨g, i, none⟩ = false := by
  obtain ⟨cs, h1, _⟩ := h
  exact h1.frozenAt i
theorem OwnBs.step {w : World} {base g n k : Nat} {bs : List (List Int × List Int)} (h : OwnBs w base g n bs k) (hk : k < n) {A1 A2 : Option Addr} {c1 c2 : Nat}
    (o1 : OwnS w (g + 1) 2 (.slice A1 (bs.getD k ([], [])).1.length c1) (bs.getD k ([], [])).1) (o2 : OwnS w (g + 1) 2 (.slice A2 (bs.getD k ([], [])).2.length c2) (bs.getD k ([], [])).2) :
    OwnBs ((w.setCell ⟨g, k * 2, none⟩ (.slice A1 (bs.getD k ([], [])).1.length c1)).setCell ⟨g, k * 2 + 1, none⟩ (.slice A2 (bs.getD k ([], [])).2.length c2)) base g n bs (k + 1) := by
  obtain ⟨cs, h1, h2⟩ := h
  have s1 := (h1.stored (k * 2) (.slice A1 (bs.getD k ([], [])).1.length c1)).1
  have s2 := (s1.stored (k * 2 + 1) (.slice A2 (bs.getD k ([], [])).2.length c2)).1
  refine ⟨_, s2, fun i hi => ?_⟩
  have hlen : cs.length = n * 2 := h1.1
  have low : ∀ {v xs}, OwnS w (g + 1) 2 v xs → OwnS ((w.setCell ⟨g, k * 2, none⟩ (.slice A1 (bs.getD k ([], [])).1.length c1)).setCell ⟨g, k * 2 + 1, none⟩ (.slice A2 (bs.getD k ([], [])).2.length c2)) (g + 1) 2 v xs :=
    fun h => (h.setLow (a := ⟨g, k * 2, none⟩) (Nat.lt_succ_self g) _).setLow (a := ⟨g, k * 2 + 1, none⟩) (Nat.lt_succ_self g) _
  by_cases e : i = k
  · subst e
    refine ⟨A1, c1, A2, c2, ?_, ?_, low o1, low o2⟩
    · rw [List.getElem?_set_ne (by omega), List.getElem?_set_self (by omega)]
    · rw [List.getElem?_set_self (by rw [List.length_set]; omega)]
  · obtain ⟨B1, d1, B2, d2, q1, q2, p1, p2⟩ := h2 i (by omega)
    refine ⟨B1, d1, B2, d2, ?_, ?_, low p1, low p2⟩
    · rw [List.getElem?_set_ne (by omega), List.getElem?_set_ne (by omega)]; exact q1
    · rw [List.getElem?_set_ne (by omega), List.getElem?_set_ne (by omega)]; exact q2
theorem OwnBs.reads {w : World} {base g n : Nat} {bs : List (List Int × List Int)} (h : OwnBs w base g n bs n) (hl : bs.length = n) (hm : ∀ b ∈ bs, b.1.length ≤ 2000000 ∧ b.2.length ≤ 2000000) : SBs w (some ⟨g, 0, none⟩) n bs := by
  have hg := h.lt.2
  obtain ⟨cs, h1, h2⟩ := h
  refine ⟨hl, fun hn => ⟨g, 0, rfl, hg, fun i hi => ?_⟩⟩
  obtain ⟨A1, c1, A2, c2, q1, q2, o1, o2⟩ := h2 i hi
  have hmi := hm (bs.getD i ([], [])) (by simp [List.getD, show i < bs.length by omega])
  refine ⟨A1, _, c1, A2, _, c2, ?_, ?_, (o1.sl rfl).1, (o2.sl rfl).1, by unfold maxLen; omega, by unfold maxLen; omega⟩
  · rw [Nat.zero_add, h1.cellAt _ (by omega), q1]
  · rw [Nat.zero_add, h1.cellAt _ (by omega), q2]

/-- A call hands back a slice of boards of the call's own. -/
def RetBS (w : World) (bs : List (List Int × List Int)) (en : Ending) (w' : World) : Prop := ∃ g, en = .returned (.slice (some ⟨g, 0, none⟩) bs.length bs.length) ∧ OwnBs w' w.heap.size g bs.length bs bs.length ∧ SBs w' (some ⟨g, 0, none⟩) bs.length bs ∧ Below w.heap.size w w'

set_option maxRecDepth 100000 in
theorem toBoardS_any (A : Option Addr) (n c : Nat) (bs : List (List Int × List Int)) (w : World) (hx : SBs w A n bs) (hn : n ≤ 2000000) (hm : ∀ b ∈ bs, b.1.length ≤ 2000000 ∧ b.2.length ≤ 2000000) :
    Calls Tryd.prog 20 #[.slice A n c] w (RetBS w bs) := by
  obtain ⟨i0, hi, hz0, hz1, hz2⟩ := info_parts Tryd.infoB
  have HX := Lib.hid hx
  have HM := Lib.hid hm
  clear hx hm
  go_enter Tryd.func20, Tryd.ntmps20
  go_wp2_with (at_make; refine wpList_make_full _ rfl _ _ 37 rfl w.heap.size 35 i0 (.agg #[.slice none 0 0, .slice none 0 0]) 2 Tryd.underlying37 hi hz0 hz1 _ _ _ _ n rfl rfl rfl rfl (by rw [hz2]; omega) (by unfold maxLen; omega) (Nat.le_refl _) ?_; intro w1 hown hgrow)
  have hb : Below w.heap.size w w1 := (Below.refl _ _).grown hgrow (Nat.le_refl _) (by simp)
  have HO : Hid (OwnBs w1 w.heap.size w.heap.size n bs 0) := ⟨_, hown, fun i hi => absurd hi (by omega)⟩
  have HB := Lib.hid hb
  clear hown hgrow hb
  have hg2 : w.heap.size < w1.heap.size := HO.out.lt.2
  go_wp2_with (fail)
  go_loopw [4] (fun i wr => ∃ k : Nat, k ≤ n ∧ i = .int .i64 k ∧ OwnBs wr w.heap.size w.heap.size n bs k ∧ Below w.heap.size w wr) (fun i _ => n - (intOf i).toNat)
  case atStart => exact ⟨0, by omega, rfl, HO.out, HB.out⟩
  case round =>
    obtain ⟨k, hk, rfl, ho, hb⟩ := hrel
    by_cases hlt : k < n
    · obtain ⟨b, off, rfl, hbl, hc⟩ := HX.out.2 (by omega)
      obtain ⟨A1, n1, c1, A2, n2, c2, q1, q2, s1, s2, _, _⟩ := hc k hlt
      replace q1 := (hb.cell (p := ⟨b, off + k * 2, none⟩) hbl).trans q1
      replace q2 := (hb.cell (p := ⟨b, off + k * 2 + 1, none⟩) hbl).trans q2
      have hmk := HM.out (bs.getD k ([], [])) (by simp [List.getD, show k < bs.length by rw [HX.out.1]; exact hlt])
      have S1 := Lib.hid (s1.keep (Nat.le_refl _) hb)
      have S2 := Lib.hid (s2.keep (Nat.le_refl _) hb)
      have hn1 : n1 ≤ 2000000 := by rw [← s1.1]; exact hmk.1
      have hn2 : n2 ≤ 2000000 := by rw [← s2.1]; exact hmk.2
      have hki : (k : Int) < (n : Int) := by omega
      have hk0 : (0 : Int) ≤ (k : Int) := by omega
      have HBr := Lib.hid hb
      have HOr := Lib.hid ho
      have hgr : w.heap.size < wr.heap.size := ho.lt.2
      clear hc hb ho s1 s2 hmk
      go_wp2_with (fail)
      refine (toBoard_any A1 A2 n1 c1 n2 c2 _ _ _ S1.out S2.out hn1 hn2).mono ?_
      rintro e w2 ⟨B1, k1, B2, k2, rfl, ho1, ho2, _, hb2⟩
      have HO2 := Lib.hid (HOr.out.below hb2)
      have HB2 := Lib.hid (HBr.out.trans (hb2.mono HBr.out.size))
      obtain ⟨u1, hu1⟩ := HO2.out.cell (k * 2) (by omega)
      obtain ⟨u2, hu2⟩ := HO2.out.cell (k * 2 + 1) (by omega)
      have f1 := HO2.out.frozen (k * 2)
      have f2 := HO2.out.frozen (k * 2 + 1)
      have HN := Lib.hid (HO2.out.step hlt (ho1.mono (by omega)) (ho2.mono (by omega)))
      have HBN := Lib.hid ((HB2.out.setCell (p := ⟨w.heap.size, k * 2, none⟩) (Nat.le_refl _) (.slice B1 (bs.getD k ([], [])).1.length k1)).setCell (p := ⟨w.heap.size, k * 2 + 1, none⟩) (Nat.le_refl _) (.slice B2 (bs.getD k ([], [])).2.length k2))
      clear ho1 ho2 hb2
      generalize (bs.getD k ([], [])).1.length = L1 at *
      generalize (bs.getD k ([], [])).2.length = L2 at *
      go_wp2_with (fail)
      go_roundw
      case rel => exact ⟨k + 1, by omega, by go_num, HN.out, HBN.out⟩
      case measure => simp [intOf]; omega
    · obtain rfl : k = n := by omega
      have HF : Hid (RetBS w bs (.returned (.slice (some ⟨w.heap.size, 0, none⟩) k k)) wr) := by
        have hl := HX.out.1
        subst hl
        exact ⟨w.heap.size, rfl, ho, ho.reads rfl HM.out, hb⟩
      clear ho hb
      go_wp2_with (fail)
      go_ret
      exact HF.out
end Go.Proofs.YtkjlafcnmniomaaDoor

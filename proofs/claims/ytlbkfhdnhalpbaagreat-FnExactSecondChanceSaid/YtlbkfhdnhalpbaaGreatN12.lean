/- Contracts of the lists of all rolls, of weights. There are no conditions. -/
import Derived.Test.YtlbkfhdnhalpbaaGreatN4
import Derived.Test.YtlbkfhdnhalpbaaGreatFr2
namespace Go.Proofs.YtlbkfhdnhalpbaaGreat
set_option linter.unusedVariables false
set_option linter.unusedSimpArgs false
open Go.RowKit Ps Ra Ex

theorem Tryz.infoR : (Tryz.prog.info? 39).map (fun i => (i.zero, i.size, i.bytes)) = some (some (.agg #[.int .i64 0, .int .i64 0]), 2, 16) := by kernel_rfl
def rollC (rs : List (Nat × Nat)) : List Value := rs.flatMap fun r => [.int .i64 r.1, .int .i64 r.2]
theorem rollC_len (rs : List (Nat × Nat)) : (rollC rs).length = rs.length * 2 := by
  induction rs with
  | nil => rfl
  | cons r rs ih => simp only [rollC, List.flatMap_cons, List.length_append, List.length_cons, List.length_nil] at ih ⊢; omega
theorem rollC_snoc (rs : List (Nat × Nat)) (a b : Nat) : rollC (rs ++ [(a, b)]) = rollC rs ++ [.int .i64 a, .int .i64 b] := by simp [rollC]
theorem rollC_get : ∀ (rs : List (Nat × Nat)) (k : Nat), k < rs.length → (rollC rs).getD (k * 2) undef = .int .i64 (rs.getD k (0, 0)).1 ∧ (rollC rs).getD (k * 2 + 1) undef = .int .i64 (rs.getD k (0, 0)).2
  | [], k, h => by simp at h
  | r :: rs, 0, _ => by simp [rollC]
  | r :: rs, k + 1, h => by
    have := rollC_get rs k (by simpa using h)
    have e : rollC (r :: rs) = .int .i64 r.1 :: .int .i64 r.2 :: rollC rs := rfl
    rw [e, show (k + 1) * 2 = k * 2 + 1 + 1 by omega, show k * 2 + 1 + 1 + 1 = (k * 2 + 1) + 1 + 1 by omega]
    simpa using this
/-- A slice of rolls of the call's own. -/
def OwnR (w : World) (base : Nat) (v : Value) (rs : List (Nat × Nat)) : Prop := w.ownsRow base 39 2 v rs.length (rollC rs)
/-- A slice of rolls outside S. -/
def RL (S : Nat → Prop) (w : World) (A : Option Addr) (n : Nat) (rs : List (Nat × Nat)) : Prop := rs.length = n ∧ SLZ 2 S w A n (rollC rs)
theorem OwnR.read {S : Nat → Prop} {w : World} {base : Nat} {v : Value} {rs : List (Nat × Nat)} (h : OwnR w base v rs) (hS : ∀ k, base ≤ k → ¬ S k) : ∃ A c, v = .slice A rs.length c ∧ RL S w A rs.length rs ∧ rs.length ≤ c := by
  obtain ⟨A, c, hv, hs, hc⟩ := row_read (S := S) h (fun k hk => hS k (World.ownsRow.lt h k hk).1) (by omega)
  exact ⟨A, c, hv, ⟨rfl, hs⟩, hc⟩
theorem RL.frm {S : Nat → Prop} {w w' : World} {A : Option Addr} {n : Nat} {rs : List (Nat × Nat)} (h : RL S w A n rs) (hf : Frm S w w') : RL S w' A n rs := ⟨h.1, h.2.frm hf⟩
theorem RL.below {S : Nat → Prop} {w w' : World} {A : Option Addr} {n : Nat} {rs : List (Nat × Nat)} (h : RL S w A n rs) (hb : Below w.heap.size w w') : RL S w' A n rs := h.frm (Frm.of_below' S hb)
theorem RL.at {S : Nat → Prop} {w : World} {A : Option Addr} {n : Nat} {rs : List (Nat × Nat)} (h : RL S w A n rs) {k : Nat} (hk : k < n) : ∃ b off, A = some ⟨b, off, none⟩ ∧ b < w.heap.size ∧
    w.cell? ⟨b, off + k * 2, none⟩ = some (.int .i64 (rs.getD k (0, 0)).1) ∧ w.cell? ⟨b, off + k * 2 + 1, none⟩ = some (.int .i64 (rs.getD k (0, 0)).2) := by
  obtain ⟨hl, _, hc⟩ := h
  obtain ⟨b, off, hA, hlt, _, hcell⟩ := hc (by omega)
  obtain ⟨e1, e2⟩ := rollC_get rs k (by omega)
  exact ⟨b, off, hA, hlt, by rw [hcell _ (by omega), e1], by rw [Nat.add_assoc, hcell _ (by omega), e2]⟩
/-- A call hands back all rolls of the list. -/
def RetR (w : World) (rs : List (Nat × Nat)) (e : Ending) (w' : World) : Prop := ∃ v, e = .returned v ∧ OwnR w' w.heap.size v rs ∧ Below w.heap.size w w'
theorem two_new (w : World) (a b : Int) (e : TypeId) : ∀ j u, [Value.int .i64 a, .int .i64 b][j]? = some u → (w.alloc (.cells #[.int .i64 a, .int .i64 b] e)).cell? ((⟨w.heap.size, 0, none⟩ : Addr).add j) = some u := by
  intro j u hu
  rw [Addr.add_lit]
  have hj : j < 2 := (List.getElem?_eq_some_iff.1 hu).1
  obtain rfl | rfl : j = 0 ∨ j = 1 := by omega
  all_goals (simp at hu; subst hu; simp [go_sem])
theorem two_cells (a b : Int) : ∀ u ∈ [Value.int .i64 a, .int .i64 b], u.oneCell' = true := fun u hu => by
  simp at hu
  rcases hu with rfl | rfl <;> rfl

theorem rolls_le {a : Nat} (h : a ≤ 6) : (rollsN a).length ≤ 21 := by
  have h1 := rollsN_length a
  have h2 : a * (a + 1) ≤ 6 * 7 := Nat.mul_le_mul h (by omega)
  omega

set_option maxHeartbeats 2000000 in
set_option maxRecDepth 10000 in
theorem l09Rolls_any (p c h : Int) (s : Nat) (w : World) (hs6 : s ≤ 6) :
    Calls Tryz.prog 135 #[.agg #[.int .i64 p, .int .i64 c, .int .i64 h, .int .i64 s]] w (RetR w (rollsN s)) := by
  obtain ⟨i0, hi, hz0, hz1, hz2⟩ := info_parts Tryz.infoR
  have HF0 := Lib.hid (((Fr.start w).allocT (by simp) #[.int .i64 p, .int .i64 c, .int .i64 h, .int .i64 s] 29))
  have HF : Hid (Fr w ((w.alloc (.cells #[.int .i64 p, .int .i64 c, .int .i64 h, .int .i64 s] 29)).alloc (.cells #[] 39)) [[.int .i64 p, .int .i64 c, .int .i64 h, .int .i64 s]]) := HF0.out.alloc _
  have HO : Hid (OwnR ((w.alloc (.cells #[.int .i64 p, .int .i64 c, .int .i64 h, .int .i64 s] 29)).alloc (.cells #[] 39)) (w.heap.size + 1) (.slice (some ⟨w.heap.size + 1, 0, none⟩) 0 0) (rollsN 0)) := by
    have := row_made (w.alloc (.cells #[.int .i64 p, .int .i64 c, .int .i64 h, .int .i64 s] 29)) (base := w.heap.size + 1) 39 (z := 2) (n := 0) #[] (by simp) (by unfold maxLen; omega) rfl
    show World.ownsRow _ _ _ 2 _ 0 []
    simpa using this
  clear HF0
  go_enter Tryz.func135, Tryz.ntmps135
  go_wp2_with (fail)
  go_loopw [3, 4, 5] (fun v va vb wr => ∃ a : Nat, a ≤ s ∧ va = .int .i64 ((a : Int) + 1) ∧ OwnR wr (w.heap.size + 1) v (rollsN a) ∧ Fr w wr [[.int .i64 p, .int .i64 c, .int .i64 h, .int .i64 s]]) (fun _ va _ _ => s + 1 - (intOf va).toNat)
  case atStart => exact ⟨0, Nat.zero_le _, rfl, HO.out, HF.out⟩
  case round =>
    obtain ⟨a, ha, rfl, hO, hF⟩ := hrel
    have HOa := Lib.hid hO
    have HFa := Lib.hid hF
    clear hO hF
    have z0 : w.heap.size < wr.heap.size := HFa.out.ltA 0 rfl (by simp)
    have c00 := HFa.out.cellA (b := w.heap.size) 0 0 rfl rfl
    have f00 := HFa.out.frozA (b := w.heap.size) 0 0 rfl rfl
    have c01 := HFa.out.cellA (b := w.heap.size) 0 1 rfl rfl
    have f01 := HFa.out.frozA (b := w.heap.size) 0 1 rfl rfl
    have c02 := HFa.out.cellA (b := w.heap.size) 0 2 rfl rfl
    have f02 := HFa.out.frozA (b := w.heap.size) 0 2 rfl rfl
    have c03 := HFa.out.cellA (b := w.heap.size) 0 3 rfl rfl
    have f03 := HFa.out.frozA (b := w.heap.size) 0 3 rfl rfl
    by_cases hlt : a < s
    ·
      have hlti : (a : Int) + 1 ≤ (s : Int) := by omega
      have HL := Lib.hid (rolls_le (a := a) (by omega))
      go_wp2_with (fail)
      obtain ⟨wo, rfl⟩ : ∃ wo : World, wo = wr := ⟨_, rfl⟩
      go_loopw [3, 5] (fun v vb wi => ∃ b : Nat, b ≤ a + 1 ∧ vb = .int .i64 ((b : Int) + 1) ∧ OwnR wi (w.heap.size + 1) v (rollsN a ++ rowN (a + 1) b) ∧ Fr w wi [[.int .i64 p, .int .i64 c, .int .i64 h, .int .i64 s]]) (fun _ vb _ => a + 2 - (intOf vb).toNat)
      case atStart => exact ⟨0, Nat.zero_le _, rfl, by rw [show rollsN a ++ rowN (a + 1) 0 = rollsN a by simp [rowN]]; exact HOa.out, HFa.out⟩
      case round =>
        clear z0 c00 c01 c02 c03 f00 f01 f02 f03
        obtain ⟨b, hb, rfl, hO, hF⟩ := hrel
        have HOb := Lib.hid hO
        have HFb := Lib.hid hF
        clear hO hF
        have z0 : w.heap.size < wr.heap.size := HFb.out.ltA 0 rfl (by simp)
        have c00 := HFb.out.cellA (b := w.heap.size) 0 0 rfl rfl
        have f00 := HFb.out.frozA (b := w.heap.size) 0 0 rfl rfl
        have c01 := HFb.out.cellA (b := w.heap.size) 0 1 rfl rfl
        have f01 := HFb.out.frozA (b := w.heap.size) 0 1 rfl rfl
        have c02 := HFb.out.cellA (b := w.heap.size) 0 2 rfl rfl
        have f02 := HFb.out.frozA (b := w.heap.size) 0 2 rfl rfl
        have c03 := HFb.out.cellA (b := w.heap.size) 0 3 rfl rfl
        have f03 := HFb.out.frozA (b := w.heap.size) 0 3 rfl rfl
        by_cases hbl : b < a + 1
        ·
          have hbi : (b : Int) + 1 ≤ (a : Int) + 1 := by omega
          have HLb : Hid ((rollsN a ++ rowN (a + 1) b).length ≤ 28) := by unfold Hid; rw [List.length_append, rowN_length]; have := HL.out; omega
          go_wp2_with (at_builtin; refine wpList_append_own _ rfl _ _ 52 rfl (w.heap.size + 1) 39 i0 (.agg #[.int .i64 0, .int .i64 0]) 2 16 Tryz.underlying52 hi hz0 hz1 hz2 rfl (by decide) _ _ _ rfl (row_alloc HOb.out _) ⟨wr.heap.size, 0, none⟩ 1 1 [.int .i64 ((a : Int) + 1), .int .i64 ((b : Int) + 1)] rfl rfl (two_new _ _ _ _) (two_cells _ _) (by have := HLb.out; unfold maxLen; omega) (by have := HLb.out; omega) (by have := HFb.out.z; simp at this; simp; omega) ?_; intro v' w1 hown hgrow _)
          have HF2 := Lib.hid ((HFb.out.alloc _).grow hgrow (row_alloc HOb.out _) (by simp))
          have HO2 : Hid (OwnR w1 (w.heap.size + 1) v' (rollsN a ++ rowN (a + 1) (b + 1))) := by
            unfold Hid OwnR
            rw [show rowN (a + 1) (b + 1) = rowN (a + 1) b ++ [(a + 1, b + 1)] from rfl, ← List.append_assoc, rollC_snoc, List.length_append]
            exact hown
          clear hown hgrow
          go_wp2_with (fail)
          go_roundw
          case rel => exact ⟨b + 1, by omega, by go_num, HO2.out, HF2.out⟩
          case measure => simp [intOf]; omega
        ·
          have hba : b = a + 1 := by omega
          subst hba
          go_wp2_with (fail)
          go_roundw
          case rel => exact ⟨a + 1, by omega, by go_num, HOb.out, HFb.out⟩
          case measure => simp [intOf]; omega
    ·
      have has : a = s := by omega
      subst has
      have HR : Hid (RetR w (rollsN a) (.returned _) wr) := ⟨_, rfl, own_base HOa.out (by omega), HFa.out.b⟩
      go_wp2_with (fail)
      go_ret
      exact HR.out
set_option maxHeartbeats 2000000 in
set_option maxRecDepth 10000 in
theorem AllRolls_any (p c h : Int) (s : Nat) (w : World) (hv : isVar p c h s = true) :
    Calls Tryz.prog 140 #[.agg #[.int .i64 p, .int .i64 c, .int .i64 h, .int .i64 s]] w (RetR w (rollsN s)) := by
  obtain ⟨i0, hi, hz0, hz1, hz2⟩ := info_parts Tryz.infoR
  have hs6 : s ≤ 6 := by have := (isVar_yes hv).2.2.2.2.2.2.2; omega
  have HF0 := Lib.hid (((Fr.start w).allocT (by simp) #[.int .i64 p, .int .i64 c, .int .i64 h, .int .i64 s] 29))
  have CV : Hid (∀ W : World, Calls Tryz.prog 98 #[.agg #[.int .i64 p, .int .i64 c, .int .i64 h, .int .i64 s]] W fun e w' => e = .returned (.bool true) ∧ Below W.heap.size W w') := fun W => by
    have := IsVariant_any p c h s W; rwa [hv] at this
  clear hv
  go_enter Tryz.func140, Tryz.ntmps140
  go_wp2_with (go_at_call 98; ((with_reducible refine (more_first (CV.out _)).mono ?_); rintro e w' ⟨rfl, t, rfl⟩))
  have HF := Lib.hid (HF0.out.more t)
  have HO : Hid (OwnR (more (w.alloc (.cells #[.int .i64 p, .int .i64 c, .int .i64 h, .int .i64 s] 29)) t) (w.heap.size + 1) (.slice none 0 0) (rollsN 0)) := World.ownsRow_nil _ _ _ _
  go_loopw [3, 4, 5] (fun v va vb wr => ∃ a : Nat, a ≤ s ∧ va = .int .i64 ((a : Int) + 1) ∧ OwnR wr (w.heap.size + 1) v (rollsN a) ∧ Fr w wr [[.int .i64 p, .int .i64 c, .int .i64 h, .int .i64 s]]) (fun _ va _ _ => s + 1 - (intOf va).toNat)
  case atStart => exact ⟨0, Nat.zero_le _, rfl, HO.out, HF.out⟩
  case round =>
    obtain ⟨a, ha, rfl, hO, hF⟩ := hrel
    have HOa := Lib.hid hO
    have HFa := Lib.hid hF
    clear hO hF
    have z0 : w.heap.size < wr.heap.size := HFa.out.ltA 0 rfl (by simp)
    have c00 := HFa.out.cellA (b := w.heap.size) 0 0 rfl rfl
    have f00 := HFa.out.frozA (b := w.heap.size) 0 0 rfl rfl
    have c01 := HFa.out.cellA (b := w.heap.size) 0 1 rfl rfl
    have f01 := HFa.out.frozA (b := w.heap.size) 0 1 rfl rfl
    have c02 := HFa.out.cellA (b := w.heap.size) 0 2 rfl rfl
    have f02 := HFa.out.frozA (b := w.heap.size) 0 2 rfl rfl
    have c03 := HFa.out.cellA (b := w.heap.size) 0 3 rfl rfl
    have f03 := HFa.out.frozA (b := w.heap.size) 0 3 rfl rfl
    by_cases hlt : a < s
    ·
      have hlti : (a : Int) + 1 ≤ (s : Int) := by omega
      have HL := Lib.hid (rolls_le (a := a) (by omega))
      go_wp2_with (fail)
      obtain ⟨wo, rfl⟩ : ∃ wo : World, wo = wr := ⟨_, rfl⟩
      go_loopw [3, 5] (fun v vb wi => ∃ b : Nat, b ≤ a + 1 ∧ vb = .int .i64 ((b : Int) + 1) ∧ OwnR wi (w.heap.size + 1) v (rollsN a ++ rowN (a + 1) b) ∧ Fr w wi [[.int .i64 p, .int .i64 c, .int .i64 h, .int .i64 s]]) (fun _ vb _ => a + 2 - (intOf vb).toNat)
      case atStart => exact ⟨0, Nat.zero_le _, rfl, by rw [show rollsN a ++ rowN (a + 1) 0 = rollsN a by simp [rowN]]; exact HOa.out, HFa.out⟩
      case round =>
        clear z0 c00 c01 c02 c03 f00 f01 f02 f03
        obtain ⟨b, hb, rfl, hO, hF⟩ := hrel
        have HOb := Lib.hid hO
        have HFb := Lib.hid hF
        clear hO hF
        have z0 : w.heap.size < wr.heap.size := HFb.out.ltA 0 rfl (by simp)
        have c00 := HFb.out.cellA (b := w.heap.size) 0 0 rfl rfl
        have f00 := HFb.out.frozA (b := w.heap.size) 0 0 rfl rfl
        have c01 := HFb.out.cellA (b := w.heap.size) 0 1 rfl rfl
        have f01 := HFb.out.frozA (b := w.heap.size) 0 1 rfl rfl
        have c02 := HFb.out.cellA (b := w.heap.size) 0 2 rfl rfl
        have f02 := HFb.out.frozA (b := w.heap.size) 0 2 rfl rfl
        have c03 := HFb.out.cellA (b := w.heap.size) 0 3 rfl rfl
        have f03 := HFb.out.frozA (b := w.heap.size) 0 3 rfl rfl
        by_cases hbl : b < a + 1
        ·
          have hbi : (b : Int) + 1 ≤ (a : Int) + 1 := by omega
          have HLb : Hid ((rollsN a ++ rowN (a + 1) b).length ≤ 28) := by unfold Hid; rw [List.length_append, rowN_length]; have := HL.out; omega
          go_wp2_with (at_builtin; refine wpList_append_own _ rfl _ _ 52 rfl (w.heap.size + 1) 39 i0 (.agg #[.int .i64 0, .int .i64 0]) 2 16 Tryz.underlying52 hi hz0 hz1 hz2 rfl (by decide) _ _ _ rfl (row_alloc HOb.out _) ⟨wr.heap.size, 0, none⟩ 1 1 [.int .i64 ((a : Int) + 1), .int .i64 ((b : Int) + 1)] rfl rfl (two_new _ _ _ _) (two_cells _ _) (by have := HLb.out; unfold maxLen; omega) (by have := HLb.out; omega) (by have := HFb.out.z; simp at this; simp; omega) ?_; intro v' w1 hown hgrow _)
          have HF2 := Lib.hid ((HFb.out.alloc _).grow hgrow (row_alloc HOb.out _) (by simp))
          have HO2 : Hid (OwnR w1 (w.heap.size + 1) v' (rollsN a ++ rowN (a + 1) (b + 1))) := by
            unfold Hid OwnR
            rw [show rowN (a + 1) (b + 1) = rowN (a + 1) b ++ [(a + 1, b + 1)] from rfl, ← List.append_assoc, rollC_snoc, List.length_append]
            exact hown
          clear hown hgrow
          go_wp2_with (fail)
          go_roundw
          case rel => exact ⟨b + 1, by omega, by go_num, HO2.out, HF2.out⟩
          case measure => simp [intOf]; omega
        ·
          have hba : b = a + 1 := by omega
          subst hba
          go_wp2_with (fail)
          go_roundw
          case rel => exact ⟨a + 1, by omega, by go_num, HOb.out, HFb.out⟩
          case measure => simp [intOf]; omega
    ·
      have has : a = s := by omega
      subst has
      have HR : Hid (RetR w (rollsN a) (.returned _) wr) := ⟨_, rfl, own_base HOa.out (by omega), HFa.out.b⟩
      go_wp2_with (fail)
      go_ret
      exact HR.out

def wgt (r : Nat × Nat) : Nat := if r.1 = r.2 then 1 else 2
theorem wgt_weight (r : Nat × Nat) : (wgt r : Int) = weight r := by unfold wgt weight; split <;> rfl
theorem wgt_bd (r : Nat × Nat) : 1 ≤ wgt r ∧ wgt r ≤ 2 := by unfold wgt; split <;> omega

theorem IsRoll_yes (p c h : Int) (s a b : Nat) (w : World) (hv : isVar p c h s = true) (hb : 1 ≤ b) (hba : b ≤ a) (has : a ≤ s) :
    Calls Tryz.prog 143 #[.agg #[.int .i64 p, .int .i64 c, .int .i64 h, .int .i64 s], .agg #[.int .i64 a, .int .i64 b]] w fun e w' => e = .returned (.bool true) ∧ Below w.heap.size w w' := by
  have CV : Hid (∀ W : World, Calls Tryz.prog 98 #[.agg #[.int .i64 p, .int .i64 c, .int .i64 h, .int .i64 s]] W fun e w' => e = .returned (.bool true) ∧ Below W.heap.size W w') := fun W => by
    have := IsVariant_any p c h s W; rwa [hv] at this
  have e1 := inB_yes (x := (a : Int)) (lo := 1) (hi := s) (by omega)
  have e2 := inB_yes (x := (b : Int)) (lo := 1) (hi := a) (by omega)
  have HB : Hid (Below w.heap.size w ((w.alloc (.cells #[.int .i64 p, .int .i64 c, .int .i64 h, .int .i64 s] 29)).alloc (.cells #[.int .i64 a, .int .i64 b] 39))) := alw ((Below.refl _ _).alloc (Nat.le_refl _) _) (Nat.le_refl _)
  clear hv
  go_enter Tryz.func143, Tryz.ntmps143
  go_wp2_with (first | (go_at_call 98; ((with_reducible refine (more_first (CV.out _)).mono ?_); rintro e w' ⟨rfl, t, rfl⟩)) | (go_at_call 166; refine (within_any _ _ _ _).mono ?_; rintro e w' ⟨rfl, rfl⟩))
  go_ret
  exact ⟨rfl, blw HB.out (Nat.le_refl _)⟩

theorem RollWeight_any (p c h : Int) (s a b : Nat) (w : World) (hv : isVar p c h s = true) (hb : 1 ≤ b) (hba : b ≤ a) (has : a ≤ s) :
    Calls Tryz.prog 164 #[.agg #[.int .i64 p, .int .i64 c, .int .i64 h, .int .i64 s], .agg #[.int .i64 a, .int .i64 b]] w fun e w' => e = .returned (.int .i64 (wgt (a, b))) ∧ Below w.heap.size w w' := by
  have CR := Lib.hid fun (W : World) => IsRoll_yes p c h s a b W hv hb hba has
  have HB : Hid (Below w.heap.size w ((w.alloc (.cells #[.int .i64 p, .int .i64 c, .int .i64 h, .int .i64 s] 29)).alloc (.cells #[.int .i64 a, .int .i64 b] 39))) := alw ((Below.refl _ _).alloc (Nat.le_refl _) _) (Nat.le_refl _)
  clear hv
  by_cases hab : a = b
  · have e1 : ((a : Int) == (b : Int)) = true := by simp [hab]
    have HW : Hid (wgt (a, b) = 1) := if_pos hab
    clear hab
    go_enter Tryz.func164, Tryz.ntmps164
    go_wp2_with (go_at_call 143; ((with_reducible refine (more_first (CR.out _)).mono ?_); rintro e w' ⟨rfl, t, rfl⟩))
    go_ret
    exact ⟨by rw [HW.out]; rfl, blw HB.out (Nat.le_refl _)⟩
  · have e1 : ((a : Int) == (b : Int)) = false := by simp; omega
    have HW : Hid (wgt (a, b) = 2) := if_neg hab
    clear hab
    go_enter Tryz.func164, Tryz.ntmps164
    go_wp2_with (go_at_call 143; ((with_reducible refine (more_first (CR.out _)).mono ?_); rintro e w' ⟨rfl, t, rfl⟩))
    go_ret
    exact ⟨by rw [HW.out]; rfl, blw HB.out (Nat.le_refl _)⟩
end Go.Proofs.YtlbkfhdnhalpbaaGreat

/- Contracts of the positions after a step, the program's. There are no conditions. -/
import Derived.Test.YtlbkfhdnhalpbaaGreatPw
import Derived.Test.YtlbkfhdnhalpbaaGreatN18
import Derived.Test.YtlbkfhdnhalpbaaGreatFr2
import Derived.Test.YtlbkfhdnhalpbaaGreatA4
namespace Go.Proofs.YtlbkfhdnhalpbaaGreat
set_option linter.unusedVariables false
set_option linter.unusedSimpArgs false
open Go.RowKit Ps

theorem Tryz.infoL : (Tryz.prog.info? 24).map (fun i => (i.zero, i.size, i.bytes)) = some (some (.slice none 0 0), 1, 24) := by kernel_rfl
theorem PV.own {S : Nat → Prop} {W : World} {base : Nat} {e : TypeId} {v : Value} {xs : List Int} (h : OwnS W base e v xs) (hS : ∀ k, base ≤ k → ¬ S k) : PV S W v xs := by
  obtain ⟨A, c, hv, hs, hc⟩ := h.read
  refine ⟨A, _, c, hv, ⟨hs, fun hn b off s hA => ?_⟩, hc⟩
  refine hS b (h.lt b ?_).1
  rw [hv, hA]; rfl
theorem OP.lt {S : Nat → Prop} {w : World} {base : Nat} {e : TypeId} {v : Value} {ps : List (List Int)} (h : OP S w base e v ps) : ∀ k, v.ownBlock = some k → base ≤ k ∧ k < w.heap.size := let ⟨_, h1, _⟩ := h; World.ownsRow.lt h1
theorem slice_cell (A : Option Addr) (n c : Nat) : ∀ u ∈ [Value.slice A n c], u.oneCell' = true := fun u hu => by simp at hu; subst hu; rfl
/-- Clone, with all that is known of the copy. -/
theorem Clone_full (A : Option Addr) (n c : Nat) (xs : List Int) (w : World) (hx : SL w A n xs) (hn : n ≤ 2000000) (hn0 : 0 < n) :
    Calls Tryz.prog 69 #[.slice A n c] w fun e w' => ∃ g c', e = .returned (.slice (some ⟨g, 0, none⟩) n c') ∧ OwnS w' w.heap.size 2 (.slice (some ⟨g, 0, none⟩) n c') xs ∧ w.heap.size ≤ g ∧ g < w'.heap.size ∧
      (∀ j, j < n → w'.cell? ⟨g, j, none⟩ = some (.int .i64 (xs.getD j 0))) ∧ (∀ j, w'.frozen? ⟨g, j, none⟩ = false) ∧ Below w.heap.size w w' := by
  refine (Clone_any A n c xs w hx hn).mono ?_
  rintro e w' ⟨A', c', he, ho, hb⟩
  have hl := hx.1
  rw [hl] at he ho
  obtain ⟨g, hA, h1, h2, h3, h4⟩ := own_form ho hn0
  subst hA
  exact ⟨g, c', he, ho, h1, h2, h3, h4, hb⟩
theorem stepsN_no {p : List Int} {d k : Nat} (h : ¬ canP p k d) : stepsN p d (k + 1) = stepsN p d k := by rw [stepsN, if_neg h, List.append_nil]
theorem stepsN_yes {p : List Int} {d k : Nat} (h : canP p k d) : stepsN p d (k + 1) = stepsN p d k ++ [stepTo p k d] := by rw [stepsN, if_pos h]
theorem stepTo_in {p : List Int} {k d : Nat} (h : d ≤ k) : stepTo p k d = (p.set k (p.getD k 0 - 1)).set (k - d) (p.getD (k - d) 0 + 1) := if_pos h
theorem stepTo_off {p : List Int} {k d : Nat} (h : ¬ d ≤ k) : stepTo p k d = p.set k (p.getD k 0 - 1) := if_neg h
theorem stepsN_len {p : List Int} {d : Nat} : ∀ k, (stepsN p d k).length ≤ k
  | 0 => Nat.le_refl _
  | k + 1 => by
    have := stepsN_len (p := p) (d := d) k
    rw [stepsN]; split <;> simp <;> omega

theorem getD_le_sum {p : List Int} (k : Nat) (h0 : ∀ x ∈ p, 0 ≤ x) : p.getD k 0 ≤ p.sum := by
  by_cases hk : k < p.length
  · have h1 := sum_take_succ p k hk
    have h2 := sum_take_nonneg p k h0
    have h3 := sum_take_le p (k + 1) h0
    omega
  · have h1 : p.getD k 0 = 0 := by simp [List.getD, List.getElem?_eq_none (by omega : p.length ≤ k)]
    have h2 := sum_nn h0
    omega


set_option maxRecDepth 100000 in
set_option maxHeartbeats 2000000 in
theorem bearoffSteps_any (S : Nat → Prop) (A : Option Addr) (n c d : Nat) (p : List Int) (w : World) (hx : SL w A n p) (h0 : ∀ x ∈ p, 0 ≤ x) (hs : p.sum ≤ 15) (hn : n ≤ 24) (hn0 : 0 < n) (hd1 : 1 ≤ d) (hd6 : d ≤ 6) (hS : ∀ k, w.heap.size ≤ k → ¬ S k) :
    Calls Tryz.prog 180 #[.slice A n c, .int .i64 d] w fun e w' => ∃ v, e = .returned v ∧ OP S w' w.heap.size 24 v (stepsL p d) ∧ Below w.heap.size w w' := by
  obtain ⟨i0, hi, hz0, hz1, hz2⟩ := info_parts Tryz.infoL
  have HX := Lib.hid hx
  have HL := Lib.hid hx.1
  have H0 := Lib.hid h0
  have HS := Lib.hid hs
  have HSS := Lib.hid hS
  have HTOP : Hid (∀ k, k < n → p.getD k 0 ≠ 0 → (topI p n = (k : Int) ↔ (p.drop (k + 1)).sum = 0)) := fun k hk hc => by
    have := topI_last h0 (show k < p.length by rw [HL.out]; exact hk) hc
    rwa [HL.out] at this
  clear hx h0 hs hS
  go_enter Tryz.func180, Tryz.ntmps180
  go_wp2_with (fail)
  refine (highest_any A n c p _ (by exact HX.out) (by omega)).mono ?_
  rintro e w' ⟨rfl, rfl⟩
  have ht : -1 ≤ topI p n ∧ topI p n ≤ 24 := by
    rcases topI_spec (p := p) (k := n) with ⟨h1, _⟩ | ⟨i, h1, h2, _⟩ <;> omega
  generalize topI p n = top at *
  go_wp2_with (fail)
  go_loopw [5, 14] (fun vo vi wr => ∃ k : Nat, k ≤ n ∧ vi = .int .i64 k ∧ (∃ vx, vx = vo ∧ OP S wr w.heap.size 24 vx (stepsN p d k)) ∧ Below w.heap.size w wr) (fun _ vi _ => n - (intOf vi).toNat)
  case atStart => exact ⟨0, by omega, rfl, ⟨_, rfl, OP.nil_ _ _ _ _⟩, Below.refl _ _⟩
  case round =>
    obtain ⟨k, hk, rfl, ⟨vx, rfl, hO⟩, hb⟩ := hrel
    have HO := Lib.hid hO
    have HB := Lib.hid hb
    clear hO hb
    by_cases hlt : k < n
    · have hki : (k : Int) < (n : Int) := by omega
      have HXr : Hid (SL wr A n p) := HX.out.below HB.out
      obtain ⟨b, off, rfl, _, hcl⟩ := HXr.out.2 (by omega)
      have hcell := hcl k hlt
      have hpx := H0.out _ (getD_mem p k (by rw [HL.out]; exact hlt))
      have hpm := getD_le_sum k H0.out
      have hps := HS.out
      have HLN : Hid ((stepsN p d k).length ≤ 24) := by unfold Hid; have := stepsN_len (p := p) (d := d) k; omega
      clear hcl
      obtain ⟨x, hx⟩ : ∃ x : Int, p.getD k 0 = x := ⟨_, rfl⟩
      rw [hx] at hcell hpx hpm
      have hx15 : x ≤ 15 := by omega
      clear hpm hps
      by_cases hx0 : x = 0
      · have HST : Hid (stepsN p d (k + 1) = stepsN p d k) := stepsN_no fun h => h.1 (by rw [hx, hx0])
        subst hx0
        go_wp2_with (fail)
        go_roundw
        case rel => exact ⟨k + 1, by omega, by go_num, ⟨_, rfl, by rw [HST.out]; exact HO.out⟩, HB.out⟩
        case measure => (simp [intOf]) <;> omega
      · have b0 : (x == 0) = false := by simp [hx0]
        have HT : Hid (top = (k : Int) ↔ (p.drop (k + 1)).sum = 0) := HTOP.out k hlt (by rw [hx]; exact hx0)
        by_cases hdk : (k : Int) + 1 < d
        · have b1 : decide ((k : Int) + 1 < (d : Int)) = true := decide_eq_true hdk
          by_cases htk : top = k
          · have b2 : ((k : Int) != top) = false := by simp [htk]
            have hcan : canP p k d := ⟨by rw [hx]; exact hx0, .inr (HT.out.1 htk)⟩
            have b3 : decide ((d : Int) ≤ k) = false := decide_eq_false (by omega)
            have HST : Hid (stepsN p d (k + 1) = stepsN p d k ++ [stepTo p k d]) := stepsN_yes hcan
            have HSP : Hid (stepTo p k d = p.set k (x - 1)) := by rw [← hx]; exact stepTo_off (by omega)
            clear htk
            go_wp2_with (fail)
            refine (Clone_full _ n c p wr (by exact HXr.out) (by omega) (by omega)).mono ?_
            rintro e w1 ⟨g, c1, rfl, ho, hg1, hg2, hcl, hfz, hb⟩
            have d1 := hcl k (by omega)
            have d2 := hfz k
            rw [hx] at d1
            have HOW := Lib.hid (ho.stored k (x - 1))
            clear hcl hfz
            have HW : Hid (Below wr.heap.size wr (w1.setCell ⟨g, k, none⟩ (.int .i64 (x - 1)))) := stw hb hg1
            have HOS : Hid (OwnS (w1.setCell ⟨g, k, none⟩ (.int .i64 (x - 1))) wr.heap.size 2 (.slice (some ⟨g, 0, none⟩) n c1) (stepTo p k d)) := by rw [HSP.out]; exact HOW.out
            obtain ⟨cs, hrow, hpv, hv3⟩ := HO.out
            have HROW := Lib.hid (row_alloc (own_below hrow HW.out) (.cells #[.slice (some ⟨g, 0, none⟩) n c1] 24))
            have HPV := Lib.hid ((hpv.frm (Frm.of_below' _ HW.out)).frm ((Frm.refl (wth S vx) _).alloc (.cells #[.slice (some ⟨g, 0, none⟩) n c1] 24)))
            have hlt := Lib.hid (HO.out.lt)
            have HPE : Hid (PVs (wth S vx) ((w1.setCell ⟨g, k, none⟩ (.int .i64 (x - 1))).alloc (.cells #[.slice (some ⟨g, 0, none⟩) n c1] 24)) [.slice (some ⟨g, 0, none⟩) n c1] [stepTo p k d]) :=
              PVs.one ((PV.own (HOS.out.alloc' _) fun q hq => by
                rintro (h' | h')
                · exact HSS.out q (by have := HB.out.size; omega) h'
                · have := (hlt.out q h').2; omega))
            have HNW : Hid (∀ j u, [Value.slice (some ⟨g, 0, none⟩) n c1][j]? = some u → ((w1.setCell ⟨g, k, none⟩ (.int .i64 (x - 1))).alloc (.cells #[.slice (some ⟨g, 0, none⟩) n c1] 24)).cell? ((⟨w1.heap.size, 0, none⟩ : Addr).add j) = some u) := by
              have h := one_new (w1.setCell ⟨g, k, none⟩ (.int .i64 (x - 1))) (.slice (some ⟨g, 0, none⟩) n c1) 24
              rw [show (w1.setCell ⟨g, k, none⟩ (.int .i64 (x - 1))).heap.size = w1.heap.size by simp] at h
              exact h
            clear hrow hpv hv3
            go_wp2_with (at_builtin; (refine wpList_append_own_at _ rfl _ _ 94 rfl w.heap.size 24 i0 (.slice none 0 0) 1 24 Tryz.underlying94 hi hz0 hz1 hz2 rfl (by decide) _ _ _ rfl HROW.out ⟨w1.heap.size, 0, none⟩ 1 1 [.slice (some ⟨g, 0, none⟩) n c1] rfl rfl HNW.out (slice_cell _ _ _) (by have := HLN.out; unfold maxLen; omega) (by have := HLN.out; omega) (by have h1 := HB.out.size; have h2 := HW.out.size; simp; omega) ?_; intro v' w2 hown hgrow _ hat))
            have HO2 : Hid (OP S w2 w.heap.size 24 v' (stepsN p d k ++ [stepTo p k d])) := OP.grew HPV.out HPE.out hown rfl hgrow hat HSS.out
            have HB2 : Hid (Below w.heap.size w w2) := ((HB.out.trans (HW.out.mono HB.out.size)).alloc (by have h1 := HB.out.size; have h2 := HW.out.size; omega) _).grown hgrow (by have h1 := HB.out.size; have h2 := HW.out.size; simp; omega) (fun q hq => by have := HROW.out; exact (World.ownsRow.lt this q hq).1)
            clear hown hgrow hat
            go_wp2_with (fail)
            go_roundw
            case rel => exact ⟨k + 1, by omega, by go_num, ⟨_, rfl, by rw [HST.out]; exact HO2.out⟩, HB2.out⟩
            case measure => (simp [intOf]) <;> omega
          · have b2 : ((k : Int) != top) = true := by simp; omega
            have HST : Hid (stepsN p d (k + 1) = stepsN p d k) := stepsN_no fun h => by
              rcases h.2 with h' | h'
              · omega
              · exact htk (HT.out.2 h')
            go_wp2_with (fail)
            go_roundw
            case rel => exact ⟨k + 1, by omega, by go_num, ⟨_, rfl, by rw [HST.out]; exact HO.out⟩, HB.out⟩
            case measure => (simp [intOf]) <;> omega
        · have b1 : decide ((k : Int) + 1 < (d : Int)) = false := decide_eq_false hdk
          have hcan : canP p k d := ⟨by rw [hx]; exact hx0, .inl (by omega)⟩
          have HST : Hid (stepsN p d (k + 1) = stepsN p d k ++ [stepTo p k d]) := stepsN_yes hcan
          by_cases hle : d ≤ k
          · have b3 : decide ((d : Int) ≤ k) = true := decide_eq_true (by omega)
            have HSP : Hid (stepTo p k d = (p.set k (x - 1)).set (k - d) (p.getD (k - d) 0 + 1)) := by rw [← hx]; exact stepTo_in hle
            have hsub : ((k : Int) - (d : Int)) = ((k - d : Nat) : Int) := by omega
            have hy0 := H0.out _ (getD_mem p (k - d) (by rw [HL.out]; omega))
            have hy1 := getD_le_sum (k - d) H0.out
            have hps := HS.out
            go_wp2_with (fail)
            refine (Clone_full _ n c p wr (by exact HXr.out) (by omega) (by omega)).mono ?_
            rintro e w1 ⟨g, c1, rfl, ho, hg1, hg2, hcl, hfz, hb⟩
            have d1 := hcl k (by omega)
            have d2 := hfz k
            rw [hx] at d1
            have d3 := hcl (k - d) (by omega)
            have d4 := hfz (k - d)
            generalize p.getD (k - d) 0 = y at *
            have hy15 : y ≤ 15 := by omega
            have hne : ¬ k - d = k := by omega
            have hne2 : ¬ k = k - d := by omega
            have HOW := Lib.hid ((ho.stored k (x - 1)).stored (k - d) (y + 1))
            clear hcl hfz
            have HW : Hid (Below wr.heap.size wr ((w1.setCell ⟨g, k, none⟩ (.int .i64 (x - 1))).setCell ⟨g, k - d, none⟩ (.int .i64 (y + 1)))) := stw (stw hb hg1) hg1
            have HOS : Hid (OwnS ((w1.setCell ⟨g, k, none⟩ (.int .i64 (x - 1))).setCell ⟨g, k - d, none⟩ (.int .i64 (y + 1))) wr.heap.size 2 (.slice (some ⟨g, 0, none⟩) n c1) (stepTo p k d)) := by rw [HSP.out]; exact HOW.out
            obtain ⟨cs, hrow, hpv, hv3⟩ := HO.out
            have HROW := Lib.hid (row_alloc (own_below hrow HW.out) (.cells #[.slice (some ⟨g, 0, none⟩) n c1] 24))
            have HPV := Lib.hid ((hpv.frm (Frm.of_below' _ HW.out)).frm ((Frm.refl (wth S vx) _).alloc (.cells #[.slice (some ⟨g, 0, none⟩) n c1] 24)))
            have hlt := Lib.hid (HO.out.lt)
            have HPE : Hid (PVs (wth S vx) (((w1.setCell ⟨g, k, none⟩ (.int .i64 (x - 1))).setCell ⟨g, k - d, none⟩ (.int .i64 (y + 1))).alloc (.cells #[.slice (some ⟨g, 0, none⟩) n c1] 24)) [.slice (some ⟨g, 0, none⟩) n c1] [stepTo p k d]) :=
              PVs.one ((PV.own (HOS.out.alloc' _) fun q hq => by
                rintro (h' | h')
                · exact HSS.out q (by have := HB.out.size; omega) h'
                · have := (hlt.out q h').2; omega))
            have HNW : Hid (∀ j u, [Value.slice (some ⟨g, 0, none⟩) n c1][j]? = some u → (((w1.setCell ⟨g, k, none⟩ (.int .i64 (x - 1))).setCell ⟨g, k - d, none⟩ (.int .i64 (y + 1))).alloc (.cells #[.slice (some ⟨g, 0, none⟩) n c1] 24)).cell? ((⟨w1.heap.size, 0, none⟩ : Addr).add j) = some u) := by
              have h := one_new ((w1.setCell ⟨g, k, none⟩ (.int .i64 (x - 1))).setCell ⟨g, k - d, none⟩ (.int .i64 (y + 1))) (.slice (some ⟨g, 0, none⟩) n c1) 24
              rw [show ((w1.setCell ⟨g, k, none⟩ (.int .i64 (x - 1))).setCell ⟨g, k - d, none⟩ (.int .i64 (y + 1))).heap.size = w1.heap.size by simp] at h
              exact h
            clear hrow hpv hv3
            go_wp2_with (at_builtin; (refine wpList_append_own_at _ rfl _ _ 94 rfl w.heap.size 24 i0 (.slice none 0 0) 1 24 Tryz.underlying94 hi hz0 hz1 hz2 rfl (by decide) _ _ _ rfl HROW.out ⟨w1.heap.size, 0, none⟩ 1 1 [.slice (some ⟨g, 0, none⟩) n c1] rfl rfl HNW.out (slice_cell _ _ _) (by have := HLN.out; unfold maxLen; omega) (by have := HLN.out; omega) (by have h1 := HB.out.size; have h2 := HW.out.size; simp; omega) ?_; intro v' w2 hown hgrow _ hat))
            have HO2 : Hid (OP S w2 w.heap.size 24 v' (stepsN p d k ++ [stepTo p k d])) := OP.grew HPV.out HPE.out hown rfl hgrow hat HSS.out
            have HB2 : Hid (Below w.heap.size w w2) := ((HB.out.trans (HW.out.mono HB.out.size)).alloc (by have h1 := HB.out.size; have h2 := HW.out.size; omega) _).grown hgrow (by have h1 := HB.out.size; have h2 := HW.out.size; simp; omega) (fun q hq => by have := HROW.out; exact (World.ownsRow.lt this q hq).1)
            clear hown hgrow hat
            go_wp2_with (fail)
            go_roundw
            case rel => exact ⟨k + 1, by omega, by go_num, ⟨_, rfl, by rw [HST.out]; exact HO2.out⟩, HB2.out⟩
            case measure => (simp [intOf]) <;> omega
          · have b3 : decide ((d : Int) ≤ k) = false := decide_eq_false (by omega)
            have HSP : Hid (stepTo p k d = p.set k (x - 1)) := by rw [← hx]; exact stepTo_off hle
            go_wp2_with (fail)
            refine (Clone_full _ n c p wr (by exact HXr.out) (by omega) (by omega)).mono ?_
            rintro e w1 ⟨g, c1, rfl, ho, hg1, hg2, hcl, hfz, hb⟩
            have d1 := hcl k (by omega)
            have d2 := hfz k
            rw [hx] at d1
            have HOW := Lib.hid (ho.stored k (x - 1))
            clear hcl hfz
            have HW : Hid (Below wr.heap.size wr (w1.setCell ⟨g, k, none⟩ (.int .i64 (x - 1)))) := stw hb hg1
            have HOS : Hid (OwnS (w1.setCell ⟨g, k, none⟩ (.int .i64 (x - 1))) wr.heap.size 2 (.slice (some ⟨g, 0, none⟩) n c1) (stepTo p k d)) := by rw [HSP.out]; exact HOW.out
            obtain ⟨cs, hrow, hpv, hv3⟩ := HO.out
            have HROW := Lib.hid (row_alloc (own_below hrow HW.out) (.cells #[.slice (some ⟨g, 0, none⟩) n c1] 24))
            have HPV := Lib.hid ((hpv.frm (Frm.of_below' _ HW.out)).frm ((Frm.refl (wth S vx) _).alloc (.cells #[.slice (some ⟨g, 0, none⟩) n c1] 24)))
            have hlt := Lib.hid (HO.out.lt)
            have HPE : Hid (PVs (wth S vx) ((w1.setCell ⟨g, k, none⟩ (.int .i64 (x - 1))).alloc (.cells #[.slice (some ⟨g, 0, none⟩) n c1] 24)) [.slice (some ⟨g, 0, none⟩) n c1] [stepTo p k d]) :=
              PVs.one ((PV.own (HOS.out.alloc' _) fun q hq => by
                rintro (h' | h')
                · exact HSS.out q (by have := HB.out.size; omega) h'
                · have := (hlt.out q h').2; omega))
            have HNW : Hid (∀ j u, [Value.slice (some ⟨g, 0, none⟩) n c1][j]? = some u → ((w1.setCell ⟨g, k, none⟩ (.int .i64 (x - 1))).alloc (.cells #[.slice (some ⟨g, 0, none⟩) n c1] 24)).cell? ((⟨w1.heap.size, 0, none⟩ : Addr).add j) = some u) := by
              have h := one_new (w1.setCell ⟨g, k, none⟩ (.int .i64 (x - 1))) (.slice (some ⟨g, 0, none⟩) n c1) 24
              rw [show (w1.setCell ⟨g, k, none⟩ (.int .i64 (x - 1))).heap.size = w1.heap.size by simp] at h
              exact h
            clear hrow hpv hv3
            go_wp2_with (at_builtin; (refine wpList_append_own_at _ rfl _ _ 94 rfl w.heap.size 24 i0 (.slice none 0 0) 1 24 Tryz.underlying94 hi hz0 hz1 hz2 rfl (by decide) _ _ _ rfl HROW.out ⟨w1.heap.size, 0, none⟩ 1 1 [.slice (some ⟨g, 0, none⟩) n c1] rfl rfl HNW.out (slice_cell _ _ _) (by have := HLN.out; unfold maxLen; omega) (by have := HLN.out; omega) (by have h1 := HB.out.size; have h2 := HW.out.size; simp; omega) ?_; intro v' w2 hown hgrow _ hat))
            have HO2 : Hid (OP S w2 w.heap.size 24 v' (stepsN p d k ++ [stepTo p k d])) := OP.grew HPV.out HPE.out hown rfl hgrow hat HSS.out
            have HB2 : Hid (Below w.heap.size w w2) := ((HB.out.trans (HW.out.mono HB.out.size)).alloc (by have h1 := HB.out.size; have h2 := HW.out.size; omega) _).grown hgrow (by have h1 := HB.out.size; have h2 := HW.out.size; simp; omega) (fun q hq => by have := HROW.out; exact (World.ownsRow.lt this q hq).1)
            clear hown hgrow hat
            go_wp2_with (fail)
            go_roundw
            case rel => exact ⟨k + 1, by omega, by go_num, ⟨_, rfl, by rw [HST.out]; exact HO2.out⟩, HB2.out⟩
            case measure => (simp [intOf]) <;> omega
    · have hkn : k = n := by omega
      subst hkn
      go_wp2_with (fail)
      go_ret
      exact ⟨_, rfl, by unfold stepsL; rw [HL.out]; exact HO.out, HB.out⟩
end Go.Proofs.YtlbkfhdnhalpbaaGreat

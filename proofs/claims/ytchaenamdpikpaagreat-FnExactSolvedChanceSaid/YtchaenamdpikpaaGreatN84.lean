/- Contracts of SolvedChance, both sides. There are no conditions. -/
import Derived.Test.YtchaenamdpikpaaGreatN83
import Derived.Test.YtchaenamdpikpaaGreatQJ
namespace Go.Proofs.YtchaenamdpikpaaGreat
set_option linter.unusedVariables false
set_option linter.unusedSimpArgs false
open Go.RowKit Ps Ra Ex

noncomputable def solR (p c h s : Int) (own other : List Int) : Int × Int × Int := if boardB p c h s own other = true then (if smB p c h s = true then (if solvB p h own other = true then numR (chS s.toNat h.toNat own other) else (0, 0, 5)) else (0, 0, 3)) else (0, 0, 1)
def cdB (p c h s : Int) (own other : List Int) : Int := if boardB p c h s own other = true then (if smB p c h s = true then 0 else 3) else 1
def evSc (va ba tu x k : Value) : Nat → Option Value
  | 0 => some va
  | 2 => some ba
  | 3 => some tu
  | 4 => some tu
  | 5 => some x
  | 6 => some k
  | _ => none
/-- What stands while the region is done: a table is made, asked for a chance; a block is made at any time. -/
structure JC (V : World) (TP : World → Value → (Nat → Prop) → Prop) (ev : Nat → Option Value) (L : Nat → Bool) (vs : Nat → Value) (W : World) : Prop where
  b : Below V.heap.size V W
  eq : ∀ i y, i < 8 → L i = true → ev i = some y → vs i = y
  al : L 7 = true → ∃ g, vs 7 = .pointer (some ⟨g, 0, none⟩) ∧ V.heap.size ≤ g ∧ Cel W g [.int .i64 0, .int .i64 0]
  ra : L 1 = true → L 3 = false → ∃ (S : Nat → Prop) (l1 hi : Nat), TP W (vs 1) S ∧ hi ≤ W.heap.size ∧ V.heap.size ≤ l1 ∧ l1 ≤ hi ∧ (∀ k, S k → l1 ≤ k ∧ k < hi) ∧ ∀ g, L 7 = true → vs 7 = .pointer (some ⟨g, 0, none⟩) → g < l1 ∨ hi ≤ g
section
variable {V W W' : World} {TP : World → Value → (Nat → Prop) → Prop} {ev : Nat → Option Value} {L L' : Nat → Bool} {vs vs' : Nat → Value} {i : Nat} {v : Value}
theorem JC.pureS (H : JC V TP ev L vs W) (hu : Upd 8 i v L vs L' vs') (hb : Below W.heap.size W W') (hst : ∀ v S, TP W v S → TP W' v S) (h1 : i ≠ 1 ∧ i ≠ 3 ∧ i ≠ 7) (hv : ∀ y, ev i = some y → v = y) : JC V TP ev L' vs' W' := by
  obtain ⟨u1, u2, u3⟩ := hu
  have e7 := u3 7 (by omega) (by omega)
  have e3 := u3 3 (by omega) (by omega)
  have e1 := u3 1 (by omega) (by omega)
  refine ⟨H.b.trans (hb.mono H.b.size), fun k y hk hl he => ?_, fun hl => ?_, fun hl hl3 => ?_⟩
  · by_cases ek : k = i
    · subst ek; rw [u2]; exact hv y he
    · rw [(u3 k hk ek).2]; exact H.eq k y hk (by rw [← (u3 k hk ek).1]; exact hl) he
  · obtain ⟨g, g1, g2, g3⟩ := H.al (by rw [← e7.1]; exact hl)
    exact ⟨g, by rw [e7.2]; exact g1, g2, g3.below hb⟩
  · obtain ⟨S, l1, hi, a1, a7, a8, a8', a9, a10⟩ := H.ra (by rw [← e1.1]; exact hl) (by rw [← e3.1]; exact hl3)
    exact ⟨S, l1, hi, by rw [e1.2]; exact hst _ _ a1, Nat.le_trans a7 hb.size, a8, a8', a9, fun g hg hg2 => a10 g (by rw [← e7.1]; exact hg) (by rw [← e7.2]; exact hg2)⟩
theorem JC.pure (H : JC V TP ev L vs W) (hu : Upd 8 i v L vs L' vs') (_ : Below W.heap.size W W) (h1 : i ≠ 1 ∧ i ≠ 3 ∧ i ≠ 7) (hv : ∀ y, ev i = some y → v = y) : JC V TP ev L' vs' W := H.pureS hu (Below.refl _ _) (fun _ _ h => h) h1 hv
theorem JC.alloc (H : JC V TP ev L vs W) (T : TypeId) (hu : Upd 8 7 (.pointer (some ⟨W.heap.size, 0, none⟩)) L vs L' vs') (he : ev 7 = none) (hst : ∀ W W' v S, TP W v S → Below W.heap.size W W' → TP W' v S) : JC V TP ev L' vs' (W.alloc (.cells #[.int .i64 0, .int .i64 0] T)) := by
  obtain ⟨u1, u2, u3⟩ := hu
  have hb : Below W.heap.size W (W.alloc (.cells #[.int .i64 0, .int .i64 0] T)) := Bel.alloc W _
  have e3 := u3 3 (by omega) (by omega)
  have e1 := u3 1 (by omega) (by omega)
  refine ⟨H.b.trans (hb.mono H.b.size), fun k y hk hl he' => ?_, fun hl => ⟨_, u2, H.b.size, Cel.new W #[.int .i64 0, .int .i64 0] T⟩, fun hl hl3 => ?_⟩
  · by_cases ek : k = 7
    · subst ek; rw [he] at he'; cases he'
    · rw [(u3 k hk ek).2]; exact H.eq k y hk (by rw [← (u3 k hk ek).1]; exact hl) he'
  · obtain ⟨S, l1, hi, a1, a7, a8, a8', a9, _⟩ := H.ra (by rw [← e1.1]; exact hl) (by rw [← e3.1]; exact hl3)
    refine ⟨S, l1, hi, by rw [e1.2]; exact hst _ _ _ _ a1 hb, Nat.le_trans a7 hb.size, a8, a8', a9, fun g _ hg2 => .inr ?_⟩
    rw [u2] at hg2
    injection hg2 with hg2
    injection hg2 with hg2
    injection hg2 with hg2
    omega
theorem JC.race (H : JC V TP ev L vs W) {S : Nat → Prop} (hu : Upd 8 1 v L vs L' vs') (hb : Below W.heap.size W W') (he : ev 1 = none) (ht : TP W' v S) (hS : ∀ k, S k → W.heap.size ≤ k ∧ k < W'.heap.size) : JC V TP ev L' vs' W' := by
  obtain ⟨u1, u2, u3⟩ := hu
  have e7 := u3 7 (by omega) (by omega)
  refine ⟨H.b.trans (hb.mono H.b.size), fun k y hk hl he' => ?_, fun hl => ?_, fun hl hl3 => ?_⟩
  · by_cases ek : k = 1
    · subst ek; rw [he] at he'; cases he'
    · rw [(u3 k hk ek).2]; exact H.eq k y hk (by rw [← (u3 k hk ek).1]; exact hl) he'
  · obtain ⟨g, g1, g2, g3⟩ := H.al (by rw [← e7.1]; exact hl)
    exact ⟨g, by rw [e7.2]; exact g1, g2, g3.below hb⟩
  · refine ⟨S, W.heap.size, W'.heap.size, by rw [u2]; exact ht, Nat.le_refl _, H.b.size, hb.size, hS, fun g hg hg2 => .inl ?_⟩
    obtain ⟨g', g1, g2, g3⟩ := H.al (by rw [← e7.1]; exact hg)
    rw [e7.2, g1] at hg2
    injection hg2 with hg2
    injection hg2 with hg2
    injection hg2 with hg2
    have := g3.lt
    omega
theorem JC.chance (H : JC V TP ev L vs W) {S : Nat → Prop} (hu : Upd 8 3 v L vs L' vs') (hf : Frm S W W') (hS : ∀ k, S k → V.heap.size ≤ k) (hg : ∀ g, L 7 = true → vs 7 = .pointer (some ⟨g, 0, none⟩) → ¬ S g) (hv : ∀ y, ev 3 = some y → v = y) : JC V TP ev L' vs' W' := by
  obtain ⟨u1, u2, u3⟩ := hu
  have e7 := u3 7 (by omega) (by omega)
  refine ⟨H.b.trans (hf.below H.b.size hS), fun k y hk hl he' => ?_, fun hl => ?_, fun _ hl3 => (by rw [u1] at hl3; cases hl3)⟩
  · by_cases ek : k = 3
    · subst ek; rw [u2]; exact hv y he'
    · rw [(u3 k hk ek).2]; exact H.eq k y hk (by rw [← (u3 k hk ek).1]; exact hl) he'
  · obtain ⟨g, g1, g2, g3⟩ := H.al (by rw [← e7.1]; exact hl)
    have hn := hg g (by rw [← e7.1]; exact hl) g1
    exact ⟨g, by rw [e7.2]; exact g1, g2, ⟨Nat.lt_of_lt_of_le g3.lt hf.size, fun i x hx => hf.cell' (g3.cell i x hx) hn, fun i x hx => (frm_froz hf g3.lt hn).trans (g3.froz i x hx)⟩⟩
end
theorem l15Code_any (p c h s ra rb : Int) (A1 A2 : Option Addr) (n1 c1 n2 c2 : Nat) (own other : List Int) (w : World) (h1 : SL w A1 n1 own) (h2 : SL w A2 n2 other) (hm1 : n1 ≤ 2000000) (hm2 : n2 ≤ 2000000) :
    Calls Tryz.prog 32 #[.agg #[.int .i64 p, .int .i64 c, .int .i64 h, .int .i64 s], .agg #[.slice A1 n1 c1, .slice A2 n2 c2], .int .i64 0, .agg #[.int .i64 ra, .int .i64 rb], .bool false] w fun e w' => e = .returned (.int .i64 (cdB p c h s own other)) ∧ Below w.heap.size w w' := by
  have HB : Hid (Below w.heap.size w (((w.alloc (.cells #[.int .i64 p, .int .i64 c, .int .i64 h, .int .i64 s] 25)).alloc (.cells #[.slice A1 n1 c1, .slice A2 n2 c2] 40)).alloc (.cells #[.int .i64 ra, .int .i64 rb] 52))) := (((Below.refl _ _).alloc (Nat.le_refl _) _).alloc (by simp) _).alloc (by simp; omega) _
  have CB := Lib.hid (sIsBoard_any p c h s A1 A2 n1 c1 n2 c2 own other _ (h1.below HB.out) (h2.below HB.out) hm1 hm2)
  have CM := Lib.hid fun (W : World) => sIsSmallVariant_any p c h s W
  have CI0 := fun (W : World) => l01In_any 0 0 2 W
  rw [show inB 0 0 2 = true from inB_yes (by omega)] at CI0
  have CI := Lib.hid CI0
  clear h1 h2 CI0
  cases hbd : boardB p c h s own other with
  | false =>
    have HR : Hid (cdB p c h s own other = 1) := by unfold Hid cdB; rw [hbd]; rfl
    rw [hbd] at CB
    clear hbd
    go_enter Tryz.func32, Tryz.ntmps32
    go_wp2_with (first | (go_at_call 67; refine (more_first CB.out).mono ?_; rintro e w' ⟨rfl, t, rfl⟩) | (go_at_call 49; refine (CI.out _).mono ?_; rintro e w' ⟨rfl, rfl⟩) | (go_at_call 68; refine (more_call (CM.out _)).mono ?_; rintro e w' ⟨rfl, t2, rfl⟩))
    go_ret
    exact ⟨by rw [HR.out]; rfl, HB.out.trans ((below_more _ _).mono HB.out.size)⟩
  | true =>
    rw [hbd] at CB
    cases hsm : smB p c h s with
    | false =>
      have HR : Hid (cdB p c h s own other = 3) := by unfold Hid cdB; rw [hbd, hsm]; rfl
      rw [hsm] at CM
      clear hbd hsm
      go_enter Tryz.func32, Tryz.ntmps32
      go_wp2_with (first | (go_at_call 67; refine (more_first CB.out).mono ?_; rintro e w' ⟨rfl, t, rfl⟩) | (go_at_call 49; refine (CI.out _).mono ?_; rintro e w' ⟨rfl, rfl⟩) | (go_at_call 68; refine (more_call (CM.out _)).mono ?_; rintro e w' ⟨rfl, t2, rfl⟩))
      go_ret
      exact ⟨by rw [HR.out]; rfl, HB.out.trans ((below_more _ _).mono HB.out.size)⟩
    | true =>
      have HR : Hid (cdB p c h s own other = 0) := by unfold Hid cdB; rw [hbd, hsm]; rfl
      rw [hsm] at CM
      clear hbd hsm
      go_enter Tryz.func32, Tryz.ntmps32
      go_wp2_with (first | (go_at_call 67; refine (more_first CB.out).mono ?_; rintro e w' ⟨rfl, t, rfl⟩) | (go_at_call 49; refine (CI.out _).mono ?_; rintro e w' ⟨rfl, rfl⟩) | (go_at_call 68; refine (more_call (CM.out _)).mono ?_; rintro e w' ⟨rfl, t2, rfl⟩))
      go_ret
      exact ⟨by rw [HR.out]; rfl, HB.out.trans ((below_more _ _).mono HB.out.size)⟩
def dsScI : Nat → Nat
  | 0 => 26
  | 1 => 27
  | 2 => 28
  | 3 => 29
  | 4 => 25
  | 5 => 30
  | 6 => 31
  | 7 => 6
  | _ => 0
def TPi (c h s : Nat) (W : World) (v : Value) (S : Nat → Prop) : Prop := ∃ t : RT, v = .pointer (some ⟨t.bt, 0, none⟩) ∧ t.c = c ∧ t.h = h ∧ t.s = s ∧ t.Ok ∧ RaceI t t.S W ∧ S = t.S
theorem TP_stbi (c h s : Nat) : ∀ W W' v S, TPi c h s W v S → Below W.heap.size W W' → TPi c h s W' v S := fun _ _ _ _ ⟨t, h1, h2, h3, h4, h5, h6, h7⟩ hb => ⟨t, h1, h2, h3, h4, h5, h6.below hb, h7⟩
set_option maxRecDepth 100000 in
set_option maxHeartbeats 2000000 in
theorem SolvedChance_any (p c h s : Int) (A1 A2 : Option Addr) (n1 c1 n2 c2 : Nat) (own other : List Int) (w : World) (hA : SL w A1 n1 own) (hB : SL w A2 n2 other) (hc1 : n1 ≤ c1) (hc2 : n2 ≤ c2) (hm1 : n1 ≤ 2000000) (hm2 : n2 ≤ 2000000) :
    Calls Tryz.prog 15 #[.agg #[.int .i64 p, .int .i64 c, .int .i64 h, .int .i64 s], .agg #[.slice A1 n1 c1, .slice A2 n2 c2]] w (RetN w (solR p c h s own other)) := by
  have HF0 : Hid (Fr w (((w.alloc (.cells #[.int .i64 p, .int .i64 c, .int .i64 h, .int .i64 s] 25)).alloc (.cells #[.slice A1 n1 c1, .slice A2 n2 c2] 40)).alloc (.cells #[.int .i64 0, .int .i64 0] 30)) [[.int .i64 p, .int .i64 c, .int .i64 h, .int .i64 s], [.slice A1 n1 c1, .slice A2 n2 c2], [.int .i64 0, .int .i64 0]]) := (((Fr.start w).allocT (by simp) _ _).allocT (by simp) _ _).allocT (by simp) _ _
  have HA0 := Lib.hid (hA.below HF0.out.b)
  have HB0 := Lib.hid (hB.below HF0.out.b)
  have HAL := Lib.hid hA.1
  have HBL := Lib.hid hB.1
  have CB := Lib.hid (IsBoard_any p c h s A1 A2 n1 c1 n2 c2 own other _ HA0.out HB0.out hm1 hm2)
  have CM := Lib.hid fun (W : World) => IsSmallVariant_any p c h s W
  clear hA hB
  cases hbd : boardB p c h s own other with
  | false =>
    have HWR : Hid (solR p c h s own other = (0, 0, 1)) := by unfold Hid solR; rw [hbd]; rfl
    rw [hbd] at CB
    clear hbd CM
    go_enter Tryz.func15, Tryz.ntmps15
    go_wp2_with (fail)
    refine (CB.out).mono ?_
    rintro e w1 ⟨rfl, hb⟩
    have HF1 := Lib.hid (HF0.out.below hb)
    have HA1 := Lib.hid (HA0.out.below hb)
    have HB1 := Lib.hid (HB0.out.below hb)
    clear hb HF0 HA0 HB0 CB
    have z0 := HF1.out.l0 (by simp)
    have c00 := HF1.out.c0 0 rfl
    have f00 := HF1.out.f0 0 rfl
    have c01 := HF1.out.c0 1 rfl
    have f01 := HF1.out.f0 1 rfl
    have c02 := HF1.out.c0 2 rfl
    have f02 := HF1.out.f0 2 rfl
    have c03 := HF1.out.c0 3 rfl
    have f03 := HF1.out.f0 3 rfl
    have z1 := HF1.out.l1 (by simp)
    have c10 := HF1.out.c1 0 rfl
    have f10 := HF1.out.f1 0 rfl
    have c11 := HF1.out.c1 1 rfl
    have f11 := HF1.out.f1 1 rfl
    have z2 := HF1.out.l2 (by simp)
    have c20 := HF1.out.c2 0 rfl
    have f20 := HF1.out.f2 0 rfl
    have c21 := HF1.out.c2 1 rfl
    have f21 := HF1.out.f2 1 rfl
    go_wp2_with (fail)
    refine bodyPost_ret (v := .tuple #[.agg #[.int .i64 0, .int .i64 0], .int .i64 1]) (by simp [results, Tryz.results15, go_sem, c20, c21, z2, f20, f21]) rfl (RetN.mk' HWR.out ?_)
    repeat (first | exact HF1.out.b | refine stw ?_ (by omega) | refine alw ?_ (by omega))
  | true =>
    cases hsm : smB p c h s with
    | false =>
      have HWR : Hid (solR p c h s own other = (0, 0, 3)) := by unfold Hid solR; rw [hbd, hsm]; rfl
      rw [hbd] at CB
      rw [hsm] at CM
      clear hbd hsm
      go_enter Tryz.func15, Tryz.ntmps15
      go_wp2_with (fail)
      refine (CB.out).mono ?_
      rintro e w1 ⟨rfl, hb⟩
      have HF1 := Lib.hid (HF0.out.below hb)
      have HA1 := Lib.hid (HA0.out.below hb)
      have HB1 := Lib.hid (HB0.out.below hb)
      clear hb HF0 HA0 HB0 CB
      have z0 := HF1.out.l0 (by simp)
      have c00 := HF1.out.c0 0 rfl
      have f00 := HF1.out.f0 0 rfl
      have c01 := HF1.out.c0 1 rfl
      have f01 := HF1.out.f0 1 rfl
      have c02 := HF1.out.c0 2 rfl
      have f02 := HF1.out.f0 2 rfl
      have c03 := HF1.out.c0 3 rfl
      have f03 := HF1.out.f0 3 rfl
      have z1 := HF1.out.l1 (by simp)
      have c10 := HF1.out.c1 0 rfl
      have f10 := HF1.out.f1 0 rfl
      have c11 := HF1.out.c1 1 rfl
      have f11 := HF1.out.f1 1 rfl
      have z2 := HF1.out.l2 (by simp)
      have c20 := HF1.out.c2 0 rfl
      have f20 := HF1.out.f2 0 rfl
      have c21 := HF1.out.c2 1 rfl
      have f21 := HF1.out.f2 1 rfl
      go_wp2_with (fail)
      refine (CM.out _).mono ?_
      rintro e w2 ⟨rfl, hb⟩
      have HF2 := Lib.hid (HF1.out.below hb)
      have HA2 := Lib.hid (HA1.out.below hb)
      have HB2 := Lib.hid (HB1.out.below hb)
      clear hb HF1 HA1 HB1 CM
      clear z0 c00 f00 c01 f01 c02 f02 c03 f03 z1 c10 f10 c11 f11 z2 c20 f20 c21 f21
      have z0 := HF2.out.l0 (by simp)
      have c00 := HF2.out.c0 0 rfl
      have f00 := HF2.out.f0 0 rfl
      have c01 := HF2.out.c0 1 rfl
      have f01 := HF2.out.f0 1 rfl
      have c02 := HF2.out.c0 2 rfl
      have f02 := HF2.out.f0 2 rfl
      have c03 := HF2.out.c0 3 rfl
      have f03 := HF2.out.f0 3 rfl
      have z1 := HF2.out.l1 (by simp)
      have c10 := HF2.out.c1 0 rfl
      have f10 := HF2.out.f1 0 rfl
      have c11 := HF2.out.c1 1 rfl
      have f11 := HF2.out.f1 1 rfl
      have z2 := HF2.out.l2 (by simp)
      have c20 := HF2.out.c2 0 rfl
      have f20 := HF2.out.f2 0 rfl
      have c21 := HF2.out.c2 1 rfl
      have f21 := HF2.out.f2 1 rfl
      go_wp2_with (fail)
      refine bodyPost_ret (v := .tuple #[.agg #[.int .i64 0, .int .i64 0], .int .i64 3]) (by simp [results, Tryz.results15, go_sem, c20, c21, z2, f20, f21]) rfl (RetN.mk' HWR.out ?_)
      repeat (first | exact HF2.out.b | refine stw ?_ (by omega) | refine alw ?_ (by omega))
    | true =>
      obtain ⟨hvv, hsd1, hsd2, _, _⟩ := board_yes hbd
      obtain ⟨hl1, hq1, hms1⟩ := sideB_yes hsd1
      obtain ⟨hl2, hq2, hms2⟩ := sideB_yes hsd2
      have hv8 := isVar_yes hvv
      obtain ⟨_, hp6, hc3, hs3⟩ := smB_yes hsm
      obtain ⟨c', rfl⟩ : ∃ c' : Nat, c = c' := ⟨c.toNat, by omega⟩
      obtain ⟨h', rfl⟩ : ∃ h' : Nat, h = h' := ⟨h.toNat, by omega⟩
      obtain ⟨s', rfl⟩ : ∃ s' : Nat, s = s' := ⟨s.toNat, by omega⟩
      have e1 : (n1 : Int) = p + 1 := by rw [← HAL.out]; exact hl1
      have e2 : (n2 : Int) = p + 1 := by rw [← HBL.out]; exact hl2
      have CS0 := fun (W : World) (hA : SL W A1 n1 own) (hB : SL W A2 n2 other) => solvedBoard_any p c' h' s' A1 A2 n1 c1 n2 c2 own other W hA hB hq1 hq2 (by omega) (by omega) (by omega) (by omega) hsm
      rw [hbd] at CB
      rw [hsm] at CM
      cases hsv : solvB p h' own other with
      | false =>
        have HWR : Hid (solR p c' h' s' own other = (0, 0, 5)) := by unfold Hid solR; rw [hbd, hsm, hsv]; rfl
        rw [hsv] at CS0
        have CS := Lib.hid CS0
        clear CS0 hbd hsm hsv hvv hsd1 hsd2 hl1 hl2 hq1 hq2 hv8
        go_enter Tryz.func15, Tryz.ntmps15
        go_wp2_with (fail)
        refine (CB.out).mono ?_
        rintro e w1 ⟨rfl, hb⟩
        have HF1 := Lib.hid (HF0.out.below hb)
        have HA1 := Lib.hid (HA0.out.below hb)
        have HB1 := Lib.hid (HB0.out.below hb)
        clear hb HF0 HA0 HB0 CB
        have z0 := HF1.out.l0 (by simp)
        have c00 := HF1.out.c0 0 rfl
        have f00 := HF1.out.f0 0 rfl
        have c01 := HF1.out.c0 1 rfl
        have f01 := HF1.out.f0 1 rfl
        have c02 := HF1.out.c0 2 rfl
        have f02 := HF1.out.f0 2 rfl
        have c03 := HF1.out.c0 3 rfl
        have f03 := HF1.out.f0 3 rfl
        have z1 := HF1.out.l1 (by simp)
        have c10 := HF1.out.c1 0 rfl
        have f10 := HF1.out.f1 0 rfl
        have c11 := HF1.out.c1 1 rfl
        have f11 := HF1.out.f1 1 rfl
        have z2 := HF1.out.l2 (by simp)
        have c20 := HF1.out.c2 0 rfl
        have f20 := HF1.out.f2 0 rfl
        have c21 := HF1.out.c2 1 rfl
        have f21 := HF1.out.f2 1 rfl
        go_wp2_with (fail)
        refine (CM.out _).mono ?_
        rintro e w2 ⟨rfl, hb⟩
        have HF2 := Lib.hid (HF1.out.below hb)
        have HA2 := Lib.hid (HA1.out.below hb)
        have HB2 := Lib.hid (HB1.out.below hb)
        clear hb HF1 HA1 HB1 CM
        clear z0 c00 f00 c01 f01 c02 f02 c03 f03 z1 c10 f10 c11 f11 z2 c20 f20 c21 f21
        have z0 := HF2.out.l0 (by simp)
        have c00 := HF2.out.c0 0 rfl
        have f00 := HF2.out.f0 0 rfl
        have c01 := HF2.out.c0 1 rfl
        have f01 := HF2.out.f0 1 rfl
        have c02 := HF2.out.c0 2 rfl
        have f02 := HF2.out.f0 2 rfl
        have c03 := HF2.out.c0 3 rfl
        have f03 := HF2.out.f0 3 rfl
        have z1 := HF2.out.l1 (by simp)
        have c10 := HF2.out.c1 0 rfl
        have f10 := HF2.out.f1 0 rfl
        have c11 := HF2.out.c1 1 rfl
        have f11 := HF2.out.f1 1 rfl
        have z2 := HF2.out.l2 (by simp)
        have c20 := HF2.out.c2 0 rfl
        have f20 := HF2.out.f2 0 rfl
        have c21 := HF2.out.c2 1 rfl
        have f21 := HF2.out.f2 1 rfl
        go_wp2_with (fail)
        refine (CS.out _ HA2.out HB2.out).mono ?_
        rintro e w3 ⟨rfl, hb⟩
        have HF3 := Lib.hid (HF2.out.below hb)
        have HA3 := Lib.hid (HA2.out.below hb)
        have HB3 := Lib.hid (HB2.out.below hb)
        clear hb HF2 HA2 HB2 CS
        clear z0 c00 f00 c01 f01 c02 f02 c03 f03 z1 c10 f10 c11 f11 z2 c20 f20 c21 f21
        have z0 := HF3.out.l0 (by simp)
        have c00 := HF3.out.c0 0 rfl
        have f00 := HF3.out.f0 0 rfl
        have c01 := HF3.out.c0 1 rfl
        have f01 := HF3.out.f0 1 rfl
        have c02 := HF3.out.c0 2 rfl
        have f02 := HF3.out.f0 2 rfl
        have c03 := HF3.out.c0 3 rfl
        have f03 := HF3.out.f0 3 rfl
        have z1 := HF3.out.l1 (by simp)
        have c10 := HF3.out.c1 0 rfl
        have f10 := HF3.out.f1 0 rfl
        have c11 := HF3.out.c1 1 rfl
        have f11 := HF3.out.f1 1 rfl
        have z2 := HF3.out.l2 (by simp)
        have c20 := HF3.out.c2 0 rfl
        have f20 := HF3.out.f2 0 rfl
        have c21 := HF3.out.c2 1 rfl
        have f21 := HF3.out.f2 1 rfl
        go_wp2_with (fail)
        refine bodyPost_ret (v := .tuple #[.agg #[.int .i64 0, .int .i64 0], .int .i64 5]) (by simp [results, Tryz.results15, go_sem, c20, c21, z2, f20, f21]) rfl (RetN.mk' HWR.out ?_)
        repeat (first | exact HF3.out.b | refine stw ?_ (by omega) | refine alw ?_ (by omega))
      | true =>
        have HW0 : Hid (solR p c' h' s' own other = numR (chS s' h' own other)) := by unfold Hid solR; rw [hbd, hsm, hsv]; simp only [Int.toNat_natCast]; rfl
        rw [hsv] at CS0
        have CS := Lib.hid CS0
        obtain ⟨b1, o1, rfl, _, _⟩ := HA0.out.2 (by omega)
        obtain ⟨b2, o2, rfl, _, _⟩ := HB0.out.2 (by omega)
        have CNEW := Lib.hid fun (W : World) => newRace_any p c' h' s' W hvv (wys_small (by omega) (by omega))
        generalize ho : chS s' h' own other = o at *
        obtain ⟨xn, hxn⟩ : ∃ x : Int, x = (o.getD ⟨0, 0⟩).num := ⟨_, rfl⟩
        obtain ⟨xd, hxd⟩ : ∃ x : Int, x = ((o.getD ⟨0, 0⟩).depth : Int) := ⟨_, rfl⟩
        obtain ⟨ok, hok⟩ : ∃ x : Bool, x = o.isSome := ⟨_, rfl⟩
        have CCH : Hid (∀ (t : RT) (W : World), t.c = c' → t.h = h' → t.s = s' → t.Ok → RaceI t t.S W → SQ t.S W (some ⟨b1, o1, none⟩) n1 own → SQ t.S W (some ⟨b2, o2, none⟩) n2 other →
            Calls Tryz.prog 39 #[.pointer (some ⟨t.bt, 0, none⟩), .agg #[.slice (some ⟨b1, o1, none⟩) n1 c1, .slice (some ⟨b2, o2, none⟩) n2 c2]] W fun e W' => e = .returned (.tuple #[.agg #[.int .i64 xn, .int .i64 xd], .bool ok]) ∧ Frm t.S W W') := fun t W hc' hh' hs' hok' hI hA hB => by
          subst hc' hh' hs'
          have := solvedChance_any t hok' b1 o1 n1 c1 b2 o2 n2 c2 W hI hA hB (by omega) (by omega) hc1 hc2 (by omega) (by omega) hq1 hq2 (by omega) (by omega)
          rw [ho] at this
          rw [hxn, hxd, hok]
          exact this.mono fun e W' h => ⟨h.1, h.2.2⟩
        clear CS0 hbd hsm hsv hvv hsd1 hsd2 hl1 hl2 hq1 hq2 ho
        have HXN := Lib.hid hxn
        have HXD := Lib.hid hxd
        have HOK := Lib.hid hok
        clear hxn hxd hok
        go_enter Tryz.func15, Tryz.ntmps15
        go_wp2_with (fail)
        refine (CB.out).mono ?_
        rintro e w1 ⟨rfl, hb⟩
        have HF1 := Lib.hid (HF0.out.below hb)
        have HA1 := Lib.hid (HA0.out.below hb)
        have HB1 := Lib.hid (HB0.out.below hb)
        clear hb HF0 HA0 HB0 CB
        have z0 := HF1.out.l0 (by simp)
        have c00 := HF1.out.c0 0 rfl
        have f00 := HF1.out.f0 0 rfl
        have c01 := HF1.out.c0 1 rfl
        have f01 := HF1.out.f0 1 rfl
        have c02 := HF1.out.c0 2 rfl
        have f02 := HF1.out.f0 2 rfl
        have c03 := HF1.out.c0 3 rfl
        have f03 := HF1.out.f0 3 rfl
        have z1 := HF1.out.l1 (by simp)
        have c10 := HF1.out.c1 0 rfl
        have f10 := HF1.out.f1 0 rfl
        have c11 := HF1.out.c1 1 rfl
        have f11 := HF1.out.f1 1 rfl
        have z2 := HF1.out.l2 (by simp)
        have c20 := HF1.out.c2 0 rfl
        have f20 := HF1.out.f2 0 rfl
        have c21 := HF1.out.c2 1 rfl
        have f21 := HF1.out.f2 1 rfl
        go_wp2_with (fail)
        refine (CM.out _).mono ?_
        rintro e w2 ⟨rfl, hb⟩
        have HF2 := Lib.hid (HF1.out.below hb)
        have HA2 := Lib.hid (HA1.out.below hb)
        have HB2 := Lib.hid (HB1.out.below hb)
        clear hb HF1 HA1 HB1 CM
        clear z0 c00 f00 c01 f01 c02 f02 c03 f03 z1 c10 f10 c11 f11 z2 c20 f20 c21 f21
        have z0 := HF2.out.l0 (by simp)
        have c00 := HF2.out.c0 0 rfl
        have f00 := HF2.out.f0 0 rfl
        have c01 := HF2.out.c0 1 rfl
        have f01 := HF2.out.f0 1 rfl
        have c02 := HF2.out.c0 2 rfl
        have f02 := HF2.out.f0 2 rfl
        have c03 := HF2.out.c0 3 rfl
        have f03 := HF2.out.f0 3 rfl
        have z1 := HF2.out.l1 (by simp)
        have c10 := HF2.out.c1 0 rfl
        have f10 := HF2.out.f1 0 rfl
        have c11 := HF2.out.c1 1 rfl
        have f11 := HF2.out.f1 1 rfl
        have z2 := HF2.out.l2 (by simp)
        have c20 := HF2.out.c2 0 rfl
        have f20 := HF2.out.f2 0 rfl
        have c21 := HF2.out.c2 1 rfl
        have f21 := HF2.out.f2 1 rfl
        go_wp2_with (fail)
        refine (CS.out _ HA2.out HB2.out).mono ?_
        rintro e w3 ⟨rfl, hb⟩
        have HF3 := Lib.hid (HF2.out.below hb)
        have HA3 := Lib.hid (HA2.out.below hb)
        have HB3 := Lib.hid (HB2.out.below hb)
        clear hb HF2 HA2 HB2 CS
        clear z0 c00 f00 c01 f01 c02 f02 c03 f03 z1 c10 f10 c11 f11 z2 c20 f20 c21 f21
        have z0 := HF3.out.l0 (by simp)
        have c00 := HF3.out.c0 0 rfl
        have f00 := HF3.out.f0 0 rfl
        have c01 := HF3.out.c0 1 rfl
        have f01 := HF3.out.f0 1 rfl
        have c02 := HF3.out.c0 2 rfl
        have f02 := HF3.out.f0 2 rfl
        have c03 := HF3.out.c0 3 rfl
        have f03 := HF3.out.f0 3 rfl
        have z1 := HF3.out.l1 (by simp)
        have c10 := HF3.out.c1 0 rfl
        have f10 := HF3.out.f1 0 rfl
        have c11 := HF3.out.c1 1 rfl
        have f11 := HF3.out.f1 1 rfl
        have z2 := HF3.out.l2 (by simp)
        have c20 := HF3.out.c2 0 rfl
        have f20 := HF3.out.f2 0 rfl
        have c21 := HF3.out.c2 1 rfl
        have f21 := HF3.out.f2 1 rfl
        go_wp2_with (fail)
        clear z0 c00 f00 c01 f01 c02 f02 c03 f03 z1 c10 f10 c11 f11 z2 c20 f20 c21 f21
        have C0 : Hid (Cel w3 w.heap.size [.int .i64 p, .int .i64 c', .int .i64 h', .int .i64 s']) := ⟨HF3.out.l0 (by simp), fun i x hx => HF3.out.c0 i (by simpa [frAt] using hx), fun i x hx => HF3.out.f0 i (v := x) (by simpa [frAt] using hx)⟩
        have C1 : Hid (Cel w3 (w.heap.size + 1) [.slice (some ⟨b1, o1, none⟩) n1 c1, .slice (some ⟨b2, o2, none⟩) n2 c2]) := ⟨HF3.out.l1 (by simp), fun i x hx => HF3.out.c1 i (by simpa [frAt] using hx), fun i x hx => HF3.out.f1 i (v := x) (by simpa [frAt] using hx)⟩
        generalize w3 = V at *
        have HJ : Hid (∀ vs, JC V (TPi c' h' s') (evSc (.agg #[.int .i64 p, .int .i64 (c' : Int), .int .i64 (h' : Int), .int .i64 (s' : Int)]) (.agg #[.slice (some ⟨b1, o1, none⟩) n1 c1, .slice (some ⟨b2, o2, none⟩) n2 c2]) (.tuple #[.agg #[.int .i64 xn, .int .i64 xd], .bool ok]) (.agg #[.int .i64 xn, .int .i64 xd]) (.bool ok)) (fun _ => false) vs { V with drawn := V.drawn + 1 }) := fun vs => ⟨Bel.drew _, fun _ _ _ h => (by cases h), fun h => (by cases h), fun h => (by cases h)⟩
        refine wp_region_inv 8 (fun i => i == 6) dsScI (JC V (TPi c' h' s') (evSc (.agg #[.int .i64 p, .int .i64 (c' : Int), .int .i64 (h' : Int), .int .i64 (s' : Int)]) (.agg #[.slice (some ⟨b1, o1, none⟩) n1 c1, .slice (some ⟨b2, o2, none⟩) n2 c2]) (.tuple #[.agg #[.int .i64 xn, .int .i64 xd], .bool ok]) (.agg #[.int .i64 xn, .int .i64 xd]) (.bool ok))) (by kernel_rfl) (by kernel_rfl) (fun _ _ _ _ _ h => h) HJ.out ?_ ?_ ?_
        · intro i op hi hX ho Ls a' W H hun hfar hdep
          have hi8 : i = 6 := by simpa using hX
          clear hX hi hfar
          subst hi8
          simp at ho
          subst ho
          have d1 : a'.tmps.getD 25 undef = .tuple #[.agg #[.int .i64 xn, .int .i64 xd], .bool ok] := H.eq 4 _ (by omega) (hdep 4 (by omega) (by kernel_rfl)) rfl
          exact ⟨.bool ok, fun W' => by simp only [execOp, Act.eval, d1]; go_simp, fun L' vs' hu => H.pure hu (Below.refl _ _) (by decide) (fun y hy => by injection hy)⟩
        · intro i op hi hX ho Ls a' W H hun hfar hdep
          have e2 : a'.tmps.getD 2 undef = .pointer (some ⟨w.heap.size, 0, none⟩) := (hfar 2 (by decide)).trans rfl
          have e3 : a'.tmps.getD 3 undef = .pointer (some ⟨w.heap.size + 1, 0, none⟩) := (hfar 3 (by decide)).trans rfl
          have hi8 : i = 0 ∨ i = 1 ∨ i = 2 ∨ i = 3 ∨ i = 4 ∨ i = 5 ∨ i = 7 := by simp at hX; omega
          clear hX hi hfar
          rcases hi8 with rfl | rfl | rfl | rfl | rfl | rfl | rfl
          all_goals (simp at ho; subst ho)
          · have zz := C0.out.below H.b
            have z0 := zz.cell 0 _ rfl
            have z1 := zz.cell 1 _ rfl
            have z2 := zz.cell 2 _ rfl
            have z3 := zz.cell 3 _ rfl
            exact .inl ⟨.agg #[.int .i64 p, .int .i64 (c' : Int), .int .i64 (h' : Int), .int .i64 (s' : Int)], W, by simp only [execOp, Act.eval, e2]; go_simp, fun L' vs' hu => H.pure hu (Below.refl _ _) (by decide) (fun y hy => by injection hy)⟩
          · have d1 : a'.tmps.getD 26 undef = .agg #[.int .i64 p, .int .i64 (c' : Int), .int .i64 (h' : Int), .int .i64 (s' : Int)] := H.eq 0 _ (by omega) (hdep 0 (by omega) (by kernel_rfl)) rfl
            refine .inr ⟨27, #[.agg #[.int .i64 p, .int .i64 (c' : Int), .int .i64 (h' : Int), .int .i64 (s' : Int)]], by simp only [execOp, Act.eval, d1]; go_simp, ?_⟩
            refine (CNEW.out W).mono ?_
            rintro e W' ⟨t, _, hc', hh', hs', rfl, hok', hI, hlow, _, hb'⟩
            exact ⟨_, rfl, fun L' vs' hu => H.race hu hb' rfl ⟨t, rfl, hc', hh', hs', hok', hI, rfl⟩ (fun k hk => ⟨hlow k hk, hI.ltS k hk⟩)⟩
          · have zz := C1.out.below H.b
            have z0 := zz.cell 0 _ rfl
            have z1 := zz.cell 1 _ rfl
            exact .inl ⟨.agg #[.slice (some ⟨b1, o1, none⟩) n1 c1, .slice (some ⟨b2, o2, none⟩) n2 c2], W, by simp only [execOp, Act.eval, e3]; go_simp, fun L' vs' hu => H.pure hu (Below.refl _ _) (by decide) (fun y hy => by injection hy)⟩
          · obtain ⟨S, l1, hi, ⟨t, d1, hc', hh', hs', hok', hI, hS⟩, a7, a8, a8', a9, a10⟩ := H.ra (hdep 1 (by omega) (by kernel_rfl)) hun
            subst hS
            replace d1 : a'.tmps.getD 27 undef = .pointer (some ⟨t.bt, 0, none⟩) := d1
            have d2 : a'.tmps.getD 28 undef = .agg #[.slice (some ⟨b1, o1, none⟩) n1 c1, .slice (some ⟨b2, o2, none⟩) n2 c2] := H.eq 2 _ (by omega) (hdep 2 (by omega) (by kernel_rfl)) rfl
            have hlo : ∀ k, t.S k → V.heap.size ≤ k := fun k hk => Nat.le_trans a8 (a9 k hk).1
            refine .inr ⟨39, #[.pointer (some ⟨t.bt, 0, none⟩), .agg #[.slice (some ⟨b1, o1, none⟩) n1 c1, .slice (some ⟨b2, o2, none⟩) n2 c2]], by simp only [execOp, Act.eval, d1, d2]; go_simp, ?_⟩
            refine (CCH.out t W hc' hh' hs' hok' hI ((SQ.of_sl HA3.out hlo).below H.b) ((SQ.of_sl HB3.out hlo).below H.b)).mono ?_
            rintro e W' ⟨rfl, hf'⟩
            exact ⟨_, rfl, fun L' vs' hu => H.chance hu hf' hlo (fun g hg hg2 hSg => by have := a9 g hSg; rcases a10 g hg hg2 with h | h <;> omega) (fun y hy => by injection hy)⟩
          · have d1 : a'.tmps.getD 29 undef = .tuple #[.agg #[.int .i64 xn, .int .i64 xd], .bool ok] := H.eq 3 _ (by omega) (hdep 3 (by omega) (by kernel_rfl)) rfl
            exact .inl ⟨.tuple #[.agg #[.int .i64 xn, .int .i64 xd], .bool ok], W, by simp only [execOp, Act.eval, d1]; go_simp, fun L' vs' hu => H.pure hu (Below.refl _ _) (by decide) (fun y hy => by injection hy)⟩
          · have d1 : a'.tmps.getD 25 undef = .tuple #[.agg #[.int .i64 xn, .int .i64 xd], .bool ok] := H.eq 4 _ (by omega) (hdep 4 (by omega) (by kernel_rfl)) rfl
            exact .inl ⟨.agg #[.int .i64 xn, .int .i64 xd], W, by simp only [execOp, Act.eval, d1]; go_simp, fun L' vs' hu => H.pure hu (Below.refl _ _) (by decide) (fun y hy => by injection hy)⟩
          · exact .inl ⟨.pointer (some ⟨W.heap.size, 0, none⟩), W.alloc (.cells #[.int .i64 0, .int .i64 0] 30), by kernel_rfl, fun L' vs' hu => H.alloc _ hu rfl (TP_stbi _ _ _)⟩
        intro Ls v W2 hall H
        have g0 : v 0 = .agg #[.int .i64 p, .int .i64 (c' : Int), .int .i64 (h' : Int), .int .i64 (s' : Int)] := H.eq 0 _ (by omega) (hall 0 (by omega)) rfl
        have g2 : v 2 = .agg #[.slice (some ⟨b1, o1, none⟩) n1 c1, .slice (some ⟨b2, o2, none⟩) n2 c2] := H.eq 2 _ (by omega) (hall 2 (by omega)) rfl
        have g3 : v 3 = .tuple #[.agg #[.int .i64 xn, .int .i64 xd], .bool ok] := H.eq 3 _ (by omega) (hall 3 (by omega)) rfl
        have g4 : v 4 = .tuple #[.agg #[.int .i64 xn, .int .i64 xd], .bool ok] := H.eq 4 _ (by omega) (hall 4 (by omega)) rfl
        have g5 : v 5 = .agg #[.int .i64 xn, .int .i64 xd] := H.eq 5 _ (by omega) (hall 5 (by omega)) rfl
        have g6 : v 6 = .bool ok := H.eq 6 _ (by omega) (hall 6 (by omega)) rfl
        obtain ⟨t1, g1⟩ : ∃ t1, v 1 = t1 := ⟨_, rfl⟩
        obtain ⟨g, g7, gl, AL⟩ := H.al (hall 7 (by omega))
        have hW := Lib.hid H.b
        simp only [List.drop_succ_cons, List.drop_zero, putV, dsScI, g0, g1, g2, g3, g4, g5, g6, g7, Act.put]
        clear g0 g1 g2 g3 g4 g5 g6 g7 H hall C0 C1 CNEW CCH HA3 HB3
        have hzV : w.heap.size + 3 ≤ V.heap.size := by have := HF3.out.z; simpa using this
        have HFZ := Lib.hid (HF3.out.below hW.out)
        clear HF3
        have y0 := AL.cell 0 _ rfl
        have y1 := AL.cell 1 _ rfl
        have q0 := AL.froz 0 _ rfl
        have q1 := AL.froz 1 _ rfl
        have yl := AL.lt
        have HALC := Lib.hid AL
        clear AL
        have hn2 : g ≠ w.heap.size + 1 + 1 := by omega
        have hn2' : w.heap.size + 1 + 1 ≠ g := by omega
        have z0 := HFZ.out.l0 (by simp)
        have c00 := HFZ.out.c0 0 rfl
        have f00 := HFZ.out.f0 0 rfl
        have c01 := HFZ.out.c0 1 rfl
        have f01 := HFZ.out.f0 1 rfl
        have c02 := HFZ.out.c0 2 rfl
        have f02 := HFZ.out.f0 2 rfl
        have c03 := HFZ.out.c0 3 rfl
        have f03 := HFZ.out.f0 3 rfl
        have z1 := HFZ.out.l1 (by simp)
        have c10 := HFZ.out.c1 0 rfl
        have f10 := HFZ.out.f1 0 rfl
        have c11 := HFZ.out.c1 1 rfl
        have f11 := HFZ.out.f1 1 rfl
        have z2 := HFZ.out.l2 (by simp)
        have c20 := HFZ.out.c2 0 rfl
        have f20 := HFZ.out.f2 0 rfl
        have c21 := HFZ.out.c2 1 rfl
        have f21 := HFZ.out.f2 1 rfl
        rcases o with _ | ⟨yn, yd⟩
        · have HWR : Hid (solR p c' h' s' own other = (0, 0, 3)) := HW0.out
          obtain rfl : ok = false := HOK.out
          go_wp2_with (fail)
          refine bodyPost_ret (v := .tuple #[.agg #[.int .i64 0, .int .i64 0], .int .i64 3]) (by simp [results, Tryz.results15, go_sem, c20, c21, z2, f20, f21]) rfl (RetN.mk' HWR.out ?_)
          repeat (first | exact HFZ.out.b | refine stw ?_ (by omega) | refine alw ?_ (by omega))
        · have HWR : Hid (solR p c' h' s' own other = (xn, xd, 0)) := by unfold Hid; rw [HW0.out, HXN.out, HXD.out]; rfl
          obtain rfl : ok = true := HOK.out
          go_wp2_with (fail)
          refine bodyPost_ret (v := .tuple #[.agg #[.int .i64 xn, .int .i64 xd], .int .i64 0]) (by simp [results, Tryz.results15, go_sem, c20, c21, z2, f20, f21]) rfl (RetN.mk' HWR.out ?_)
          repeat (first | exact HFZ.out.b | refine stw ?_ (by omega) | refine alw ?_ (by omega))
def dsScS : Nat → Nat
  | 0 => 23
  | 1 => 24
  | 2 => 25
  | 3 => 26
  | 4 => 22
  | 5 => 27
  | 6 => 28
  | 7 => 7
  | _ => 0
def TPs (c h s : Nat) (W : World) (v : Value) (S : Nat → Prop) : Prop := ∃ t : RT2, v = .pointer (some ⟨t.bt, 0, none⟩) ∧ t.c = c ∧ t.h = h ∧ t.s = s ∧ t.Ok ∧ TabI t W ∧ S = t.S
theorem TP_stbs (c h s : Nat) : ∀ W W' v S, TPs c h s W v S → Below W.heap.size W W' → TPs c h s W' v S := fun _ _ _ _ ⟨t, h1, h2, h3, h4, h5, h6, h7⟩ hb => ⟨t, h1, h2, h3, h4, h5, h6.below hb, h7⟩
set_option maxRecDepth 100000 in
set_option maxHeartbeats 2000000 in
theorem sSolvedChance_any (p c h s : Int) (A1 A2 : Option Addr) (n1 c1 n2 c2 : Nat) (own other : List Int) (w : World) (hA : SL w A1 n1 own) (hB : SL w A2 n2 other) (hc1 : n1 ≤ c1) (hc2 : n2 ≤ c2) (hm1 : n1 ≤ 2000000) (hm2 : n2 ≤ 2000000) :
    Calls Tryz.prog 12 #[.agg #[.int .i64 p, .int .i64 c, .int .i64 h, .int .i64 s], .agg #[.slice A1 n1 c1, .slice A2 n2 c2]] w (RetN w (solR p c h s own other)) := by
  have HF0 : Hid (Fr w (((w.alloc (.cells #[.int .i64 p, .int .i64 c, .int .i64 h, .int .i64 s] 25)).alloc (.cells #[.slice A1 n1 c1, .slice A2 n2 c2] 40)).alloc (.cells #[.int .i64 0, .int .i64 0] 30)) [[.int .i64 p, .int .i64 c, .int .i64 h, .int .i64 s], [.slice A1 n1 c1, .slice A2 n2 c2], [.int .i64 0, .int .i64 0]]) := (((Fr.start w).allocT (by simp) _ _).allocT (by simp) _ _).allocT (by simp) _ _
  have HA0 := Lib.hid (hA.below HF0.out.b)
  have HB0 := Lib.hid (hB.below HF0.out.b)
  have HAL := Lib.hid hA.1
  have HBL := Lib.hid hB.1
  have CB := Lib.hid (l15Code_any p c h s 0 0 A1 A2 n1 c1 n2 c2 own other _ HA0.out HB0.out hm1 hm2)
  clear hA hB
  cases hbd : boardB p c h s own other with
  | false =>
    have HWR : Hid (solR p c h s own other = (0, 0, 1)) := by unfold Hid solR; rw [hbd]; rfl
    have hcd : cdB p c h s own other = 1 := by unfold cdB; rw [hbd]; rfl
    rw [hcd] at CB
    clear hbd hcd
    go_enter Tryz.func12, Tryz.ntmps12
    go_wp2_with (fail)
    refine (CB.out).mono ?_
    rintro e w2 ⟨rfl, hb⟩
    have HF2 := Lib.hid (HF0.out.below hb)
    have HA2 := Lib.hid (HA0.out.below hb)
    have HB2 := Lib.hid (HB0.out.below hb)
    clear hb HF0 HA0 HB0 CB
    have z0 := HF2.out.l0 (by simp)
    have c00 := HF2.out.c0 0 rfl
    have f00 := HF2.out.f0 0 rfl
    have c01 := HF2.out.c0 1 rfl
    have f01 := HF2.out.f0 1 rfl
    have c02 := HF2.out.c0 2 rfl
    have f02 := HF2.out.f0 2 rfl
    have c03 := HF2.out.c0 3 rfl
    have f03 := HF2.out.f0 3 rfl
    have z1 := HF2.out.l1 (by simp)
    have c10 := HF2.out.c1 0 rfl
    have f10 := HF2.out.f1 0 rfl
    have c11 := HF2.out.c1 1 rfl
    have f11 := HF2.out.f1 1 rfl
    have z2 := HF2.out.l2 (by simp)
    have c20 := HF2.out.c2 0 rfl
    have f20 := HF2.out.f2 0 rfl
    have c21 := HF2.out.c2 1 rfl
    have f21 := HF2.out.f2 1 rfl
    go_wp2_with (fail)
    refine bodyPost_ret (v := .tuple #[.agg #[.int .i64 0, .int .i64 0], .int .i64 1]) (by simp [results, Tryz.results12, go_sem, c20, c21, z2, f20, f21]) rfl (RetN.mk' HWR.out ?_)
    repeat (first | exact HF2.out.b | refine stw ?_ (by omega) | refine alw ?_ (by omega))
  | true =>
    cases hsm : smB p c h s with
    | false =>
      have HWR : Hid (solR p c h s own other = (0, 0, 3)) := by unfold Hid solR; rw [hbd, hsm]; rfl
      have hcd : cdB p c h s own other = 3 := by unfold cdB; rw [hbd, hsm]; rfl
      rw [hcd] at CB
      clear hbd hsm hcd
      go_enter Tryz.func12, Tryz.ntmps12
      go_wp2_with (fail)
      refine (CB.out).mono ?_
      rintro e w2 ⟨rfl, hb⟩
      have HF2 := Lib.hid (HF0.out.below hb)
      have HA2 := Lib.hid (HA0.out.below hb)
      have HB2 := Lib.hid (HB0.out.below hb)
      clear hb HF0 HA0 HB0 CB
      have z0 := HF2.out.l0 (by simp)
      have c00 := HF2.out.c0 0 rfl
      have f00 := HF2.out.f0 0 rfl
      have c01 := HF2.out.c0 1 rfl
      have f01 := HF2.out.f0 1 rfl
      have c02 := HF2.out.c0 2 rfl
      have f02 := HF2.out.f0 2 rfl
      have c03 := HF2.out.c0 3 rfl
      have f03 := HF2.out.f0 3 rfl
      have z1 := HF2.out.l1 (by simp)
      have c10 := HF2.out.c1 0 rfl
      have f10 := HF2.out.f1 0 rfl
      have c11 := HF2.out.c1 1 rfl
      have f11 := HF2.out.f1 1 rfl
      have z2 := HF2.out.l2 (by simp)
      have c20 := HF2.out.c2 0 rfl
      have f20 := HF2.out.f2 0 rfl
      have c21 := HF2.out.c2 1 rfl
      have f21 := HF2.out.f2 1 rfl
      go_wp2_with (fail)
      refine bodyPost_ret (v := .tuple #[.agg #[.int .i64 0, .int .i64 0], .int .i64 3]) (by simp [results, Tryz.results12, go_sem, c20, c21, z2, f20, f21]) rfl (RetN.mk' HWR.out ?_)
      repeat (first | exact HF2.out.b | refine stw ?_ (by omega) | refine alw ?_ (by omega))
    | true =>
      obtain ⟨hvv, hsd1, hsd2, _, _⟩ := board_yes hbd
      obtain ⟨hl1, hq1, hms1⟩ := sideB_yes hsd1
      obtain ⟨hl2, hq2, hms2⟩ := sideB_yes hsd2
      have hv8 := isVar_yes hvv
      obtain ⟨_, hp6, hc3, hs3⟩ := smB_yes hsm
      obtain ⟨c', rfl⟩ : ∃ c' : Nat, c = c' := ⟨c.toNat, by omega⟩
      obtain ⟨h', rfl⟩ : ∃ h' : Nat, h = h' := ⟨h.toNat, by omega⟩
      obtain ⟨s', rfl⟩ : ∃ s' : Nat, s = s' := ⟨s.toNat, by omega⟩
      have e1 : (n1 : Int) = p + 1 := by rw [← HAL.out]; exact hl1
      have e2 : (n2 : Int) = p + 1 := by rw [← HBL.out]; exact hl2
      have CS0 := fun (W : World) (hA : SL W A1 n1 own) (hB : SL W A2 n2 other) => l15Solved_any p c' h' s' A1 A2 n1 c1 n2 c2 own other W hA hB hq1 hq2 (by omega) (by omega) (by omega) (by omega) hsm
      have hcd : cdB p c' h' s' own other = 0 := by unfold cdB; rw [hbd, hsm]; rfl
      rw [hcd] at CB
      clear hcd
      cases hsv : solvB p h' own other with
      | false =>
        have HWR : Hid (solR p c' h' s' own other = (0, 0, 5)) := by unfold Hid solR; rw [hbd, hsm, hsv]; rfl
        rw [hsv] at CS0
        have CS := Lib.hid CS0
        clear CS0 hbd hsm hsv hvv hsd1 hsd2 hl1 hl2 hq1 hq2 hv8
        go_enter Tryz.func12, Tryz.ntmps12
        go_wp2_with (fail)
        refine (CB.out).mono ?_
        rintro e w2 ⟨rfl, hb⟩
        have HF2 := Lib.hid (HF0.out.below hb)
        have HA2 := Lib.hid (HA0.out.below hb)
        have HB2 := Lib.hid (HB0.out.below hb)
        clear hb HF0 HA0 HB0 CB
        have z0 := HF2.out.l0 (by simp)
        have c00 := HF2.out.c0 0 rfl
        have f00 := HF2.out.f0 0 rfl
        have c01 := HF2.out.c0 1 rfl
        have f01 := HF2.out.f0 1 rfl
        have c02 := HF2.out.c0 2 rfl
        have f02 := HF2.out.f0 2 rfl
        have c03 := HF2.out.c0 3 rfl
        have f03 := HF2.out.f0 3 rfl
        have z1 := HF2.out.l1 (by simp)
        have c10 := HF2.out.c1 0 rfl
        have f10 := HF2.out.f1 0 rfl
        have c11 := HF2.out.c1 1 rfl
        have f11 := HF2.out.f1 1 rfl
        have z2 := HF2.out.l2 (by simp)
        have c20 := HF2.out.c2 0 rfl
        have f20 := HF2.out.f2 0 rfl
        have c21 := HF2.out.c2 1 rfl
        have f21 := HF2.out.f2 1 rfl
        go_wp2_with (fail)
        refine (CS.out _ HA2.out HB2.out).mono ?_
        rintro e w3 ⟨rfl, hb⟩
        have HF3 := Lib.hid (HF2.out.below hb)
        have HA3 := Lib.hid (HA2.out.below hb)
        have HB3 := Lib.hid (HB2.out.below hb)
        clear hb HF2 HA2 HB2 CS
        clear z0 c00 f00 c01 f01 c02 f02 c03 f03 z1 c10 f10 c11 f11 z2 c20 f20 c21 f21
        have z0 := HF3.out.l0 (by simp)
        have c00 := HF3.out.c0 0 rfl
        have f00 := HF3.out.f0 0 rfl
        have c01 := HF3.out.c0 1 rfl
        have f01 := HF3.out.f0 1 rfl
        have c02 := HF3.out.c0 2 rfl
        have f02 := HF3.out.f0 2 rfl
        have c03 := HF3.out.c0 3 rfl
        have f03 := HF3.out.f0 3 rfl
        have z1 := HF3.out.l1 (by simp)
        have c10 := HF3.out.c1 0 rfl
        have f10 := HF3.out.f1 0 rfl
        have c11 := HF3.out.c1 1 rfl
        have f11 := HF3.out.f1 1 rfl
        have z2 := HF3.out.l2 (by simp)
        have c20 := HF3.out.c2 0 rfl
        have f20 := HF3.out.f2 0 rfl
        have c21 := HF3.out.c2 1 rfl
        have f21 := HF3.out.f2 1 rfl
        go_wp2_with (fail)
        refine bodyPost_ret (v := .tuple #[.agg #[.int .i64 0, .int .i64 0], .int .i64 5]) (by simp [results, Tryz.results12, go_sem, c20, c21, z2, f20, f21]) rfl (RetN.mk' HWR.out ?_)
        repeat (first | exact HF3.out.b | refine stw ?_ (by omega) | refine alw ?_ (by omega))
      | true =>
        have HW0 : Hid (solR p c' h' s' own other = numR (chS s' h' own other)) := by unfold Hid solR; rw [hbd, hsm, hsv]; simp only [Int.toNat_natCast]; rfl
        rw [hsv] at CS0
        have CS := Lib.hid CS0
        obtain ⟨b1, o1, rfl, _, _⟩ := HA0.out.2 (by omega)
        obtain ⟨b2, o2, rfl, _, _⟩ := HB0.out.2 (by omega)
        have CNEW := Lib.hid fun (W : World) => l12New_any p c' h' s' W hvv (wys_small (by omega) (by omega))
        generalize ho : chS s' h' own other = o at *
        obtain ⟨xn, hxn⟩ : ∃ x : Int, x = (o.getD ⟨0, 0⟩).num := ⟨_, rfl⟩
        obtain ⟨xd, hxd⟩ : ∃ x : Int, x = ((o.getD ⟨0, 0⟩).depth : Int) := ⟨_, rfl⟩
        obtain ⟨ok, hok⟩ : ∃ x : Bool, x = o.isSome := ⟨_, rfl⟩
        have CCH : Hid (∀ (t : RT2) (W : World), t.c = c' → t.h = h' → t.s = s' → t.Ok → TabI t W → SQ t.S W (some ⟨b1, o1, none⟩) n1 own → SQ t.S W (some ⟨b2, o2, none⟩) n2 other →
            Calls Tryz.prog 34 #[.pointer (some ⟨t.bt, 0, none⟩), .agg #[.slice (some ⟨b1, o1, none⟩) n1 c1, .slice (some ⟨b2, o2, none⟩) n2 c2]] W fun e W' => e = .returned (.tuple #[.agg #[.int .i64 xn, .int .i64 xd], .bool ok]) ∧ Frm t.S W W') := fun t W hc' hh' hs' hok' hI hA hB => by
          subst hc' hh' hs'
          have := l15Chance_any t hok' b1 o1 n1 c1 b2 o2 n2 c2 W hI hA hB (by omega) (by omega) hc1 hc2 (by omega) (by omega) hq1 hq2 (by omega) (by omega)
          rw [ho] at this
          rw [hxn, hxd, hok]
          exact this.mono fun e W' h => ⟨h.1, h.2.2⟩
        clear CS0 hbd hsm hsv hvv hsd1 hsd2 hl1 hl2 hq1 hq2 ho
        have HXN := Lib.hid hxn
        have HXD := Lib.hid hxd
        have HOK := Lib.hid hok
        clear hxn hxd hok
        go_enter Tryz.func12, Tryz.ntmps12
        go_wp2_with (fail)
        refine (CB.out).mono ?_
        rintro e w2 ⟨rfl, hb⟩
        have HF2 := Lib.hid (HF0.out.below hb)
        have HA2 := Lib.hid (HA0.out.below hb)
        have HB2 := Lib.hid (HB0.out.below hb)
        clear hb HF0 HA0 HB0 CB
        have z0 := HF2.out.l0 (by simp)
        have c00 := HF2.out.c0 0 rfl
        have f00 := HF2.out.f0 0 rfl
        have c01 := HF2.out.c0 1 rfl
        have f01 := HF2.out.f0 1 rfl
        have c02 := HF2.out.c0 2 rfl
        have f02 := HF2.out.f0 2 rfl
        have c03 := HF2.out.c0 3 rfl
        have f03 := HF2.out.f0 3 rfl
        have z1 := HF2.out.l1 (by simp)
        have c10 := HF2.out.c1 0 rfl
        have f10 := HF2.out.f1 0 rfl
        have c11 := HF2.out.c1 1 rfl
        have f11 := HF2.out.f1 1 rfl
        have z2 := HF2.out.l2 (by simp)
        have c20 := HF2.out.c2 0 rfl
        have f20 := HF2.out.f2 0 rfl
        have c21 := HF2.out.c2 1 rfl
        have f21 := HF2.out.f2 1 rfl
        go_wp2_with (fail)
        refine (CS.out _ HA2.out HB2.out).mono ?_
        rintro e w3 ⟨rfl, hb⟩
        have HF3 := Lib.hid (HF2.out.below hb)
        have HA3 := Lib.hid (HA2.out.below hb)
        have HB3 := Lib.hid (HB2.out.below hb)
        clear hb HF2 HA2 HB2 CS
        clear z0 c00 f00 c01 f01 c02 f02 c03 f03 z1 c10 f10 c11 f11 z2 c20 f20 c21 f21
        have z0 := HF3.out.l0 (by simp)
        have c00 := HF3.out.c0 0 rfl
        have f00 := HF3.out.f0 0 rfl
        have c01 := HF3.out.c0 1 rfl
        have f01 := HF3.out.f0 1 rfl
        have c02 := HF3.out.c0 2 rfl
        have f02 := HF3.out.f0 2 rfl
        have c03 := HF3.out.c0 3 rfl
        have f03 := HF3.out.f0 3 rfl
        have z1 := HF3.out.l1 (by simp)
        have c10 := HF3.out.c1 0 rfl
        have f10 := HF3.out.f1 0 rfl
        have c11 := HF3.out.c1 1 rfl
        have f11 := HF3.out.f1 1 rfl
        have z2 := HF3.out.l2 (by simp)
        have c20 := HF3.out.c2 0 rfl
        have f20 := HF3.out.f2 0 rfl
        have c21 := HF3.out.c2 1 rfl
        have f21 := HF3.out.f2 1 rfl
        go_wp2_with (fail)
        clear z0 c00 f00 c01 f01 c02 f02 c03 f03 z1 c10 f10 c11 f11 z2 c20 f20 c21 f21
        have C0 : Hid (Cel w3 w.heap.size [.int .i64 p, .int .i64 c', .int .i64 h', .int .i64 s']) := ⟨HF3.out.l0 (by simp), fun i x hx => HF3.out.c0 i (by simpa [frAt] using hx), fun i x hx => HF3.out.f0 i (v := x) (by simpa [frAt] using hx)⟩
        have C1 : Hid (Cel w3 (w.heap.size + 1) [.slice (some ⟨b1, o1, none⟩) n1 c1, .slice (some ⟨b2, o2, none⟩) n2 c2]) := ⟨HF3.out.l1 (by simp), fun i x hx => HF3.out.c1 i (by simpa [frAt] using hx), fun i x hx => HF3.out.f1 i (v := x) (by simpa [frAt] using hx)⟩
        generalize w3 = V at *
        have HJ : Hid (∀ vs, JC V (TPs c' h' s') (evSc (.agg #[.int .i64 p, .int .i64 (c' : Int), .int .i64 (h' : Int), .int .i64 (s' : Int)]) (.agg #[.slice (some ⟨b1, o1, none⟩) n1 c1, .slice (some ⟨b2, o2, none⟩) n2 c2]) (.tuple #[.agg #[.int .i64 xn, .int .i64 xd], .bool ok]) (.agg #[.int .i64 xn, .int .i64 xd]) (.bool ok)) (fun _ => false) vs { V with drawn := V.drawn + 1 }) := fun vs => ⟨Bel.drew _, fun _ _ _ h => (by cases h), fun h => (by cases h), fun h => (by cases h)⟩
        refine wp_region_inv 8 (fun i => i == 6) dsScS (JC V (TPs c' h' s') (evSc (.agg #[.int .i64 p, .int .i64 (c' : Int), .int .i64 (h' : Int), .int .i64 (s' : Int)]) (.agg #[.slice (some ⟨b1, o1, none⟩) n1 c1, .slice (some ⟨b2, o2, none⟩) n2 c2]) (.tuple #[.agg #[.int .i64 xn, .int .i64 xd], .bool ok]) (.agg #[.int .i64 xn, .int .i64 xd]) (.bool ok))) (by kernel_rfl) (by kernel_rfl) (fun _ _ _ _ _ h => h) HJ.out ?_ ?_ ?_
        · intro i op hi hX ho Ls a' W H hun hfar hdep
          have hi8 : i = 6 := by simpa using hX
          clear hX hi hfar
          subst hi8
          simp at ho
          subst ho
          have d1 : a'.tmps.getD 22 undef = .tuple #[.agg #[.int .i64 xn, .int .i64 xd], .bool ok] := H.eq 4 _ (by omega) (hdep 4 (by omega) (by kernel_rfl)) rfl
          exact ⟨.bool ok, fun W' => by simp only [execOp, Act.eval, d1]; go_simp, fun L' vs' hu => H.pure hu (Below.refl _ _) (by decide) (fun y hy => by injection hy)⟩
        · intro i op hi hX ho Ls a' W H hun hfar hdep
          have e2 : a'.tmps.getD 2 undef = .pointer (some ⟨w.heap.size, 0, none⟩) := (hfar 2 (by decide)).trans rfl
          have e3 : a'.tmps.getD 3 undef = .pointer (some ⟨w.heap.size + 1, 0, none⟩) := (hfar 3 (by decide)).trans rfl
          have hi8 : i = 0 ∨ i = 1 ∨ i = 2 ∨ i = 3 ∨ i = 4 ∨ i = 5 ∨ i = 7 := by simp at hX; omega
          clear hX hi hfar
          rcases hi8 with rfl | rfl | rfl | rfl | rfl | rfl | rfl
          all_goals (simp at ho; subst ho)
          · have zz := C0.out.below H.b
            have z0 := zz.cell 0 _ rfl
            have z1 := zz.cell 1 _ rfl
            have z2 := zz.cell 2 _ rfl
            have z3 := zz.cell 3 _ rfl
            exact .inl ⟨.agg #[.int .i64 p, .int .i64 (c' : Int), .int .i64 (h' : Int), .int .i64 (s' : Int)], W, by simp only [execOp, Act.eval, e2]; go_simp, fun L' vs' hu => H.pure hu (Below.refl _ _) (by decide) (fun y hy => by injection hy)⟩
          · have d1 : a'.tmps.getD 23 undef = .agg #[.int .i64 p, .int .i64 (c' : Int), .int .i64 (h' : Int), .int .i64 (s' : Int)] := H.eq 0 _ (by omega) (hdep 0 (by omega) (by kernel_rfl)) rfl
            refine .inr ⟨23, #[.agg #[.int .i64 p, .int .i64 (c' : Int), .int .i64 (h' : Int), .int .i64 (s' : Int)]], by simp only [execOp, Act.eval, d1]; go_simp, ?_⟩
            refine (CNEW.out W).mono ?_
            rintro e W' ⟨t, _, hc', hh', hs', rfl, hok', hI, hlow, _, hb'⟩
            exact ⟨_, rfl, fun L' vs' hu => H.race hu hb' rfl ⟨t, rfl, hc', hh', hs', hok', hI, rfl⟩ (fun k hk => ⟨hlow k hk, hI.ltS k hk⟩)⟩
          · have zz := C1.out.below H.b
            have z0 := zz.cell 0 _ rfl
            have z1 := zz.cell 1 _ rfl
            exact .inl ⟨.agg #[.slice (some ⟨b1, o1, none⟩) n1 c1, .slice (some ⟨b2, o2, none⟩) n2 c2], W, by simp only [execOp, Act.eval, e3]; go_simp, fun L' vs' hu => H.pure hu (Below.refl _ _) (by decide) (fun y hy => by injection hy)⟩
          · obtain ⟨S, l1, hi, ⟨t, d1, hc', hh', hs', hok', hI, hS⟩, a7, a8, a8', a9, a10⟩ := H.ra (hdep 1 (by omega) (by kernel_rfl)) hun
            subst hS
            replace d1 : a'.tmps.getD 24 undef = .pointer (some ⟨t.bt, 0, none⟩) := d1
            have d2 : a'.tmps.getD 25 undef = .agg #[.slice (some ⟨b1, o1, none⟩) n1 c1, .slice (some ⟨b2, o2, none⟩) n2 c2] := H.eq 2 _ (by omega) (hdep 2 (by omega) (by kernel_rfl)) rfl
            have hlo : ∀ k, t.S k → V.heap.size ≤ k := fun k hk => Nat.le_trans a8 (a9 k hk).1
            refine .inr ⟨34, #[.pointer (some ⟨t.bt, 0, none⟩), .agg #[.slice (some ⟨b1, o1, none⟩) n1 c1, .slice (some ⟨b2, o2, none⟩) n2 c2]], by simp only [execOp, Act.eval, d1, d2]; go_simp, ?_⟩
            refine (CCH.out t W hc' hh' hs' hok' hI ((SQ.of_sl HA3.out hlo).below H.b) ((SQ.of_sl HB3.out hlo).below H.b)).mono ?_
            rintro e W' ⟨rfl, hf'⟩
            exact ⟨_, rfl, fun L' vs' hu => H.chance hu hf' hlo (fun g hg hg2 hSg => by have := a9 g hSg; rcases a10 g hg hg2 with h | h <;> omega) (fun y hy => by injection hy)⟩
          · have d1 : a'.tmps.getD 26 undef = .tuple #[.agg #[.int .i64 xn, .int .i64 xd], .bool ok] := H.eq 3 _ (by omega) (hdep 3 (by omega) (by kernel_rfl)) rfl
            exact .inl ⟨.tuple #[.agg #[.int .i64 xn, .int .i64 xd], .bool ok], W, by simp only [execOp, Act.eval, d1]; go_simp, fun L' vs' hu => H.pure hu (Below.refl _ _) (by decide) (fun y hy => by injection hy)⟩
          · have d1 : a'.tmps.getD 22 undef = .tuple #[.agg #[.int .i64 xn, .int .i64 xd], .bool ok] := H.eq 4 _ (by omega) (hdep 4 (by omega) (by kernel_rfl)) rfl
            exact .inl ⟨.agg #[.int .i64 xn, .int .i64 xd], W, by simp only [execOp, Act.eval, d1]; go_simp, fun L' vs' hu => H.pure hu (Below.refl _ _) (by decide) (fun y hy => by injection hy)⟩
          · exact .inl ⟨.pointer (some ⟨W.heap.size, 0, none⟩), W.alloc (.cells #[.int .i64 0, .int .i64 0] 30), by kernel_rfl, fun L' vs' hu => H.alloc _ hu rfl (TP_stbs _ _ _)⟩
        intro Ls v W2 hall H
        have g0 : v 0 = .agg #[.int .i64 p, .int .i64 (c' : Int), .int .i64 (h' : Int), .int .i64 (s' : Int)] := H.eq 0 _ (by omega) (hall 0 (by omega)) rfl
        have g2 : v 2 = .agg #[.slice (some ⟨b1, o1, none⟩) n1 c1, .slice (some ⟨b2, o2, none⟩) n2 c2] := H.eq 2 _ (by omega) (hall 2 (by omega)) rfl
        have g3 : v 3 = .tuple #[.agg #[.int .i64 xn, .int .i64 xd], .bool ok] := H.eq 3 _ (by omega) (hall 3 (by omega)) rfl
        have g4 : v 4 = .tuple #[.agg #[.int .i64 xn, .int .i64 xd], .bool ok] := H.eq 4 _ (by omega) (hall 4 (by omega)) rfl
        have g5 : v 5 = .agg #[.int .i64 xn, .int .i64 xd] := H.eq 5 _ (by omega) (hall 5 (by omega)) rfl
        have g6 : v 6 = .bool ok := H.eq 6 _ (by omega) (hall 6 (by omega)) rfl
        obtain ⟨t1, g1⟩ : ∃ t1, v 1 = t1 := ⟨_, rfl⟩
        obtain ⟨g, g7, gl, AL⟩ := H.al (hall 7 (by omega))
        have hW := Lib.hid H.b
        simp only [List.drop_succ_cons, List.drop_zero, putV, dsScS, g0, g1, g2, g3, g4, g5, g6, g7, Act.put]
        clear g0 g1 g2 g3 g4 g5 g6 g7 H hall C0 C1 CNEW CCH HA3 HB3
        have hzV : w.heap.size + 3 ≤ V.heap.size := by have := HF3.out.z; simpa using this
        have HFZ := Lib.hid (HF3.out.below hW.out)
        clear HF3
        have y0 := AL.cell 0 _ rfl
        have y1 := AL.cell 1 _ rfl
        have q0 := AL.froz 0 _ rfl
        have q1 := AL.froz 1 _ rfl
        have yl := AL.lt
        have HALC := Lib.hid AL
        clear AL
        have hn2 : g ≠ w.heap.size + 1 + 1 := by omega
        have hn2' : w.heap.size + 1 + 1 ≠ g := by omega
        have z0 := HFZ.out.l0 (by simp)
        have c00 := HFZ.out.c0 0 rfl
        have f00 := HFZ.out.f0 0 rfl
        have c01 := HFZ.out.c0 1 rfl
        have f01 := HFZ.out.f0 1 rfl
        have c02 := HFZ.out.c0 2 rfl
        have f02 := HFZ.out.f0 2 rfl
        have c03 := HFZ.out.c0 3 rfl
        have f03 := HFZ.out.f0 3 rfl
        have z1 := HFZ.out.l1 (by simp)
        have c10 := HFZ.out.c1 0 rfl
        have f10 := HFZ.out.f1 0 rfl
        have c11 := HFZ.out.c1 1 rfl
        have f11 := HFZ.out.f1 1 rfl
        have z2 := HFZ.out.l2 (by simp)
        have c20 := HFZ.out.c2 0 rfl
        have f20 := HFZ.out.f2 0 rfl
        have c21 := HFZ.out.c2 1 rfl
        have f21 := HFZ.out.f2 1 rfl
        rcases o with _ | ⟨yn, yd⟩
        · have HWR : Hid (solR p c' h' s' own other = (0, 0, 3)) := HW0.out
          obtain rfl : ok = false := HOK.out
          go_wp2_with (fail)
          refine bodyPost_ret (v := .tuple #[.agg #[.int .i64 0, .int .i64 0], .int .i64 3]) (by simp [results, Tryz.results12, go_sem, c20, c21, z2, f20, f21]) rfl (RetN.mk' HWR.out ?_)
          repeat (first | exact HFZ.out.b | refine stw ?_ (by omega) | refine alw ?_ (by omega))
        · have HWR : Hid (solR p c' h' s' own other = (xn, xd, 0)) := by unfold Hid; rw [HW0.out, HXN.out, HXD.out]; rfl
          obtain rfl : ok = true := HOK.out
          go_wp2_with (fail)
          refine bodyPost_ret (v := .tuple #[.agg #[.int .i64 xn, .int .i64 xd], .int .i64 0]) (by simp [results, Tryz.results12, go_sem, c20, c21, z2, f20, f21]) rfl (RetN.mk' HWR.out ?_)
          repeat (first | exact HFZ.out.b | refine stw ?_ (by omega) | refine alw ?_ (by omega))
end Go.Proofs.YtchaenamdpikpaaGreat

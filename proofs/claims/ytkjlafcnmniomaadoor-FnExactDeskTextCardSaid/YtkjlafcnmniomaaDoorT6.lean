/- Contract of the reference's bits of a board. There are no conditions beyond those that each states. -/
import Derived.Test.YtkjlafcnmniomaaDoorT5
namespace Go.Proofs.YtkjlafcnmniomaaDoor
set_option linter.unusedVariables false
set_option linter.unusedSimpArgs false
open Go.RowKit

def OwnQ (lo : Nat) (xs : List Int) : RP := fun v W => ∃ A c, v = .slice A xs.length c ∧ OwnS W lo 2 (.slice A xs.length c) xs
theorem stb_ownQ (lo : Nat) (xs : List Int) : Stb (OwnQ lo xs) := fun _ _ _ ⟨A, c, h1, h2⟩ hb => ⟨A, c, h1, own_below h2 hb⟩
theorem own_new (w : World) (base : Nat) (hb : base ≤ w.heap.size) : OwnS (w.alloc (.cells #[] 2)) base 2 (.slice (some ⟨w.heap.size, 0, none⟩) 0 0) [] := World.ownsRow_lit w #[] 0 hb (by decide) (by simp)
def dB2 : Nat → Nat
  | 0 => 8
  | 1 => 9
  | 2 => 10
  | 3 => 11
  | 4 => 12
  | _ => 0
set_option maxRecDepth 100000 in
theorem l02Own_any (A : Option Addr) (n c : Nat) (xs : List Int) (w : World) (h : SL w A n xs) (h0 : 0 < n) (hn : n ≤ 1000) :
    Calls Tryd.prog 57 #[.slice A n c] w (RetO w 2 xs) := by
  obtain ⟨i0, hi, iz0, iz1, iz2⟩ := info_parts Tryd.infoI
  have HB : Hid (Below w.heap.size w (w.alloc (.cells #[] 2))) := (Below.refl _ _).alloc (Nat.le_refl _) _
  have HROW : Hid (OwnS (w.alloc (.cells #[] 2)) w.heap.size 2 (.slice (some ⟨w.heap.size, 0, none⟩) 0 0) []) := own_new w _ (Nat.le_refl _)
  have HS := Lib.hid (h.below HB.out)
  have hl := h.1
  obtain ⟨b, off, hA, hbz, hc⟩ := HS.out.2 h0
  subst hA
  have HNEW : Hid (∀ j u, (xs.map (Value.int .i64))[j]? = some u → (w.alloc (.cells #[] 2)).cell? ((⟨b, off, none⟩ : Addr).add j) = some u) := fun j u hj => by
    have hjn : j < xs.length := by
      have := (List.getElem?_eq_some_iff.1 hj).1
      simpa using this
    have h1 := hc j (by omega)
    rw [List.getElem?_map, List.getElem?_eq_getElem hjn] at hj
    simp only [Option.map_some, Option.some.injEq] at hj
    rw [← hj]
    have h2 : (⟨b, off, none⟩ : Addr).add j = ⟨b, off + j, none⟩ := by unfold Addr.add; split <;> simp_all
    rw [h2, h1]
    simp [List.getD, hjn]
  clear hc
  go_enter Tryd.func57, Tryd.ntmps57
  go_wp2_with (at_builtin; (refine wpList_append_own_at _ rfl _ _ 24 rfl w.heap.size 2 i0 (.int .i64 0) 1 8 Tryd.underlying24 hi iz0 iz1 iz2 rfl (by decide) _ _ _ rfl HROW.out ⟨b, off, none⟩ n c (xs.map (Value.int .i64)) rfl (by simp; omega) HNEW.out (fun u hu => by obtain ⟨x, _, rfl⟩ := List.mem_map.1 hu; rfl) (by unfold maxLen; simp; omega) (by simp; omega) (by simp) ?_); intro v' w4 hown hgrow _ _)
  have hb4 : ∀ r, (w.alloc (.cells #[] 2)).grownBy w4 r → r = some w.heap.size → Below w.heap.size w w4 := fun r hg hr => by
    subst hr
    exact HB.out.grown hg (by simp) (fun k hk => by injection hk with hk; omega)
  have HR : Hid (RetO w 2 xs (.returned v') w4) := RetO.mk (by unfold OwnS; rw [hl]; simpa using hown) (hb4 _ hgrow rfl)
  go_ret
  exact HR.out
set_option maxRecDepth 100000 in
set_option maxHeartbeats 4000000 in
theorem l03Bits_any (A1 A2 : Option Addr) (n1 c1 n2 c2 : Nat) (own other : List Int) (w : World) (h1 : SL w A1 n1 own) (h2 : SL w A2 n2 other) (h10 : 0 < n1) (h20 : 0 < n2) (hx : ∀ x ∈ own ++ other, 0 ≤ x ∧ x ≤ 1000) (hT : (bitsN (own ++ other)).length ≤ 990) :
    Calls Tryd.prog 40 #[.agg #[.slice A1 n1 c1, .slice A2 n2 c2]] w (RetO w 2 (bitsN (own ++ other))) := by
  obtain ⟨i0, hi, iz0, iz1, iz2⟩ := info_parts Tryd.infoI
  have H1 := Lib.hid h1
  have H2 := Lib.hid h2
  have HX := Lib.hid hx
  have HTL := Lib.hid hT
  have hl1 : own.length = n1 := h1.1
  have hl2 : other.length = n2 := h2.1
  have hlen : (own ++ other).length ≤ 990 := Nat.le_trans (bitsN_ge _) hT
  rw [List.length_append] at hlen
  have HF0 : Hid (Fr w (w.alloc (.cells #[.slice A1 n1 c1, .slice A2 n2 c2] 35)) [[.slice A1 n1 c1, .slice A2 n2 c2]]) := (Fr.start w).allocT (by simp) _ _
  have HF : Hid (Fr w ((w.alloc (.cells #[.slice A1 n1 c1, .slice A2 n2 c2] 35)).alloc (.cells #[] 2)) [[.slice A1 n1 c1, .slice A2 n2 c2]]) := HF0.out.below ((Below.refl _ _).alloc (Nat.le_refl _) _)
  have HO0 : Hid (OwnS ((w.alloc (.cells #[.slice A1 n1 c1, .slice A2 n2 c2] 35)).alloc (.cells #[] 2)) (w.heap.size + 1) 2 (.slice (some ⟨w.heap.size + 1, 0, none⟩) 0 0) []) := by
    have h := own_new (w.alloc (.cells #[.slice A1 n1 c1, .slice A2 n2 c2] 35)) (w.heap.size + 1) (by simp)
    rw [show (w.alloc (.cells #[.slice A1 n1 c1, .slice A2 n2 c2] 35)).heap.size = w.heap.size + 1 by simp] at h
    exact h
  have HB0 := Lib.hid HF.out.b
  clear h1 h2 hx hT HF0
  go_enter Tryd.func40, Tryd.ntmps40
  go_wp2_with (fail)
  generalize (w.alloc (.cells #[.slice A1 n1 c1, .slice A2 n2 c2] 35)).alloc (.cells #[] 2) = V at *
  refine wp_region_early 5 (fun _ => false) dB2 Bel (fun _ => True) (GL [Eqv (.pointer (some ⟨w.heap.size, 0, none⟩)), Eqv (.slice A1 n1 c1), OwnQ V.heap.size (own), Eqv (.pointer (some ⟨w.heap.size, 1, none⟩)), Eqv (.slice A2 n2 c2)]) (by kernel_rfl) (by kernel_rfl) (fun _ _ _ _ _ h => h) (fun _ _ _ h1 h2 => Bel.trans h1 h2) Bel.rfl' (GL.stab (by repeat (first | exact AllStb.nil | refine AllStb.cons (by first | exact stb_eq _ | exact stb_ownQ _ _) ?_))) (Bel.drew _) trivial (fun i o' _ hX => by cases hX) ?_ ?_
  · intro i o hi hX ho a' W hW hIW hfar hdep
    have e1 : a'.tmps.getD 1 undef = .pointer (some ⟨w.heap.size, 0, none⟩) := (hfar 1 (by decide)).trans rfl
    have dep : ∀ j, j < 5 → Region.waitsFor .any _ i j = true → (GL [Eqv (.pointer (some ⟨w.heap.size, 0, none⟩)), Eqv (.slice A1 n1 c1), OwnQ V.heap.size (own), Eqv (.pointer (some ⟨w.heap.size, 1, none⟩)), Eqv (.slice A2 n2 c2)]) j (a'.tmps.getD (dB2 j) undef) W := hdep
    have hi8 : i = 0 ∨ i = 1 ∨ i = 2 ∨ i = 3 ∨ i = 4 := by omega
    clear hfar hdep hX hi
    rcases hi8 with rfl | rfl | rfl | rfl | rfl
    all_goals (simp at ho; subst ho)
    · exact .inl ⟨.pointer (some ⟨w.heap.size, 0, none⟩), W, by simp only [execOp, Act.eval, e1]; go_simp, Bel.rfl' _, trivial, rfl⟩
    · have d1 : a'.tmps.getD 8 undef = .pointer (some ⟨w.heap.size, 0, none⟩) := dep 0 (by omega) (by kernel_rfl)
      have y0 := (HF.out.below hW).c0 0 rfl
      exact .inl ⟨.slice A1 n1 c1, W, by simp only [execOp, Act.eval, d1]; go_simp, Bel.rfl' _, trivial, rfl⟩
    · have d1 : a'.tmps.getD 9 undef = .slice A1 n1 c1 := dep 1 (by omega) (by kernel_rfl)
      refine .inr ⟨57, #[.slice A1 n1 c1], by simp only [execOp, Act.eval, d1]; go_simp, ?_⟩
      refine (l02Own_any A1 n1 c1 own W (H1.out.below (HB0.out.trans (hW.mono HB0.out.size))) (by omega) (by omega)).mono ?_
      rintro e W' ⟨Aq, cq, rfl, hoq, hb'⟩
      exact ⟨_, rfl, hb', trivial, Aq, cq, rfl, World.ownsRow.mono hoq (Below.size hW)⟩
    · exact .inl ⟨.pointer (some ⟨w.heap.size, 1, none⟩), W, by simp only [execOp, Act.eval, e1]; go_simp, Bel.rfl' _, trivial, rfl⟩
    · have d1 : a'.tmps.getD 11 undef = .pointer (some ⟨w.heap.size, 1, none⟩) := dep 3 (by omega) (by kernel_rfl)
      have y0 := (HF.out.below hW).c0 1 rfl
      exact .inl ⟨.slice A2 n2 c2, W, by simp only [execOp, Act.eval, d1]; go_simp, Bel.rfl' _, trivial, rfl⟩
  intro v W2 hW hIW hg
  have g0 : v 0 = .pointer (some ⟨w.heap.size, 0, none⟩) := hg 0 (by omega)
  have g1 : v 1 = .slice A1 n1 c1 := hg 1 (by omega)
  obtain ⟨Aq, cq, g2, hoq⟩ : OwnQ V.heap.size (own) (v 2) W2 := hg 2 (by omega)
  have g3 : v 3 = .pointer (some ⟨w.heap.size, 1, none⟩) := hg 3 (by omega)
  have g4 : v 4 = .slice A2 n2 c2 := hg 4 (by omega)
  simp only [List.drop_succ_cons, List.drop_zero, putV, dB2, g0, g1, g2, g3, g4, Act.put]
  clear g0 g1 g2 g3 g4 hg hIW
  have HB2 : Hid (Below w.heap.size w W2) := HB0.out.trans (hW.mono HB0.out.size)
  have HO2 : Hid (OwnS W2 (w.heap.size + 1) 2 (.slice (some ⟨w.heap.size + 1, 0, none⟩) 0 0) []) := own_below HO0.out hW
  have HQ := Lib.hid hoq
  have hzV : w.heap.size + 2 ≤ V.heap.size := (World.ownsRow.lt HO0.out (w.heap.size + 1) rfl).2
  have hzW : V.heap.size ≤ W2.heap.size := Below.size hW
  obtain ⟨bq, oq, hAq, _, hcq⟩ := (H2.out.below HB2.out).2 (by omega)
  subst hAq
  have HNEW : Hid (∀ j u, (other.map (Value.int .i64))[j]? = some u → W2.cell? ((⟨bq, oq, none⟩ : Addr).add j) = some u) := fun j u hj => by
    have hjn : j < other.length := by
      have := (List.getElem?_eq_some_iff.1 hj).1
      simpa using this
    have h1 := hcq j (by omega)
    rw [List.getElem?_map, List.getElem?_eq_getElem hjn] at hj
    simp only [Option.map_some, Option.some.injEq] at hj
    rw [← hj]
    have h2 : (⟨bq, oq, none⟩ : Addr).add j = ⟨bq, oq + j, none⟩ := by unfold Addr.add; split <;> simp_all
    rw [h2, h1]
    simp [List.getD, hjn]
  obtain ⟨N, hN⟩ : ∃ N, N = own.length + n2 := ⟨_, rfl⟩
  have HFIN : Hid (∀ v' w4 r, w4.ownsRow V.heap.size 2 1 v' (own.length + n2) (own.map (Value.int .i64) ++ other.map (Value.int .i64)) → W2.grownBy w4 r → r = (Value.slice Aq own.length cq).ownBlock → ∃ ga ca, v' = .slice (some ⟨ga, 0, none⟩) N ca ∧ V.heap.size ≤ ga ∧ Hid (OwnS w4 (w.heap.size + 1) 2 (.slice (some ⟨ga, 0, none⟩) N ca) (own ++ other)) ∧ Hid (Below w.heap.size w w4) ∧ Hid (OwnS w4 (w.heap.size + 1) 2 (.slice (some ⟨w.heap.size + 1, 0, none⟩) 0 0) [])) := fun v' w4 r ho hg hr => by
    subst hr
    have ho2 : OwnS w4 V.heap.size 2 v' (own ++ other) := by
      unfold OwnS
      rw [List.map_append, List.length_append, hl2]
      exact ho
    have hlt := fun k hk => World.ownsRow.lt HQ.out k hk
    rcases ho.2 with ⟨_, h⟩ | ⟨ga, ca, cur, h1, h2, _⟩
    · omega
    · subst h1
      refine ⟨ga, ca, by rw [hN], h2, ?_, HB2.out.grown hg HB2.out.size (fun k hk => by have := (hlt k hk).1; omega), World.ownsRow.kept HO2.out hg (.inr (fun e => by have := (hlt (w.heap.size + 1) e.symm).1; omega))⟩
      rw [hN]
      exact World.ownsRow.mono ho2 (by omega)
  clear hcq hW hoq HO0 HO2 HB0 HB2 HF
  go_wp2_with (at_builtin; (refine wpList_append_own_at _ rfl _ _ 24 rfl V.heap.size 2 i0 (.int .i64 0) 1 8 Tryd.underlying24 hi iz0 iz1 iz2 rfl (by decide) _ _ _ rfl HQ.out ⟨bq, oq, none⟩ n2 c2 (other.map (Value.int .i64)) rfl (by simp; omega) HNEW.out (fun u hu => by obtain ⟨x, _, rfl⟩ := List.mem_map.1 hu; rfl) (by unfold maxLen; omega) (by omega) (by omega) ?_); intro v' w4 hown hgrow _ _)
  obtain ⟨ga, ca, rfl, hga, HA0, HB0, HO0⟩ := HFIN.out v' w4 _ hown hgrow rfl
  have HL : Hid ((own ++ other).length = N) := by unfold Hid; rw [List.length_append, hN, hl2]
  have hN9 : N ≤ 990 := by omega
  clear hown hgrow HFIN HNEW HQ hN
  generalize hLL : own ++ other = L at *
  clear hLL
  go_loopw [3, 5] (fun v3 v5 wr => ∃ (j : Nat), j ≤ N ∧ v5 = .int .i64 j ∧ (∃ vx, vx = v3 ∧ Hid (OwnS wr (w.heap.size + 1) 2 vx (bitsN (L.take j))) ∧ Hid (∀ k, vx.ownBlock = some k → k ≠ ga)) ∧ Hid (OwnS wr (w.heap.size + 1) 2 (.slice (some ⟨ga, 0, none⟩) N ca) L) ∧ Hid (Below w.heap.size w wr)) (fun _ v5 _ => N - (intOf v5).toNat)
  case atStart => exact ⟨0, by omega, rfl, ⟨_, rfl, HO0.out, fun k hk => by
    have h : some (w.heap.size + 1) = some k := hk
    injection h with h
    omega⟩, HA0.out, HB0.out⟩
  case round =>
    clear HO0 HA0 HB0
    obtain ⟨j, hj, rfl, ⟨vx, rfl, HO, HVN⟩, HA, HB⟩ := hrel
    by_cases hlt : j < N
    · have hji : (j : Int) < (N : Int) := by omega
      have hjl : j < L.length := by rw [HL.out]; exact hlt
      have hxj := HX.out _ (getD_mem L j hjl)
      obtain ⟨m, hm⟩ : ∃ m : Nat, L.getD j 0 = m := ⟨(L.getD j 0).toNat, by omega⟩
      rw [hm] at hxj
      have HM := Lib.hid hm
      clear hm
      go_wp2_with (fail)
      obtain ⟨wa, rfl⟩ : ∃ wa : World, wa = wr := ⟨_, rfl⟩
      go_loopw [3, 6] (fun v3 v6 wr => ∃ (i : Nat), i ≤ m ∧ v6 = .int .i64 i ∧ (∃ vx, vx = v3 ∧ Hid (OwnS wr (w.heap.size + 1) 2 vx (bitsN (L.take j) ++ List.replicate i 1)) ∧ Hid (∀ k, vx.ownBlock = some k → k ≠ ga)) ∧ Hid (OwnS wr (w.heap.size + 1) 2 (.slice (some ⟨ga, 0, none⟩) N ca) L) ∧ Hid (Below w.heap.size w wr)) (fun _ v6 _ => m - (intOf v6).toNat)
      case atStart => exact ⟨0, by omega, rfl, ⟨_, rfl, (by rw [List.replicate_zero, List.append_nil]; exact HO.out), HVN.out⟩, HA.out, HB.out⟩
      case round =>
        clear HO HA HB HVN
        obtain ⟨i, hi', rfl, ⟨vx, rfl, HO, HVN⟩, HA, HB⟩ := hrel
        have HP2 : Hid ((bitsN (L.take j) ++ List.replicate i (1 : Int)).length ≤ 1999) := by
          have h1 := bitsN_pre (l := L) (j := j) (i := i) hjl (by rw [HM.out]; omega)
          have h2 := HTL.out
          unfold Hid
          simp only [List.length_append, List.length_replicate]
          omega
        have hx0 : wr.cell? ⟨ga, j, none⟩ = some (.int .i64 (m : Int)) := by
          have h0 := HA.out
          unfold OwnS at h0
          rw [HL.out] at h0
          have h1 := World.ownsRow.cellAt h0 j (by omega)
          rw [h1, List.getElem?_map, List.getElem?_eq_getElem hjl]
          have h2 := HM.out
          rw [List.getD_eq_getElem?_getD, List.getElem?_eq_getElem hjl] at h2
          simp at h2
          rw [Option.map_some, h2]
        have hgz := (World.ownsRow.lt HA.out ga rfl).2
        by_cases hil : i < m
        · have hii : (i : Int) < (m : Int) := by omega
          have HROW := Lib.hid (row_al HO.out (.cells #[.int .i64 1] 2))
          have HNW := Lib.hid (one_newI wr 1)
          have HVL := Lib.hid (fun (k : Nat) (hk : vx.ownBlock = some k) => World.ownsRow.lt HO.out k hk)
          have HBA : Hid (Below w.heap.size w (wr.alloc (.cells #[.int .i64 1] 2))) := HB.out.alloc HB.out.size _
          have HAA := Lib.hid (row_al HA.out (.cells #[.int .i64 1] 2))
          have hzr : w.heap.size + 2 ≤ wr.heap.size := by have := (World.ownsRow.lt HA.out ga rfl).2; omega
          have hgr : ga < wr.heap.size := (World.ownsRow.lt HA.out ga rfl).2
          clear HO HB
          go_wp2_with (at_builtin; (refine wpList_append_own_at _ rfl _ _ 24 rfl (w.heap.size + 1) 2 i0 (.int .i64 0) 1 8 Tryd.underlying24 hi iz0 iz1 iz2 rfl (by decide) _ _ _ rfl HROW.out ⟨wr.heap.size, 0, none⟩ 1 1 _ rfl rfl HNW.out (int_cells _) (by have := HP2.out; unfold maxLen; omega) (by have := HP2.out; omega) (by simp; omega) ?_); intro v' w4 hown hgrow _ hat)
          have HO2 := Lib.hid (OwnS.snoc hown)
          have hg' : Hid (∀ k, (wr.alloc (.cells #[.int .i64 1] 2)).grownBy w4 k → k = vx.ownBlock → Hid (Below w.heap.size w w4) ∧ Hid (OwnS w4 (w.heap.size + 1) 2 (.slice (some ⟨ga, 0, none⟩) N ca) L)) := fun k hg hk => by
            subst hk
            exact ⟨HBA.out.grown hg (by simp; omega) (fun x hx => by have := (HVL.out x hx).1; omega), World.ownsRow.kept HAA.out hg (.inr (fun e => HVN.out ga e.symm rfl))⟩
          obtain ⟨HB2, HA2⟩ := hg'.out _ hgrow rfl
          have HVN2 : Hid (∀ k, v'.ownBlock = some k → k ≠ ga) := fun k hk => by
            rcases hat with h | h
            · exact HVN.out k (h.symm.trans hk)
            · rw [h] at hk
              injection hk with hk
              have : (wr.alloc (.cells #[.int .i64 1] 2)).heap.size = wr.heap.size + 1 := by simp
              omega
          clear hown hgrow hg' HBA HAA HROW HNW
          have HO3 : Hid (OwnS w4 (w.heap.size + 1) 2 v' (bitsN (L.take j) ++ List.replicate (i + 1) 1)) := by
            unfold Hid
            rw [List.replicate_succ', ← List.append_assoc]
            exact HO2.out
          exact ⟨⟨i + 1, by omega, rfl, ⟨v', rfl, HO3, HVN2⟩, HA2, HB2⟩, by simp [intOf]; omega⟩
        · have hii : ¬ (i : Int) < (m : Int) := by omega
          have him : i = m := by omega
          have HROW := Lib.hid (row_al HO.out (.cells #[.int .i64 0] 2))
          have HNW := Lib.hid (one_newI wr 0)
          have HVL := Lib.hid (fun (k : Nat) (hk : vx.ownBlock = some k) => World.ownsRow.lt HO.out k hk)
          have HBA : Hid (Below w.heap.size w (wr.alloc (.cells #[.int .i64 0] 2))) := HB.out.alloc HB.out.size _
          have HAA := Lib.hid (row_al HA.out (.cells #[.int .i64 0] 2))
          have hzr : w.heap.size + 2 ≤ wr.heap.size := by have := (World.ownsRow.lt HA.out ga rfl).2; omega
          have hgr : ga < wr.heap.size := (World.ownsRow.lt HA.out ga rfl).2
          clear HO HB
          go_wp2_with (at_builtin; (refine wpList_append_own_at _ rfl _ _ 24 rfl (w.heap.size + 1) 2 i0 (.int .i64 0) 1 8 Tryd.underlying24 hi iz0 iz1 iz2 rfl (by decide) _ _ _ rfl HROW.out ⟨wr.heap.size, 0, none⟩ 1 1 _ rfl rfl HNW.out (int_cells _) (by have := HP2.out; unfold maxLen; omega) (by have := HP2.out; omega) (by simp; omega) ?_); intro v' w4 hown hgrow _ hat)
          have HO2 := Lib.hid (OwnS.snoc hown)
          have hg' : Hid (∀ k, (wr.alloc (.cells #[.int .i64 0] 2)).grownBy w4 k → k = vx.ownBlock → Hid (Below w.heap.size w w4) ∧ Hid (OwnS w4 (w.heap.size + 1) 2 (.slice (some ⟨ga, 0, none⟩) N ca) L)) := fun k hg hk => by
            subst hk
            exact ⟨HBA.out.grown hg (by simp; omega) (fun x hx => by have := (HVL.out x hx).1; omega), World.ownsRow.kept HAA.out hg (.inr (fun e => HVN.out ga e.symm rfl))⟩
          obtain ⟨HB2, HA2⟩ := hg'.out _ hgrow rfl
          have HVN2 : Hid (∀ k, v'.ownBlock = some k → k ≠ ga) := fun k hk => by
            rcases hat with h | h
            · exact HVN.out k (h.symm.trans hk)
            · rw [h] at hk
              injection hk with hk
              have : (wr.alloc (.cells #[.int .i64 0] 2)).heap.size = wr.heap.size + 1 := by simp
              omega
          clear hown hgrow hg' HBA HAA HROW HNW
          have HO3 : Hid (OwnS w4 (w.heap.size + 1) 2 v' (bitsN (L.take (j + 1)))) := by
            unfold Hid
            rw [bitsN_take hjl, HM.out, ← List.append_assoc, Int.toNat_natCast, ← him]
            exact HO2.out
          exact ⟨⟨j + 1, by omega, rfl, ⟨v', rfl, HO3, HVN2⟩, HA2, HB2⟩, by simp [intOf]; omega⟩
    · have hji : ¬ (j : Int) < (N : Int) := by omega
      have hjn : j = N := by omega
      have HR : Hid (RetO w 2 (bitsN L) (.returned vx) wr) := by
        have h1 := HO.out
        rw [hjn, List.take_of_length_le (by rw [HL.out]; omega)] at h1
        exact RetO.mk (World.ownsRow.mono h1 (by omega)) HB.out
      go_wp2_with (fail)
      go_ret
      exact HR.out
end Go.Proofs.YtkjlafcnmniomaaDoor

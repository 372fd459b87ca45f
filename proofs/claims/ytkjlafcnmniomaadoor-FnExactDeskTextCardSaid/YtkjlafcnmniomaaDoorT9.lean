/- Contract of the program's identifier of a board. There are no conditions beyond those that each states. -/
import Derived.Test.YtkjlafcnmniomaaDoorT8
namespace Go.Proofs.YtkjlafcnmniomaaDoor
set_option linter.unusedVariables false
set_option linter.unusedSimpArgs false
open Go.RowKit

theorem idx_run (k : Nat) (hk : k < 64) (W : World) : (Instr.index 9 (.string { data := #[65, 66, 67, 68, 69, 70, 71, 72, 73, 74, 75, 76, 77, 78, 79, 80, 81, 82, 83, 84, 85, 86, 87, 88, 89, 90, 97, 98, 99, 100, 101, 102, 103, 104, 105, 106, 107, 108, 109, 110, 111, 112, 113, 114, 115, 116, 117, 118, 119, 120, 121, 122, 48, 49, 50, 51, 52, 53, 54, 55, 56, 57, 43, 45] }) (.int .i64 (k : Int))).run Tryd.prog W = .ok (.int .u8 (((letB.getD k 0).toNat : Nat) : Int)) W := by
  have h : ∀ k : Fin 64, (ByteArray.mk #[65, 66, 67, 68, 69, 70, 71, 72, 73, 74, 75, 76, 77, 78, 79, 80, 81, 82, 83, 84, 85, 86, 87, 88, 89, 90, 97, 98, 99, 100, 101, 102, 103, 104, 105, 106, 107, 108, 109, 110, 111, 112, 113, 114, 115, 116, 117, 118, 119, 120, 121, 122, 48, 49, 50, 51, 52, 53, 54, 55, 56, 57, 43, 45])[k.1]'(by simp [ByteArray.size]) = letB.getD k.1 0 := by decide +kernel
  have e2 : ((k : Int)).toNat = k := by omega
  have h5 := h ⟨k, hk⟩
  rw [run_index_string (h := Tryd.underlying9), dif_pos (by simp [ByteArray.size]; omega)]
  simp only [e2]
  rw [h5]
def PadV (W : World) (base : Nat) (bs : List Int) (t : Nat) (v : Value) : Prop := OwnS W base 2 v (bs ++ List.replicate t 0)
theorem pad_get (bs : List Int) (t i : Nat) : (bs ++ List.replicate t 0).getD i 0 = bs.getD i 0 := by
  rw [List.getD_eq_getElem?_getD, List.getD_eq_getElem?_getD]
  by_cases h : i < bs.length
  · rw [List.getElem?_append_left h]
  · rw [List.getElem?_append_right (by omega), List.getElem?_replicate, List.getElem?_eq_none (l := bs) (by omega)]
    split <;> rfl
theorem one_newB (w : World) (x : UInt8) : ∀ j u, (u8s [x])[j]? = some u → (w.alloc (.cells #[.int .u8 ((x.toNat : Nat) : Int)] 5)).cell? ((⟨w.heap.size, 0, none⟩ : Addr).add j) = some u := fun j u hj => by
  have h1 : j < 1 := by
    have := (List.getElem?_eq_some_iff.1 hj).1
    simpa [u8s] using this
  have h0 : j = 0 := by omega
  subst h0
  simp [u8s] at hj
  subst hj
  simp [go_sem, Addr.add]
theorem own_snocN {w' : World} {base n : Nat} {v' : Value} {P : List Int} {x : Int} (hn : P.length = n) (h : w'.ownsRow base 2 1 v' (n + 1) (P.map (Value.int .i64) ++ [.int .i64 x])) : OwnS w' base 2 v' (P ++ [x]) := by subst hn; exact OwnS.snoc h
theorem u8_snoc {w' : World} {base n : Nat} {v' : Value} {l : List UInt8} {x : UInt8} (h : w'.ownsRow base 5 1 v' (n + 1) (u8s l ++ [.int .u8 ((x.toNat : Nat) : Int)])) : w'.ownsRow base 5 1 v' (n + 1) (u8s (l ++ [x])) := by
  unfold u8s at *
  rw [List.map_append]
  exact h
def lenV : Value → Nat
  | .slice _ n _ => n
  | _ => 0
set_option maxRecDepth 100000 in
set_option maxHeartbeats 4000000 in
theorem BoardId_yes (p ch h s : Int) (A1 A2 : Option Addr) (n1 c1 n2 c2 : Nat) (own other : List Int) (w : World) (h1 : SL w A1 n1 own) (h2 : SL w A2 n2 other) (hB : boardB p ch h s own other = true) :
    Calls Tryd.prog 24 #[.agg #[.int .i64 p, .int .i64 ch, .int .i64 h, .int .i64 s], .agg #[.slice A1 n1 c1, .slice A2 n2 c2]] w fun e w' => e = .returned (strV (boardT own other)) ∧ Below w.heap.size w w' := by
  obtain ⟨i0, hi, iz0, iz1, iz2⟩ := info_parts Tryd.infoI
  obtain ⟨j0, hj, jz0, jz1, jz2⟩ := info_parts Tryd.infoU8
  obtain ⟨hp2, hp24, hl1, hl2, hx, hT⟩ := board_bits hB
  have e1 := h1.1
  have e2 := h2.1
  have HF0 : Hid (Fr w ((w.alloc (.cells #[.int .i64 p, .int .i64 ch, .int .i64 h, .int .i64 s] 34)).alloc (.cells #[.slice A1 n1 c1, .slice A2 n2 c2] 35)) [[.int .i64 p, .int .i64 ch, .int .i64 h, .int .i64 s], [.slice A1 n1 c1, .slice A2 n2 c2]]) := ((Fr.start w).allocT (by simp) _ _).allocT (by simp) _ _
  have CR : Hid (∀ W : World, Below w.heap.size w W → Calls Tryd.prog 43 #[.agg #[.int .i64 p, .int .i64 ch, .int .i64 h, .int .i64 s], .agg #[.slice A1 n1 c1, .slice A2 n2 c2]] W fun e w' => e = .returned (.bool true) ∧ Below W.heap.size W w') := fun W hb => by
    have h3 := IsBoard_any p ch h s A1 A2 n1 c1 n2 c2 own other W (h1.below hb) (h2.below hb) (by omega) (by omega)
    rw [hB] at h3
    exact h3
  have CB := Lib.hid fun (W : World) (hb : Below w.heap.size w W) => bitsOf_any A1 A2 n1 c1 n2 c2 own other W (h1.below hb) (h2.below hb) hx (by omega)
  have H01 := Lib.hid (bitsN_01 (own ++ other))
  have HN6 : Hid (0 < (bitsN (own ++ other)).length) := by
    have := bitsN_ge (own ++ other)
    rw [List.length_append] at this
    unfold Hid
    omega
  have HGOAL : Hid (boardT own other = idT (bitsN (own ++ other)) (((bitsN (own ++ other)).length + 5) / 6)) := rfl
  clear hB h1 h2 hx hl1 hl2 e1 e2
  go_enter Tryd.func24, Tryd.ntmps24
  go_wp2_with (fail)
  refine (CR.out _ HF0.out.b).mono ?_
  rintro e w1 ⟨rfl, hbb⟩
  have HF1 := Lib.hid (HF0.out.below hbb)
  clear hbb HF0
  have z0 := HF1.out.l0 (by simp)
  have c00 := HF1.out.c0 0 rfl
  have f00 := HF1.out.f0 0 rfl
  have c01 := HF1.out.c0 1 rfl
  have f01 := HF1.out.f0 1 rfl
  have c02 := HF1.out.c0 2 rfl
  have f02 := HF1.out.f0 2 rfl
  have c03 := HF1.out.c0 3 rfl
  have f03 := HF1.out.f0 3 rfl
  have z1 := HF1.out.l1 (by simp)
  have c10 := HF1.out.c1 0 rfl
  have f10 := HF1.out.f1 0 rfl
  have c11 := HF1.out.c1 1 rfl
  have f11 := HF1.out.f1 1 rfl
  go_wp2_with (fail)
  clear z0 c00 f00 c01 f01 c02 f02 c03 f03 z1 c10 f10 c11 f11
  refine (CB.out _ HF1.out.b).mono ?_
  rintro e w2 ⟨AQ, cQ, rfl, ho, hb2⟩
  have HB2 := Lib.hid (HF1.out.b.trans (hb2.mono HF1.out.b.size))
  have hz1 : w.heap.size ≤ w1.heap.size := HF1.out.b.size
  have HO2 : Hid (OwnS w2 w.heap.size 2 (.slice AQ (bitsN (own ++ other)).length cQ) (bitsN (own ++ other))) := ho.mono hz1
  clear hb2 ho CB CR HF1
  generalize bitsN (own ++ other) = bs at *
  have HTT := Lib.hid hT
  go_wp2_with (fail)
  go_loopw [5] (fun v5 wr => ∃ (t L g c : Nat), v5 = .slice (some ⟨g, 0, none⟩) L c ∧ L ≤ 90 ∧ Hid (L = bs.length + t ∧ L ≤ 6 * ((bs.length + 5) / 6)) ∧ Hid (OwnS wr w.heap.size 2 (.slice (some ⟨g, 0, none⟩) L c) (bs ++ List.replicate t 0)) ∧ Hid (Below w.heap.size w wr)) (fun v5 _ => 90 - lenV v5)
  case atStart =>
    obtain ⟨g, hA, _⟩ := own_form HO2.out HN6.out
    subst hA
    exact ⟨0, bs.length, g, cQ, rfl, by omega, ⟨rfl, by omega⟩, by rw [List.replicate_zero, List.append_nil]; exact HO2.out, HB2.out⟩
  case round =>
    clear HO2 HB2
    obtain ⟨t, L, g, c, rfl, hL, HL, HO, HB⟩ := hrel
    have HPL : Hid ((bs ++ List.replicate t (0 : Int)).length = L) := by unfold Hid; rw [List.length_append, List.length_replicate, HL.out.1]
    obtain ⟨d, hd⟩ : ∃ d, d = L % 6 := ⟨_, rfl⟩
    have hdd : (L : Int) % 6 = (d : Int) := by omega
    by_cases h0 : d = 0
    · have b0 : ((d : Int) != 0) = false := by simp [h0]
      obtain ⟨Q, hQ⟩ : ∃ Q, Q = L / 6 := ⟨_, rfl⟩
      have hLQ : (L : Int) / 6 = (Q : Int) := by omega
      have HQ : Hid (L = 6 * Q ∧ Q = (bs.length + 5) / 6) := by have := HL.out; unfold Hid; omega
      have hQ90 : Q ≤ 90 := by omega
      obtain ⟨W', hrun, hown, hgr⟩ := run_make_own (P := Tryd.prog) wr w.heap.size 68 5 j0 (.int .u8 0) 1 Tryd.underlying68 hj jz0 jz1 .i64 .i64 Q (by rw [jz2]; omega) (by unfold maxLen; omega) HB.out.size
      have hb0 : Below wr.heap.size wr W' := (Below.refl _ _).grown hgr (Nat.le_refl _) (fun k hk => by cases hk)
      have HB3 : Hid (Below w.heap.size w W') := HB.out.trans (hb0.mono HB.out.size)
      have HO3 : Hid (OwnS W' w.heap.size 2 (.slice (some ⟨g, 0, none⟩) L c) (bs ++ List.replicate t 0)) := own_below HO.out hb0
      have hgw : g < wr.heap.size := (World.ownsRow.lt HO.out g rfl).2
      have HW3 : Hid (W'.ownsRow w.heap.size 5 1 (.slice (some ⟨wr.heap.size, 0, none⟩) 0 Q) 0 (u8s (idT bs 0))) := hown
      have HVN3 : Hid (∀ k, (Value.slice (some ⟨wr.heap.size, 0, none⟩) 0 Q).ownBlock = some k → k ≠ g) := fun k hk => by
        have h : some wr.heap.size = some k := hk
        injection h with h
        omega
      have HPG := Lib.hid (pad_get bs t)
      have HP1 : Hid (∀ i, bs.getD i 0 = 0 ∨ bs.getD i 0 = 1) := fun i => by
        rw [List.getD_eq_getElem?_getD]
        cases h : bs[i]? with
        | none => exact .inl rfl
        | some x => exact H01.out x (List.mem_of_getElem? h)
      generalize bs ++ List.replicate t (0 : Int) = ps at *
      clear HO HB hown hgr hb0 hd h0 hQ HL H01
      go_wp2_with (fail)
      obtain ⟨wa, rfl⟩ : ∃ wa : World, wa = W' := ⟨_, rfl⟩
      clear hrun
      go_loopw [6, 7] (fun v6 v7 wr => ∃ (q m : Nat), m ≤ L ∧ Hid (m = 6 * q) ∧ v7 = .int .i64 m ∧ (∃ vx, vx = v6 ∧ Hid (wr.ownsRow w.heap.size 5 1 vx q (u8s (idT bs q))) ∧ Hid (∀ k, vx.ownBlock = some k → k ≠ g)) ∧ Hid (OwnS wr w.heap.size 2 (.slice (some ⟨g, 0, none⟩) L c) ps) ∧ Hid (Below w.heap.size w wr)) (fun _ v7 _ => L - (intOf v7).toNat)
      case atStart => exact ⟨0, 0, by omega, rfl, rfl, ⟨_, rfl, HW3.out, HVN3.out⟩, HO3.out, HB3.out⟩
      case round =>
        clear HW3 HVN3 HO3 HB3
        obtain ⟨q, m, hm, HM, rfl, ⟨vx, rfl, HW, HVN⟩, HO, HB⟩ := hrel
        by_cases hlt : m < L
        · have hji : (m : Int) < (L : Int) := by omega
          have hm6 : m + 6 ≤ L := by have := HM.out; have := HQ.out; omega
          have hLc : L ≤ c := (HO.out.sl rfl).2
          have h66 : m + 6 - m = 6 := by omega
          go_wp2_with (fail)
          obtain ⟨wb, rfl⟩ : ∃ wb : World, wb = wr := ⟨_, rfl⟩
          go_loopw [8, 40] (fun v8 v40 wr => ∃ (j x : Nat), j ≤ 6 ∧ x < 64 ∧ Hid (x = chI bs m j) ∧ v40 = .int .i64 j ∧ v8 = .int .i64 x ∧ Hid (wr.ownsRow w.heap.size 5 1 vx q (u8s (idT bs q))) ∧ Hid (OwnS wr w.heap.size 2 (.slice (some ⟨g, 0, none⟩) L c) ps) ∧ Hid (Below w.heap.size w wr)) (fun _ v40 _ => 6 - (intOf v40).toNat)
          case atStart => exact ⟨0, 0, by omega, by omega, rfl, rfl, rfl, HW.out, HO.out, HB.out⟩
          case round =>
            clear HW HO HB
            obtain ⟨j, x, hj6, hx64, HX, rfl, rfl, HW, HO, HB⟩ := hrel
            by_cases hgo : j < 6
            · have hgi : (j : Int) < 6 := by omega
              obtain ⟨y, hy⟩ : ∃ y, y = bs.getD (m + j) 0 := ⟨_, rfl⟩
              have hx0 : wr.cell? ⟨g, m + j, none⟩ = some (.int .i64 y) := by
                obtain ⟨g2, e, _, _, hc, _⟩ := own_form HO.out (by omega)
                injection e with e
                injection e with e
                subst e
                rw [hy, ← HPG.out (m + j)]
                exact hc (m + j) (by omega)
              have hgz := (World.ownsRow.lt HO.out g rfl).2
              have HN : Hid ((y = 0 ∧ 2 * x = chI bs m (j + 1) ∧ 2 * x < 64) ∨ (y = 1 ∧ 2 * x + 1 = chI bs m (j + 1) ∧ 2 * x + 1 < 64)) := by
                have h3 := chI_64 bs m (j + 1) (by omega)
                have h4 : chI bs m (j + 1) = 2 * chI bs m j + (if bs.getD (m + j) 0 = 1 then 1 else 0) := rfl
                rw [← HX.out, ← hy] at h4
                rcases HP1.out (m + j) with h | h
                · rw [← hy] at h
                  rw [h] at h4
                  exact .inl ⟨h, by simpa using h4.symm, by simp at h4; omega⟩
                · rw [← hy] at h
                  rw [h] at h4
                  exact .inr ⟨h, by simpa using h4.symm, by simp at h4; omega⟩
              clear hy
              rcases HN.out with ⟨hy, h1, h2⟩ | ⟨hy, h1, h2⟩
              · subst hy
                have h1 := Lib.hid h1
                clear HN
                go_wp2_with (fail)
                exact ⟨⟨j + 1, 2 * x, by omega, h2, h1.out, by congr 1, by congr 1, HW, HO, HB⟩, by simp [intOf]; omega⟩
              · subst hy
                have h1 := Lib.hid h1
                clear HN
                go_wp2_with (fail)
                exact ⟨⟨j + 1, 2 * x + 1, by omega, h2, h1.out, by congr 1, by congr 1, HW, HO, HB⟩, by simp [intOf]; omega⟩
            · have hgi : ¬ (j : Int) < 6 := by omega
              have HX2 : Hid (idT bs (q + 1) = idT bs q ++ [letB.getD x 0]) := by
                have e : j = 6 := by omega
                unfold Hid
                rw [idT_succ, ← HM.out, ← e, ← HX.out]
              have hix := idx_run x hx64
              generalize letB.getD x 0 = y at *
              have HROW : Hid ((wr.alloc (.cells #[.int .u8 ((y.toNat : Nat) : Int)] 5)).ownsRow w.heap.size 5 1 vx q (u8s (idT bs q))) := World.ownsRow.alloc HW.out _
              have HNW := Lib.hid (one_newB wr y)
              have HVL := Lib.hid (fun (k : Nat) (hk : vx.ownBlock = some k) => World.ownsRow.lt HW.out k hk)
              have HBA : Hid (Below w.heap.size w (wr.alloc (.cells #[.int .u8 ((y.toNat : Nat) : Int)] 5))) := HB.out.alloc HB.out.size _
              have HOA : Hid (OwnS (wr.alloc (.cells #[.int .u8 ((y.toNat : Nat) : Int)] 5)) w.heap.size 2 (.slice (some ⟨g, 0, none⟩) L c) ps) := OwnS.alloc HO.out _
              have hzr := HB.out.size
              have hgz := (World.ownsRow.lt HO.out g rfl).2
              have hq90 : q ≤ 90 := by have := HM.out; omega
              clear HW HO HB
              go_wp2_with (at_builtin; (refine wpList_append_own_at _ rfl _ _ 68 rfl w.heap.size 5 j0 (.int .u8 0) 1 1 Tryd.underlying68 hj jz0 jz1 jz2 rfl (by decide) _ _ _ rfl HROW.out ⟨wr.heap.size, 0, none⟩ 1 1 (u8s [y]) rfl rfl HNW.out (fun u hu => by obtain ⟨b, _, rfl⟩ := List.mem_map.1 hu; rfl) (by unfold maxLen; omega) (by omega) (by simp; omega) ?_); intro v' w4 hown hgrow _ hat)
              have hg' : Hid (∀ k, (wr.alloc (.cells #[.int .u8 ((y.toNat : Nat) : Int)] 5)).grownBy w4 k → k = vx.ownBlock → Hid (Below w.heap.size w w4) ∧ Hid (OwnS w4 w.heap.size 2 (.slice (some ⟨g, 0, none⟩) L c) ps)) := fun k hg hk => by
                subst hk
                exact ⟨HBA.out.grown hg (by simp; omega) (fun x hx => by have := (HVL.out x hx).1; omega), World.ownsRow.kept HOA.out hg (.inr (fun e => HVN.out g e.symm rfl))⟩
              obtain ⟨HB2, HO2⟩ := hg'.out _ hgrow rfl
              have HVN2 : Hid (∀ k, v'.ownBlock = some k → k ≠ g) := fun k hk => by
                rcases hat with h | h
                · exact HVN.out k (h.symm.trans hk)
                · rw [h] at hk
                  injection hk with hk
                  have : (wr.alloc (.cells #[.int .u8 ((y.toNat : Nat) : Int)] 5)).heap.size = wr.heap.size + 1 := by simp
                  omega
              have HW2 : Hid (w4.ownsRow w.heap.size 5 1 v' (q + 1) (u8s (idT bs (q + 1)))) := by
                unfold Hid
                rw [HX2.out]
                exact u8_snoc hown
              have HM2 : Hid (m + 6 = 6 * (q + 1)) := by have := HM.out; unfold Hid; omega
              clear hown hgrow hg' HBA HOA HROW HNW hat
              exact ⟨⟨q + 1, m + 6, hm6, HM2, by omega, ⟨HW2, HVN2⟩, HO2, HB2⟩, by simp [intOf]; omega⟩
        · have hji : ¬ (m : Int) < (L : Int) := by omega
          have HT : Hid (strV (idT bs q) = strV (boardT own other)) := by
            have h1 := HM.out
            have h2 := HQ.out
            have e : q = (bs.length + 5) / 6 := by omega
            unfold Hid
            rw [e, HGOAL.out]
          have hcv := row_conv HW.out
          rw [HT.out] at hcv
          go_wp2_with (fail)
          go_ret
          exact ⟨rfl, HB.out⟩
    · have b0 : ((d : Int) != 0) = true := by simp; omega
      have HROW : Hid ((wr.alloc (.cells #[.int .i64 0] 2)).ownsRow w.heap.size 2 1 (.slice (some ⟨g, 0, none⟩) L c) L ((bs ++ List.replicate t (0 : Int)).map (Value.int .i64))) := by
        have h := row_al HO.out (.cells #[.int .i64 0] 2)
        rw [HPL.out] at h
        exact h
      have HNW := Lib.hid (one_newI wr 0)
      have HVL := Lib.hid (World.ownsRow.lt HO.out g rfl)
      have HBA : Hid (Below w.heap.size w (wr.alloc (.cells #[.int .i64 0] 2))) := HB.out.alloc HB.out.size _
      have HD : Hid (L % 6 = d ∧ d ≠ 0) := ⟨hd.symm, h0⟩
      have hzr := HB.out.size
      clear HO HB hd h0
      go_wp2_with (at_builtin; (refine wpList_append_own_at _ rfl _ _ 24 rfl w.heap.size 2 i0 (.int .i64 0) 1 8 Tryd.underlying24 hi iz0 iz1 iz2 rfl (by decide) _ _ _ rfl HROW.out ⟨wr.heap.size, 0, none⟩ 1 1 _ rfl rfl HNW.out (int_cells _) (by unfold maxLen; omega) (by omega) (by simp; omega) ?_); intro v' w4 hown hgrow _ hat)
      have HO2 := Lib.hid (own_snocN HPL.out hown)
      have hg' : Hid (∀ k, (wr.alloc (.cells #[.int .i64 0] 2)).grownBy w4 k → k = some g → Hid (Below w.heap.size w w4)) := fun k hg hk => by
        subst hk
        exact HBA.out.grown hg (by simp; omega) (fun x hx => by have := HVL.out.1; injection hx with hx; omega)
      have HB2 := hg'.out _ hgrow rfl
      have HO3 : Hid (OwnS w4 w.heap.size 2 v' (bs ++ List.replicate (t + 1) 0)) := by
        unfold Hid
        rw [List.replicate_succ', ← List.append_assoc]
        exact HO2.out
      obtain ⟨A', c', hv', _, _⟩ := HO3.out.read
      rw [List.length_append, List.length_replicate, ← Nat.add_assoc, ← HL.out.1] at hv'
      subst hv'
      obtain ⟨g', hA', _⟩ := own_form HO3.out (by omega)
      subst hA'
      have HL2 : Hid (L + 1 = bs.length + (t + 1) ∧ L + 1 ≤ 6 * ((bs.length + 5) / 6)) := by have := HL.out; have := HD.out; unfold Hid; omega
      have hT80 := HTT.out
      have hL9 : L + 1 ≤ 90 := by have := HL2.out; omega
      clear hown hgrow hg' HBA HROW HNW HO2
      exact ⟨⟨t + 1, L + 1, g', c', rfl, hL9, HL2, HO3, HB2⟩, by simp [lenV]; omega⟩
end Go.Proofs.YtkjlafcnmniomaaDoor

/- Contracts of the program's text of a variant and of the bits of a board. There are no conditions beyond those that each states. -/
import Derived.Test.YtkjlafcnmniomaaDoorT4
import Derived.Deep.Onto
namespace Go.Proofs.YtkjlafcnmniomaaDoor
set_option linter.unusedVariables false
set_option linter.unusedSimpArgs false
open Go.RowKit

set_option maxRecDepth 100000 in
set_option maxHeartbeats 1000000 in
theorem VariantText_yes (p c h s : Nat) (w : World) (hv : isVar p c h s = true) (ht : TBok w) :
    Calls Tryd.prog 23 #[.agg #[.int .i64 p, .int .i64 c, .int .i64 h, .int .i64 s]] w fun e w' => e = .returned (strV (varT p c h s)) ∧ Below w.heap.size w w' := by
  have hvv := isVar_yes hv
  have HF0 : Hid (Fr w (w.alloc (.cells #[.int .i64 p, .int .i64 c, .int .i64 h, .int .i64 s] 34)) [[.int .i64 p, .int .i64 c, .int .i64 h, .int .i64 s]]) := (Fr.start w).allocT (by simp) _ _
  have CR : Hid (∀ W : World, Calls Tryd.prog 42 #[.agg #[.int .i64 p, .int .i64 c, .int .i64 h, .int .i64 s]] W fun e w' => e = .returned (.bool true) ∧ Below W.heap.size W w') := fun W => by
    have h1 := IsVariant_any p c h s W
    rw [hv] at h1
    exact h1
  have HT := Lib.hid ht
  have CJ := Lib.hid fun (g : Nat) (W : World) (hC : Cel W g [.int .i64 (p : Int), .int .i64 (c : Int), .int .i64 (h : Int), .int .i64 (s : Int)]) (ht : TBok W) => joinNumbers4 p c h s g 4 W (by omega) (by omega) (by omega) (by omega) hC ht
  clear hv ht
  go_enter Tryd.func23, Tryd.ntmps23
  go_wp2_with (fail)
  refine (CR.out _).mono ?_
  rintro e w1 ⟨rfl, hbb⟩
  have HF1 := Lib.hid (HF0.out.below hbb)
  clear hbb HF0
  have z0 := HF1.out.l0 (by simp)
  have c00 := HF1.out.c0 0 rfl
  have f00 := HF1.out.f0 0 rfl
  have c01 := HF1.out.c0 1 rfl
  have f01 := HF1.out.f0 1 rfl
  have c02 := HF1.out.c0 2 rfl
  have f02 := HF1.out.f0 2 rfl
  have c03 := HF1.out.c0 3 rfl
  have f03 := HF1.out.f0 3 rfl
  go_wp2_with (fail)
  clear z0 c00 f00 c01 f01 c02 f02 c03 f03
  have HB2 : Hid (Below w.heap.size w (w1.alloc (.cells #[.int .i64 p, .int .i64 c, .int .i64 h, .int .i64 s] 2))) := HF1.out.b.alloc HF1.out.b.size _
  refine (CJ.out w1.heap.size _ (Cel.new w1 #[.int .i64 p, .int .i64 c, .int .i64 h, .int .i64 s] _) (HT.out.below HB2.out)).mono ?_
  rintro e w3 ⟨rfl, hb3⟩
  have HB3 := Lib.hid (HB2.out.trans (hb3.mono HB2.out.size))
  clear hb3
  go_wp2_with (fail)
  go_ret
  exact ⟨rfl, HB3.out⟩
/-- The bits of numbers of checkers. -/
def bitsN (l : List Int) : List Int := l.flatMap fun n => List.replicate n.toNat 1 ++ [0]
theorem bitsN_nil : bitsN [] = [] := rfl
theorem bitsN_app (a b : List Int) : bitsN (a ++ b) = bitsN a ++ bitsN b := by unfold bitsN; rw [List.flatMap_append]
theorem bitsN_take {l : List Int} {j : Nat} (h : j < l.length) : bitsN (l.take (j + 1)) = bitsN (l.take j) ++ (List.replicate (l.getD j 0).toNat 1 ++ [0]) := by
  rw [List.take_succ_eq_append_getElem h, bitsN_app]
  congr 1
  simp [bitsN, List.getD, h]
theorem bitsN_pre {l : List Int} {j i : Nat} (h : j < l.length) (hi : i ≤ (l.getD j 0).toNat) : (bitsN (l.take j)).length + i + 1 ≤ (bitsN l).length := by
  have h1 : bitsN l = bitsN (l.take (j + 1)) ++ bitsN (l.drop (j + 1)) := by rw [← bitsN_app, List.take_append_drop]
  rw [h1, bitsN_take h]
  simp only [List.length_append, List.length_replicate, List.length_singleton]
  omega
theorem bitsN_ge : ∀ l : List Int, l.length ≤ (bitsN l).length
  | [] => Nat.zero_le _
  | a :: l => by
    have h1 := bitsN_ge l
    have h2 : bitsN (a :: l) = (List.replicate a.toNat 1 ++ [0]) ++ bitsN l := by simp [bitsN]
    rw [h2]
    simp only [List.length_cons, List.length_append, List.length_replicate, List.length_nil]
    omega
theorem one_newI (w : World) (x : Int) : ∀ j u, [Value.int .i64 x][j]? = some u → (w.alloc (.cells #[.int .i64 x] 2)).cell? ((⟨w.heap.size, 0, none⟩ : Addr).add j) = some u := fun j u hj => by
  have h1 : j < 1 := by
    have := (List.getElem?_eq_some_iff.1 hj).1
    simpa using this
  have h0 : j = 0 := by omega
  subst h0
  simp at hj
  subst hj
  simp [go_sem, Addr.add]
theorem int_cells (x : Int) : ∀ u ∈ [Value.int .i64 x], u.oneCell' = true := fun u hu => by rw [List.mem_singleton.1 hu]; rfl
theorem OwnS.snoc {w' : World} {base : Nat} {v' : Value} {P : List Int} {x : Int} (h : w'.ownsRow base 2 1 v' (P.length + 1) (P.map (Value.int .i64) ++ [.int .i64 x])) : OwnS w' base 2 v' (P ++ [x]) := by
  unfold OwnS
  rw [List.length_append, List.map_append]
  exact h
theorem row_al {w : World} {base : Nat} {v : Value} {P : List Int} (h : OwnS w base 2 v P) (o : Obj) : (w.alloc o).ownsRow base 2 1 v P.length (P.map (Value.int .i64)) := World.ownsRow.alloc h o
/-- The bits of the first k sides. -/
def BP (own other : List Int) : Nat → List Int
  | 0 => []
  | 1 => bitsN own
  | _ => bitsN own ++ bitsN other
theorem frm_froz {T : Nat → Prop} {wr w2 : World} (hf : Frm T wr w2) {b j : Nat} (hb : b < wr.heap.size) (hn : ¬ T b) : w2.frozen? ⟨b, j, none⟩ = wr.frozen? ⟨b, j, none⟩ := by
  have h := hf.block b hb hn
  simp [World.frozen?, h]
theorem Cel.frmN {S : Nat → Prop} {W W' : World} {g : Nat} {cs : List Value} (h : Cel W g cs) (hf : Frm S W W') (hn : ¬ S g) : Cel W' g cs :=
  ⟨Nat.lt_of_lt_of_le h.lt hf.size, fun i x hx => hf.cell' (h.cell i x hx) hn, fun i x hx => (frm_froz hf h.lt hn).trans (h.froz i x hx)⟩
set_option maxRecDepth 100000 in
set_option maxHeartbeats 4000000 in
theorem bitsOf_any (A1 A2 : Option Addr) (n1 c1 n2 c2 : Nat) (own other : List Int) (w : World) (h1 : SL w A1 n1 own) (h2 : SL w A2 n2 other) (hx : ∀ x ∈ own ++ other, 0 ≤ x ∧ x ≤ 1000) (hT : (bitsN (own ++ other)).length ≤ 990) :
    Calls Tryd.prog 47 #[.agg #[.slice A1 n1 c1, .slice A2 n2 c2]] w (RetO w 2 (bitsN (own ++ other))) := by
  obtain ⟨i0, hi, iz0, iz1, iz2⟩ := info_parts Tryd.infoI
  have H1 := Lib.hid h1
  have H2 := Lib.hid h2
  have HX := Lib.hid hx
  have hl1 : own.length = n1 := h1.1
  have hl2 : other.length = n2 := h2.1
  rw [bitsN_app, List.length_append] at hT
  have HBP : Hid (∀ k, (BP own other k).length ≤ 1000) := fun k => by
    match k with
    | 0 => exact Nat.zero_le _
    | 1 => show (bitsN own).length ≤ _; omega
    | k + 2 => show (bitsN own ++ bitsN other).length ≤ _; rw [List.length_append]; omega
  have HBX : Hid ((bitsN own).length ≤ 990 ∧ (bitsN other).length ≤ 990) := by unfold Hid; omega
  have hn1 : n1 ≤ 990 := by have := bitsN_ge own; omega
  have hn2 : n2 ≤ 990 := by have := bitsN_ge other; omega
  have HX1 : Hid (∀ x ∈ own, 0 ≤ x ∧ x ≤ 1000) := fun x h => hx x (List.mem_append_left _ h)
  have HX2 : Hid (∀ x ∈ other, 0 ≤ x ∧ x ≤ 1000) := fun x h => hx x (List.mem_append_right _ h)
  have HL1 := Lib.hid hl1
  have HL2 := Lib.hid hl2
  have HB0 : Hid (Below w.heap.size w ((w.alloc (.cells #[.slice A1 n1 c1, .slice A2 n2 c2] 35)).alloc (.cells #[.slice A1 n1 c1, .slice A2 n2 c2] 24))) := ((Below.refl _ _).alloc (Nat.le_refl _) _).alloc (by simp) _
  have HG0 : Hid (Cel ((w.alloc (.cells #[.slice A1 n1 c1, .slice A2 n2 c2] 35)).alloc (.cells #[.slice A1 n1 c1, .slice A2 n2 c2] 24)) (w.heap.size + 1) [.slice A1 n1 c1, .slice A2 n2 c2]) := by
    have h1 := Cel.new (w.alloc (.cells #[.slice A1 n1 c1, .slice A2 n2 c2] 35)) #[.slice A1 n1 c1, .slice A2 n2 c2] 24
    rw [show (w.alloc (.cells #[.slice A1 n1 c1, .slice A2 n2 c2] 35)).heap.size = w.heap.size + 1 by simp] at h1
    exact h1
  clear h1 h2 hx hT
  go_enter Tryd.func47, Tryd.ntmps47
  go_wp2_with (fail)
  go_loopw [3, 14] (fun v3 v14 wr => ∃ (k : Nat), k ≤ 2 ∧ v14 = .int .i64 k ∧ (∃ vx, vx = v3 ∧ Hid (OwnS wr (w.heap.size + 2) 2 vx (BP own other k))) ∧ Hid (Cel wr (w.heap.size + 1) [.slice A1 n1 c1, .slice A2 n2 c2]) ∧ Hid (Below w.heap.size w wr)) (fun _ v14 _ => 2 - (intOf v14).toNat)
  case atStart => exact ⟨0, by omega, rfl, ⟨_, rfl, World.ownsRow_nil _ _ _ _⟩, HG0.out, HB0.out⟩
  case round =>
    clear HG0 HB0
    obtain ⟨k, hk, rfl, ⟨vx, rfl, HO⟩, HG, HB⟩ := hrel
    have hk5 : k = 0 ∨ k = 1 ∨ k = 2 := by omega
    have y0 := HG.out.cell 0 _ rfl
    have y1 := HG.out.cell 1 _ rfl
    have yz := HG.out.lt
    rcases hk5 with rfl | rfl | rfl
    · skip
      go_wp2_with (fail)
      obtain ⟨wa, rfl⟩ : ∃ wa : World, wa = wr := ⟨_, rfl⟩
      go_loopw [3, 20] (fun v3 v20 wr => ∃ (j : Nat), j ≤ n1 ∧ v20 = .int .i64 j ∧ (∃ vx, vx = v3 ∧ Hid (OwnS wr (w.heap.size + 2) 2 vx (BP own other 0 ++ bitsN ((own).take j)))) ∧ Hid (Cel wr (w.heap.size + 1) [.slice A1 n1 c1, .slice A2 n2 c2]) ∧ Hid (Below w.heap.size w wr)) (fun _ v20 _ => n1 - (intOf v20).toNat)
      case atStart => exact ⟨0, by omega, rfl, ⟨_, rfl, (by rw [List.take_zero, bitsN_nil, List.append_nil]; exact HO.out)⟩, HG.out, HB.out⟩
      case round =>
        clear HO HG HB y0 y1 yz
        obtain ⟨j, hj, rfl, ⟨vx, rfl, HO⟩, HG, HB⟩ := hrel
        by_cases hlt : j < n1
        · have hji : (j : Int) < (n1 : Int) := by omega
          obtain ⟨bA, oA, hA, hzA, hcA⟩ := (H1.out.below HB.out).2 (by omega)
          have hjl : j < (own).length := by rw [HL1.out]; exact hlt
          have hxj := HX1.out _ (getD_mem own j hjl)
          obtain ⟨m, hm⟩ : ∃ m : Nat, (own).getD j 0 = m := ⟨((own).getD j 0).toNat, by omega⟩
          have hx0 := hcA j hlt
          rw [hm] at hx0 hxj
          have HM := Lib.hid hm
          have hzb := hzA
          subst hA
          clear hcA hm hzA
          go_wp2_with (fail)
          clear hx0
          obtain ⟨wb, rfl⟩ : ∃ wb : World, wb = wr := ⟨_, rfl⟩
          go_loopw [3, 25] (fun v3 v25 wr => ∃ (i : Nat), i ≤ m ∧ v25 = .int .i64 i ∧ (∃ vx, vx = v3 ∧ Hid (OwnS wr (w.heap.size + 2) 2 vx (BP own other 0 ++ bitsN ((own).take j) ++ List.replicate i 1))) ∧ Hid (Cel wr (w.heap.size + 1) [.slice (some ⟨bA, oA, none⟩) n1 c1, .slice A2 n2 c2]) ∧ Hid (Below w.heap.size w wr)) (fun _ v25 _ => m - (intOf v25).toNat)
          case atStart => exact ⟨0, by omega, rfl, ⟨_, rfl, (by rw [List.replicate_zero, List.append_nil]; exact HO.out)⟩, HG.out, HB.out⟩
          case round =>
            clear HO HG HB
            obtain ⟨i, hi', rfl, ⟨vx, rfl, HO⟩, HG, HB⟩ := hrel
            have HP2 : Hid ((BP own other 0 ++ bitsN ((own).take j) ++ List.replicate i (1 : Int)).length ≤ 1999) := by
              have h1 := bitsN_pre (l := own) (j := j) (i := i) hjl (by rw [HM.out]; omega)
              have h2 := HBP.out 0
              unfold Hid
              have h3 := HBX.out
              simp only [List.length_append, List.length_replicate]
              omega
            by_cases hil : i < m
            · have hii : (i : Int) < (m : Int) := by omega
              have HROW := Lib.hid (row_al HO.out (.cells #[.int .i64 1] 2))
              have HNW := Lib.hid (one_newI wr 1)
              have HVL := Lib.hid (fun (k : Nat) (hk : vx.ownBlock = some k) => World.ownsRow.lt HO.out k hk)
              have HBA : Hid (Below w.heap.size w (wr.alloc (.cells #[.int .i64 1] 2))) := HB.out.alloc HB.out.size _
              have HGA := Lib.hid (HG.out.alloc (.cells #[.int .i64 1] 2))
              have hzr : w.heap.size + 2 ≤ wr.heap.size := HG.out.lt
              clear HO HG HB
              go_wp2_with (at_builtin; (refine wpList_append_own_at _ rfl _ _ 24 rfl (w.heap.size + 2) 2 i0 (.int .i64 0) 1 8 Tryd.underlying24 hi iz0 iz1 iz2 rfl (by decide) _ _ _ rfl HROW.out ⟨wr.heap.size, 0, none⟩ 1 1 _ rfl rfl HNW.out (int_cells _) (by have := HP2.out; unfold maxLen; omega) (by have := HP2.out; omega) (by simp; omega) ?_); intro v' w4 hown hgrow _ _)
              have HO2 := Lib.hid (OwnS.snoc hown)
              have hg' : Hid (∀ k, (wr.alloc (.cells #[.int .i64 1] 2)).grownBy w4 k → k = vx.ownBlock → Hid (Below w.heap.size w w4) ∧ Hid (Cel w4 (w.heap.size + 1) [.slice (some ⟨bA, oA, none⟩) n1 c1, .slice A2 n2 c2])) := fun k hg hk => by
                subst hk
                exact ⟨HBA.out.grown hg (by simp; omega) (fun x hx => by have := (HVL.out x hx).1; omega), HGA.out.frmN (Frm.of_grown hg) (fun hx => by have h1 := HVL.out _ hx.symm; omega)⟩
              obtain ⟨HB2, HG2⟩ := hg'.out _ hgrow rfl
              clear hown hgrow hg' HBA HGA HROW HNW
              have HO3 : Hid (OwnS w4 (w.heap.size + 2) 2 v' (BP own other 0 ++ bitsN ((own).take j) ++ List.replicate (i + 1) 1)) := by
                unfold Hid
                rw [List.replicate_succ', ← List.append_assoc]
                exact HO2.out
              exact ⟨⟨v', .int .i64 ((i : Int) + 1), _, _, _, _, _, ⟨i + 1, by omega, rfl, ⟨v', rfl, HO3⟩, HG2, HB2⟩, rfl⟩, by simp [intOf]; omega⟩
            · have hii : ¬ (i : Int) < (m : Int) := by omega
              have him : i = m := by omega
              have HROW := Lib.hid (row_al HO.out (.cells #[.int .i64 0] 2))
              have HNW := Lib.hid (one_newI wr 0)
              have HVL := Lib.hid (fun (k : Nat) (hk : vx.ownBlock = some k) => World.ownsRow.lt HO.out k hk)
              have HBA : Hid (Below w.heap.size w (wr.alloc (.cells #[.int .i64 0] 2))) := HB.out.alloc HB.out.size _
              have HGA := Lib.hid (HG.out.alloc (.cells #[.int .i64 0] 2))
              have hzr : w.heap.size + 2 ≤ wr.heap.size := HG.out.lt
              clear HO HG HB
              go_wp2_with (at_builtin; (refine wpList_append_own_at _ rfl _ _ 24 rfl (w.heap.size + 2) 2 i0 (.int .i64 0) 1 8 Tryd.underlying24 hi iz0 iz1 iz2 rfl (by decide) _ _ _ rfl HROW.out ⟨wr.heap.size, 0, none⟩ 1 1 _ rfl rfl HNW.out (int_cells _) (by have := HP2.out; unfold maxLen; omega) (by have := HP2.out; omega) (by simp; omega) ?_); intro v' w4 hown hgrow _ _)
              have HO2 := Lib.hid (OwnS.snoc hown)
              have hg' : Hid (∀ k, (wr.alloc (.cells #[.int .i64 0] 2)).grownBy w4 k → k = vx.ownBlock → Hid (Below w.heap.size w w4) ∧ Hid (Cel w4 (w.heap.size + 1) [.slice (some ⟨bA, oA, none⟩) n1 c1, .slice A2 n2 c2])) := fun k hg hk => by
                subst hk
                exact ⟨HBA.out.grown hg (by simp; omega) (fun x hx => by have := (HVL.out x hx).1; omega), HGA.out.frmN (Frm.of_grown hg) (fun hx => by have h1 := HVL.out _ hx.symm; omega)⟩
              obtain ⟨HB2, HG2⟩ := hg'.out _ hgrow rfl
              clear hown hgrow hg' HBA HGA HROW HNW
              have HO3 : Hid (OwnS w4 (w.heap.size + 2) 2 v' (BP own other 0 ++ bitsN ((own).take (j + 1)))) := by
                unfold Hid
                rw [bitsN_take hjl, HM.out, ← List.append_assoc, ← List.append_assoc, Int.toNat_natCast, ← him]
                exact HO2.out
              exact ⟨⟨v', .int .i64 (m : Int), .int .i64 ((j : Int) + 1), ⟨j + 1, by omega, rfl, HO3, HG2, HB2⟩, rfl, rfl, rfl⟩, by simp [intOf]; omega⟩
        · have hjn : j = n1 := by omega
          have hji : ¬ (j : Int) < (n1 : Int) := by omega
          have HO3 : Hid (OwnS wr (w.heap.size + 2) 2 vx (BP own other (0 + 1))) := by
            have h1 := HO.out
            rw [hjn, List.take_of_length_le (by rw [HL1.out]; omega)] at h1
            exact h1
          go_wp2_with (fail)
          exact ⟨⟨0 + 1, by omega, rfl, ⟨_, rfl, HO3⟩, HG, HB⟩, by simp [intOf]⟩
    · skip
      go_wp2_with (fail)
      obtain ⟨wa, rfl⟩ : ∃ wa : World, wa = wr := ⟨_, rfl⟩
      go_loopw [3, 20] (fun v3 v20 wr => ∃ (j : Nat), j ≤ n2 ∧ v20 = .int .i64 j ∧ (∃ vx, vx = v3 ∧ Hid (OwnS wr (w.heap.size + 2) 2 vx (BP own other 1 ++ bitsN ((other).take j)))) ∧ Hid (Cel wr (w.heap.size + 1) [.slice A1 n1 c1, .slice A2 n2 c2]) ∧ Hid (Below w.heap.size w wr)) (fun _ v20 _ => n2 - (intOf v20).toNat)
      case atStart => exact ⟨0, by omega, rfl, ⟨_, rfl, (by rw [List.take_zero, bitsN_nil, List.append_nil]; exact HO.out)⟩, HG.out, HB.out⟩
      case round =>
        clear HO HG HB y0 y1 yz
        obtain ⟨j, hj, rfl, ⟨vx, rfl, HO⟩, HG, HB⟩ := hrel
        by_cases hlt : j < n2
        · have hji : (j : Int) < (n2 : Int) := by omega
          obtain ⟨bA, oA, hA, hzA, hcA⟩ := (H2.out.below HB.out).2 (by omega)
          have hjl : j < (other).length := by rw [HL2.out]; exact hlt
          have hxj := HX2.out _ (getD_mem other j hjl)
          obtain ⟨m, hm⟩ : ∃ m : Nat, (other).getD j 0 = m := ⟨((other).getD j 0).toNat, by omega⟩
          have hx0 := hcA j hlt
          rw [hm] at hx0 hxj
          have HM := Lib.hid hm
          have hzb := hzA
          subst hA
          clear hcA hm hzA
          go_wp2_with (fail)
          clear hx0
          obtain ⟨wb, rfl⟩ : ∃ wb : World, wb = wr := ⟨_, rfl⟩
          go_loopw [3, 25] (fun v3 v25 wr => ∃ (i : Nat), i ≤ m ∧ v25 = .int .i64 i ∧ (∃ vx, vx = v3 ∧ Hid (OwnS wr (w.heap.size + 2) 2 vx (BP own other 1 ++ bitsN ((other).take j) ++ List.replicate i 1))) ∧ Hid (Cel wr (w.heap.size + 1) [.slice A1 n1 c1, .slice (some ⟨bA, oA, none⟩) n2 c2]) ∧ Hid (Below w.heap.size w wr)) (fun _ v25 _ => m - (intOf v25).toNat)
          case atStart => exact ⟨0, by omega, rfl, ⟨_, rfl, (by rw [List.replicate_zero, List.append_nil]; exact HO.out)⟩, HG.out, HB.out⟩
          case round =>
            clear HO HG HB
            obtain ⟨i, hi', rfl, ⟨vx, rfl, HO⟩, HG, HB⟩ := hrel
            have HP2 : Hid ((BP own other 1 ++ bitsN ((other).take j) ++ List.replicate i (1 : Int)).length ≤ 1999) := by
              have h1 := bitsN_pre (l := other) (j := j) (i := i) hjl (by rw [HM.out]; omega)
              have h2 := HBP.out 1
              unfold Hid
              have h3 := HBX.out
              simp only [List.length_append, List.length_replicate]
              omega
            by_cases hil : i < m
            · have hii : (i : Int) < (m : Int) := by omega
              have HROW := Lib.hid (row_al HO.out (.cells #[.int .i64 1] 2))
              have HNW := Lib.hid (one_newI wr 1)
              have HVL := Lib.hid (fun (k : Nat) (hk : vx.ownBlock = some k) => World.ownsRow.lt HO.out k hk)
              have HBA : Hid (Below w.heap.size w (wr.alloc (.cells #[.int .i64 1] 2))) := HB.out.alloc HB.out.size _
              have HGA := Lib.hid (HG.out.alloc (.cells #[.int .i64 1] 2))
              have hzr : w.heap.size + 2 ≤ wr.heap.size := HG.out.lt
              clear HO HG HB
              go_wp2_with (at_builtin; (refine wpList_append_own_at _ rfl _ _ 24 rfl (w.heap.size + 2) 2 i0 (.int .i64 0) 1 8 Tryd.underlying24 hi iz0 iz1 iz2 rfl (by decide) _ _ _ rfl HROW.out ⟨wr.heap.size, 0, none⟩ 1 1 _ rfl rfl HNW.out (int_cells _) (by have := HP2.out; unfold maxLen; omega) (by have := HP2.out; omega) (by simp; omega) ?_); intro v' w4 hown hgrow _ _)
              have HO2 := Lib.hid (OwnS.snoc hown)
              have hg' : Hid (∀ k, (wr.alloc (.cells #[.int .i64 1] 2)).grownBy w4 k → k = vx.ownBlock → Hid (Below w.heap.size w w4) ∧ Hid (Cel w4 (w.heap.size + 1) [.slice A1 n1 c1, .slice (some ⟨bA, oA, none⟩) n2 c2])) := fun k hg hk => by
                subst hk
                exact ⟨HBA.out.grown hg (by simp; omega) (fun x hx => by have := (HVL.out x hx).1; omega), HGA.out.frmN (Frm.of_grown hg) (fun hx => by have h1 := HVL.out _ hx.symm; omega)⟩
              obtain ⟨HB2, HG2⟩ := hg'.out _ hgrow rfl
              clear hown hgrow hg' HBA HGA HROW HNW
              have HO3 : Hid (OwnS w4 (w.heap.size + 2) 2 v' (BP own other 1 ++ bitsN ((other).take j) ++ List.replicate (i + 1) 1)) := by
                unfold Hid
                rw [List.replicate_succ', ← List.append_assoc]
                exact HO2.out
              exact ⟨⟨v', .int .i64 ((i : Int) + 1), _, _, _, _, _, ⟨i + 1, by omega, rfl, ⟨v', rfl, HO3⟩, HG2, HB2⟩, rfl⟩, by simp [intOf]; omega⟩
            · have hii : ¬ (i : Int) < (m : Int) := by omega
              have him : i = m := by omega
              have HROW := Lib.hid (row_al HO.out (.cells #[.int .i64 0] 2))
              have HNW := Lib.hid (one_newI wr 0)
              have HVL := Lib.hid (fun (k : Nat) (hk : vx.ownBlock = some k) => World.ownsRow.lt HO.out k hk)
              have HBA : Hid (Below w.heap.size w (wr.alloc (.cells #[.int .i64 0] 2))) := HB.out.alloc HB.out.size _
              have HGA := Lib.hid (HG.out.alloc (.cells #[.int .i64 0] 2))
              have hzr : w.heap.size + 2 ≤ wr.heap.size := HG.out.lt
              clear HO HG HB
              go_wp2_with (at_builtin; (refine wpList_append_own_at _ rfl _ _ 24 rfl (w.heap.size + 2) 2 i0 (.int .i64 0) 1 8 Tryd.underlying24 hi iz0 iz1 iz2 rfl (by decide) _ _ _ rfl HROW.out ⟨wr.heap.size, 0, none⟩ 1 1 _ rfl rfl HNW.out (int_cells _) (by have := HP2.out; unfold maxLen; omega) (by have := HP2.out; omega) (by simp; omega) ?_); intro v' w4 hown hgrow _ _)
              have HO2 := Lib.hid (OwnS.snoc hown)
              have hg' : Hid (∀ k, (wr.alloc (.cells #[.int .i64 0] 2)).grownBy w4 k → k = vx.ownBlock → Hid (Below w.heap.size w w4) ∧ Hid (Cel w4 (w.heap.size + 1) [.slice A1 n1 c1, .slice (some ⟨bA, oA, none⟩) n2 c2])) := fun k hg hk => by
                subst hk
                exact ⟨HBA.out.grown hg (by simp; omega) (fun x hx => by have := (HVL.out x hx).1; omega), HGA.out.frmN (Frm.of_grown hg) (fun hx => by have h1 := HVL.out _ hx.symm; omega)⟩
              obtain ⟨HB2, HG2⟩ := hg'.out _ hgrow rfl
              clear hown hgrow hg' HBA HGA HROW HNW
              have HO3 : Hid (OwnS w4 (w.heap.size + 2) 2 v' (BP own other 1 ++ bitsN ((other).take (j + 1)))) := by
                unfold Hid
                rw [bitsN_take hjl, HM.out, ← List.append_assoc, ← List.append_assoc, Int.toNat_natCast, ← him]
                exact HO2.out
              exact ⟨⟨v', .int .i64 (m : Int), .int .i64 ((j : Int) + 1), ⟨j + 1, by omega, rfl, HO3, HG2, HB2⟩, rfl, rfl, rfl⟩, by simp [intOf]; omega⟩
        · have hjn : j = n2 := by omega
          have hji : ¬ (j : Int) < (n2 : Int) := by omega
          have HO3 : Hid (OwnS wr (w.heap.size + 2) 2 vx (BP own other (1 + 1))) := by
            have h1 := HO.out
            rw [hjn, List.take_of_length_le (by rw [HL2.out]; omega)] at h1
            exact h1
          go_wp2_with (fail)
          exact ⟨⟨1 + 1, by omega, rfl, ⟨_, rfl, HO3⟩, HG, HB⟩, by simp [intOf]⟩
    · have HR : Hid (RetO w 2 (bitsN (own ++ other)) (.returned vx) wr) := by
        rw [bitsN_app]
        exact RetO.mk (World.ownsRow.mono HO.out (by omega)) HB.out
      go_wp2_with (fail)
      go_ret
      exact HR.out
end Go.Proofs.YtkjlafcnmniomaaDoor

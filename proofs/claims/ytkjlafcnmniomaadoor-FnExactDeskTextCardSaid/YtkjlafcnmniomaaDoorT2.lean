/- Contract of the reference's decimal numeral. There are no conditions beyond those that it states. -/
import Derived.Test.YtkjlafcnmniomaaDoorT1
import Derived.Maps.AppendAt
import Derived.Laws.OwnMore
import Derived.Laws.BytesArg
namespace Go.Proofs.YtkjlafcnmniomaaDoor
set_option linter.unusedVariables false
set_option linter.unusedSimpArgs false
open Go.RowKit

/-- Bytes as values. -/
def u8s (l : List UInt8) : List Value := l.map fun b => .int .u8 ((b.toNat : Nat) : Int)
theorem u8s_len (l : List UInt8) : (u8s l).length = l.length := by simp [u8s]
theorem dgB_nat {k : Nat} (hk : k < 10) : (dgB k).toNat = 48 + k := by unfold dgB; rw [UInt8.toNat_ofNat']; omega
/-- Own bytes as a text. -/
theorem row_conv {w : World} {base n : Nat} {v : Value} {l : List UInt8} (h : w.ownsRow base 5 1 v n (u8s l)) : (convert 68 9 v).run Tryd.prog w = .ok (strV l) w := by
  have hl : l.length = n := by have := h.1; rw [u8s_len] at this; omega
  rcases h.2 with ⟨h1, h2⟩ | ⟨g, cap, cur, h1, _⟩
  · have h0 : l = [] := List.eq_nil_of_length_eq_zero (by omega)
    subst h0 h1
    exact run_convert_bytes_nil w 68 5 Tryd.underlying68 Tryd.underlying5 0 0 9 Tryd.underlying9
  · have hc := World.ownsRow.cells h (g := g) (by rw [h1]; rfl)
    rw [h1, ← hl]
    refine run_convert_bytes_back w 68 9 5 ⟨g, 0, none⟩ cap l Tryd.underlying68 Tryd.underlying5 Tryd.underlying9 fun j hj => hc j _ ?_
    unfold u8s
    rw [List.getElem?_map, List.getElem?_eq_getElem hj]; rfl
def lenZ : Value → Nat
  | .slice _ 0 _ => 1
  | _ => 0
theorem Tryd.infoU8 : (Tryd.prog.info? 5).map (fun i => (i.zero, i.size, i.bytes)) = some (some (.int .u8 0), 1, 1) := by kernel_rfl
/-- What the digits so far are. -/
def DecI (n r : Nat) (D : List UInt8) : Prop := (r ≠ 0 → Lib.decDigits n = Lib.decDigits r ++ D) ∧ (r = 0 → (D = [] ∧ n = 0) ∨ (D ≠ [] ∧ Lib.decDigits n = D))
theorem DecI.start (n : Nat) : DecI n n [] := ⟨fun _ => by simp, fun h => .inl ⟨rfl, h⟩⟩
theorem DecI.next {n r : Nat} {D : List UInt8} (h : DecI n r D) (hc : r ≠ 0 ∨ D = []) : DecI n (r / 10) (dgB (r % 10) :: D) := by
  by_cases h0 : r = 0
  · subst h0
    rcases h.2 rfl with ⟨h1, h2⟩ | ⟨h1, _⟩
    · subst h1 h2
      exact ⟨fun h => absurd rfl h, fun _ => .inr ⟨by simp, by rw [Lib.decDigits_one (by omega)]; rfl⟩⟩
    · rcases hc with h | h
      · exact absurd rfl h
      · exact absurd h h1
  · have h1 := h.1 h0
    by_cases h10 : r < 10
    · refine ⟨fun h => absurd (Nat.div_eq_of_lt h10) h, fun _ => .inr ⟨by simp, ?_⟩⟩
      rw [h1, Lib.decDigits_one h10, Nat.mod_eq_of_lt h10]; rfl
    · refine ⟨fun _ => ?_, fun h => by omega⟩
      rw [h1, Lib.decDigits.eq_def r, dif_neg h10, List.append_assoc]; rfl
set_option maxRecDepth 100000 in
set_option maxHeartbeats 1000000 in
theorem l09Decimal_any (n : Nat) (w : World) (hn : n < 1000000000000000000) :
    Calls Tryd.prog 16 #[.int .i64 (n : Int)] w fun e w' => e = .returned (strV (Lib.decDigits n)) ∧ Below w.heap.size w w' := by
  obtain ⟨i0, hi, iz0, iz1, iz2⟩ := info_parts Tryd.infoU8
  have HL := Lib.hid (dec_len n hn)
  have HR0 : Hid ((w.alloc (.cells #[] 5)).ownsRow w.heap.size 5 1 (.slice (some ⟨w.heap.size, 0, none⟩) 0 0) 0 (u8s [])) := World.ownsRow_lit w #[] 0 (Nat.le_refl _) (by decide) (by simp)
  have HB0 : Hid (Below w.heap.size w (w.alloc (.cells #[] 5))) := (Below.refl _ _).alloc (Nat.le_refl _) _
  have HI0 := Lib.hid (DecI.start n)
  have hnn : ¬ (n : Int) < 0 := by omega
  go_enter Tryd.func16, Tryd.ntmps16
  go_wp2_with (fail)
  go_loopw [3, 4] (fun v3 v4 wr => ∃ (r k g cap : Nat) (D : List UInt8), r ≤ n ∧ v4 = .int .i64 r ∧ v3 = .slice (some ⟨g, 0, none⟩) k cap ∧ Hid (wr.ownsRow w.heap.size 5 1 (.slice (some ⟨g, 0, none⟩) k cap) k (u8s D)) ∧ Hid (D.length = k ∧ DecI n r D) ∧ Hid (Below w.heap.size w wr)) (fun v3 v4 _ => 2 * (intOf v4).toNat + lenZ v3)
  case atStart => exact ⟨n, 0, w.heap.size, 0, [], Nat.le_refl _, rfl, rfl, HR0.out, ⟨rfl, HI0.out⟩, HB0.out⟩
  case round =>
    clear HR0 HB0 HI0
    obtain ⟨r, k, g, cap, D, hr, rfl, rfl, HO, HI, HB⟩ := hrel
    have hk25 : k ≤ 21 := by
      obtain ⟨h1, h2, h3⟩ := HI.out
      have h4 := HL.out
      by_cases h0 : r = 0
      · rcases h3 h0 with ⟨h5, _⟩ | ⟨_, h5⟩
        · rw [h5] at h1; simp at h1; omega
        · rw [h5] at h4; omega
      · rw [h2 h0, List.length_append] at h4; omega
    have HK := Lib.hid HI.out.1
    by_cases hgo : r ≠ 0 ∨ k = 0
    · have HIN := Lib.hid (HI.out.2.next (hgo.imp id fun h => List.eq_nil_of_length_eq_zero (by have := HI.out.1; omega)))
      obtain ⟨d, hd⟩ : ∃ d, d = r % 10 := ⟨_, rfl⟩
      have hd10 : d < 10 := by omega
      have hdd : (r : Int) % 10 = (d : Int) := by omega
      rw [← hd] at HIN
      have hmx : max (d : Int) (-(d : Int)) = (d : Int) := by omega
      have HROW : Hid ((wr.alloc (.cells #[.int .u8 (48 + (d : Int))] 5)).ownsRow w.heap.size 5 1 (.slice (some ⟨wr.heap.size, 0, none⟩) 1 1) 1 [.int .u8 (48 + (d : Int))]) := World.ownsRow_lit wr #[.int .u8 (48 + (d : Int))] 1 HB.out.size (by decide) (by simp)
      have HNEW : Hid (∀ j u, (u8s D)[j]? = some u → (wr.alloc (.cells #[.int .u8 (48 + (d : Int))] 5)).cell? ((⟨g, 0, none⟩ : Addr).add j) = some u) := World.ownsRow.cells (World.ownsRow.alloc HO.out _) rfl
      have HBA : Hid (Below w.heap.size w (wr.alloc (.cells #[.int .u8 (48 + (d : Int))] 5))) := HB.out.alloc HB.out.size _
      have hzr : w.heap.size ≤ wr.heap.size := HB.out.size
      have HGO := Lib.hid hgo
      have HRD : Hid (r / 10 ≤ n ∧ 2 * (r / 10) < 2 * r + (if k = 0 then 1 else 0)) := by
        unfold Hid
        rcases hgo with h | h
        · split <;> omega
        · rw [if_pos h]; omega
      clear HI hd
      have fin : ∀ (v' : Value) (w4 : World), w4.ownsRow w.heap.size 5 1 v' (1 + k) ([.int .u8 (48 + (d : Int))] ++ u8s D) → (wr.alloc (.cells #[.int .u8 (48 + (d : Int))] 5)).grownBy w4 (some wr.heap.size) → ∃ g' cap', v' = .slice (some ⟨g', 0, none⟩) (1 + k) cap' ∧ Hid (w4.ownsRow w.heap.size 5 1 (.slice (some ⟨g', 0, none⟩) (1 + k) cap') (1 + k) (u8s (dgB d :: D))) ∧ Hid (Below w.heap.size w w4) := fun v' w4 ho hg => by
        have ho2 : w4.ownsRow w.heap.size 5 1 v' (1 + k) (u8s (dgB d :: D)) := by
          have e : u8s (dgB d :: D) = [.int .u8 (48 + (d : Int))] ++ u8s D := by
            unfold u8s
            rw [List.map_cons, dgB_nat hd10]; rfl
          rw [e]; exact ho
        rcases ho2.2 with ⟨_, h⟩ | ⟨g', cap', cur, h1, _⟩
        · omega
        · subst h1
          exact ⟨g', cap', rfl, ho2, HBA.out.grown hg (by simp; omega) (fun x hx => by injection hx with hx; omega)⟩
      have FIN := Lib.hid fin
      clear fin
      have MEA : Hid (∀ g' cap', 2 * (intOf (.int .i64 ((r : Int) / 10))).toNat + lenZ (.slice (some ⟨g', 0, none⟩) (1 + k) cap') < 2 * (intOf (.int .i64 (r : Int))).toNat + lenZ (.slice (some ⟨g, 0, none⟩) k cap)) := fun g' cap' => by
        have h1 : lenZ (.slice (some ⟨g', 0, none⟩) (1 + k) cap') = 0 := by rw [Nat.add_comm]; rfl
        have h2 : lenZ (.slice (some ⟨g, 0, none⟩) k cap) = if k = 0 then 1 else 0 := by cases k <;> rfl
        have h3 := HRD.out.2
        rw [h1, h2]
        simp only [intOf]
        omega
      have step : ((r : Int) != 0) = true ∨ ((r : Int) != 0) = false ∧ ((k : Int) == 0) = true := by
        rcases HGO.out with h | h
        · exact .inl (by simp; omega)
        · by_cases h0 : r = 0
          · exact .inr ⟨by simp [h0], by simp [h]⟩
          · exact .inl (by simp; omega)
      clear hgo
      rcases step with b0 | ⟨b0, b1⟩
      · skip
        go_wp2_with (at_builtin; (refine wpList_append_own_at _ rfl _ _ 68 rfl w.heap.size 5 i0 (.int .u8 0) 1 1 Tryd.underlying68 hi iz0 iz1 iz2 rfl (by decide) _ _ _ rfl HROW.out ⟨g, 0, none⟩ k cap (u8s D) rfl (by rw [u8s_len]; have := HK.out; omega) HNEW.out (fun u hu => by obtain ⟨b, _, rfl⟩ := List.mem_map.1 hu; rfl) (by unfold maxLen; omega) (by omega) (by simp; omega) ?_); intro v' w4 hown hgrow _ _)
        obtain ⟨g', cap', rfl, ho, hb⟩ := FIN.out v' w4 hown hgrow
        exact ⟨⟨r / 10, 1 + k, g', cap', dgB d :: D, HRD.out.1, by rw [show ((r / 10 : Nat) : Int) = (r : Int) / 10 from Int.natCast_ediv r 10], rfl, ho.out, ⟨by rw [List.length_cons, HK.out]; omega, HIN.out⟩, hb.out⟩, MEA.out g' cap'⟩
      · skip
        go_wp2_with (at_builtin; (refine wpList_append_own_at _ rfl _ _ 68 rfl w.heap.size 5 i0 (.int .u8 0) 1 1 Tryd.underlying68 hi iz0 iz1 iz2 rfl (by decide) _ _ _ rfl HROW.out ⟨g, 0, none⟩ k cap (u8s D) rfl (by rw [u8s_len]; have := HK.out; omega) HNEW.out (fun u hu => by obtain ⟨b, _, rfl⟩ := List.mem_map.1 hu; rfl) (by unfold maxLen; omega) (by omega) (by simp; omega) ?_); intro v' w4 hown hgrow _ _)
        obtain ⟨g', cap', rfl, ho, hb⟩ := FIN.out v' w4 hown hgrow
        exact ⟨⟨r / 10, 1 + k, g', cap', dgB d :: D, HRD.out.1, by rw [show ((r / 10 : Nat) : Int) = (r : Int) / 10 from Int.natCast_ediv r 10], rfl, ho.out, ⟨by rw [List.length_cons, HK.out]; omega, HIN.out⟩, hb.out⟩, MEA.out g' cap'⟩
    · have h0 : r = 0 := Decidable.byContradiction fun h => hgo (.inl h)
      have hk0 : k ≠ 0 := fun h => hgo (.inr h)
      have HD : Hid (strV D = strV (Lib.decDigits n)) := by
        unfold Hid
        rcases HI.out.2.2 h0 with ⟨h1, _⟩ | ⟨_, h1⟩
        · have := HI.out.1; rw [h1] at this; simp at this; omega
        · rw [h1]
      have b0 : ((r : Int) != 0) = false := by simp [h0]
      have b1 : ((k : Int) == 0) = false := by simp; omega
      have hcv := row_conv HO.out
      clear hgo h0 hk0 HI
      go_wp2_with (fail)
      go_ret
      exact ⟨by rw [← HD.out]; rfl, HB.out⟩
end Go.Proofs.YtkjlafcnmniomaaDoor

/- Contracts of the identifiers of boards. There are no conditions beyond those that each states. -/
import Derived.Test.YtkjlafcnmniomaaDoorT7
import Derived.Test.YtkjlafcnmniomaaDoorA12
namespace Go.Proofs.YtkjlafcnmniomaaDoor
set_option linter.unusedVariables false
set_option linter.unusedSimpArgs false
open Go.RowKit

theorem bitsN_len : ∀ l : List Int, (∀ x ∈ l, 0 ≤ x) → ((bitsN l).length : Int) = l.sum + l.length
  | [], _ => rfl
  | a :: l, h => by
    have h1 := bitsN_len l (fun x hx => h x (List.mem_cons_of_mem _ hx))
    have h0 := h a List.mem_cons_self
    have h2 : bitsN (a :: l) = (List.replicate a.toNat 1 ++ [0]) ++ bitsN l := by simp [bitsN]
    rw [h2]
    simp only [List.length_append, List.length_replicate, List.length_cons, List.length_nil, List.sum_cons]
    omega
theorem bitsN_01 : ∀ (l : List Int), ∀ x ∈ bitsN l, x = 0 ∨ x = 1 := fun l x hx => by
  unfold bitsN at hx
  obtain ⟨n, _, h⟩ := List.mem_flatMap.1 hx
  rcases List.mem_append.1 h with h | h
  · exact .inr (List.eq_of_mem_replicate h)
  · exact .inl (List.mem_singleton.1 h)
theorem board_bits {p c h s : Int} {own other : List Int} (H : boardB p c h s own other = true) :
    2 ≤ p ∧ p ≤ 24 ∧ (own.length : Int) = p + 1 ∧ (other.length : Int) = p + 1 ∧ (∀ x ∈ own ++ other, 0 ≤ x ∧ x ≤ 1000) ∧ (bitsN (own ++ other)).length ≤ 80 := by
  unfold boardB at H
  rw [Bool.and_eq_true] at H
  have hv := isVar_yes H.1
  have hb : BoardP p c own other := of_decide_eq_true H.2
  obtain ⟨⟨l1, n1, s1⟩, ⟨l2, n2, s2⟩, _⟩ := hb
  have hn : ∀ x ∈ own ++ other, 0 ≤ x := fun x hx => by
    rcases List.mem_append.1 hx with h | h
    · exact n1 x h
    · exact n2 x h
  refine ⟨hv.1, hv.2.1, l1, l2, fun x hx => ⟨hn x hx, ?_⟩, ?_⟩
  · rcases List.mem_append.1 hx with h | h
    · have := mem_le_sum own n1 x h; omega
    · have := mem_le_sum other n2 x h; omega
  · have h1 := bitsN_len _ hn
    rw [List.sum_append, List.length_append] at h1
    omega
/-- The identifier of a board. -/
def boardT (own other : List Int) : List UInt8 := idT (bitsN (own ++ other)) (((bitsN (own ++ other)).length + 5) / 6)
set_option maxRecDepth 100000 in
set_option maxHeartbeats 1000000 in
theorem sBoardId_yes (p ch h s : Int) (A1 A2 : Option Addr) (n1 c1 n2 c2 : Nat) (own other : List Int) (w : World) (h1 : SL w A1 n1 own) (h2 : SL w A2 n2 other) (hB : boardB p ch h s own other = true) :
    Calls Tryd.prog 15 #[.agg #[.int .i64 p, .int .i64 ch, .int .i64 h, .int .i64 s], .agg #[.slice A1 n1 c1, .slice A2 n2 c2]] w fun e w' => e = .returned (strV (boardT own other)) ∧ Below w.heap.size w w' := by
  obtain ⟨hp2, hp24, hl1, hl2, hx, hT⟩ := board_bits hB
  have e1 := h1.1
  have e2 := h2.1
  have HF0 : Hid (Fr w ((w.alloc (.cells #[.int .i64 p, .int .i64 ch, .int .i64 h, .int .i64 s] 34)).alloc (.cells #[.slice A1 n1 c1, .slice A2 n2 c2] 35)) [[.int .i64 p, .int .i64 ch, .int .i64 h, .int .i64 s], [.slice A1 n1 c1, .slice A2 n2 c2]]) := ((Fr.start w).allocT (by simp) _ _).allocT (by simp) _ _
  have CR : Hid (∀ W : World, Below w.heap.size w W → Calls Tryd.prog 33 #[.agg #[.int .i64 p, .int .i64 ch, .int .i64 h, .int .i64 s], .agg #[.slice A1 n1 c1, .slice A2 n2 c2]] W fun e w' => e = .returned (.bool true) ∧ Below W.heap.size W w') := fun W hb => by
    have h3 := sIsBoard_any p ch h s A1 A2 n1 c1 n2 c2 own other W (h1.below hb) (h2.below hb) (by omega) (by omega)
    rw [hB] at h3
    exact h3
  have CB := Lib.hid fun (W : World) (hb : Below w.heap.size w W) => l03Bits_any A1 A2 n1 c1 n2 c2 own other W (h1.below hb) (h2.below hb) (by omega) (by omega) hx (by omega)
  have HT := Lib.hid hT
  clear hB h1 h2 hx hT hl1 hl2 e1 e2
  go_enter Tryd.func15, Tryd.ntmps15
  go_wp2_with (fail)
  refine (CR.out _ HF0.out.b).mono ?_
  rintro e w1 ⟨rfl, hbb⟩
  have HF1 := Lib.hid (HF0.out.below hbb)
  clear hbb HF0
  have z0 := HF1.out.l0 (by simp)
  have c00 := HF1.out.c0 0 rfl
  have f00 := HF1.out.f0 0 rfl
  have c01 := HF1.out.c0 1 rfl
  have f01 := HF1.out.f0 1 rfl
  have c02 := HF1.out.c0 2 rfl
  have f02 := HF1.out.f0 2 rfl
  have c03 := HF1.out.c0 3 rfl
  have f03 := HF1.out.f0 3 rfl
  have z1 := HF1.out.l1 (by simp)
  have c10 := HF1.out.c1 0 rfl
  have f10 := HF1.out.f1 0 rfl
  have c11 := HF1.out.c1 1 rfl
  have f11 := HF1.out.f1 1 rfl
  go_wp2_with (fail)
  clear z0 c00 f00 c01 f01 c02 f02 c03 f03 z1 c10 f10 c11 f11
  refine (CB.out _ HF1.out.b).mono ?_
  rintro e w2 ⟨AQ, cQ, rfl, ho, hb2⟩
  have HB2 := Lib.hid (HF1.out.b.trans (hb2.mono HF1.out.b.size))
  go_wp2_with (fail)
  refine (l03Id_any AQ _ cQ (bitsN (own ++ other)) w2 (ho.sl rfl).1 (by have := HT.out; omega)).mono ?_
  rintro e w3 ⟨rfl, hb3⟩
  have HB3 := Lib.hid (HB2.out.trans (hb3.mono HB2.out.size))
  clear hb2 hb3 ho
  go_wp2_with (fail)
  go_ret
  exact ⟨rfl, HB3.out⟩
end Go.Proofs.YtkjlafcnmniomaaDoor

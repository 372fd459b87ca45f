/- Contract of the program's text of a desk. There are no conditions beyond those that it states. -/
import Derived.Test.YtkjlafcnmniomaaDoorT10
namespace Go.Proofs.YtkjlafcnmniomaaDoor
set_option linter.unusedVariables false
set_option linter.unusedSimpArgs false
open Go.RowKit

theorem join5 (V B R S N : List UInt8) (hV : V.length ≤ 100) (hB : B.length ≤ 20) (hR : R.length ≤ 50) (hS : S.length ≤ 21) (hN : N.length ≤ 21) :
    (∀ (W : World) (g : Nat), Cel W g [.string ⟨V.toArray⟩, .string ⟨B.toArray⟩, .string ⟨R.toArray⟩, .string ⟨S.toArray⟩, .string ⟨N.toArray⟩] → ∀ (j : Nat) x, ([⟨V.toArray⟩, ⟨B.toArray⟩, ⟨R.toArray⟩, ⟨S.toArray⟩, ⟨N.toArray⟩] : List ByteArray)[j]? = some x → W.cell? ⟨g, 0 + j, none⟩ = some (.string x)) ∧
    (Lib.join (([⟨V.toArray⟩, ⟨B.toArray⟩, ⟨R.toArray⟩, ⟨S.toArray⟩, ⟨N.toArray⟩] : List ByteArray).map (·.data.toList)) (ByteArray.mk #[32]).data.toList).length ≤ 140737488355328 ∧
    Ending.returned (.string ⟨(Lib.join (([⟨V.toArray⟩, ⟨B.toArray⟩, ⟨R.toArray⟩, ⟨S.toArray⟩, ⟨N.toArray⟩] : List ByteArray).map (·.data.toList)) (ByteArray.mk #[32]).data.toList).toArray⟩) = .returned (strV (dt8 V B R S N)) := by
  have e : Lib.join (([⟨V.toArray⟩, ⟨B.toArray⟩, ⟨R.toArray⟩, ⟨S.toArray⟩, ⟨N.toArray⟩] : List ByteArray).map (·.data.toList)) (ByteArray.mk #[32]).data.toList = dt8 V B R S N := by
    simp [Lib.join_cons, Lib.joinTail, dt8, dt7, dt6, dt5, dt4, dt3, dt2, dt1]
  refine ⟨fun W g hC j x hx => ?_, ?_, ?_⟩
  · rw [Nat.zero_add]
    match j, hx with
    | 0, hx => injection hx with hx; subst hx; exact hC.cell 0 _ rfl
    | 1, hx => injection hx with hx; subst hx; exact hC.cell 1 _ rfl
    | 2, hx => injection hx with hx; subst hx; exact hC.cell 2 _ rfl
    | 3, hx => injection hx with hx; subst hx; exact hC.cell 3 _ rfl
    | 4, hx => injection hx with hx; subst hx; exact hC.cell 4 _ rfl
    | j + 5, hx => simp at hx
  · rw [e]
    simp only [dt1, dt2, dt3, dt4, dt5, dt6, dt7, dt8, List.length_append, List.length_singleton]
    omega
  · rw [e]; rfl
def dEN : Nat → Nat
  | 0 => 17
  | 1 => 18
  | 2 => 19
  | 3 => 20
  | 4 => 21
  | 5 => 22
  | 6 => 23
  | 7 => 24
  | 8 => 25
  | 9 => 26
  | 10 => 27
  | 11 => 28
  | 12 => 29
  | 13 => 30
  | 14 => 31
  | 15 => 32
  | 16 => 33
  | _ => 0
set_option maxRecDepth 100000 in
set_option maxHeartbeats 1000000 in
theorem DeskText_none (P C H S D : Nat) (A1 A2 A3 : Option Addr) (n1 c1 n2 c2 n3 c3 : Nat) (own other : List Int) (past : List (List Int × List Int)) (w : World) (h1 : SL w A1 n1 own) (h2 : SL w A2 n2 other) (h3 : SBs w A3 n3 past)
    (hm : ∀ b ∈ past, b.1.length ≤ 2000000 ∧ b.2.length ≤ 2000000) (hd : deskB P C H S own other 0 0 D past = true) (ht : TBok w) :
    Calls Tryd.prog 7 #[.agg #[.int .i64 P, .int .i64 C, .int .i64 H, .int .i64 S, .slice A1 n1 c1, .slice A2 n2 c2, .int .i64 0, .int .i64 0, .int .i64 D, .slice A3 n3 c3]] w fun e w' => e = .returned (strV (dt8 (varT P C H S) (boardT own other) ([45]) (Lib.decDigits D) (Lib.decDigits n3))) ∧ Below w.heap.size w w' := by
  obtain ⟨hv, hb, hD0, hD, h30⟩ := desk_facts hd
  have hl3 : past.length = n3 := h3.1
  have e1 := h1.1
  have e2 := h2.1
  have hbb := board_bits hb
  have HV := Lib.hid hv
  have HT := Lib.hid ht
  have hvv := isVar_yes hv
  have HF0 : Hid (Fr w (w.alloc (.cells #[.int .i64 P, .int .i64 C, .int .i64 H, .int .i64 S, .slice A1 n1 c1, .slice A2 n2 c2, .int .i64 0, .int .i64 0, .int .i64 D, .slice A3 n3 c3] 39)) [[.int .i64 P, .int .i64 C, .int .i64 H, .int .i64 S, .slice A1 n1 c1, .slice A2 n2 c2, .int .i64 0, .int .i64 0, .int .i64 D, .slice A3 n3 c3]]) := (Fr.start w).allocT (by simp) _ _
  have CD : Hid (∀ W : World, Below w.heap.size w W → Calls Tryd.prog 21 #[.agg #[.int .i64 P, .int .i64 C, .int .i64 H, .int .i64 S, .slice A1 n1 c1, .slice A2 n2 c2, .int .i64 0, .int .i64 0, .int .i64 D, .slice A3 n3 c3]] W fun e w' => e = .returned (.bool true) ∧ Below W.heap.size W w') := fun W hw => by
    have h := IsDesk_any P C H S 0 0 D A1 A2 A3 n1 c1 n2 c2 n3 c3 own other past W (h1.below hw) (h2.below hw) (h3.below hw) (by omega) (by omega) (by omega) hm
    rw [hd] at h
    exact h
  have CB := Lib.hid fun (W : World) (hw : Below w.heap.size w W) => BoardId_yes P C H S A1 A2 n1 c1 n2 c2 own other W (h1.below hw) (h2.below hw) hb
  have lV := (vr_len P C H S (by omega) (by omega) (by omega) (by omega)).2.2.2.2.2
  have lB : (boardT own other).length ≤ 20 := by unfold boardT; rw [idT_len]; omega
  have lS := dec_len D (by omega)
  have lN := dec_len n3 (by omega)
  change (varT P C H S).length ≤ 100 at lV
  have HJ := Lib.hid (join5 (varT P C H S) (boardT own other) ([45]) (Lib.decDigits D) (Lib.decDigits n3) (by omega) (by omega) (by simp) (by omega) (by omega))
  have hnq : ∀ W : World, (binOp .neq 36 (.agg #[.int .i64 0, .int .i64 0]) (.agg #[.int .i64 0, .int .i64 0])).run Tryd.prog W = .ok (.bool false) W := fun W => by
    rw [neq_roll]
    rfl
  clear lV lB lS lN hd hb hbb h1 h2 h3 hm ht
  go_enter Tryd.func7, Tryd.ntmps7
  go_wp2_with (fail)
  refine (CD.out _ HF0.out.b).mono ?_
  rintro e w1 ⟨rfl, hb1⟩
  have HF1 := Lib.hid (HF0.out.below hb1)
  clear hb1 HF0 CD
  have z0 := HF1.out.l0 (by simp)
  have c00 := HF1.out.c0 0 rfl
  have f00 := HF1.out.f0 0 rfl
  have c01 := HF1.out.c0 1 rfl
  have f01 := HF1.out.f0 1 rfl
  have c02 := HF1.out.c0 2 rfl
  have f02 := HF1.out.f0 2 rfl
  have c03 := HF1.out.c0 3 rfl
  have f03 := HF1.out.f0 3 rfl
  have c04 := HF1.out.c0 4 rfl
  have f04 := HF1.out.f0 4 rfl
  have c05 := HF1.out.c0 5 rfl
  have f05 := HF1.out.f0 5 rfl
  have c06 := HF1.out.c0 6 rfl
  have f06 := HF1.out.f0 6 rfl
  have c07 := HF1.out.c0 7 rfl
  have f07 := HF1.out.f0 7 rfl
  have c08 := HF1.out.c0 8 rfl
  have f08 := HF1.out.f0 8 rfl
  have c09 := HF1.out.c0 9 rfl
  have f09 := HF1.out.f0 9 rfl
  go_wp2_with (fail)
  clear z0 c00 f00 c01 f01 c02 f02 c03 f03 c04 f04 c05 f05 c06 f06 c07 f07 c08 f08 c09 f09
  clear hnq
  have HF2 := HF1
  obtain ⟨w2, hw2⟩ : ∃ w2, w2 = w1 := ⟨_, rfl⟩
  subst hw2
  refine wp_region_early 17 (fun _ => false) dEN Bel (fun _ => True) (GL [Eqv (.pointer (some ⟨w.heap.size, 0, none⟩)), Eqv (.agg #[.int .i64 (P : Int), .int .i64 (C : Int), .int .i64 (H : Int), .int .i64 (S : Int)]), Eqv (strV (varT P C H S)), Eqv (.pointer (some ⟨w.heap.size, 0, none⟩)), Eqv (.agg #[.int .i64 (P : Int), .int .i64 (C : Int), .int .i64 (H : Int), .int .i64 (S : Int)]), Eqv (.pointer (some ⟨w.heap.size, 4, none⟩)), Eqv (.agg #[.slice A1 n1 c1, .slice A2 n2 c2]), Eqv (strV (boardT own other)), Eqv (strV ([45])), Eqv (.pointer (some ⟨w.heap.size, 8, none⟩)), Eqv (.int .i64 (D : Int)), Eqv (strV (Lib.decDigits D)), Eqv (.pointer (some ⟨w.heap.size, 9, none⟩)), Eqv (.slice A3 n3 c3), Eqv (.int .i64 (n3 : Int)), Eqv (strV (Lib.decDigits n3)), SlcB w2.heap.size [.string ⟨(varT P C H S).toArray⟩, .string ⟨(boardT own other).toArray⟩, .string ⟨([45]).toArray⟩, .string ⟨(Lib.decDigits D).toArray⟩, .string ⟨(Lib.decDigits n3).toArray⟩]]) (by kernel_rfl) (by kernel_rfl) (fun _ _ _ _ _ h => h) (fun _ _ _ h1 h2 => Bel.trans h1 h2) Bel.rfl' (GL.stab (by repeat (first | exact AllStb.nil | refine AllStb.cons (by first | exact stb_eq _ | exact stb_slcB _ _) ?_))) (Bel.drew _) trivial (fun i o' _ hX => by cases hX) ?_ ?_
  · intro i o hi hX ho a' W hW hIW hfar hdep
    have e1 : a'.tmps.getD 1 undef = .pointer (some ⟨w.heap.size, 0, none⟩) := (hfar 1 (by decide)).trans rfl
    have e3 : a'.tmps.getD 3 undef = strV ([45]) := (hfar 3 (by decide)).trans rfl
    have dep : ∀ j, j < 17 → Region.waitsFor .any _ i j = true → (GL [Eqv (.pointer (some ⟨w.heap.size, 0, none⟩)), Eqv (.agg #[.int .i64 (P : Int), .int .i64 (C : Int), .int .i64 (H : Int), .int .i64 (S : Int)]), Eqv (strV (varT P C H S)), Eqv (.pointer (some ⟨w.heap.size, 0, none⟩)), Eqv (.agg #[.int .i64 (P : Int), .int .i64 (C : Int), .int .i64 (H : Int), .int .i64 (S : Int)]), Eqv (.pointer (some ⟨w.heap.size, 4, none⟩)), Eqv (.agg #[.slice A1 n1 c1, .slice A2 n2 c2]), Eqv (strV (boardT own other)), Eqv (strV ([45])), Eqv (.pointer (some ⟨w.heap.size, 8, none⟩)), Eqv (.int .i64 (D : Int)), Eqv (strV (Lib.decDigits D)), Eqv (.pointer (some ⟨w.heap.size, 9, none⟩)), Eqv (.slice A3 n3 c3), Eqv (.int .i64 (n3 : Int)), Eqv (strV (Lib.decDigits n3)), SlcB w2.heap.size [.string ⟨(varT P C H S).toArray⟩, .string ⟨(boardT own other).toArray⟩, .string ⟨([45]).toArray⟩, .string ⟨(Lib.decDigits D).toArray⟩, .string ⟨(Lib.decDigits n3).toArray⟩]]) j (a'.tmps.getD (dEN j) undef) W := hdep
    have hi8 : i = 0 ∨ i = 1 ∨ i = 2 ∨ i = 3 ∨ i = 4 ∨ i = 5 ∨ i = 6 ∨ i = 7 ∨ i = 8 ∨ i = 9 ∨ i = 10 ∨ i = 11 ∨ i = 12 ∨ i = 13 ∨ i = 14 ∨ i = 15 ∨ i = 16 := by omega
    clear hfar hdep hX hi
    rcases hi8 with rfl | rfl | rfl | rfl | rfl | rfl | rfl | rfl | rfl | rfl | rfl | rfl | rfl | rfl | rfl | rfl | rfl
    all_goals (simp at ho; subst ho)
    · exact .inl ⟨.pointer (some ⟨w.heap.size, 0, none⟩), W, by simp only [execOp, Act.eval, e1]; go_simp, Bel.rfl' _, trivial, rfl⟩
    · have d1 : a'.tmps.getD 17 undef = .pointer (some ⟨w.heap.size, 0, none⟩) := dep 0 (by omega) (by kernel_rfl)
      have y0 := (HF2.out.below hW).c0 0 rfl
      have y1 := (HF2.out.below hW).c0 1 rfl
      have y2 := (HF2.out.below hW).c0 2 rfl
      have y3 := (HF2.out.below hW).c0 3 rfl
      exact .inl ⟨.agg #[.int .i64 (P : Int), .int .i64 (C : Int), .int .i64 (H : Int), .int .i64 (S : Int)], W, by simp only [execOp, Act.eval, d1]; go_simp, Bel.rfl' _, trivial, rfl⟩
    · have d1 : a'.tmps.getD 18 undef = .agg #[.int .i64 (P : Int), .int .i64 (C : Int), .int .i64 (H : Int), .int .i64 (S : Int)] := dep 1 (by omega) (by kernel_rfl)
      refine .inr ⟨23, #[.agg #[.int .i64 (P : Int), .int .i64 (C : Int), .int .i64 (H : Int), .int .i64 (S : Int)]], by simp only [execOp, Act.eval, d1]; go_simp, ?_⟩
      refine (VariantText_yes P C H S W HV.out (HT.out.below (HF2.out.b.trans (hW.mono HF2.out.b.size)))).mono ?_
      rintro e W' ⟨rfl, hb'⟩
      exact ⟨_, rfl, hb', trivial, rfl⟩
    · exact .inl ⟨.pointer (some ⟨w.heap.size, 0, none⟩), W, by simp only [execOp, Act.eval, e1]; go_simp, Bel.rfl' _, trivial, rfl⟩
    · have d1 : a'.tmps.getD 20 undef = .pointer (some ⟨w.heap.size, 0, none⟩) := dep 3 (by omega) (by kernel_rfl)
      have y0 := (HF2.out.below hW).c0 0 rfl
      have y1 := (HF2.out.below hW).c0 1 rfl
      have y2 := (HF2.out.below hW).c0 2 rfl
      have y3 := (HF2.out.below hW).c0 3 rfl
      exact .inl ⟨.agg #[.int .i64 (P : Int), .int .i64 (C : Int), .int .i64 (H : Int), .int .i64 (S : Int)], W, by simp only [execOp, Act.eval, d1]; go_simp, Bel.rfl' _, trivial, rfl⟩
    · exact .inl ⟨.pointer (some ⟨w.heap.size, 4, none⟩), W, by simp only [execOp, Act.eval, e1]; go_simp, Bel.rfl' _, trivial, rfl⟩
    · have d1 : a'.tmps.getD 22 undef = .pointer (some ⟨w.heap.size, 4, none⟩) := dep 5 (by omega) (by kernel_rfl)
      have y0 := (HF2.out.below hW).c0 4 rfl
      have y1 := (HF2.out.below hW).c0 5 rfl
      exact .inl ⟨.agg #[.slice A1 n1 c1, .slice A2 n2 c2], W, by simp only [execOp, Act.eval, d1]; go_simp, Bel.rfl' _, trivial, rfl⟩
    · have d1 : a'.tmps.getD 21 undef = .agg #[.int .i64 (P : Int), .int .i64 (C : Int), .int .i64 (H : Int), .int .i64 (S : Int)] := dep 4 (by omega) (by kernel_rfl)
      have d2 : a'.tmps.getD 23 undef = .agg #[.slice A1 n1 c1, .slice A2 n2 c2] := dep 6 (by omega) (by kernel_rfl)
      refine .inr ⟨24, #[.agg #[.int .i64 (P : Int), .int .i64 (C : Int), .int .i64 (H : Int), .int .i64 (S : Int)], .agg #[.slice A1 n1 c1, .slice A2 n2 c2]], by simp only [execOp, Act.eval, d1, d2]; go_simp, ?_⟩
      refine (CB.out W (HF2.out.b.trans (hW.mono HF2.out.b.size))).mono ?_
      rintro e W' ⟨rfl, hb'⟩
      exact ⟨_, rfl, hb', trivial, rfl⟩
    · exact .inl ⟨strV ([45]), W, by simp only [execOp, Act.eval, e3]; go_simp, Bel.rfl' _, trivial, rfl⟩
    · exact .inl ⟨.pointer (some ⟨w.heap.size, 8, none⟩), W, by simp only [execOp, Act.eval, e1]; go_simp, Bel.rfl' _, trivial, rfl⟩
    · have d1 : a'.tmps.getD 26 undef = .pointer (some ⟨w.heap.size, 8, none⟩) := dep 9 (by omega) (by kernel_rfl)
      have y0 := (HF2.out.below hW).c0 8 rfl
      exact .inl ⟨.int .i64 (D : Int), W, by simp only [execOp, Act.eval, d1]; go_simp, Bel.rfl' _, trivial, rfl⟩
    · have d1 : a'.tmps.getD 27 undef = .int .i64 (D : Int) := dep 10 (by omega) (by kernel_rfl)
      refine .inr ⟨25, #[.int .i64 (D : Int)], by simp only [execOp, Act.eval, d1]; go_simp, ?_⟩
      refine (dec_yes D W (by omega) (HT.out.below (HF2.out.b.trans (hW.mono HF2.out.b.size)))).mono ?_
      rintro e W' ⟨rfl, hb'⟩
      exact ⟨_, rfl, hb', trivial, rfl⟩
    · exact .inl ⟨.pointer (some ⟨w.heap.size, 9, none⟩), W, by simp only [execOp, Act.eval, e1]; go_simp, Bel.rfl' _, trivial, rfl⟩
    · have d1 : a'.tmps.getD 29 undef = .pointer (some ⟨w.heap.size, 9, none⟩) := dep 12 (by omega) (by kernel_rfl)
      have y0 := (HF2.out.below hW).c0 9 rfl
      exact .inl ⟨.slice A3 n3 c3, W, by simp only [execOp, Act.eval, d1]; go_simp, Bel.rfl' _, trivial, rfl⟩
    · have d1 : a'.tmps.getD 30 undef = .slice A3 n3 c3 := dep 13 (by omega) (by kernel_rfl)
      exact .inl ⟨.int .i64 (n3 : Int), W, by simp only [execOp, Act.eval, d1]; go_simp, Bel.rfl' _, trivial, rfl⟩
    · have d1 : a'.tmps.getD 31 undef = .int .i64 (n3 : Int) := dep 14 (by omega) (by kernel_rfl)
      refine .inr ⟨25, #[.int .i64 (n3 : Int)], by simp only [execOp, Act.eval, d1]; go_simp, ?_⟩
      refine (dec_yes n3 W (by omega) (HT.out.below (HF2.out.b.trans (hW.mono HF2.out.b.size)))).mono ?_
      rintro e W' ⟨rfl, hb'⟩
      exact ⟨_, rfl, hb', trivial, rfl⟩
    · have d1 : a'.tmps.getD 19 undef = strV (varT P C H S) := dep 2 (by omega) (by kernel_rfl)
      have d2 : a'.tmps.getD 24 undef = strV (boardT own other) := dep 7 (by omega) (by kernel_rfl)
      have d3 : a'.tmps.getD 25 undef = strV ([45]) := dep 8 (by omega) (by kernel_rfl)
      have d4 : a'.tmps.getD 28 undef = strV (Lib.decDigits D) := dep 11 (by omega) (by kernel_rfl)
      have d5 : a'.tmps.getD 32 undef = strV (Lib.decDigits n3) := dep 15 (by omega) (by kernel_rfl)
      unfold strV at d1 d2 d3 d4 d5
      have d1' := d1
      rw [Array.getD_eq_getD_getElem?] at d1'
      have d2' := d2
      rw [Array.getD_eq_getD_getElem?] at d2'
      have d3' := d3
      rw [Array.getD_eq_getD_getElem?] at d3'
      have d4' := d4
      rw [Array.getD_eq_getD_getElem?] at d4'
      have d5' := d5
      rw [Array.getD_eq_getD_getElem?] at d5'
      exact .inl ⟨.slice (some ⟨W.heap.size, 0, none⟩) 5 5, W.alloc (.cells #[.string ⟨(varT P C H S).toArray⟩, .string ⟨(boardT own other).toArray⟩, .string ⟨([45]).toArray⟩, .string ⟨(Lib.decDigits D).toArray⟩, .string ⟨(Lib.decDigits n3).toArray⟩] 9), by simp only [execOp, Act.eval, d1, d2, d3, d4, d5]; go_simp, Bel.alloc _ _, trivial, W.heap.size, rfl, Below.size hW, Cel.new W #[.string ⟨(varT P C H S).toArray⟩, .string ⟨(boardT own other).toArray⟩, .string ⟨([45]).toArray⟩, .string ⟨(Lib.decDigits D).toArray⟩, .string ⟨(Lib.decDigits n3).toArray⟩] _⟩
  intro v W2 hW hIW hg
  have g0 : v 0 = .pointer (some ⟨w.heap.size, 0, none⟩) := hg 0 (by omega)
  have g1 : v 1 = .agg #[.int .i64 (P : Int), .int .i64 (C : Int), .int .i64 (H : Int), .int .i64 (S : Int)] := hg 1 (by omega)
  have g2 : v 2 = strV (varT P C H S) := hg 2 (by omega)
  have g3 : v 3 = .pointer (some ⟨w.heap.size, 0, none⟩) := hg 3 (by omega)
  have g4 : v 4 = .agg #[.int .i64 (P : Int), .int .i64 (C : Int), .int .i64 (H : Int), .int .i64 (S : Int)] := hg 4 (by omega)
  have g5 : v 5 = .pointer (some ⟨w.heap.size, 4, none⟩) := hg 5 (by omega)
  have g6 : v 6 = .agg #[.slice A1 n1 c1, .slice A2 n2 c2] := hg 6 (by omega)
  have g7 : v 7 = strV (boardT own other) := hg 7 (by omega)
  have g8 : v 8 = strV ([45]) := hg 8 (by omega)
  have g9 : v 9 = .pointer (some ⟨w.heap.size, 8, none⟩) := hg 9 (by omega)
  have g10 : v 10 = .int .i64 (D : Int) := hg 10 (by omega)
  have g11 : v 11 = strV (Lib.decDigits D) := hg 11 (by omega)
  have g12 : v 12 = .pointer (some ⟨w.heap.size, 9, none⟩) := hg 12 (by omega)
  have g13 : v 13 = .slice A3 n3 c3 := hg 13 (by omega)
  have g14 : v 14 = .int .i64 (n3 : Int) := hg 14 (by omega)
  have g15 : v 15 = strV (Lib.decDigits n3) := hg 15 (by omega)
  obtain ⟨gq, g16, _, hCq⟩ : SlcB w2.heap.size [.string ⟨(varT P C H S).toArray⟩, .string ⟨(boardT own other).toArray⟩, .string ⟨([45]).toArray⟩, .string ⟨(Lib.decDigits D).toArray⟩, .string ⟨(Lib.decDigits n3).toArray⟩] (v 16) W2 := hg 16 (by omega)
  simp only [List.drop_succ_cons, List.drop_zero, putV, dEN, g0, g1, g2, g3, g4, g5, g6, g7, g8, g9, g10, g11, g12, g13, g14, g15, g16, Act.put]
  clear g0 g1 g2 g3 g4 g5 g6 g7 g8 g9 g10 g11 g12 g13 g14 g15 g16 hg hIW
  have HB : Hid (Below w.heap.size w W2) := (HF2.out.below hW).b
  clear hW
  go_wp2_with (fail)
  refine (Tryd.strings_Join gq 0 5 _ ⟨#[32]⟩ W2 (HJ.out.1 W2 gq hCq) hCq.lt (by show 5 ≤ _; omega) (by show 5 ≤ 5; omega) HJ.out.2.1).mono ?_
  rintro e w5 ⟨he, hb5⟩
  rw [HJ.out.2.2] at he
  subst he
  have HB5 := Lib.hid (HB.out.trans (hb5.mono HB.out.size))
  clear hb5
  go_wp2_with (fail)
  go_ret
  exact ⟨rfl, HB5.out⟩
def dER : Nat → Nat
  | 0 => 17
  | 1 => 18
  | 2 => 19
  | 3 => 20
  | 4 => 21
  | 5 => 22
  | 6 => 23
  | 7 => 24
  | 8 => 25
  | 9 => 26
  | 10 => 27
  | 11 => 28
  | 12 => 29
  | 13 => 30
  | 14 => 31
  | 15 => 32
  | 16 => 33
  | _ => 0
set_option maxRecDepth 100000 in
set_option maxHeartbeats 1000000 in
theorem DeskText_roll (P C H S D ra rb : Nat) (A1 A2 A3 : Option Addr) (n1 c1 n2 c2 n3 c3 : Nat) (own other : List Int) (past : List (List Int × List Int)) (w : World) (h1 : SL w A1 n1 own) (h2 : SL w A2 n2 other) (h3 : SBs w A3 n3 past)
    (hm : ∀ b ∈ past, b.1.length ≤ 2000000 ∧ b.2.length ≤ 2000000) (hd : deskB P C H S own other ra rb D past = true) (hr : noneB ra rb = false) (ht : TBok w) :
    Calls Tryd.prog 7 #[.agg #[.int .i64 P, .int .i64 C, .int .i64 H, .int .i64 S, .slice A1 n1 c1, .slice A2 n2 c2, .int .i64 ra, .int .i64 rb, .int .i64 D, .slice A3 n3 c3]] w fun e w' => e = .returned (strV (dt8 (varT P C H S) (boardT own other) (rolT ra rb) (Lib.decDigits D) (Lib.decDigits n3))) ∧ Below w.heap.size w w' := by
  obtain ⟨hv, hb, hD0, hD, h30⟩ := desk_facts hd
  have hl3 : past.length = n3 := h3.1
  have e1 := h1.1
  have e2 := h2.1
  have hbb := board_bits hb
  have HV := Lib.hid hv
  have HT := Lib.hid ht
  have hvv := isVar_yes hv
  have HF0 : Hid (Fr w (w.alloc (.cells #[.int .i64 P, .int .i64 C, .int .i64 H, .int .i64 S, .slice A1 n1 c1, .slice A2 n2 c2, .int .i64 ra, .int .i64 rb, .int .i64 D, .slice A3 n3 c3] 39)) [[.int .i64 P, .int .i64 C, .int .i64 H, .int .i64 S, .slice A1 n1 c1, .slice A2 n2 c2, .int .i64 ra, .int .i64 rb, .int .i64 D, .slice A3 n3 c3]]) := (Fr.start w).allocT (by simp) _ _
  have CD : Hid (∀ W : World, Below w.heap.size w W → Calls Tryd.prog 21 #[.agg #[.int .i64 P, .int .i64 C, .int .i64 H, .int .i64 S, .slice A1 n1 c1, .slice A2 n2 c2, .int .i64 ra, .int .i64 rb, .int .i64 D, .slice A3 n3 c3]] W fun e w' => e = .returned (.bool true) ∧ Below W.heap.size W w') := fun W hw => by
    have h := IsDesk_any P C H S ra rb D A1 A2 A3 n1 c1 n2 c2 n3 c3 own other past W (h1.below hw) (h2.below hw) (h3.below hw) (by omega) (by omega) (by omega) hm
    rw [hd] at h
    exact h
  have CB := Lib.hid fun (W : World) (hw : Below w.heap.size w W) => BoardId_yes P C H S A1 A2 n1 c1 n2 c2 own other W (h1.below hw) (h2.below hw) hb
  have lV := (vr_len P C H S (by omega) (by omega) (by omega) (by omega)).2.2.2.2.2
  have lB : (boardT own other).length ≤ 20 := by unfold boardT; rw [idT_len]; omega
  have lS := dec_len D (by omega)
  have lN := dec_len n3 (by omega)
  change (varT P C H S).length ≤ 100 at lV
  have hrb := roll_facts hd hr
  have lR := rol_len ra rb (by omega) (by omega)
  clear hr
  have HJ := Lib.hid (join5 (varT P C H S) (boardT own other) (rolT ra rb) (Lib.decDigits D) (Lib.decDigits n3) (by omega) (by omega) (by omega) (by omega) (by omega))
  have hnq : ∀ W : World, (binOp .neq 36 (.agg #[.int .i64 ra, .int .i64 rb]) (.agg #[.int .i64 0, .int .i64 0])).run Tryd.prog W = .ok (.bool true) W := fun W => by
    rw [neq_roll]
    rw [show decide ((ra : Int) = 0 ∧ (rb : Int) = 0) = false from decide_eq_false (by omega)]; rfl
  clear lV lB lS lN hd hb hbb h1 h2 h3 hm ht
  go_enter Tryd.func7, Tryd.ntmps7
  go_wp2_with (fail)
  refine (CD.out _ HF0.out.b).mono ?_
  rintro e w1 ⟨rfl, hb1⟩
  have HF1 := Lib.hid (HF0.out.below hb1)
  clear hb1 HF0 CD
  have z0 := HF1.out.l0 (by simp)
  have c00 := HF1.out.c0 0 rfl
  have f00 := HF1.out.f0 0 rfl
  have c01 := HF1.out.c0 1 rfl
  have f01 := HF1.out.f0 1 rfl
  have c02 := HF1.out.c0 2 rfl
  have f02 := HF1.out.f0 2 rfl
  have c03 := HF1.out.c0 3 rfl
  have f03 := HF1.out.f0 3 rfl
  have c04 := HF1.out.c0 4 rfl
  have f04 := HF1.out.f0 4 rfl
  have c05 := HF1.out.c0 5 rfl
  have f05 := HF1.out.f0 5 rfl
  have c06 := HF1.out.c0 6 rfl
  have f06 := HF1.out.f0 6 rfl
  have c07 := HF1.out.c0 7 rfl
  have f07 := HF1.out.f0 7 rfl
  have c08 := HF1.out.c0 8 rfl
  have f08 := HF1.out.f0 8 rfl
  have c09 := HF1.out.c0 9 rfl
  have f09 := HF1.out.f0 9 rfl
  go_wp2_with (fail)
  clear z0 c00 f00 c01 f01 c02 f02 c03 f03 c04 f04 c05 f05 c06 f06 c07 f07 c08 f08 c09 f09
  clear hnq
  refine (RollText_yes P C H S ra rb _ HV.out (by omega) (by omega) (by omega) (HT.out.below HF1.out.b)).mono ?_
  rintro e w2 ⟨rfl, hb2⟩
  have HF2 := Lib.hid (HF1.out.below hb2)
  clear hb2 HF1
  go_wp2_with (fail)
  refine wp_region_early 17 (fun _ => false) dER Bel (fun _ => True) (GL [Eqv (.pointer (some ⟨w.heap.size, 0, none⟩)), Eqv (.agg #[.int .i64 (P : Int), .int .i64 (C : Int), .int .i64 (H : Int), .int .i64 (S : Int)]), Eqv (strV (varT P C H S)), Eqv (.pointer (some ⟨w.heap.size, 0, none⟩)), Eqv (.agg #[.int .i64 (P : Int), .int .i64 (C : Int), .int .i64 (H : Int), .int .i64 (S : Int)]), Eqv (.pointer (some ⟨w.heap.size, 4, none⟩)), Eqv (.agg #[.slice A1 n1 c1, .slice A2 n2 c2]), Eqv (strV (boardT own other)), Eqv (strV (rolT ra rb)), Eqv (.pointer (some ⟨w.heap.size, 8, none⟩)), Eqv (.int .i64 (D : Int)), Eqv (strV (Lib.decDigits D)), Eqv (.pointer (some ⟨w.heap.size, 9, none⟩)), Eqv (.slice A3 n3 c3), Eqv (.int .i64 (n3 : Int)), Eqv (strV (Lib.decDigits n3)), SlcB w2.heap.size [.string ⟨(varT P C H S).toArray⟩, .string ⟨(boardT own other).toArray⟩, .string ⟨(rolT ra rb).toArray⟩, .string ⟨(Lib.decDigits D).toArray⟩, .string ⟨(Lib.decDigits n3).toArray⟩]]) (by kernel_rfl) (by kernel_rfl) (fun _ _ _ _ _ h => h) (fun _ _ _ h1 h2 => Bel.trans h1 h2) Bel.rfl' (GL.stab (by repeat (first | exact AllStb.nil | refine AllStb.cons (by first | exact stb_eq _ | exact stb_slcB _ _) ?_))) (Bel.drew _) trivial (fun i o' _ hX => by cases hX) ?_ ?_
  · intro i o hi hX ho a' W hW hIW hfar hdep
    have e1 : a'.tmps.getD 1 undef = .pointer (some ⟨w.heap.size, 0, none⟩) := (hfar 1 (by decide)).trans rfl
    have e3 : a'.tmps.getD 3 undef = strV (rolT ra rb) := (hfar 3 (by decide)).trans rfl
    have dep : ∀ j, j < 17 → Region.waitsFor .any _ i j = true → (GL [Eqv (.pointer (some ⟨w.heap.size, 0, none⟩)), Eqv (.agg #[.int .i64 (P : Int), .int .i64 (C : Int), .int .i64 (H : Int), .int .i64 (S : Int)]), Eqv (strV (varT P C H S)), Eqv (.pointer (some ⟨w.heap.size, 0, none⟩)), Eqv (.agg #[.int .i64 (P : Int), .int .i64 (C : Int), .int .i64 (H : Int), .int .i64 (S : Int)]), Eqv (.pointer (some ⟨w.heap.size, 4, none⟩)), Eqv (.agg #[.slice A1 n1 c1, .slice A2 n2 c2]), Eqv (strV (boardT own other)), Eqv (strV (rolT ra rb)), Eqv (.pointer (some ⟨w.heap.size, 8, none⟩)), Eqv (.int .i64 (D : Int)), Eqv (strV (Lib.decDigits D)), Eqv (.pointer (some ⟨w.heap.size, 9, none⟩)), Eqv (.slice A3 n3 c3), Eqv (.int .i64 (n3 : Int)), Eqv (strV (Lib.decDigits n3)), SlcB w2.heap.size [.string ⟨(varT P C H S).toArray⟩, .string ⟨(boardT own other).toArray⟩, .string ⟨(rolT ra rb).toArray⟩, .string ⟨(Lib.decDigits D).toArray⟩, .string ⟨(Lib.decDigits n3).toArray⟩]]) j (a'.tmps.getD (dER j) undef) W := hdep
    have hi8 : i = 0 ∨ i = 1 ∨ i = 2 ∨ i = 3 ∨ i = 4 ∨ i = 5 ∨ i = 6 ∨ i = 7 ∨ i = 8 ∨ i = 9 ∨ i = 10 ∨ i = 11 ∨ i = 12 ∨ i = 13 ∨ i = 14 ∨ i = 15 ∨ i = 16 := by omega
    clear hfar hdep hX hi
    rcases hi8 with rfl | rfl | rfl | rfl | rfl | rfl | rfl | rfl | rfl | rfl | rfl | rfl | rfl | rfl | rfl | rfl | rfl
    all_goals (simp at ho; subst ho)
    · exact .inl ⟨.pointer (some ⟨w.heap.size, 0, none⟩), W, by simp only [execOp, Act.eval, e1]; go_simp, Bel.rfl' _, trivial, rfl⟩
    · have d1 : a'.tmps.getD 17 undef = .pointer (some ⟨w.heap.size, 0, none⟩) := dep 0 (by omega) (by kernel_rfl)
      have y0 := (HF2.out.below hW).c0 0 rfl
      have y1 := (HF2.out.below hW).c0 1 rfl
      have y2 := (HF2.out.below hW).c0 2 rfl
      have y3 := (HF2.out.below hW).c0 3 rfl
      exact .inl ⟨.agg #[.int .i64 (P : Int), .int .i64 (C : Int), .int .i64 (H : Int), .int .i64 (S : Int)], W, by simp only [execOp, Act.eval, d1]; go_simp, Bel.rfl' _, trivial, rfl⟩
    · have d1 : a'.tmps.getD 18 undef = .agg #[.int .i64 (P : Int), .int .i64 (C : Int), .int .i64 (H : Int), .int .i64 (S : Int)] := dep 1 (by omega) (by kernel_rfl)
      refine .inr ⟨23, #[.agg #[.int .i64 (P : Int), .int .i64 (C : Int), .int .i64 (H : Int), .int .i64 (S : Int)]], by simp only [execOp, Act.eval, d1]; go_simp, ?_⟩
      refine (VariantText_yes P C H S W HV.out (HT.out.below (HF2.out.b.trans (hW.mono HF2.out.b.size)))).mono ?_
      rintro e W' ⟨rfl, hb'⟩
      exact ⟨_, rfl, hb', trivial, rfl⟩
    · exact .inl ⟨.pointer (some ⟨w.heap.size, 0, none⟩), W, by simp only [execOp, Act.eval, e1]; go_simp, Bel.rfl' _, trivial, rfl⟩
    · have d1 : a'.tmps.getD 20 undef = .pointer (some ⟨w.heap.size, 0, none⟩) := dep 3 (by omega) (by kernel_rfl)
      have y0 := (HF2.out.below hW).c0 0 rfl
      have y1 := (HF2.out.below hW).c0 1 rfl
      have y2 := (HF2.out.below hW).c0 2 rfl
      have y3 := (HF2.out.below hW).c0 3 rfl
      exact .inl ⟨.agg #[.int .i64 (P : Int), .int .i64 (C : Int), .int .i64 (H : Int), .int .i64 (S : Int)], W, by simp only [execOp, Act.eval, d1]; go_simp, Bel.rfl' _, trivial, rfl⟩
    · exact .inl ⟨.pointer (some ⟨w.heap.size, 4, none⟩), W, by simp only [execOp, Act.eval, e1]; go_simp, Bel.rfl' _, trivial, rfl⟩
    · have d1 : a'.tmps.getD 22 undef = .pointer (some ⟨w.heap.size, 4, none⟩) := dep 5 (by omega) (by kernel_rfl)
      have y0 := (HF2.out.below hW).c0 4 rfl
      have y1 := (HF2.out.below hW).c0 5 rfl
      exact .inl ⟨.agg #[.slice A1 n1 c1, .slice A2 n2 c2], W, by simp only [execOp, Act.eval, d1]; go_simp, Bel.rfl' _, trivial, rfl⟩
    · have d1 : a'.tmps.getD 21 undef = .agg #[.int .i64 (P : Int), .int .i64 (C : Int), .int .i64 (H : Int), .int .i64 (S : Int)] := dep 4 (by omega) (by kernel_rfl)
      have d2 : a'.tmps.getD 23 undef = .agg #[.slice A1 n1 c1, .slice A2 n2 c2] := dep 6 (by omega) (by kernel_rfl)
      refine .inr ⟨24, #[.agg #[.int .i64 (P : Int), .int .i64 (C : Int), .int .i64 (H : Int), .int .i64 (S : Int)], .agg #[.slice A1 n1 c1, .slice A2 n2 c2]], by simp only [execOp, Act.eval, d1, d2]; go_simp, ?_⟩
      refine (CB.out W (HF2.out.b.trans (hW.mono HF2.out.b.size))).mono ?_
      rintro e W' ⟨rfl, hb'⟩
      exact ⟨_, rfl, hb', trivial, rfl⟩
    · exact .inl ⟨strV (rolT ra rb), W, by simp only [execOp, Act.eval, e3]; go_simp, Bel.rfl' _, trivial, rfl⟩
    · exact .inl ⟨.pointer (some ⟨w.heap.size, 8, none⟩), W, by simp only [execOp, Act.eval, e1]; go_simp, Bel.rfl' _, trivial, rfl⟩
    · have d1 : a'.tmps.getD 26 undef = .pointer (some ⟨w.heap.size, 8, none⟩) := dep 9 (by omega) (by kernel_rfl)
      have y0 := (HF2.out.below hW).c0 8 rfl
      exact .inl ⟨.int .i64 (D : Int), W, by simp only [execOp, Act.eval, d1]; go_simp, Bel.rfl' _, trivial, rfl⟩
    · have d1 : a'.tmps.getD 27 undef = .int .i64 (D : Int) := dep 10 (by omega) (by kernel_rfl)
      refine .inr ⟨25, #[.int .i64 (D : Int)], by simp only [execOp, Act.eval, d1]; go_simp, ?_⟩
      refine (dec_yes D W (by omega) (HT.out.below (HF2.out.b.trans (hW.mono HF2.out.b.size)))).mono ?_
      rintro e W' ⟨rfl, hb'⟩
      exact ⟨_, rfl, hb', trivial, rfl⟩
    · exact .inl ⟨.pointer (some ⟨w.heap.size, 9, none⟩), W, by simp only [execOp, Act.eval, e1]; go_simp, Bel.rfl' _, trivial, rfl⟩
    · have d1 : a'.tmps.getD 29 undef = .pointer (some ⟨w.heap.size, 9, none⟩) := dep 12 (by omega) (by kernel_rfl)
      have y0 := (HF2.out.below hW).c0 9 rfl
      exact .inl ⟨.slice A3 n3 c3, W, by simp only [execOp, Act.eval, d1]; go_simp, Bel.rfl' _, trivial, rfl⟩
    · have d1 : a'.tmps.getD 30 undef = .slice A3 n3 c3 := dep 13 (by omega) (by kernel_rfl)
      exact .inl ⟨.int .i64 (n3 : Int), W, by simp only [execOp, Act.eval, d1]; go_simp, Bel.rfl' _, trivial, rfl⟩
    · have d1 : a'.tmps.getD 31 undef = .int .i64 (n3 : Int) := dep 14 (by omega) (by kernel_rfl)
      refine .inr ⟨25, #[.int .i64 (n3 : Int)], by simp only [execOp, Act.eval, d1]; go_simp, ?_⟩
      refine (dec_yes n3 W (by omega) (HT.out.below (HF2.out.b.trans (hW.mono HF2.out.b.size)))).mono ?_
      rintro e W' ⟨rfl, hb'⟩
      exact ⟨_, rfl, hb', trivial, rfl⟩
    · have d1 : a'.tmps.getD 19 undef = strV (varT P C H S) := dep 2 (by omega) (by kernel_rfl)
      have d2 : a'.tmps.getD 24 undef = strV (boardT own other) := dep 7 (by omega) (by kernel_rfl)
      have d3 : a'.tmps.getD 25 undef = strV (rolT ra rb) := dep 8 (by omega) (by kernel_rfl)
      have d4 : a'.tmps.getD 28 undef = strV (Lib.decDigits D) := dep 11 (by omega) (by kernel_rfl)
      have d5 : a'.tmps.getD 32 undef = strV (Lib.decDigits n3) := dep 15 (by omega) (by kernel_rfl)
      unfold strV at d1 d2 d3 d4 d5
      have d1' := d1
      rw [Array.getD_eq_getD_getElem?] at d1'
      have d2' := d2
      rw [Array.getD_eq_getD_getElem?] at d2'
      have d3' := d3
      rw [Array.getD_eq_getD_getElem?] at d3'
      have d4' := d4
      rw [Array.getD_eq_getD_getElem?] at d4'
      have d5' := d5
      rw [Array.getD_eq_getD_getElem?] at d5'
      exact .inl ⟨.slice (some ⟨W.heap.size, 0, none⟩) 5 5, W.alloc (.cells #[.string ⟨(varT P C H S).toArray⟩, .string ⟨(boardT own other).toArray⟩, .string ⟨(rolT ra rb).toArray⟩, .string ⟨(Lib.decDigits D).toArray⟩, .string ⟨(Lib.decDigits n3).toArray⟩] 9), by simp only [execOp, Act.eval, d1, d2, d3, d4, d5]; go_simp, Bel.alloc _ _, trivial, W.heap.size, rfl, Below.size hW, Cel.new W #[.string ⟨(varT P C H S).toArray⟩, .string ⟨(boardT own other).toArray⟩, .string ⟨(rolT ra rb).toArray⟩, .string ⟨(Lib.decDigits D).toArray⟩, .string ⟨(Lib.decDigits n3).toArray⟩] _⟩
  intro v W2 hW hIW hg
  have g0 : v 0 = .pointer (some ⟨w.heap.size, 0, none⟩) := hg 0 (by omega)
  have g1 : v 1 = .agg #[.int .i64 (P : Int), .int .i64 (C : Int), .int .i64 (H : Int), .int .i64 (S : Int)] := hg 1 (by omega)
  have g2 : v 2 = strV (varT P C H S) := hg 2 (by omega)
  have g3 : v 3 = .pointer (some ⟨w.heap.size, 0, none⟩) := hg 3 (by omega)
  have g4 : v 4 = .agg #[.int .i64 (P : Int), .int .i64 (C : Int), .int .i64 (H : Int), .int .i64 (S : Int)] := hg 4 (by omega)
  have g5 : v 5 = .pointer (some ⟨w.heap.size, 4, none⟩) := hg 5 (by omega)
  have g6 : v 6 = .agg #[.slice A1 n1 c1, .slice A2 n2 c2] := hg 6 (by omega)
  have g7 : v 7 = strV (boardT own other) := hg 7 (by omega)
  have g8 : v 8 = strV (rolT ra rb) := hg 8 (by omega)
  have g9 : v 9 = .pointer (some ⟨w.heap.size, 8, none⟩) := hg 9 (by omega)
  have g10 : v 10 = .int .i64 (D : Int) := hg 10 (by omega)
  have g11 : v 11 = strV (Lib.decDigits D) := hg 11 (by omega)
  have g12 : v 12 = .pointer (some ⟨w.heap.size, 9, none⟩) := hg 12 (by omega)
  have g13 : v 13 = .slice A3 n3 c3 := hg 13 (by omega)
  have g14 : v 14 = .int .i64 (n3 : Int) := hg 14 (by omega)
  have g15 : v 15 = strV (Lib.decDigits n3) := hg 15 (by omega)
  obtain ⟨gq, g16, _, hCq⟩ : SlcB w2.heap.size [.string ⟨(varT P C H S).toArray⟩, .string ⟨(boardT own other).toArray⟩, .string ⟨(rolT ra rb).toArray⟩, .string ⟨(Lib.decDigits D).toArray⟩, .string ⟨(Lib.decDigits n3).toArray⟩] (v 16) W2 := hg 16 (by omega)
  simp only [List.drop_succ_cons, List.drop_zero, putV, dER, g0, g1, g2, g3, g4, g5, g6, g7, g8, g9, g10, g11, g12, g13, g14, g15, g16, Act.put]
  clear g0 g1 g2 g3 g4 g5 g6 g7 g8 g9 g10 g11 g12 g13 g14 g15 g16 hg hIW
  have HB : Hid (Below w.heap.size w W2) := (HF2.out.below hW).b
  clear hW
  go_wp2_with (fail)
  refine (Tryd.strings_Join gq 0 5 _ ⟨#[32]⟩ W2 (HJ.out.1 W2 gq hCq) hCq.lt (by show 5 ≤ _; omega) (by show 5 ≤ 5; omega) HJ.out.2.1).mono ?_
  rintro e w5 ⟨he, hb5⟩
  rw [HJ.out.2.2] at he
  subst he
  have HB5 := Lib.hid (HB.out.trans (hb5.mono HB.out.size))
  clear hb5
  go_wp2_with (fail)
  go_ret
  exact ⟨rfl, HB5.out⟩
end Go.Proofs.YtkjlafcnmniomaaDoor

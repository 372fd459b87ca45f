/- Contract of the reference's text of a desk. There are no conditions beyond those that it states. -/
import Derived.Test.YtkjlafcnmniomaaDoorT9
namespace Go.Proofs.YtkjlafcnmniomaaDoor
set_option linter.unusedVariables false
set_option linter.unusedSimpArgs false
open Go.RowKit

def dt1 (V : List UInt8) : List UInt8 := V ++ [32]
def dt2 (V B : List UInt8) : List UInt8 := dt1 V ++ B
def dt3 (V B : List UInt8) : List UInt8 := dt2 V B ++ [32]
def dt4 (V B R : List UInt8) : List UInt8 := dt3 V B ++ R
def dt5 (V B R : List UInt8) : List UInt8 := dt4 V B R ++ [32]
def dt6 (V B R S : List UInt8) : List UInt8 := dt5 V B R ++ S
def dt7 (V B R S : List UInt8) : List UInt8 := dt6 V B R S ++ [32]
def dt8 (V B R S N : List UInt8) : List UInt8 := dt7 V B R S ++ N
theorem desk_facts {p c h s ra rb seed : Int} {own other : List Int} {past : List (List Int × List Int)} (hd : deskB p c h s own other ra rb seed past = true) :
    isVar p c h s = true ∧ boardB p c h s own other = true ∧ 1 ≤ seed ∧ seed ≤ 2147483646 ∧ past.length ≤ 30 := by
  simp only [deskB, Bool.and_eq_true] at hd
  obtain ⟨⟨⟨⟨⟨h1, h2⟩, h3⟩, h4⟩, h5⟩, h6⟩ := hd
  have hv : isVar p c h s = true := by
    unfold boardB at h2
    exact (Bool.and_eq_true _ _ ▸ h2).1
  have h4' := h4
  unfold seedB inB at h4'
  exact ⟨hv, h2, by simpa using (of_decide_eq_true h4').1, by simpa using (of_decide_eq_true h4').2, of_decide_eq_true h5⟩
theorem roll_facts {p c h s ra rb seed : Int} {own other : List Int} {past : List (List Int × List Int)} (hd : deskB p c h s own other ra rb seed past = true) (hn : noneB ra rb = false) : 1 ≤ rb ∧ rb ≤ ra ∧ ra ≤ s := by
  simp only [deskB, Bool.and_eq_true, hn, Bool.false_or] at hd
  have h := of_decide_eq_true hd.1.1.1.2
  omega
theorem rol_len (a b : Nat) (ha : a < 1000000000000000000) (hb : b < 1000000000000000000) : (rolT a b).length ≤ 42 := by
  have := dec_len a ha
  have := dec_len b hb
  unfold rolT
  rw [List.length_append]
  omega
def dDN : Nat → Nat
  | 0 => 16
  | 1 => 17
  | 2 => 18
  | 3 => 19
  | 4 => 20
  | 5 => 21
  | 6 => 22
  | 7 => 23
  | 8 => 24
  | 9 => 25
  | 10 => 26
  | 11 => 27
  | 12 => 28
  | 13 => 29
  | 14 => 30
  | 15 => 31
  | 16 => 32
  | 17 => 33
  | 18 => 34
  | 19 => 35
  | 20 => 36
  | 21 => 37
  | 22 => 38
  | 23 => 39
  | _ => 0
set_option maxRecDepth 100000 in
set_option maxHeartbeats 1000000 in
theorem sDeskText_none (P C H S D : Nat) (A1 A2 A3 : Option Addr) (n1 c1 n2 c2 n3 c3 : Nat) (own other : List Int) (past : List (List Int × List Int)) (w : World) (h1 : SL w A1 n1 own) (h2 : SL w A2 n2 other) (h3 : SBs w A3 n3 past)
    (hm : ∀ b ∈ past, b.1.length ≤ 2000000 ∧ b.2.length ≤ 2000000) (hd : deskB P C H S own other 0 0 D past = true) :
    Calls Tryd.prog 5 #[.agg #[.int .i64 P, .int .i64 C, .int .i64 H, .int .i64 S, .slice A1 n1 c1, .slice A2 n2 c2, .int .i64 0, .int .i64 0, .int .i64 D, .slice A3 n3 c3]] w fun e w' => e = .returned (strV (dt8 (varT P C H S) (boardT own other) ([45]) (Lib.decDigits D) (Lib.decDigits n3))) ∧ Below w.heap.size w w' := by
  obtain ⟨hv, hb, hD0, hD, h30⟩ := desk_facts hd
  have hl3 : past.length = n3 := h3.1
  have e1 := h1.1
  have e2 := h2.1
  have hbb := board_bits hb
  have HV := Lib.hid hv
  have hvv := isVar_yes hv
  have HF0 : Hid (Fr w (w.alloc (.cells #[.int .i64 P, .int .i64 C, .int .i64 H, .int .i64 S, .slice A1 n1 c1, .slice A2 n2 c2, .int .i64 0, .int .i64 0, .int .i64 D, .slice A3 n3 c3] 39)) [[.int .i64 P, .int .i64 C, .int .i64 H, .int .i64 S, .slice A1 n1 c1, .slice A2 n2 c2, .int .i64 0, .int .i64 0, .int .i64 D, .slice A3 n3 c3]]) := (Fr.start w).allocT (by simp) _ _
  have CD : Hid (∀ W : World, Below w.heap.size w W → Calls Tryd.prog 11 #[.agg #[.int .i64 P, .int .i64 C, .int .i64 H, .int .i64 S, .slice A1 n1 c1, .slice A2 n2 c2, .int .i64 0, .int .i64 0, .int .i64 D, .slice A3 n3 c3]] W fun e w' => e = .returned (.bool true) ∧ Below W.heap.size W w') := fun W hw => by
    have h := sIsDesk_any P C H S 0 0 D A1 A2 A3 n1 c1 n2 c2 n3 c3 own other past W (h1.below hw) (h2.below hw) (h3.below hw) (by omega) (by omega) (by omega) hm
    rw [hd] at h
    exact h
  have CB := Lib.hid fun (W : World) (hw : Below w.heap.size w W) => sBoardId_yes P C H S A1 A2 n1 c1 n2 c2 own other W (h1.below hw) (h2.below hw) hb
  have lV := (vr_len P C H S (by omega) (by omega) (by omega) (by omega)).2.2.2.2.2
  have lB : (boardT own other).length ≤ 20 := by unfold boardT; rw [idT_len]; omega
  have lS := dec_len D (by omega)
  have lN := dec_len n3 (by omega)
  change (varT P C H S).length ≤ 100 at lV

  have hc1 := fun (W : World) => cat_lit (varT P C H S) 32 (by first | omega | (simp only [dt1, dt2, dt3, dt4, dt5, dt6, dt7, List.length_append, List.length_singleton]; omega)) W
  have hc2 := fun (W : World) => cat_run (dt1 (varT P C H S)) (boardT own other) (by first | omega | (simp only [dt1, dt2, dt3, dt4, dt5, dt6, dt7, List.length_append, List.length_singleton]; omega)) W
  have hc3 := fun (W : World) => cat_lit (dt2 (varT P C H S) (boardT own other)) 32 (by first | omega | (simp only [dt1, dt2, dt3, dt4, dt5, dt6, dt7, List.length_append, List.length_singleton]; omega)) W
  have hc4 := fun (W : World) => cat_run (dt3 (varT P C H S) (boardT own other)) ([45]) (by first | omega | (simp only [dt1, dt2, dt3, dt4, dt5, dt6, dt7, List.length_append, List.length_singleton]; omega)) W
  have hc5 := fun (W : World) => cat_lit (dt4 (varT P C H S) (boardT own other) ([45])) 32 (by first | omega | (simp only [dt1, dt2, dt3, dt4, dt5, dt6, dt7, List.length_append, List.length_singleton]; omega)) W
  have hc6 := fun (W : World) => cat_run (dt5 (varT P C H S) (boardT own other) ([45])) (Lib.decDigits D) (by first | omega | (simp only [dt1, dt2, dt3, dt4, dt5, dt6, dt7, List.length_append, List.length_singleton]; omega)) W
  have hc7 := fun (W : World) => cat_lit (dt6 (varT P C H S) (boardT own other) ([45]) (Lib.decDigits D)) 32 (by first | omega | (simp only [dt1, dt2, dt3, dt4, dt5, dt6, dt7, List.length_append, List.length_singleton]; omega)) W
  have hc8 := fun (W : World) => cat_run (dt7 (varT P C H S) (boardT own other) ([45]) (Lib.decDigits D)) (Lib.decDigits n3) (by first | omega | (simp only [dt1, dt2, dt3, dt4, dt5, dt6, dt7, List.length_append, List.length_singleton]; omega)) W
  change ∀ W : World, (binOp .add 9 (strV (varT P C H S)) (.string { data := #[32] })).run Tryd.prog W = .ok (strV (dt1 (varT P C H S))) W at hc1
  change ∀ W : World, (binOp .add 9 (strV (dt1 (varT P C H S))) (strV (boardT own other))).run Tryd.prog W = .ok (strV (dt2 (varT P C H S) (boardT own other))) W at hc2
  change ∀ W : World, (binOp .add 9 (strV (dt2 (varT P C H S) (boardT own other))) (.string { data := #[32] })).run Tryd.prog W = .ok (strV (dt3 (varT P C H S) (boardT own other))) W at hc3
  change ∀ W : World, (binOp .add 9 (strV (dt3 (varT P C H S) (boardT own other))) (strV ([45]))).run Tryd.prog W = .ok (strV (dt4 (varT P C H S) (boardT own other) ([45]))) W at hc4
  change ∀ W : World, (binOp .add 9 (strV (dt4 (varT P C H S) (boardT own other) ([45]))) (.string { data := #[32] })).run Tryd.prog W = .ok (strV (dt5 (varT P C H S) (boardT own other) ([45]))) W at hc5
  change ∀ W : World, (binOp .add 9 (strV (dt5 (varT P C H S) (boardT own other) ([45]))) (strV (Lib.decDigits D))).run Tryd.prog W = .ok (strV (dt6 (varT P C H S) (boardT own other) ([45]) (Lib.decDigits D))) W at hc6
  change ∀ W : World, (binOp .add 9 (strV (dt6 (varT P C H S) (boardT own other) ([45]) (Lib.decDigits D))) (.string { data := #[32] })).run Tryd.prog W = .ok (strV (dt7 (varT P C H S) (boardT own other) ([45]) (Lib.decDigits D))) W at hc7
  change ∀ W : World, (binOp .add 9 (strV (dt7 (varT P C H S) (boardT own other) ([45]) (Lib.decDigits D))) (strV (Lib.decDigits n3))).run Tryd.prog W = .ok (strV (dt8 (varT P C H S) (boardT own other) ([45]) (Lib.decDigits D) (Lib.decDigits n3))) W at hc8
  clear lV lB lS lN hd hb hbb h1 h2 h3 hm
  go_enter Tryd.func5, Tryd.ntmps5
  go_wp2_with (fail)
  refine (CD.out _ HF0.out.b).mono ?_
  rintro e w1 ⟨rfl, hb1⟩
  have HF1 := Lib.hid (HF0.out.below hb1)
  clear hb1 HF0 CD
  have z0 := HF1.out.l0 (by simp)
  have c00 := HF1.out.c0 0 rfl
  have f00 := HF1.out.f0 0 rfl
  have c01 := HF1.out.c0 1 rfl
  have f01 := HF1.out.f0 1 rfl
  have c02 := HF1.out.c0 2 rfl
  have f02 := HF1.out.f0 2 rfl
  have c03 := HF1.out.c0 3 rfl
  have f03 := HF1.out.f0 3 rfl
  have c04 := HF1.out.c0 4 rfl
  have f04 := HF1.out.f0 4 rfl
  have c05 := HF1.out.c0 5 rfl
  have f05 := HF1.out.f0 5 rfl
  have c06 := HF1.out.c0 6 rfl
  have f06 := HF1.out.f0 6 rfl
  have c07 := HF1.out.c0 7 rfl
  have f07 := HF1.out.f0 7 rfl
  have c08 := HF1.out.c0 8 rfl
  have f08 := HF1.out.f0 8 rfl
  have c09 := HF1.out.c0 9 rfl
  have f09 := HF1.out.f0 9 rfl
  go_wp2_with (fail)
  clear z0 c00 f00 c01 f01 c02 f02 c03 f03 c04 f04 c05 f05 c06 f06 c07 f07 c08 f08 c09 f09
  refine (l34None_any 0 0 _).mono ?_
  rintro e w2 ⟨rfl, hb2⟩
  have HF2 := Lib.hid (HF1.out.below hb2)
  clear hb2 HF1
  rw [show noneB 0 0 = true from rfl]
  go_wp2_with (fail)
  refine wp_region_early 24 (fun _ => false) dDN Bel (fun _ => True) (GL [Eqv (.pointer (some ⟨w.heap.size, 0, none⟩)), Eqv (.agg #[.int .i64 (P : Int), .int .i64 (C : Int), .int .i64 (H : Int), .int .i64 (S : Int)]), Eqv (strV (varT P C H S)), Eqv (strV (dt1 (varT P C H S))), Eqv (.pointer (some ⟨w.heap.size, 0, none⟩)), Eqv (.agg #[.int .i64 (P : Int), .int .i64 (C : Int), .int .i64 (H : Int), .int .i64 (S : Int)]), Eqv (.pointer (some ⟨w.heap.size, 4, none⟩)), Eqv (.agg #[.slice A1 n1 c1, .slice A2 n2 c2]), Eqv (strV (boardT own other)), Eqv (strV (dt2 (varT P C H S) (boardT own other))), Eqv (strV (dt3 (varT P C H S) (boardT own other))), Eqv (strV ([45])), Eqv (strV (dt4 (varT P C H S) (boardT own other) ([45]))), Eqv (strV (dt5 (varT P C H S) (boardT own other) ([45]))), Eqv (.pointer (some ⟨w.heap.size, 8, none⟩)), Eqv (.int .i64 (D : Int)), Eqv (strV (Lib.decDigits D)), Eqv (strV (dt6 (varT P C H S) (boardT own other) ([45]) (Lib.decDigits D))), Eqv (strV (dt7 (varT P C H S) (boardT own other) ([45]) (Lib.decDigits D))), Eqv (.pointer (some ⟨w.heap.size, 9, none⟩)), Eqv (.slice A3 n3 c3), Eqv (.int .i64 (n3 : Int)), Eqv (strV (Lib.decDigits n3)), Eqv (strV (dt8 (varT P C H S) (boardT own other) ([45]) (Lib.decDigits D) (Lib.decDigits n3)))]) (by kernel_rfl) (by kernel_rfl) (fun _ _ _ _ _ h => h) (fun _ _ _ h1 h2 => Bel.trans h1 h2) Bel.rfl' (GL.stab (by repeat (first | exact AllStb.nil | refine AllStb.cons (by first | exact stb_eq _ | exact stb_alcD _ _ _) ?_))) (Bel.drew _) trivial (fun i o' _ hX => by cases hX) ?_ ?_
  · intro i o hi hX ho a' W hW hIW hfar hdep
    have e1 : a'.tmps.getD 1 undef = .pointer (some ⟨w.heap.size, 0, none⟩) := (hfar 1 (by decide)).trans rfl
    have e3 : a'.tmps.getD 3 undef = strV ([45]) := (hfar 3 (by decide)).trans rfl
    have dep : ∀ j, j < 24 → Region.waitsFor .any _ i j = true → (GL [Eqv (.pointer (some ⟨w.heap.size, 0, none⟩)), Eqv (.agg #[.int .i64 (P : Int), .int .i64 (C : Int), .int .i64 (H : Int), .int .i64 (S : Int)]), Eqv (strV (varT P C H S)), Eqv (strV (dt1 (varT P C H S))), Eqv (.pointer (some ⟨w.heap.size, 0, none⟩)), Eqv (.agg #[.int .i64 (P : Int), .int .i64 (C : Int), .int .i64 (H : Int), .int .i64 (S : Int)]), Eqv (.pointer (some ⟨w.heap.size, 4, none⟩)), Eqv (.agg #[.slice A1 n1 c1, .slice A2 n2 c2]), Eqv (strV (boardT own other)), Eqv (strV (dt2 (varT P C H S) (boardT own other))), Eqv (strV (dt3 (varT P C H S) (boardT own other))), Eqv (strV ([45])), Eqv (strV (dt4 (varT P C H S) (boardT own other) ([45]))), Eqv (strV (dt5 (varT P C H S) (boardT own other) ([45]))), Eqv (.pointer (some ⟨w.heap.size, 8, none⟩)), Eqv (.int .i64 (D : Int)), Eqv (strV (Lib.decDigits D)), Eqv (strV (dt6 (varT P C H S) (boardT own other) ([45]) (Lib.decDigits D))), Eqv (strV (dt7 (varT P C H S) (boardT own other) ([45]) (Lib.decDigits D))), Eqv (.pointer (some ⟨w.heap.size, 9, none⟩)), Eqv (.slice A3 n3 c3), Eqv (.int .i64 (n3 : Int)), Eqv (strV (Lib.decDigits n3)), Eqv (strV (dt8 (varT P C H S) (boardT own other) ([45]) (Lib.decDigits D) (Lib.decDigits n3)))]) j (a'.tmps.getD (dDN j) undef) W := hdep
    have hi8 : i = 0 ∨ i = 1 ∨ i = 2 ∨ i = 3 ∨ i = 4 ∨ i = 5 ∨ i = 6 ∨ i = 7 ∨ i = 8 ∨ i = 9 ∨ i = 10 ∨ i = 11 ∨ i = 12 ∨ i = 13 ∨ i = 14 ∨ i = 15 ∨ i = 16 ∨ i = 17 ∨ i = 18 ∨ i = 19 ∨ i = 20 ∨ i = 21 ∨ i = 22 ∨ i = 23 := by omega
    clear hfar hdep hX hi
    rcases hi8 with rfl | rfl | rfl | rfl | rfl | rfl | rfl | rfl | rfl | rfl | rfl | rfl | rfl | rfl | rfl | rfl | rfl | rfl | rfl | rfl | rfl | rfl | rfl | rfl
    all_goals (simp at ho; subst ho)
    · exact .inl ⟨.pointer (some ⟨w.heap.size, 0, none⟩), W, by simp only [execOp, Act.eval, e1]; go_simp, Bel.rfl' _, trivial, rfl⟩
    · have d1 : a'.tmps.getD 16 undef = .pointer (some ⟨w.heap.size, 0, none⟩) := dep 0 (by omega) (by kernel_rfl)
      have y0 := (HF2.out.below hW).c0 0 rfl
      have y1 := (HF2.out.below hW).c0 1 rfl
      have y2 := (HF2.out.below hW).c0 2 rfl
      have y3 := (HF2.out.below hW).c0 3 rfl
      exact .inl ⟨.agg #[.int .i64 (P : Int), .int .i64 (C : Int), .int .i64 (H : Int), .int .i64 (S : Int)], W, by simp only [execOp, Act.eval, d1]; go_simp, Bel.rfl' _, trivial, rfl⟩
    · have d1 : a'.tmps.getD 17 undef = .agg #[.int .i64 (P : Int), .int .i64 (C : Int), .int .i64 (H : Int), .int .i64 (S : Int)] := dep 1 (by omega) (by kernel_rfl)
      refine .inr ⟨14, #[.agg #[.int .i64 (P : Int), .int .i64 (C : Int), .int .i64 (H : Int), .int .i64 (S : Int)]], by simp only [execOp, Act.eval, d1]; go_simp, ?_⟩
      refine (sVariantText_yes P C H S W HV.out).mono ?_
      rintro e W' ⟨rfl, hb'⟩
      exact ⟨_, rfl, hb', trivial, rfl⟩
    · have d1 : a'.tmps.getD 18 undef = strV (varT P C H S) := dep 2 (by omega) (by kernel_rfl)
      have hf0 := hc1 W
      exact .inl ⟨strV (dt1 (varT P C H S)), W, by simp only [execOp, Act.eval, d1]; go_simp, Bel.rfl' _, trivial, rfl⟩
    · exact .inl ⟨.pointer (some ⟨w.heap.size, 0, none⟩), W, by simp only [execOp, Act.eval, e1]; go_simp, Bel.rfl' _, trivial, rfl⟩
    · have d1 : a'.tmps.getD 20 undef = .pointer (some ⟨w.heap.size, 0, none⟩) := dep 4 (by omega) (by kernel_rfl)
      have y0 := (HF2.out.below hW).c0 0 rfl
      have y1 := (HF2.out.below hW).c0 1 rfl
      have y2 := (HF2.out.below hW).c0 2 rfl
      have y3 := (HF2.out.below hW).c0 3 rfl
      exact .inl ⟨.agg #[.int .i64 (P : Int), .int .i64 (C : Int), .int .i64 (H : Int), .int .i64 (S : Int)], W, by simp only [execOp, Act.eval, d1]; go_simp, Bel.rfl' _, trivial, rfl⟩
    · exact .inl ⟨.pointer (some ⟨w.heap.size, 4, none⟩), W, by simp only [execOp, Act.eval, e1]; go_simp, Bel.rfl' _, trivial, rfl⟩
    · have d1 : a'.tmps.getD 22 undef = .pointer (some ⟨w.heap.size, 4, none⟩) := dep 6 (by omega) (by kernel_rfl)
      have y0 := (HF2.out.below hW).c0 4 rfl
      have y1 := (HF2.out.below hW).c0 5 rfl
      exact .inl ⟨.agg #[.slice A1 n1 c1, .slice A2 n2 c2], W, by simp only [execOp, Act.eval, d1]; go_simp, Bel.rfl' _, trivial, rfl⟩
    · have d1 : a'.tmps.getD 21 undef = .agg #[.int .i64 (P : Int), .int .i64 (C : Int), .int .i64 (H : Int), .int .i64 (S : Int)] := dep 5 (by omega) (by kernel_rfl)
      have d2 : a'.tmps.getD 23 undef = .agg #[.slice A1 n1 c1, .slice A2 n2 c2] := dep 7 (by omega) (by kernel_rfl)
      refine .inr ⟨15, #[.agg #[.int .i64 (P : Int), .int .i64 (C : Int), .int .i64 (H : Int), .int .i64 (S : Int)], .agg #[.slice A1 n1 c1, .slice A2 n2 c2]], by simp only [execOp, Act.eval, d1, d2]; go_simp, ?_⟩
      refine (CB.out W (HF2.out.b.trans (hW.mono HF2.out.b.size))).mono ?_
      rintro e W' ⟨rfl, hb'⟩
      exact ⟨_, rfl, hb', trivial, rfl⟩
    · have d1 : a'.tmps.getD 19 undef = strV (dt1 (varT P C H S)) := dep 3 (by omega) (by kernel_rfl)
      have d2 : a'.tmps.getD 24 undef = strV (boardT own other) := dep 8 (by omega) (by kernel_rfl)
      have hf0 := hc2 W
      exact .inl ⟨strV (dt2 (varT P C H S) (boardT own other)), W, by simp only [execOp, Act.eval, d1, d2]; go_simp, Bel.rfl' _, trivial, rfl⟩
    · have d1 : a'.tmps.getD 25 undef = strV (dt2 (varT P C H S) (boardT own other)) := dep 9 (by omega) (by kernel_rfl)
      have hf0 := hc3 W
      exact .inl ⟨strV (dt3 (varT P C H S) (boardT own other)), W, by simp only [execOp, Act.eval, d1]; go_simp, Bel.rfl' _, trivial, rfl⟩
    · exact .inl ⟨strV ([45]), W, by simp only [execOp, Act.eval, e3]; go_simp, Bel.rfl' _, trivial, rfl⟩
    · have d1 : a'.tmps.getD 26 undef = strV (dt3 (varT P C H S) (boardT own other)) := dep 10 (by omega) (by kernel_rfl)
      have d2 : a'.tmps.getD 27 undef = strV ([45]) := dep 11 (by omega) (by kernel_rfl)
      have hf0 := hc4 W
      exact .inl ⟨strV (dt4 (varT P C H S) (boardT own other) ([45])), W, by simp only [execOp, Act.eval, d1, d2]; go_simp, Bel.rfl' _, trivial, rfl⟩
    · have d1 : a'.tmps.getD 28 undef = strV (dt4 (varT P C H S) (boardT own other) ([45])) := dep 12 (by omega) (by kernel_rfl)
      have hf0 := hc5 W
      exact .inl ⟨strV (dt5 (varT P C H S) (boardT own other) ([45])), W, by simp only [execOp, Act.eval, d1]; go_simp, Bel.rfl' _, trivial, rfl⟩
    · exact .inl ⟨.pointer (some ⟨w.heap.size, 8, none⟩), W, by simp only [execOp, Act.eval, e1]; go_simp, Bel.rfl' _, trivial, rfl⟩
    · have d1 : a'.tmps.getD 30 undef = .pointer (some ⟨w.heap.size, 8, none⟩) := dep 14 (by omega) (by kernel_rfl)
      have y0 := (HF2.out.below hW).c0 8 rfl
      exact .inl ⟨.int .i64 (D : Int), W, by simp only [execOp, Act.eval, d1]; go_simp, Bel.rfl' _, trivial, rfl⟩
    · have d1 : a'.tmps.getD 31 undef = .int .i64 (D : Int) := dep 15 (by omega) (by kernel_rfl)
      refine .inr ⟨16, #[.int .i64 (D : Int)], by simp only [execOp, Act.eval, d1]; go_simp, ?_⟩
      refine (l09Decimal_any D W (by omega)).mono ?_
      rintro e W' ⟨rfl, hb'⟩
      exact ⟨_, rfl, hb', trivial, rfl⟩
    · have d1 : a'.tmps.getD 29 undef = strV (dt5 (varT P C H S) (boardT own other) ([45])) := dep 13 (by omega) (by kernel_rfl)
      have d2 : a'.tmps.getD 32 undef = strV (Lib.decDigits D) := dep 16 (by omega) (by kernel_rfl)
      have hf0 := hc6 W
      exact .inl ⟨strV (dt6 (varT P C H S) (boardT own other) ([45]) (Lib.decDigits D)), W, by simp only [execOp, Act.eval, d1, d2]; go_simp, Bel.rfl' _, trivial, rfl⟩
    · have d1 : a'.tmps.getD 33 undef = strV (dt6 (varT P C H S) (boardT own other) ([45]) (Lib.decDigits D)) := dep 17 (by omega) (by kernel_rfl)
      have hf0 := hc7 W
      exact .inl ⟨strV (dt7 (varT P C H S) (boardT own other) ([45]) (Lib.decDigits D)), W, by simp only [execOp, Act.eval, d1]; go_simp, Bel.rfl' _, trivial, rfl⟩
    · exact .inl ⟨.pointer (some ⟨w.heap.size, 9, none⟩), W, by simp only [execOp, Act.eval, e1]; go_simp, Bel.rfl' _, trivial, rfl⟩
    · have d1 : a'.tmps.getD 35 undef = .pointer (some ⟨w.heap.size, 9, none⟩) := dep 19 (by omega) (by kernel_rfl)
      have y0 := (HF2.out.below hW).c0 9 rfl
      exact .inl ⟨.slice A3 n3 c3, W, by simp only [execOp, Act.eval, d1]; go_simp, Bel.rfl' _, trivial, rfl⟩
    · have d1 : a'.tmps.getD 36 undef = .slice A3 n3 c3 := dep 20 (by omega) (by kernel_rfl)
      exact .inl ⟨.int .i64 (n3 : Int), W, by simp only [execOp, Act.eval, d1]; go_simp, Bel.rfl' _, trivial, rfl⟩
    · have d1 : a'.tmps.getD 37 undef = .int .i64 (n3 : Int) := dep 21 (by omega) (by kernel_rfl)
      refine .inr ⟨16, #[.int .i64 (n3 : Int)], by simp only [execOp, Act.eval, d1]; go_simp, ?_⟩
      refine (l09Decimal_any n3 W (by omega)).mono ?_
      rintro e W' ⟨rfl, hb'⟩
      exact ⟨_, rfl, hb', trivial, rfl⟩
    · have d1 : a'.tmps.getD 34 undef = strV (dt7 (varT P C H S) (boardT own other) ([45]) (Lib.decDigits D)) := dep 18 (by omega) (by kernel_rfl)
      have d2 : a'.tmps.getD 38 undef = strV (Lib.decDigits n3) := dep 22 (by omega) (by kernel_rfl)
      have hf0 := hc8 W
      exact .inl ⟨strV (dt8 (varT P C H S) (boardT own other) ([45]) (Lib.decDigits D) (Lib.decDigits n3)), W, by simp only [execOp, Act.eval, d1, d2]; go_simp, Bel.rfl' _, trivial, rfl⟩
  intro v W2 hW hIW hg
  have g0 : v 0 = .pointer (some ⟨w.heap.size, 0, none⟩) := hg 0 (by omega)
  have g1 : v 1 = .agg #[.int .i64 (P : Int), .int .i64 (C : Int), .int .i64 (H : Int), .int .i64 (S : Int)] := hg 1 (by omega)
  have g2 : v 2 = strV (varT P C H S) := hg 2 (by omega)
  have g3 : v 3 = strV (dt1 (varT P C H S)) := hg 3 (by omega)
  have g4 : v 4 = .pointer (some ⟨w.heap.size, 0, none⟩) := hg 4 (by omega)
  have g5 : v 5 = .agg #[.int .i64 (P : Int), .int .i64 (C : Int), .int .i64 (H : Int), .int .i64 (S : Int)] := hg 5 (by omega)
  have g6 : v 6 = .pointer (some ⟨w.heap.size, 4, none⟩) := hg 6 (by omega)
  have g7 : v 7 = .agg #[.slice A1 n1 c1, .slice A2 n2 c2] := hg 7 (by omega)
  have g8 : v 8 = strV (boardT own other) := hg 8 (by omega)
  have g9 : v 9 = strV (dt2 (varT P C H S) (boardT own other)) := hg 9 (by omega)
  have g10 : v 10 = strV (dt3 (varT P C H S) (boardT own other)) := hg 10 (by omega)
  have g11 : v 11 = strV ([45]) := hg 11 (by omega)
  have g12 : v 12 = strV (dt4 (varT P C H S) (boardT own other) ([45])) := hg 12 (by omega)
  have g13 : v 13 = strV (dt5 (varT P C H S) (boardT own other) ([45])) := hg 13 (by omega)
  have g14 : v 14 = .pointer (some ⟨w.heap.size, 8, none⟩) := hg 14 (by omega)
  have g15 : v 15 = .int .i64 (D : Int) := hg 15 (by omega)
  have g16 : v 16 = strV (Lib.decDigits D) := hg 16 (by omega)
  have g17 : v 17 = strV (dt6 (varT P C H S) (boardT own other) ([45]) (Lib.decDigits D)) := hg 17 (by omega)
  have g18 : v 18 = strV (dt7 (varT P C H S) (boardT own other) ([45]) (Lib.decDigits D)) := hg 18 (by omega)
  have g19 : v 19 = .pointer (some ⟨w.heap.size, 9, none⟩) := hg 19 (by omega)
  have g20 : v 20 = .slice A3 n3 c3 := hg 20 (by omega)
  have g21 : v 21 = .int .i64 (n3 : Int) := hg 21 (by omega)
  have g22 : v 22 = strV (Lib.decDigits n3) := hg 22 (by omega)
  have g23 : v 23 = strV (dt8 (varT P C H S) (boardT own other) ([45]) (Lib.decDigits D) (Lib.decDigits n3)) := hg 23 (by omega)
  simp only [List.drop_succ_cons, List.drop_zero, putV, dDN, g0, g1, g2, g3, g4, g5, g6, g7, g8, g9, g10, g11, g12, g13, g14, g15, g16, g17, g18, g19, g20, g21, g22, g23, Act.put]
  clear g0 g1 g2 g3 g4 g5 g6 g7 g8 g9 g10 g11 g12 g13 g14 g15 g16 g17 g18 g19 g20 g21 g22 g23 hg hIW
  have HB : Hid (Below w.heap.size w W2) := (HF2.out.below hW).b
  clear hW
  go_wp2_with (fail)
  go_ret
  exact ⟨rfl, HB.out⟩
def dDR : Nat → Nat
  | 0 => 16
  | 1 => 17
  | 2 => 18
  | 3 => 19
  | 4 => 20
  | 5 => 21
  | 6 => 22
  | 7 => 23
  | 8 => 24
  | 9 => 25
  | 10 => 26
  | 11 => 27
  | 12 => 28
  | 13 => 29
  | 14 => 30
  | 15 => 31
  | 16 => 32
  | 17 => 33
  | 18 => 34
  | 19 => 35
  | 20 => 36
  | 21 => 37
  | 22 => 38
  | 23 => 39
  | _ => 0
set_option maxRecDepth 100000 in
set_option maxHeartbeats 1000000 in
theorem sDeskText_roll (P C H S D ra rb : Nat) (A1 A2 A3 : Option Addr) (n1 c1 n2 c2 n3 c3 : Nat) (own other : List Int) (past : List (List Int × List Int)) (w : World) (h1 : SL w A1 n1 own) (h2 : SL w A2 n2 other) (h3 : SBs w A3 n3 past)
    (hm : ∀ b ∈ past, b.1.length ≤ 2000000 ∧ b.2.length ≤ 2000000) (hd : deskB P C H S own other ra rb D past = true) (hr : noneB ra rb = false) :
    Calls Tryd.prog 5 #[.agg #[.int .i64 P, .int .i64 C, .int .i64 H, .int .i64 S, .slice A1 n1 c1, .slice A2 n2 c2, .int .i64 ra, .int .i64 rb, .int .i64 D, .slice A3 n3 c3]] w fun e w' => e = .returned (strV (dt8 (varT P C H S) (boardT own other) (rolT ra rb) (Lib.decDigits D) (Lib.decDigits n3))) ∧ Below w.heap.size w w' := by
  obtain ⟨hv, hb, hD0, hD, h30⟩ := desk_facts hd
  have hl3 : past.length = n3 := h3.1
  have e1 := h1.1
  have e2 := h2.1
  have hbb := board_bits hb
  have HV := Lib.hid hv
  have hvv := isVar_yes hv
  have HF0 : Hid (Fr w (w.alloc (.cells #[.int .i64 P, .int .i64 C, .int .i64 H, .int .i64 S, .slice A1 n1 c1, .slice A2 n2 c2, .int .i64 ra, .int .i64 rb, .int .i64 D, .slice A3 n3 c3] 39)) [[.int .i64 P, .int .i64 C, .int .i64 H, .int .i64 S, .slice A1 n1 c1, .slice A2 n2 c2, .int .i64 ra, .int .i64 rb, .int .i64 D, .slice A3 n3 c3]]) := (Fr.start w).allocT (by simp) _ _
  have CD : Hid (∀ W : World, Below w.heap.size w W → Calls Tryd.prog 11 #[.agg #[.int .i64 P, .int .i64 C, .int .i64 H, .int .i64 S, .slice A1 n1 c1, .slice A2 n2 c2, .int .i64 ra, .int .i64 rb, .int .i64 D, .slice A3 n3 c3]] W fun e w' => e = .returned (.bool true) ∧ Below W.heap.size W w') := fun W hw => by
    have h := sIsDesk_any P C H S ra rb D A1 A2 A3 n1 c1 n2 c2 n3 c3 own other past W (h1.below hw) (h2.below hw) (h3.below hw) (by omega) (by omega) (by omega) hm
    rw [hd] at h
    exact h
  have CB := Lib.hid fun (W : World) (hw : Below w.heap.size w W) => sBoardId_yes P C H S A1 A2 n1 c1 n2 c2 own other W (h1.below hw) (h2.below hw) hb
  have lV := (vr_len P C H S (by omega) (by omega) (by omega) (by omega)).2.2.2.2.2
  have lB : (boardT own other).length ≤ 20 := by unfold boardT; rw [idT_len]; omega
  have lS := dec_len D (by omega)
  have lN := dec_len n3 (by omega)
  change (varT P C H S).length ≤ 100 at lV
  have hrb := roll_facts hd hr
  have lR := rol_len ra rb (by omega) (by omega)
  have HN := Lib.hid hr
  clear hr
  have hc1 := fun (W : World) => cat_lit (varT P C H S) 32 (by first | omega | (simp only [dt1, dt2, dt3, dt4, dt5, dt6, dt7, List.length_append, List.length_singleton]; omega)) W
  have hc2 := fun (W : World) => cat_run (dt1 (varT P C H S)) (boardT own other) (by first | omega | (simp only [dt1, dt2, dt3, dt4, dt5, dt6, dt7, List.length_append, List.length_singleton]; omega)) W
  have hc3 := fun (W : World) => cat_lit (dt2 (varT P C H S) (boardT own other)) 32 (by first | omega | (simp only [dt1, dt2, dt3, dt4, dt5, dt6, dt7, List.length_append, List.length_singleton]; omega)) W
  have hc4 := fun (W : World) => cat_run (dt3 (varT P C H S) (boardT own other)) (rolT ra rb) (by first | omega | (simp only [dt1, dt2, dt3, dt4, dt5, dt6, dt7, List.length_append, List.length_singleton]; omega)) W
  have hc5 := fun (W : World) => cat_lit (dt4 (varT P C H S) (boardT own other) (rolT ra rb)) 32 (by first | omega | (simp only [dt1, dt2, dt3, dt4, dt5, dt6, dt7, List.length_append, List.length_singleton]; omega)) W
  have hc6 := fun (W : World) => cat_run (dt5 (varT P C H S) (boardT own other) (rolT ra rb)) (Lib.decDigits D) (by first | omega | (simp only [dt1, dt2, dt3, dt4, dt5, dt6, dt7, List.length_append, List.length_singleton]; omega)) W
  have hc7 := fun (W : World) => cat_lit (dt6 (varT P C H S) (boardT own other) (rolT ra rb) (Lib.decDigits D)) 32 (by first | omega | (simp only [dt1, dt2, dt3, dt4, dt5, dt6, dt7, List.length_append, List.length_singleton]; omega)) W
  have hc8 := fun (W : World) => cat_run (dt7 (varT P C H S) (boardT own other) (rolT ra rb) (Lib.decDigits D)) (Lib.decDigits n3) (by first | omega | (simp only [dt1, dt2, dt3, dt4, dt5, dt6, dt7, List.length_append, List.length_singleton]; omega)) W
  change ∀ W : World, (binOp .add 9 (strV (varT P C H S)) (.string { data := #[32] })).run Tryd.prog W = .ok (strV (dt1 (varT P C H S))) W at hc1
  change ∀ W : World, (binOp .add 9 (strV (dt1 (varT P C H S))) (strV (boardT own other))).run Tryd.prog W = .ok (strV (dt2 (varT P C H S) (boardT own other))) W at hc2
  change ∀ W : World, (binOp .add 9 (strV (dt2 (varT P C H S) (boardT own other))) (.string { data := #[32] })).run Tryd.prog W = .ok (strV (dt3 (varT P C H S) (boardT own other))) W at hc3
  change ∀ W : World, (binOp .add 9 (strV (dt3 (varT P C H S) (boardT own other))) (strV (rolT ra rb))).run Tryd.prog W = .ok (strV (dt4 (varT P C H S) (boardT own other) (rolT ra rb))) W at hc4
  change ∀ W : World, (binOp .add 9 (strV (dt4 (varT P C H S) (boardT own other) (rolT ra rb))) (.string { data := #[32] })).run Tryd.prog W = .ok (strV (dt5 (varT P C H S) (boardT own other) (rolT ra rb))) W at hc5
  change ∀ W : World, (binOp .add 9 (strV (dt5 (varT P C H S) (boardT own other) (rolT ra rb))) (strV (Lib.decDigits D))).run Tryd.prog W = .ok (strV (dt6 (varT P C H S) (boardT own other) (rolT ra rb) (Lib.decDigits D))) W at hc6
  change ∀ W : World, (binOp .add 9 (strV (dt6 (varT P C H S) (boardT own other) (rolT ra rb) (Lib.decDigits D))) (.string { data := #[32] })).run Tryd.prog W = .ok (strV (dt7 (varT P C H S) (boardT own other) (rolT ra rb) (Lib.decDigits D))) W at hc7
  change ∀ W : World, (binOp .add 9 (strV (dt7 (varT P C H S) (boardT own other) (rolT ra rb) (Lib.decDigits D))) (strV (Lib.decDigits n3))).run Tryd.prog W = .ok (strV (dt8 (varT P C H S) (boardT own other) (rolT ra rb) (Lib.decDigits D) (Lib.decDigits n3))) W at hc8
  clear lV lB lS lN hd hb hbb h1 h2 h3 hm
  go_enter Tryd.func5, Tryd.ntmps5
  go_wp2_with (fail)
  refine (CD.out _ HF0.out.b).mono ?_
  rintro e w1 ⟨rfl, hb1⟩
  have HF1 := Lib.hid (HF0.out.below hb1)
  clear hb1 HF0 CD
  have z0 := HF1.out.l0 (by simp)
  have c00 := HF1.out.c0 0 rfl
  have f00 := HF1.out.f0 0 rfl
  have c01 := HF1.out.c0 1 rfl
  have f01 := HF1.out.f0 1 rfl
  have c02 := HF1.out.c0 2 rfl
  have f02 := HF1.out.f0 2 rfl
  have c03 := HF1.out.c0 3 rfl
  have f03 := HF1.out.f0 3 rfl
  have c04 := HF1.out.c0 4 rfl
  have f04 := HF1.out.f0 4 rfl
  have c05 := HF1.out.c0 5 rfl
  have f05 := HF1.out.f0 5 rfl
  have c06 := HF1.out.c0 6 rfl
  have f06 := HF1.out.f0 6 rfl
  have c07 := HF1.out.c0 7 rfl
  have f07 := HF1.out.f0 7 rfl
  have c08 := HF1.out.c0 8 rfl
  have f08 := HF1.out.f0 8 rfl
  have c09 := HF1.out.c0 9 rfl
  have f09 := HF1.out.f0 9 rfl
  go_wp2_with (fail)
  clear z0 c00 f00 c01 f01 c02 f02 c03 f03 c04 f04 c05 f05 c06 f06 c07 f07 c08 f08 c09 f09
  refine (l34None_any ra rb _).mono ?_
  rintro e w3 ⟨rfl, hb2⟩
  have HF3 := Lib.hid (HF1.out.below hb2)
  clear hb2 HF1
  rw [HN.out]
  have z0 := HF3.out.l0 (by simp)
  have c00 := HF3.out.c0 0 rfl
  have f00 := HF3.out.f0 0 rfl
  have c01 := HF3.out.c0 1 rfl
  have f01 := HF3.out.f0 1 rfl
  have c02 := HF3.out.c0 2 rfl
  have f02 := HF3.out.f0 2 rfl
  have c03 := HF3.out.c0 3 rfl
  have f03 := HF3.out.f0 3 rfl
  have c04 := HF3.out.c0 4 rfl
  have f04 := HF3.out.f0 4 rfl
  have c05 := HF3.out.c0 5 rfl
  have f05 := HF3.out.f0 5 rfl
  have c06 := HF3.out.c0 6 rfl
  have f06 := HF3.out.f0 6 rfl
  have c07 := HF3.out.c0 7 rfl
  have f07 := HF3.out.f0 7 rfl
  have c08 := HF3.out.c0 8 rfl
  have f08 := HF3.out.f0 8 rfl
  have c09 := HF3.out.c0 9 rfl
  have f09 := HF3.out.f0 9 rfl
  go_wp2_with (fail)
  clear z0 c00 f00 c01 f01 c02 f02 c03 f03 c04 f04 c05 f05 c06 f06 c07 f07 c08 f08 c09 f09
  refine (sRollText_yes P C H S ra rb _ HV.out (by omega) (by omega) (by omega)).mono ?_
  rintro e w2 ⟨rfl, hb2⟩
  have HF2 := Lib.hid (HF3.out.below hb2)
  clear hb2 HF3
  go_wp2_with (fail)
  refine wp_region_early 24 (fun _ => false) dDR Bel (fun _ => True) (GL [Eqv (.pointer (some ⟨w.heap.size, 0, none⟩)), Eqv (.agg #[.int .i64 (P : Int), .int .i64 (C : Int), .int .i64 (H : Int), .int .i64 (S : Int)]), Eqv (strV (varT P C H S)), Eqv (strV (dt1 (varT P C H S))), Eqv (.pointer (some ⟨w.heap.size, 0, none⟩)), Eqv (.agg #[.int .i64 (P : Int), .int .i64 (C : Int), .int .i64 (H : Int), .int .i64 (S : Int)]), Eqv (.pointer (some ⟨w.heap.size, 4, none⟩)), Eqv (.agg #[.slice A1 n1 c1, .slice A2 n2 c2]), Eqv (strV (boardT own other)), Eqv (strV (dt2 (varT P C H S) (boardT own other))), Eqv (strV (dt3 (varT P C H S) (boardT own other))), Eqv (strV (rolT ra rb)), Eqv (strV (dt4 (varT P C H S) (boardT own other) (rolT ra rb))), Eqv (strV (dt5 (varT P C H S) (boardT own other) (rolT ra rb))), Eqv (.pointer (some ⟨w.heap.size, 8, none⟩)), Eqv (.int .i64 (D : Int)), Eqv (strV (Lib.decDigits D)), Eqv (strV (dt6 (varT P C H S) (boardT own other) (rolT ra rb) (Lib.decDigits D))), Eqv (strV (dt7 (varT P C H S) (boardT own other) (rolT ra rb) (Lib.decDigits D))), Eqv (.pointer (some ⟨w.heap.size, 9, none⟩)), Eqv (.slice A3 n3 c3), Eqv (.int .i64 (n3 : Int)), Eqv (strV (Lib.decDigits n3)), Eqv (strV (dt8 (varT P C H S) (boardT own other) (rolT ra rb) (Lib.decDigits D) (Lib.decDigits n3)))]) (by kernel_rfl) (by kernel_rfl) (fun _ _ _ _ _ h => h) (fun _ _ _ h1 h2 => Bel.trans h1 h2) Bel.rfl' (GL.stab (by repeat (first | exact AllStb.nil | refine AllStb.cons (by first | exact stb_eq _ | exact stb_alcD _ _ _) ?_))) (Bel.drew _) trivial (fun i o' _ hX => by cases hX) ?_ ?_
  · intro i o hi hX ho a' W hW hIW hfar hdep
    have e1 : a'.tmps.getD 1 undef = .pointer (some ⟨w.heap.size, 0, none⟩) := (hfar 1 (by decide)).trans rfl
    have e3 : a'.tmps.getD 3 undef = strV (rolT ra rb) := (hfar 3 (by decide)).trans rfl
    have dep : ∀ j, j < 24 → Region.waitsFor .any _ i j = true → (GL [Eqv (.pointer (some ⟨w.heap.size, 0, none⟩)), Eqv (.agg #[.int .i64 (P : Int), .int .i64 (C : Int), .int .i64 (H : Int), .int .i64 (S : Int)]), Eqv (strV (varT P C H S)), Eqv (strV (dt1 (varT P C H S))), Eqv (.pointer (some ⟨w.heap.size, 0, none⟩)), Eqv (.agg #[.int .i64 (P : Int), .int .i64 (C : Int), .int .i64 (H : Int), .int .i64 (S : Int)]), Eqv (.pointer (some ⟨w.heap.size, 4, none⟩)), Eqv (.agg #[.slice A1 n1 c1, .slice A2 n2 c2]), Eqv (strV (boardT own other)), Eqv (strV (dt2 (varT P C H S) (boardT own other))), Eqv (strV (dt3 (varT P C H S) (boardT own other))), Eqv (strV (rolT ra rb)), Eqv (strV (dt4 (varT P C H S) (boardT own other) (rolT ra rb))), Eqv (strV (dt5 (varT P C H S) (boardT own other) (rolT ra rb))), Eqv (.pointer (some ⟨w.heap.size, 8, none⟩)), Eqv (.int .i64 (D : Int)), Eqv (strV (Lib.decDigits D)), Eqv (strV (dt6 (varT P C H S) (boardT own other) (rolT ra rb) (Lib.decDigits D))), Eqv (strV (dt7 (varT P C H S) (boardT own other) (rolT ra rb) (Lib.decDigits D))), Eqv (.pointer (some ⟨w.heap.size, 9, none⟩)), Eqv (.slice A3 n3 c3), Eqv (.int .i64 (n3 : Int)), Eqv (strV (Lib.decDigits n3)), Eqv (strV (dt8 (varT P C H S) (boardT own other) (rolT ra rb) (Lib.decDigits D) (Lib.decDigits n3)))]) j (a'.tmps.getD (dDR j) undef) W := hdep
    have hi8 : i = 0 ∨ i = 1 ∨ i = 2 ∨ i = 3 ∨ i = 4 ∨ i = 5 ∨ i = 6 ∨ i = 7 ∨ i = 8 ∨ i = 9 ∨ i = 10 ∨ i = 11 ∨ i = 12 ∨ i = 13 ∨ i = 14 ∨ i = 15 ∨ i = 16 ∨ i = 17 ∨ i = 18 ∨ i = 19 ∨ i = 20 ∨ i = 21 ∨ i = 22 ∨ i = 23 := by omega
    clear hfar hdep hX hi
    rcases hi8 with rfl | rfl | rfl | rfl | rfl | rfl | rfl | rfl | rfl | rfl | rfl | rfl | rfl | rfl | rfl | rfl | rfl | rfl | rfl | rfl | rfl | rfl | rfl | rfl
    all_goals (simp at ho; subst ho)
    · exact .inl ⟨.pointer (some ⟨w.heap.size, 0, none⟩), W, by simp only [execOp, Act.eval, e1]; go_simp, Bel.rfl' _, trivial, rfl⟩
    · have d1 : a'.tmps.getD 16 undef = .pointer (some ⟨w.heap.size, 0, none⟩) := dep 0 (by omega) (by kernel_rfl)
      have y0 := (HF2.out.below hW).c0 0 rfl
      have y1 := (HF2.out.below hW).c0 1 rfl
      have y2 := (HF2.out.below hW).c0 2 rfl
      have y3 := (HF2.out.below hW).c0 3 rfl
      exact .inl ⟨.agg #[.int .i64 (P : Int), .int .i64 (C : Int), .int .i64 (H : Int), .int .i64 (S : Int)], W, by simp only [execOp, Act.eval, d1]; go_simp, Bel.rfl' _, trivial, rfl⟩
    · have d1 : a'.tmps.getD 17 undef = .agg #[.int .i64 (P : Int), .int .i64 (C : Int), .int .i64 (H : Int), .int .i64 (S : Int)] := dep 1 (by omega) (by kernel_rfl)
      refine .inr ⟨14, #[.agg #[.int .i64 (P : Int), .int .i64 (C : Int), .int .i64 (H : Int), .int .i64 (S : Int)]], by simp only [execOp, Act.eval, d1]; go_simp, ?_⟩
      refine (sVariantText_yes P C H S W HV.out).mono ?_
      rintro e W' ⟨rfl, hb'⟩
      exact ⟨_, rfl, hb', trivial, rfl⟩
    · have d1 : a'.tmps.getD 18 undef = strV (varT P C H S) := dep 2 (by omega) (by kernel_rfl)
      have hf0 := hc1 W
      exact .inl ⟨strV (dt1 (varT P C H S)), W, by simp only [execOp, Act.eval, d1]; go_simp, Bel.rfl' _, trivial, rfl⟩
    · exact .inl ⟨.pointer (some ⟨w.heap.size, 0, none⟩), W, by simp only [execOp, Act.eval, e1]; go_simp, Bel.rfl' _, trivial, rfl⟩
    · have d1 : a'.tmps.getD 20 undef = .pointer (some ⟨w.heap.size, 0, none⟩) := dep 4 (by omega) (by kernel_rfl)
      have y0 := (HF2.out.below hW).c0 0 rfl
      have y1 := (HF2.out.below hW).c0 1 rfl
      have y2 := (HF2.out.below hW).c0 2 rfl
      have y3 := (HF2.out.below hW).c0 3 rfl
      exact .inl ⟨.agg #[.int .i64 (P : Int), .int .i64 (C : Int), .int .i64 (H : Int), .int .i64 (S : Int)], W, by simp only [execOp, Act.eval, d1]; go_simp, Bel.rfl' _, trivial, rfl⟩
    · exact .inl ⟨.pointer (some ⟨w.heap.size, 4, none⟩), W, by simp only [execOp, Act.eval, e1]; go_simp, Bel.rfl' _, trivial, rfl⟩
    · have d1 : a'.tmps.getD 22 undef = .pointer (some ⟨w.heap.size, 4, none⟩) := dep 6 (by omega) (by kernel_rfl)
      have y0 := (HF2.out.below hW).c0 4 rfl
      have y1 := (HF2.out.below hW).c0 5 rfl
      exact .inl ⟨.agg #[.slice A1 n1 c1, .slice A2 n2 c2], W, by simp only [execOp, Act.eval, d1]; go_simp, Bel.rfl' _, trivial, rfl⟩
    · have d1 : a'.tmps.getD 21 undef = .agg #[.int .i64 (P : Int), .int .i64 (C : Int), .int .i64 (H : Int), .int .i64 (S : Int)] := dep 5 (by omega) (by kernel_rfl)
      have d2 : a'.tmps.getD 23 undef = .agg #[.slice A1 n1 c1, .slice A2 n2 c2] := dep 7 (by omega) (by kernel_rfl)
      refine .inr ⟨15, #[.agg #[.int .i64 (P : Int), .int .i64 (C : Int), .int .i64 (H : Int), .int .i64 (S : Int)], .agg #[.slice A1 n1 c1, .slice A2 n2 c2]], by simp only [execOp, Act.eval, d1, d2]; go_simp, ?_⟩
      refine (CB.out W (HF2.out.b.trans (hW.mono HF2.out.b.size))).mono ?_
      rintro e W' ⟨rfl, hb'⟩
      exact ⟨_, rfl, hb', trivial, rfl⟩
    · have d1 : a'.tmps.getD 19 undef = strV (dt1 (varT P C H S)) := dep 3 (by omega) (by kernel_rfl)
      have d2 : a'.tmps.getD 24 undef = strV (boardT own other) := dep 8 (by omega) (by kernel_rfl)
      have hf0 := hc2 W
      exact .inl ⟨strV (dt2 (varT P C H S) (boardT own other)), W, by simp only [execOp, Act.eval, d1, d2]; go_simp, Bel.rfl' _, trivial, rfl⟩
    · have d1 : a'.tmps.getD 25 undef = strV (dt2 (varT P C H S) (boardT own other)) := dep 9 (by omega) (by kernel_rfl)
      have hf0 := hc3 W
      exact .inl ⟨strV (dt3 (varT P C H S) (boardT own other)), W, by simp only [execOp, Act.eval, d1]; go_simp, Bel.rfl' _, trivial, rfl⟩
    · exact .inl ⟨strV (rolT ra rb), W, by simp only [execOp, Act.eval, e3]; go_simp, Bel.rfl' _, trivial, rfl⟩
    · have d1 : a'.tmps.getD 26 undef = strV (dt3 (varT P C H S) (boardT own other)) := dep 10 (by omega) (by kernel_rfl)
      have d2 : a'.tmps.getD 27 undef = strV (rolT ra rb) := dep 11 (by omega) (by kernel_rfl)
      have hf0 := hc4 W
      exact .inl ⟨strV (dt4 (varT P C H S) (boardT own other) (rolT ra rb)), W, by simp only [execOp, Act.eval, d1, d2]; go_simp, Bel.rfl' _, trivial, rfl⟩
    · have d1 : a'.tmps.getD 28 undef = strV (dt4 (varT P C H S) (boardT own other) (rolT ra rb)) := dep 12 (by omega) (by kernel_rfl)
      have hf0 := hc5 W
      exact .inl ⟨strV (dt5 (varT P C H S) (boardT own other) (rolT ra rb)), W, by simp only [execOp, Act.eval, d1]; go_simp, Bel.rfl' _, trivial, rfl⟩
    · exact .inl ⟨.pointer (some ⟨w.heap.size, 8, none⟩), W, by simp only [execOp, Act.eval, e1]; go_simp, Bel.rfl' _, trivial, rfl⟩
    · have d1 : a'.tmps.getD 30 undef = .pointer (some ⟨w.heap.size, 8, none⟩) := dep 14 (by omega) (by kernel_rfl)
      have y0 := (HF2.out.below hW).c0 8 rfl
      exact .inl ⟨.int .i64 (D : Int), W, by simp only [execOp, Act.eval, d1]; go_simp, Bel.rfl' _, trivial, rfl⟩
    · have d1 : a'.tmps.getD 31 undef = .int .i64 (D : Int) := dep 15 (by omega) (by kernel_rfl)
      refine .inr ⟨16, #[.int .i64 (D : Int)], by simp only [execOp, Act.eval, d1]; go_simp, ?_⟩
      refine (l09Decimal_any D W (by omega)).mono ?_
      rintro e W' ⟨rfl, hb'⟩
      exact ⟨_, rfl, hb', trivial, rfl⟩
    · have d1 : a'.tmps.getD 29 undef = strV (dt5 (varT P C H S) (boardT own other) (rolT ra rb)) := dep 13 (by omega) (by kernel_rfl)
      have d2 : a'.tmps.getD 32 undef = strV (Lib.decDigits D) := dep 16 (by omega) (by kernel_rfl)
      have hf0 := hc6 W
      exact .inl ⟨strV (dt6 (varT P C H S) (boardT own other) (rolT ra rb) (Lib.decDigits D)), W, by simp only [execOp, Act.eval, d1, d2]; go_simp, Bel.rfl' _, trivial, rfl⟩
    · have d1 : a'.tmps.getD 33 undef = strV (dt6 (varT P C H S) (boardT own other) (rolT ra rb) (Lib.decDigits D)) := dep 17 (by omega) (by kernel_rfl)
      have hf0 := hc7 W
      exact .inl ⟨strV (dt7 (varT P C H S) (boardT own other) (rolT ra rb) (Lib.decDigits D)), W, by simp only [execOp, Act.eval, d1]; go_simp, Bel.rfl' _, trivial, rfl⟩
    · exact .inl ⟨.pointer (some ⟨w.heap.size, 9, none⟩), W, by simp only [execOp, Act.eval, e1]; go_simp, Bel.rfl' _, trivial, rfl⟩
    · have d1 : a'.tmps.getD 35 undef = .pointer (some ⟨w.heap.size, 9, none⟩) := dep 19 (by omega) (by kernel_rfl)
      have y0 := (HF2.out.below hW).c0 9 rfl
      exact .inl ⟨.slice A3 n3 c3, W, by simp only [execOp, Act.eval, d1]; go_simp, Bel.rfl' _, trivial, rfl⟩
    · have d1 : a'.tmps.getD 36 undef = .slice A3 n3 c3 := dep 20 (by omega) (by kernel_rfl)
      exact .inl ⟨.int .i64 (n3 : Int), W, by simp only [execOp, Act.eval, d1]; go_simp, Bel.rfl' _, trivial, rfl⟩
    · have d1 : a'.tmps.getD 37 undef = .int .i64 (n3 : Int) := dep 21 (by omega) (by kernel_rfl)
      refine .inr ⟨16, #[.int .i64 (n3 : Int)], by simp only [execOp, Act.eval, d1]; go_simp, ?_⟩
      refine (l09Decimal_any n3 W (by omega)).mono ?_
      rintro e W' ⟨rfl, hb'⟩
      exact ⟨_, rfl, hb', trivial, rfl⟩
    · have d1 : a'.tmps.getD 34 undef = strV (dt7 (varT P C H S) (boardT own other) (rolT ra rb) (Lib.decDigits D)) := dep 18 (by omega) (by kernel_rfl)
      have d2 : a'.tmps.getD 38 undef = strV (Lib.decDigits n3) := dep 22 (by omega) (by kernel_rfl)
      have hf0 := hc8 W
      exact .inl ⟨strV (dt8 (varT P C H S) (boardT own other) (rolT ra rb) (Lib.decDigits D) (Lib.decDigits n3)), W, by simp only [execOp, Act.eval, d1, d2]; go_simp, Bel.rfl' _, trivial, rfl⟩
  intro v W2 hW hIW hg
  have g0 : v 0 = .pointer (some ⟨w.heap.size, 0, none⟩) := hg 0 (by omega)
  have g1 : v 1 = .agg #[.int .i64 (P : Int), .int .i64 (C : Int), .int .i64 (H : Int), .int .i64 (S : Int)] := hg 1 (by omega)
  have g2 : v 2 = strV (varT P C H S) := hg 2 (by omega)
  have g3 : v 3 = strV (dt1 (varT P C H S)) := hg 3 (by omega)
  have g4 : v 4 = .pointer (some ⟨w.heap.size, 0, none⟩) := hg 4 (by omega)
  have g5 : v 5 = .agg #[.int .i64 (P : Int), .int .i64 (C : Int), .int .i64 (H : Int), .int .i64 (S : Int)] := hg 5 (by omega)
  have g6 : v 6 = .pointer (some ⟨w.heap.size, 4, none⟩) := hg 6 (by omega)
  have g7 : v 7 = .agg #[.slice A1 n1 c1, .slice A2 n2 c2] := hg 7 (by omega)
  have g8 : v 8 = strV (boardT own other) := hg 8 (by omega)
  have g9 : v 9 = strV (dt2 (varT P C H S) (boardT own other)) := hg 9 (by omega)
  have g10 : v 10 = strV (dt3 (varT P C H S) (boardT own other)) := hg 10 (by omega)
  have g11 : v 11 = strV (rolT ra rb) := hg 11 (by omega)
  have g12 : v 12 = strV (dt4 (varT P C H S) (boardT own other) (rolT ra rb)) := hg 12 (by omega)
  have g13 : v 13 = strV (dt5 (varT P C H S) (boardT own other) (rolT ra rb)) := hg 13 (by omega)
  have g14 : v 14 = .pointer (some ⟨w.heap.size, 8, none⟩) := hg 14 (by omega)
  have g15 : v 15 = .int .i64 (D : Int) := hg 15 (by omega)
  have g16 : v 16 = strV (Lib.decDigits D) := hg 16 (by omega)
  have g17 : v 17 = strV (dt6 (varT P C H S) (boardT own other) (rolT ra rb) (Lib.decDigits D)) := hg 17 (by omega)
  have g18 : v 18 = strV (dt7 (varT P C H S) (boardT own other) (rolT ra rb) (Lib.decDigits D)) := hg 18 (by omega)
  have g19 : v 19 = .pointer (some ⟨w.heap.size, 9, none⟩) := hg 19 (by omega)
  have g20 : v 20 = .slice A3 n3 c3 := hg 20 (by omega)
  have g21 : v 21 = .int .i64 (n3 : Int) := hg 21 (by omega)
  have g22 : v 22 = strV (Lib.decDigits n3) := hg 22 (by omega)
  have g23 : v 23 = strV (dt8 (varT P C H S) (boardT own other) (rolT ra rb) (Lib.decDigits D) (Lib.decDigits n3)) := hg 23 (by omega)
  simp only [List.drop_succ_cons, List.drop_zero, putV, dDR, g0, g1, g2, g3, g4, g5, g6, g7, g8, g9, g10, g11, g12, g13, g14, g15, g16, g17, g18, g19, g20, g21, g22, g23, Act.put]
  clear g0 g1 g2 g3 g4 g5 g6 g7 g8 g9 g10 g11 g12 g13 g14 g15 g16 g17 g18 g19 g20 g21 g22 g23 hg hIW
  have HB : Hid (Below w.heap.size w W2) := (HF2.out.below hW).b
  clear hW
  go_wp2_with (fail)
  go_ret
  exact ⟨rfl, HB.out⟩
end Go.Proofs.YtkjlafcnmniomaaDoor

/- Contracts of the texts of rolls and variants. There are no conditions beyond those that each states. -/
import Derived.Test.YtkjlafcnmniomaaDoorT2
import Derived.Test.YtkjlafcnmniomaaDoorRol
import Derived.Test.YtkjlafcnmniomaaDoorA10
namespace Go.Proofs.YtkjlafcnmniomaaDoor
set_option linter.unusedVariables false
set_option linter.unusedSimpArgs false
open Go.RowKit

def rolT (a b : Nat) : List UInt8 := Lib.decDigits a ++ Lib.decDigits b
def vrT1 (p c h s : Nat) : List UInt8 := Lib.decDigits p ++ [47]
def vrT2 (p c h s : Nat) : List UInt8 := vrT1 p c h s ++ Lib.decDigits c
def vrT3 (p c h s : Nat) : List UInt8 := vrT2 p c h s ++ [47]
def vrT4 (p c h s : Nat) : List UInt8 := vrT3 p c h s ++ Lib.decDigits h
def vrT5 (p c h s : Nat) : List UInt8 := vrT4 p c h s ++ [47]
def vrT6 (p c h s : Nat) : List UInt8 := vrT5 p c h s ++ Lib.decDigits s
def varT (p c h s : Nat) : List UInt8 := vrT6 p c h s
theorem cat_lit (x : List UInt8) (y : UInt8) (h : x.length + 1 ≤ 1000000) (W : World) : (binOp .add 9 (strV x) (.string { data := #[y] })).run Tryd.prog W = .ok (strV (x ++ [y])) W := cat_run x [y] (by simpa using h) W
theorem dec_yes (n : Nat) (w : World) (hn : n < 1000000000000000000) (ht : TBok w) : Calls Tryd.prog 25 #[.int .i64 (n : Int)] w fun e w' => e = .returned (strV (Lib.decDigits n)) ∧ Below w.heap.size w w' := by
  have h1 := decimal_any (n : Int) w (by omega) (by omega) ht
  rwa [Lib.itoa_nonneg] at h1
theorem sIsRoll_any (p c h s a b : Int) (w : World) : Calls Tryd.prog 36 #[.agg #[.int .i64 p, .int .i64 c, .int .i64 h, .int .i64 s], .agg #[.int .i64 a, .int .i64 b]] w fun e w' => e = .returned (.bool (isVar p c h s && rollB s a b)) ∧ Below w.heap.size w w' := by
  have HB : Hid (Below w.heap.size w ((w.alloc (.cells #[.int .i64 p, .int .i64 c, .int .i64 h, .int .i64 s] 34)).alloc (.cells #[.int .i64 a, .int .i64 b] 36))) := ((Below.refl _ _).alloc (Nat.le_refl _) _).alloc (by simp) _
  by_cases hv : isVar p c h s = true
  · by_cases h1 : 1 ≤ a ∧ a ≤ s
    · have e1 := inB_yes h1
      by_cases h2 : 1 ≤ b ∧ b ≤ a
      · have e2 := inB_yes h2
        have HF : Hid ((isVar p c h s && rollB s a b) = true) := by unfold Hid; rw [hv, Bool.true_and]; exact decide_eq_true (by omega)
        go_enter Tryd.func36, Tryd.ntmps36
        go_wp2_with (first | (go_at_call 38; refine (more_first (sIsVariant_any _ _ _ _ _)).mono ?_; rintro e w' ⟨rfl, t, rfl⟩) | (go_at_call 55; refine (l01In_any _ _ _ _).mono ?_; rintro e w' ⟨rfl, rfl⟩))
        go_ret
        exact ⟨by rw [HF.out]; rfl, HB.out.trans ((below_more _ _).mono HB.out.size)⟩
      · have e2 := inB_no h2
        have HF : Hid ((isVar p c h s && rollB s a b) = false) := by unfold Hid; rw [hv, Bool.true_and]; exact decide_eq_false (by omega)
        go_enter Tryd.func36, Tryd.ntmps36
        go_wp2_with (first | (go_at_call 38; refine (more_first (sIsVariant_any _ _ _ _ _)).mono ?_; rintro e w' ⟨rfl, t, rfl⟩) | (go_at_call 55; refine (l01In_any _ _ _ _).mono ?_; rintro e w' ⟨rfl, rfl⟩))
        go_ret
        exact ⟨by rw [HF.out]; rfl, HB.out.trans ((below_more _ _).mono HB.out.size)⟩
    · have e1 := inB_no h1
      have HF : Hid ((isVar p c h s && rollB s a b) = false) := by unfold Hid; rw [hv, Bool.true_and]; exact decide_eq_false (by omega)
      go_enter Tryd.func36, Tryd.ntmps36
      go_wp2_with (first | (go_at_call 38; refine (more_first (sIsVariant_any _ _ _ _ _)).mono ?_; rintro e w' ⟨rfl, t, rfl⟩) | (go_at_call 55; refine (l01In_any _ _ _ _).mono ?_; rintro e w' ⟨rfl, rfl⟩))
      go_ret
      exact ⟨by rw [HF.out]; rfl, HB.out.trans ((below_more _ _).mono HB.out.size)⟩
  · replace hv : isVar p c h s = false := by simpa using hv
    have HF : Hid ((isVar p c h s && rollB s a b) = false) := by unfold Hid; rw [hv, Bool.false_and]
    go_enter Tryd.func36, Tryd.ntmps36
    go_wp2_with (first | (go_at_call 38; refine (more_first (sIsVariant_any _ _ _ _ _)).mono ?_; rintro e w' ⟨rfl, t, rfl⟩) | (go_at_call 55; refine (l01In_any _ _ _ _).mono ?_; rintro e w' ⟨rfl, rfl⟩))
    go_ret
    exact ⟨by rw [HF.out]; rfl, HB.out.trans ((below_more _ _).mono HB.out.size)⟩
def dRI : Nat → Nat
  | 0 => 9
  | 1 => 10
  | 2 => 11
  | 3 => 12
  | 4 => 13
  | 5 => 14
  | 6 => 15
  | _ => 0
set_option maxRecDepth 100000 in
set_option maxHeartbeats 1000000 in
theorem RollText_yes (p c h : Int) (s a b : Nat) (w : World) (hv : isVar p c h s = true) (hb : 1 ≤ b) (hba : b ≤ a) (has : a ≤ s) (ht : TBok w) :
    Calls Tryd.prog 22 #[.agg #[.int .i64 p, .int .i64 c, .int .i64 h, .int .i64 s], .agg #[.int .i64 a, .int .i64 b]] w fun e w' => e = .returned (strV (rolT a b)) ∧ Below w.heap.size w w' := by
  have hvv := isVar_yes hv
  have hrb : rollB (s : Int) (a : Int) (b : Int) = true := by unfold rollB; exact decide_eq_true (by omega)
  have HF0 : Hid (Fr w ((w.alloc (.cells #[.int .i64 p, .int .i64 c, .int .i64 h, .int .i64 s] 34)).alloc (.cells #[.int .i64 a, .int .i64 b] 36)) [[.int .i64 p, .int .i64 c, .int .i64 h, .int .i64 s], [.int .i64 a, .int .i64 b]]) := ((Fr.start w).allocT (by simp) _ _).allocT (by simp) _ _
  have HT0 := Lib.hid (ht.below HF0.out.b)
  have CR : Hid (∀ W : World, Calls Tryd.prog 45 #[.agg #[.int .i64 p, .int .i64 c, .int .i64 h, .int .i64 s], .agg #[.int .i64 a, .int .i64 b]] W fun e w' => e = .returned (.bool true) ∧ Below W.heap.size W w') := fun W => by
    have h1 := IsRoll_any p c h s a b W
    rw [hv, hrb] at h1
    exact h1
  have hcat := fun (W : World) => cat_run (Lib.decDigits a) (Lib.decDigits b) (by have := dec_len a (by omega); have := dec_len b (by omega); omega) W
  change ∀ W : World, (binOp .add 9 (strV (Lib.decDigits a)) (strV (Lib.decDigits b))).run Tryd.prog W = .ok (strV (rolT a b)) W at hcat
  clear hv hrb
  go_enter Tryd.func22, Tryd.ntmps22
  go_wp2_with (fail)
  refine (CR.out _).mono ?_
  rintro e w1 ⟨rfl, hbb⟩
  have HF1 := Lib.hid (HF0.out.below hbb)
  have HT1 := Lib.hid (HT0.out.below hbb)
  clear hbb HF0
  have z0 := HF1.out.l0 (by simp)
  have c00 := HF1.out.c0 0 rfl
  have f00 := HF1.out.f0 0 rfl
  have c01 := HF1.out.c0 1 rfl
  have f01 := HF1.out.f0 1 rfl
  have c02 := HF1.out.c0 2 rfl
  have f02 := HF1.out.f0 2 rfl
  have c03 := HF1.out.c0 3 rfl
  have f03 := HF1.out.f0 3 rfl
  have z1 := HF1.out.l1 (by simp)
  have c10 := HF1.out.c1 0 rfl
  have f10 := HF1.out.f1 0 rfl
  have c11 := HF1.out.c1 1 rfl
  have f11 := HF1.out.f1 1 rfl
  go_wp2_with (fail)
  clear z0 c00 f00 c01 f01 c02 f02 c03 f03 z1 c10 f10 c11 f11
  refine wp_region_early 7 (fun _ => false) dRI Bel (fun _ => True) (GL [Eqv (.pointer (some ⟨w.heap.size + 1, 0, none⟩)), Eqv (.int .i64 (a : Int)), Eqv (strV (Lib.decDigits a)), Eqv (.pointer (some ⟨w.heap.size + 1, 1, none⟩)), Eqv (.int .i64 (b : Int)), Eqv (strV (Lib.decDigits b)), Eqv (strV (rolT a b))]) (by kernel_rfl) (by kernel_rfl) (fun _ _ _ _ _ h => h) (fun _ _ _ h1 h2 => Bel.trans h1 h2) Bel.rfl' (GL.stab (by repeat (first | exact AllStb.nil | refine AllStb.cons (by first | exact stb_eq _ | exact stb_alcD _ _ _) ?_))) (Bel.drew _) trivial (fun i o' _ hX => by cases hX) ?_ ?_
  · intro i o hi hX ho a' W hW hIW hfar hdep
    have e3 : a'.tmps.getD 3 undef = .pointer (some ⟨w.heap.size + 1, 0, none⟩) := (hfar 3 (by decide)).trans rfl
    have dep : ∀ j, j < 7 → Region.waitsFor .any _ i j = true → (GL [Eqv (.pointer (some ⟨w.heap.size + 1, 0, none⟩)), Eqv (.int .i64 (a : Int)), Eqv (strV (Lib.decDigits a)), Eqv (.pointer (some ⟨w.heap.size + 1, 1, none⟩)), Eqv (.int .i64 (b : Int)), Eqv (strV (Lib.decDigits b)), Eqv (strV (rolT a b))]) j (a'.tmps.getD (dRI j) undef) W := hdep
    have hi8 : i = 0 ∨ i = 1 ∨ i = 2 ∨ i = 3 ∨ i = 4 ∨ i = 5 ∨ i = 6 := by omega
    clear hfar hdep hX hi
    rcases hi8 with rfl | rfl | rfl | rfl | rfl | rfl | rfl
    all_goals (simp at ho; subst ho)
    · exact .inl ⟨.pointer (some ⟨w.heap.size + 1, 0, none⟩), W, by simp only [execOp, Act.eval, e3]; go_simp, Bel.rfl' _, trivial, rfl⟩
    · have d1 : a'.tmps.getD 9 undef = .pointer (some ⟨w.heap.size + 1, 0, none⟩) := dep 0 (by omega) (by kernel_rfl)
      have y0 := (HF1.out.below hW).c1 0 rfl
      exact .inl ⟨.int .i64 (a : Int), W, by simp only [execOp, Act.eval, d1]; go_simp, Bel.rfl' _, trivial, rfl⟩
    · have d1 : a'.tmps.getD 10 undef = .int .i64 (a : Int) := dep 1 (by omega) (by kernel_rfl)
      refine .inr ⟨25, #[.int .i64 (a : Int)], by simp only [execOp, Act.eval, d1]; go_simp, ?_⟩
      refine (dec_yes a W (by omega) (HT1.out.below hW)).mono ?_
      rintro e W' ⟨rfl, hb'⟩
      exact ⟨_, rfl, hb', trivial, rfl⟩
    · exact .inl ⟨.pointer (some ⟨w.heap.size + 1, 1, none⟩), W, by simp only [execOp, Act.eval, e3]; go_simp, Bel.rfl' _, trivial, rfl⟩
    · have d1 : a'.tmps.getD 12 undef = .pointer (some ⟨w.heap.size + 1, 1, none⟩) := dep 3 (by omega) (by kernel_rfl)
      have y0 := (HF1.out.below hW).c1 1 rfl
      exact .inl ⟨.int .i64 (b : Int), W, by simp only [execOp, Act.eval, d1]; go_simp, Bel.rfl' _, trivial, rfl⟩
    · have d1 : a'.tmps.getD 13 undef = .int .i64 (b : Int) := dep 4 (by omega) (by kernel_rfl)
      refine .inr ⟨25, #[.int .i64 (b : Int)], by simp only [execOp, Act.eval, d1]; go_simp, ?_⟩
      refine (dec_yes b W (by omega) (HT1.out.below hW)).mono ?_
      rintro e W' ⟨rfl, hb'⟩
      exact ⟨_, rfl, hb', trivial, rfl⟩
    · have d1 : a'.tmps.getD 11 undef = strV (Lib.decDigits a) := dep 2 (by omega) (by kernel_rfl)
      have d2 : a'.tmps.getD 14 undef = strV (Lib.decDigits b) := dep 5 (by omega) (by kernel_rfl)
      have hf0 := hcat W
      exact .inl ⟨strV (rolT a b), W, by simp only [execOp, Act.eval, d1, d2]; go_simp, Bel.rfl' _, trivial, rfl⟩
  intro v W2 hW hIW hg
  have g0 : v 0 = .pointer (some ⟨w.heap.size + 1, 0, none⟩) := hg 0 (by omega)
  have g1 : v 1 = .int .i64 (a : Int) := hg 1 (by omega)
  have g2 : v 2 = strV (Lib.decDigits a) := hg 2 (by omega)
  have g3 : v 3 = .pointer (some ⟨w.heap.size + 1, 1, none⟩) := hg 3 (by omega)
  have g4 : v 4 = .int .i64 (b : Int) := hg 4 (by omega)
  have g5 : v 5 = strV (Lib.decDigits b) := hg 5 (by omega)
  have g6 : v 6 = strV (rolT a b) := hg 6 (by omega)
  simp only [List.drop_succ_cons, List.drop_zero, putV, dRI, g0, g1, g2, g3, g4, g5, g6, Act.put]
  clear g0 g1 g2 g3 g4 g5 g6 hg hIW
  have HB : Hid (Below w.heap.size w W2) := (HF1.out.below hW).b
  clear hW
  go_wp2_with (fail)
  go_ret
  exact ⟨rfl, HB.out⟩
def dRS : Nat → Nat
  | 0 => 9
  | 1 => 10
  | 2 => 11
  | 3 => 12
  | 4 => 13
  | 5 => 14
  | 6 => 15
  | _ => 0
set_option maxRecDepth 100000 in
set_option maxHeartbeats 1000000 in
theorem sRollText_yes (p c h : Int) (s a b : Nat) (w : World) (hv : isVar p c h s = true) (hb : 1 ≤ b) (hba : b ≤ a) (has : a ≤ s) :
    Calls Tryd.prog 13 #[.agg #[.int .i64 p, .int .i64 c, .int .i64 h, .int .i64 s], .agg #[.int .i64 a, .int .i64 b]] w fun e w' => e = .returned (strV (rolT a b)) ∧ Below w.heap.size w w' := by
  have hvv := isVar_yes hv
  have hrb : rollB (s : Int) (a : Int) (b : Int) = true := by unfold rollB; exact decide_eq_true (by omega)
  have HF0 : Hid (Fr w ((w.alloc (.cells #[.int .i64 p, .int .i64 c, .int .i64 h, .int .i64 s] 34)).alloc (.cells #[.int .i64 a, .int .i64 b] 36)) [[.int .i64 p, .int .i64 c, .int .i64 h, .int .i64 s], [.int .i64 a, .int .i64 b]]) := ((Fr.start w).allocT (by simp) _ _).allocT (by simp) _ _
  have CR : Hid (∀ W : World, Calls Tryd.prog 36 #[.agg #[.int .i64 p, .int .i64 c, .int .i64 h, .int .i64 s], .agg #[.int .i64 a, .int .i64 b]] W fun e w' => e = .returned (.bool true) ∧ Below W.heap.size W w') := fun W => by
    have h1 := sIsRoll_any p c h s a b W
    rw [hv, hrb] at h1
    exact h1
  have hcat := fun (W : World) => cat_run (Lib.decDigits a) (Lib.decDigits b) (by have := dec_len a (by omega); have := dec_len b (by omega); omega) W
  change ∀ W : World, (binOp .add 9 (strV (Lib.decDigits a)) (strV (Lib.decDigits b))).run Tryd.prog W = .ok (strV (rolT a b)) W at hcat
  clear hv hrb
  go_enter Tryd.func13, Tryd.ntmps13
  go_wp2_with (fail)
  refine (CR.out _).mono ?_
  rintro e w1 ⟨rfl, hbb⟩
  have HF1 := Lib.hid (HF0.out.below hbb)
  clear hbb HF0
  have z0 := HF1.out.l0 (by simp)
  have c00 := HF1.out.c0 0 rfl
  have f00 := HF1.out.f0 0 rfl
  have c01 := HF1.out.c0 1 rfl
  have f01 := HF1.out.f0 1 rfl
  have c02 := HF1.out.c0 2 rfl
  have f02 := HF1.out.f0 2 rfl
  have c03 := HF1.out.c0 3 rfl
  have f03 := HF1.out.f0 3 rfl
  have z1 := HF1.out.l1 (by simp)
  have c10 := HF1.out.c1 0 rfl
  have f10 := HF1.out.f1 0 rfl
  have c11 := HF1.out.c1 1 rfl
  have f11 := HF1.out.f1 1 rfl
  go_wp2_with (fail)
  clear z0 c00 f00 c01 f01 c02 f02 c03 f03 z1 c10 f10 c11 f11
  refine wp_region_early 7 (fun _ => false) dRS Bel (fun _ => True) (GL [Eqv (.pointer (some ⟨w.heap.size + 1, 0, none⟩)), Eqv (.int .i64 (a : Int)), Eqv (strV (Lib.decDigits a)), Eqv (.pointer (some ⟨w.heap.size + 1, 1, none⟩)), Eqv (.int .i64 (b : Int)), Eqv (strV (Lib.decDigits b)), Eqv (strV (rolT a b))]) (by kernel_rfl) (by kernel_rfl) (fun _ _ _ _ _ h => h) (fun _ _ _ h1 h2 => Bel.trans h1 h2) Bel.rfl' (GL.stab (by repeat (first | exact AllStb.nil | refine AllStb.cons (by first | exact stb_eq _ | exact stb_alcD _ _ _) ?_))) (Bel.drew _) trivial (fun i o' _ hX => by cases hX) ?_ ?_
  · intro i o hi hX ho a' W hW hIW hfar hdep
    have e3 : a'.tmps.getD 3 undef = .pointer (some ⟨w.heap.size + 1, 0, none⟩) := (hfar 3 (by decide)).trans rfl
    have dep : ∀ j, j < 7 → Region.waitsFor .any _ i j = true → (GL [Eqv (.pointer (some ⟨w.heap.size + 1, 0, none⟩)), Eqv (.int .i64 (a : Int)), Eqv (strV (Lib.decDigits a)), Eqv (.pointer (some ⟨w.heap.size + 1, 1, none⟩)), Eqv (.int .i64 (b : Int)), Eqv (strV (Lib.decDigits b)), Eqv (strV (rolT a b))]) j (a'.tmps.getD (dRS j) undef) W := hdep
    have hi8 : i = 0 ∨ i = 1 ∨ i = 2 ∨ i = 3 ∨ i = 4 ∨ i = 5 ∨ i = 6 := by omega
    clear hfar hdep hX hi
    rcases hi8 with rfl | rfl | rfl | rfl | rfl | rfl | rfl
    all_goals (simp at ho; subst ho)
    · exact .inl ⟨.pointer (some ⟨w.heap.size + 1, 0, none⟩), W, by simp only [execOp, Act.eval, e3]; go_simp, Bel.rfl' _, trivial, rfl⟩
    · have d1 : a'.tmps.getD 9 undef = .pointer (some ⟨w.heap.size + 1, 0, none⟩) := dep 0 (by omega) (by kernel_rfl)
      have y0 := (HF1.out.below hW).c1 0 rfl
      exact .inl ⟨.int .i64 (a : Int), W, by simp only [execOp, Act.eval, d1]; go_simp, Bel.rfl' _, trivial, rfl⟩
    · have d1 : a'.tmps.getD 10 undef = .int .i64 (a : Int) := dep 1 (by omega) (by kernel_rfl)
      refine .inr ⟨37, #[.int .i64 (a : Int)], by simp only [execOp, Act.eval, d1]; go_simp, ?_⟩
      refine (l01Number_any (a + 1) a W (by omega) (by omega)).mono ?_
      rintro e W' ⟨rfl, hb'⟩
      exact ⟨_, rfl, hb', trivial, rfl⟩
    · exact .inl ⟨.pointer (some ⟨w.heap.size + 1, 1, none⟩), W, by simp only [execOp, Act.eval, e3]; go_simp, Bel.rfl' _, trivial, rfl⟩
    · have d1 : a'.tmps.getD 12 undef = .pointer (some ⟨w.heap.size + 1, 1, none⟩) := dep 3 (by omega) (by kernel_rfl)
      have y0 := (HF1.out.below hW).c1 1 rfl
      exact .inl ⟨.int .i64 (b : Int), W, by simp only [execOp, Act.eval, d1]; go_simp, Bel.rfl' _, trivial, rfl⟩
    · have d1 : a'.tmps.getD 13 undef = .int .i64 (b : Int) := dep 4 (by omega) (by kernel_rfl)
      refine .inr ⟨37, #[.int .i64 (b : Int)], by simp only [execOp, Act.eval, d1]; go_simp, ?_⟩
      refine (l01Number_any (b + 1) b W (by omega) (by omega)).mono ?_
      rintro e W' ⟨rfl, hb'⟩
      exact ⟨_, rfl, hb', trivial, rfl⟩
    · have d1 : a'.tmps.getD 11 undef = strV (Lib.decDigits a) := dep 2 (by omega) (by kernel_rfl)
      have d2 : a'.tmps.getD 14 undef = strV (Lib.decDigits b) := dep 5 (by omega) (by kernel_rfl)
      have hf0 := hcat W
      exact .inl ⟨strV (rolT a b), W, by simp only [execOp, Act.eval, d1, d2]; go_simp, Bel.rfl' _, trivial, rfl⟩
  intro v W2 hW hIW hg
  have g0 : v 0 = .pointer (some ⟨w.heap.size + 1, 0, none⟩) := hg 0 (by omega)
  have g1 : v 1 = .int .i64 (a : Int) := hg 1 (by omega)
  have g2 : v 2 = strV (Lib.decDigits a) := hg 2 (by omega)
  have g3 : v 3 = .pointer (some ⟨w.heap.size + 1, 1, none⟩) := hg 3 (by omega)
  have g4 : v 4 = .int .i64 (b : Int) := hg 4 (by omega)
  have g5 : v 5 = strV (Lib.decDigits b) := hg 5 (by omega)
  have g6 : v 6 = strV (rolT a b) := hg 6 (by omega)
  simp only [List.drop_succ_cons, List.drop_zero, putV, dRS, g0, g1, g2, g3, g4, g5, g6, Act.put]
  clear g0 g1 g2 g3 g4 g5 g6 hg hIW
  have HB : Hid (Below w.heap.size w W2) := (HF1.out.below hW).b
  clear hW
  go_wp2_with (fail)
  go_ret
  exact ⟨rfl, HB.out⟩
theorem vr_len (p c h s : Nat) (hp : p < 1000000000000000000) (hc : c < 1000000000000000000) (hh : h < 1000000000000000000) (hs : s < 1000000000000000000) : (vrT1 p c h s).length ≤ 100 ∧ (vrT2 p c h s).length ≤ 100 ∧ (vrT3 p c h s).length ≤ 100 ∧ (vrT4 p c h s).length ≤ 100 ∧ (vrT5 p c h s).length ≤ 100 ∧ (vrT6 p c h s).length ≤ 100 := by
  have h1 := dec_len p hp
  have h2 := dec_len c hc
  have h3 := dec_len h hh
  have h4 := dec_len s hs
  unfold vrT6 vrT5 vrT4 vrT3 vrT2 vrT1
  simp only [List.length_append, List.length_singleton]
  omega
def dVT : Nat → Nat
  | 0 => 6
  | 1 => 7
  | 2 => 8
  | 3 => 9
  | 4 => 10
  | 5 => 11
  | 6 => 12
  | 7 => 13
  | 8 => 14
  | 9 => 15
  | 10 => 16
  | 11 => 17
  | 12 => 18
  | 13 => 19
  | 14 => 20
  | 15 => 21
  | 16 => 22
  | 17 => 23
  | _ => 0
set_option maxRecDepth 100000 in
set_option maxHeartbeats 2000000 in
theorem sVariantText_yes (p c h s : Nat) (w : World) (hv : isVar p c h s = true) :
    Calls Tryd.prog 14 #[.agg #[.int .i64 p, .int .i64 c, .int .i64 h, .int .i64 s]] w fun e w' => e = .returned (strV (varT p c h s)) ∧ Below w.heap.size w w' := by
  have hvv := isVar_yes hv
  have HF0 : Hid (Fr w (w.alloc (.cells #[.int .i64 p, .int .i64 c, .int .i64 h, .int .i64 s] 34)) [[.int .i64 p, .int .i64 c, .int .i64 h, .int .i64 s]]) := (Fr.start w).allocT (by simp) _ _
  have CR : Hid (∀ W : World, Calls Tryd.prog 38 #[.agg #[.int .i64 p, .int .i64 c, .int .i64 h, .int .i64 s]] W fun e w' => e = .returned (.bool true) ∧ Below W.heap.size W w') := fun W => by
    have h1 := sIsVariant_any p c h s W
    rw [hv] at h1
    exact h1
  obtain ⟨q1, q2, q3, q4, q5, q6⟩ := vr_len p c h s (by omega) (by omega) (by omega) (by omega)
  have l0 := dec_len p (by omega)
  have l2 := dec_len c (by omega)
  have l4 := dec_len h (by omega)
  have l6 := dec_len s (by omega)
  have hc1 : ∀ W : World, (binOp .add 9 (strV (Lib.decDigits p)) (.string { data := #[47] })).run Tryd.prog W = .ok (strV (vrT1 p c h s)) W := fun W => cat_lit (Lib.decDigits p) 47 (by omega) W
  have hc2 : ∀ W : World, (binOp .add 9 (strV (vrT1 p c h s)) (strV (Lib.decDigits c))).run Tryd.prog W = .ok (strV (vrT2 p c h s)) W := fun W => cat_run (vrT1 p c h s) (Lib.decDigits c) (by omega) W
  have hc3 : ∀ W : World, (binOp .add 9 (strV (vrT2 p c h s)) (.string { data := #[47] })).run Tryd.prog W = .ok (strV (vrT3 p c h s)) W := fun W => cat_lit (vrT2 p c h s) 47 (by omega) W
  have hc4 : ∀ W : World, (binOp .add 9 (strV (vrT3 p c h s)) (strV (Lib.decDigits h))).run Tryd.prog W = .ok (strV (vrT4 p c h s)) W := fun W => cat_run (vrT3 p c h s) (Lib.decDigits h) (by omega) W
  have hc5 : ∀ W : World, (binOp .add 9 (strV (vrT4 p c h s)) (.string { data := #[47] })).run Tryd.prog W = .ok (strV (vrT5 p c h s)) W := fun W => cat_lit (vrT4 p c h s) 47 (by omega) W
  have hc6 : ∀ W : World, (binOp .add 9 (strV (vrT5 p c h s)) (strV (Lib.decDigits s))).run Tryd.prog W = .ok (strV (vrT6 p c h s)) W := fun W => cat_run (vrT5 p c h s) (Lib.decDigits s) (by omega) W
  clear hv q1 q2 q3 q4 q5 q6 l0 l2 l4 l6
  go_enter Tryd.func14, Tryd.ntmps14
  go_wp2_with (fail)
  refine (CR.out _).mono ?_
  rintro e w1 ⟨rfl, hbb⟩
  have HF1 := Lib.hid (HF0.out.below hbb)
  clear hbb HF0
  have z0 := HF1.out.l0 (by simp)
  have c00 := HF1.out.c0 0 rfl
  have f00 := HF1.out.f0 0 rfl
  have c01 := HF1.out.c0 1 rfl
  have f01 := HF1.out.f0 1 rfl
  have c02 := HF1.out.c0 2 rfl
  have f02 := HF1.out.f0 2 rfl
  have c03 := HF1.out.c0 3 rfl
  have f03 := HF1.out.f0 3 rfl
  go_wp2_with (fail)
  clear z0 c00 f00 c01 f01 c02 f02 c03 f03
  refine wp_region_early 18 (fun _ => false) dVT Bel (fun _ => True) (GL [Eqv (.pointer (some ⟨w.heap.size, 0, none⟩)), Eqv (.int .i64 (p : Int)), Eqv (strV (Lib.decDigits p)), Eqv (strV (vrT1 p c h s)), Eqv (.pointer (some ⟨w.heap.size, 1, none⟩)), Eqv (.int .i64 (c : Int)), Eqv (strV (Lib.decDigits c)), Eqv (strV (vrT2 p c h s)), Eqv (strV (vrT3 p c h s)), Eqv (.pointer (some ⟨w.heap.size, 2, none⟩)), Eqv (.int .i64 (h : Int)), Eqv (strV (Lib.decDigits h)), Eqv (strV (vrT4 p c h s)), Eqv (strV (vrT5 p c h s)), Eqv (.pointer (some ⟨w.heap.size, 3, none⟩)), Eqv (.int .i64 (s : Int)), Eqv (strV (Lib.decDigits s)), Eqv (strV (vrT6 p c h s))]) (by kernel_rfl) (by kernel_rfl) (fun _ _ _ _ _ h => h) (fun _ _ _ h1 h2 => Bel.trans h1 h2) Bel.rfl' (GL.stab (by repeat (first | exact AllStb.nil | refine AllStb.cons (by first | exact stb_eq _ | exact stb_alcD _ _ _) ?_))) (Bel.drew _) trivial (fun i o' _ hX => by cases hX) ?_ ?_
  · intro i o hi hX ho a' W hW hIW hfar hdep
    have e1 : a'.tmps.getD 1 undef = .pointer (some ⟨w.heap.size, 0, none⟩) := (hfar 1 (by decide)).trans rfl
    have dep : ∀ j, j < 18 → Region.waitsFor .any _ i j = true → (GL [Eqv (.pointer (some ⟨w.heap.size, 0, none⟩)), Eqv (.int .i64 (p : Int)), Eqv (strV (Lib.decDigits p)), Eqv (strV (vrT1 p c h s)), Eqv (.pointer (some ⟨w.heap.size, 1, none⟩)), Eqv (.int .i64 (c : Int)), Eqv (strV (Lib.decDigits c)), Eqv (strV (vrT2 p c h s)), Eqv (strV (vrT3 p c h s)), Eqv (.pointer (some ⟨w.heap.size, 2, none⟩)), Eqv (.int .i64 (h : Int)), Eqv (strV (Lib.decDigits h)), Eqv (strV (vrT4 p c h s)), Eqv (strV (vrT5 p c h s)), Eqv (.pointer (some ⟨w.heap.size, 3, none⟩)), Eqv (.int .i64 (s : Int)), Eqv (strV (Lib.decDigits s)), Eqv (strV (vrT6 p c h s))]) j (a'.tmps.getD (dVT j) undef) W := hdep
    have hi8 : i = 0 ∨ i = 1 ∨ i = 2 ∨ i = 3 ∨ i = 4 ∨ i = 5 ∨ i = 6 ∨ i = 7 ∨ i = 8 ∨ i = 9 ∨ i = 10 ∨ i = 11 ∨ i = 12 ∨ i = 13 ∨ i = 14 ∨ i = 15 ∨ i = 16 ∨ i = 17 := by omega
    clear hfar hdep hX hi
    rcases hi8 with rfl | rfl | rfl | rfl | rfl | rfl | rfl | rfl | rfl | rfl | rfl | rfl | rfl | rfl | rfl | rfl | rfl | rfl
    all_goals (simp at ho; subst ho)
    · exact .inl ⟨.pointer (some ⟨w.heap.size, 0, none⟩), W, by simp only [execOp, Act.eval, e1]; go_simp, Bel.rfl' _, trivial, rfl⟩
    · have d1 : a'.tmps.getD 6 undef = .pointer (some ⟨w.heap.size, 0, none⟩) := dep 0 (by omega) (by kernel_rfl)
      have y0 := (HF1.out.below hW).c0 0 rfl
      exact .inl ⟨.int .i64 (p : Int), W, by simp only [execOp, Act.eval, d1]; go_simp, Bel.rfl' _, trivial, rfl⟩
    · have d1 : a'.tmps.getD 7 undef = .int .i64 (p : Int) := dep 1 (by omega) (by kernel_rfl)
      refine .inr ⟨37, #[.int .i64 (p : Int)], by simp only [execOp, Act.eval, d1]; go_simp, ?_⟩
      refine (l01Number_any (p + 1) p W (by omega) (by omega)).mono ?_
      rintro e W' ⟨rfl, hb'⟩
      exact ⟨_, rfl, hb', trivial, rfl⟩
    · have d1 : a'.tmps.getD 8 undef = strV (Lib.decDigits p) := dep 2 (by omega) (by kernel_rfl)
      have hf0 := hc1 W
      exact .inl ⟨strV (vrT1 p c h s), W, by simp only [execOp, Act.eval, d1]; go_simp, Bel.rfl' _, trivial, rfl⟩
    · exact .inl ⟨.pointer (some ⟨w.heap.size, 1, none⟩), W, by simp only [execOp, Act.eval, e1]; go_simp, Bel.rfl' _, trivial, rfl⟩
    · have d1 : a'.tmps.getD 10 undef = .pointer (some ⟨w.heap.size, 1, none⟩) := dep 4 (by omega) (by kernel_rfl)
      have y0 := (HF1.out.below hW).c0 1 rfl
      exact .inl ⟨.int .i64 (c : Int), W, by simp only [execOp, Act.eval, d1]; go_simp, Bel.rfl' _, trivial, rfl⟩
    · have d1 : a'.tmps.getD 11 undef = .int .i64 (c : Int) := dep 5 (by omega) (by kernel_rfl)
      refine .inr ⟨37, #[.int .i64 (c : Int)], by simp only [execOp, Act.eval, d1]; go_simp, ?_⟩
      refine (l01Number_any (c + 1) c W (by omega) (by omega)).mono ?_
      rintro e W' ⟨rfl, hb'⟩
      exact ⟨_, rfl, hb', trivial, rfl⟩
    · have d1 : a'.tmps.getD 9 undef = strV (vrT1 p c h s) := dep 3 (by omega) (by kernel_rfl)
      have d2 : a'.tmps.getD 12 undef = strV (Lib.decDigits c) := dep 6 (by omega) (by kernel_rfl)
      have hf0 := hc2 W
      exact .inl ⟨strV (vrT2 p c h s), W, by simp only [execOp, Act.eval, d1, d2]; go_simp, Bel.rfl' _, trivial, rfl⟩
    · have d1 : a'.tmps.getD 13 undef = strV (vrT2 p c h s) := dep 7 (by omega) (by kernel_rfl)
      have hf0 := hc3 W
      exact .inl ⟨strV (vrT3 p c h s), W, by simp only [execOp, Act.eval, d1]; go_simp, Bel.rfl' _, trivial, rfl⟩
    · exact .inl ⟨.pointer (some ⟨w.heap.size, 2, none⟩), W, by simp only [execOp, Act.eval, e1]; go_simp, Bel.rfl' _, trivial, rfl⟩
    · have d1 : a'.tmps.getD 15 undef = .pointer (some ⟨w.heap.size, 2, none⟩) := dep 9 (by omega) (by kernel_rfl)
      have y0 := (HF1.out.below hW).c0 2 rfl
      exact .inl ⟨.int .i64 (h : Int), W, by simp only [execOp, Act.eval, d1]; go_simp, Bel.rfl' _, trivial, rfl⟩
    · have d1 : a'.tmps.getD 16 undef = .int .i64 (h : Int) := dep 10 (by omega) (by kernel_rfl)
      refine .inr ⟨37, #[.int .i64 (h : Int)], by simp only [execOp, Act.eval, d1]; go_simp, ?_⟩
      refine (l01Number_any (h + 1) h W (by omega) (by omega)).mono ?_
      rintro e W' ⟨rfl, hb'⟩
      exact ⟨_, rfl, hb', trivial, rfl⟩
    · have d1 : a'.tmps.getD 14 undef = strV (vrT3 p c h s) := dep 8 (by omega) (by kernel_rfl)
      have d2 : a'.tmps.getD 17 undef = strV (Lib.decDigits h) := dep 11 (by omega) (by kernel_rfl)
      have hf0 := hc4 W
      exact .inl ⟨strV (vrT4 p c h s), W, by simp only [execOp, Act.eval, d1, d2]; go_simp, Bel.rfl' _, trivial, rfl⟩
    · have d1 : a'.tmps.getD 18 undef = strV (vrT4 p c h s) := dep 12 (by omega) (by kernel_rfl)
      have hf0 := hc5 W
      exact .inl ⟨strV (vrT5 p c h s), W, by simp only [execOp, Act.eval, d1]; go_simp, Bel.rfl' _, trivial, rfl⟩
    · exact .inl ⟨.pointer (some ⟨w.heap.size, 3, none⟩), W, by simp only [execOp, Act.eval, e1]; go_simp, Bel.rfl' _, trivial, rfl⟩
    · have d1 : a'.tmps.getD 20 undef = .pointer (some ⟨w.heap.size, 3, none⟩) := dep 14 (by omega) (by kernel_rfl)
      have y0 := (HF1.out.below hW).c0 3 rfl
      exact .inl ⟨.int .i64 (s : Int), W, by simp only [execOp, Act.eval, d1]; go_simp, Bel.rfl' _, trivial, rfl⟩
    · have d1 : a'.tmps.getD 21 undef = .int .i64 (s : Int) := dep 15 (by omega) (by kernel_rfl)
      refine .inr ⟨37, #[.int .i64 (s : Int)], by simp only [execOp, Act.eval, d1]; go_simp, ?_⟩
      refine (l01Number_any (s + 1) s W (by omega) (by omega)).mono ?_
      rintro e W' ⟨rfl, hb'⟩
      exact ⟨_, rfl, hb', trivial, rfl⟩
    · have d1 : a'.tmps.getD 19 undef = strV (vrT5 p c h s) := dep 13 (by omega) (by kernel_rfl)
      have d2 : a'.tmps.getD 22 undef = strV (Lib.decDigits s) := dep 16 (by omega) (by kernel_rfl)
      have hf0 := hc6 W
      exact .inl ⟨strV (vrT6 p c h s), W, by simp only [execOp, Act.eval, d1, d2]; go_simp, Bel.rfl' _, trivial, rfl⟩
  intro v W2 hW hIW hg
  have g0 : v 0 = .pointer (some ⟨w.heap.size, 0, none⟩) := hg 0 (by omega)
  have g1 : v 1 = .int .i64 (p : Int) := hg 1 (by omega)
  have g2 : v 2 = strV (Lib.decDigits p) := hg 2 (by omega)
  have g3 : v 3 = strV (vrT1 p c h s) := hg 3 (by omega)
  have g4 : v 4 = .pointer (some ⟨w.heap.size, 1, none⟩) := hg 4 (by omega)
  have g5 : v 5 = .int .i64 (c : Int) := hg 5 (by omega)
  have g6 : v 6 = strV (Lib.decDigits c) := hg 6 (by omega)
  have g7 : v 7 = strV (vrT2 p c h s) := hg 7 (by omega)
  have g8 : v 8 = strV (vrT3 p c h s) := hg 8 (by omega)
  have g9 : v 9 = .pointer (some ⟨w.heap.size, 2, none⟩) := hg 9 (by omega)
  have g10 : v 10 = .int .i64 (h : Int) := hg 10 (by omega)
  have g11 : v 11 = strV (Lib.decDigits h) := hg 11 (by omega)
  have g12 : v 12 = strV (vrT4 p c h s) := hg 12 (by omega)
  have g13 : v 13 = strV (vrT5 p c h s) := hg 13 (by omega)
  have g14 : v 14 = .pointer (some ⟨w.heap.size, 3, none⟩) := hg 14 (by omega)
  have g15 : v 15 = .int .i64 (s : Int) := hg 15 (by omega)
  have g16 : v 16 = strV (Lib.decDigits s) := hg 16 (by omega)
  have g17 : v 17 = strV (vrT6 p c h s) := hg 17 (by omega)
  simp only [List.drop_succ_cons, List.drop_zero, putV, dVT, g0, g1, g2, g3, g4, g5, g6, g7, g8, g9, g10, g11, g12, g13, g14, g15, g16, g17, Act.put]
  clear g0 g1 g2 g3 g4 g5 g6 g7 g8 g9 g10 g11 g12 g13 g14 g15 g16 g17 hg hIW
  have HB : Hid (Below w.heap.size w W2) := (HF1.out.below hW).b
  clear hW
  go_wp2_with (fail)
  go_ret
  exact ⟨rfl, HB.out⟩
end Go.Proofs.YtkjlafcnmniomaaDoor

/- Contracts of decimal numerals. There are no conditions beyond those that each states. -/
import Derived.Test.YtkjlafcnmniomaaDoorBase2
import Derived.Test.YtkjlafcnmniomaaDoorShelf
import Derived.Lib.ItoaLen
import Derived.Lib.AppendIntMem
import Derived.Laws.IdiomStrings
import Derived.Laws.Concat
import Derived.Test.YtkjlafcnmniomaaDoorG1
namespace Go.Proofs.YtkjlafcnmniomaaDoor
set_option linter.unusedVariables false
set_option linter.unusedSimpArgs false
open Go.RowKit

/-- The table of powers of ten that the library reads. -/
def TBok (w : World) : Prop := Lib.TabIs Tryd.prog w "internal/strconv.uint64pow10" .u64 Lib.pow10Tab
theorem TBok.below {w w' : World} (h : TBok w) (hb : Below w.heap.size w w') : TBok w' := by
  unfold TBok Lib.TabIs World.var? at *
  cases hg : Tryd.prog.globalNamed "internal/strconv.uint64pow10" with
  | none => rw [hg] at h; cases h
  | some g =>
    rw [hg] at h
    simp only [Option.bind_some] at h ⊢
    cases hh : w.heap[g]? with
    | none => rw [hh] at h; cases h
    | some o => rw [hb.block g (Array.getElem?_eq_some_iff.1 hh).1]; exact h
/-- A text. -/
def strV (l : List UInt8) : Value := .string ⟨l.toArray⟩
theorem cat_run (x y : List UInt8) (h : x.length + y.length ≤ 1000000) (W : World) : (binOp .add 9 (strV x) (strV y)).run Tryd.prog W = .ok (strV (x ++ y)) W := by
  unfold strV
  simp [go_sem, ByteArray.mk_append_mk]
  omega
/-- A digit's byte. -/
def dgB (k : Nat) : UInt8 := UInt8.ofNat (48 + k)
theorem one_byte (g k : Nat) (hk : k < 10) (W : World) (h : Cel W g [.int .u8 (48 + (k : Int))]) : (convert 68 9 (.slice (some ⟨g, 0, none⟩) 1 1)).run Tryd.prog W = .ok (strV [dgB k]) W := by
  refine run_convert_bytes_back W 68 9 5 ⟨g, 0, none⟩ 1 [dgB k] Tryd.underlying68 Tryd.underlying5 Tryd.underlying9 fun j hj => ?_
  have hj0 : j = 0 := by simpa using hj
  subst hj0
  have h1 := h.cell 0 _ rfl
  have h2 : (dgB k).toNat = 48 + k := by unfold dgB; rw [UInt8.toNat_ofNat']; omega
  show W.cell? ⟨g, 0, none⟩ = some (.int .u8 (((dgB k).toNat : Nat) : Int))
  rw [h1, h2]; rfl
theorem dec_len (n : Nat) (hn : n < 1000000000000000000) : (Lib.decDigits n).length ≤ 21 := by
  have := Lib.itoa_length_le (n : Int) (by omega) (by omega)
  rwa [Lib.itoa_nonneg] at this
/-- A slice of the region's own. -/
def SlcB (lo : Nat) (cs : List Value) : RP := fun v W => ∃ g, v = .slice (some ⟨g, 0, none⟩) cs.length cs.length ∧ lo ≤ g ∧ Cel W g cs
theorem stb_slcB (lo : Nat) (cs : List Value) : Stb (SlcB lo cs) := fun _ _ _ ⟨g, h1, h2, h3⟩ hb => ⟨g, h1, h2, h3.below hb⟩
set_option maxRecDepth 100000 in
theorem decimal_any (n : Int) (w : World) (h0 : -9223372036854775808 ≤ n) (h1 : n ≤ 9223372036854775807) (ht : TBok w) :
    Calls Tryd.prog 25 #[.int .i64 n] w fun e w' => e = .returned (strV (Lib.itoa n)) ∧ Below w.heap.size w w' := by
  go_enter Tryd.func25, Tryd.ntmps25
  go_wp2_with (fail)
  refine (Tryd.strconv_FormatInt_10 n h0 h1 _ ht).mono ?_
  rintro e w' ⟨rfl, k, os, rfl⟩
  have HB : Hid (Below w.heap.size w (Sort.grow (w.drewN k) os)) := Lib.below_grow _ _ (Nat.le_refl _) _ _
  go_wp2_with (fail)
  go_ret
  exact ⟨rfl, HB.out⟩
def dN1 : Nat → Nat
  | 0 => 10
  | 1 => 11
  | 2 => 12
  | 3 => 13
  | 4 => 14
  | 5 => 15
  | 6 => 16
  | 7 => 17
  | 8 => 18
  | 9 => 19
  | _ => 0
set_option maxRecDepth 100000 in
set_option maxHeartbeats 1000000 in
theorem l01Number_step (n : Nat) (w : World) (hn : n < 1000000000000000000) (ih : ∀ m, m < n → ∀ W : World, Calls Tryd.prog 37 #[.int .i64 (m : Int)] W fun e w' => e = .returned (strV (Lib.decDigits m)) ∧ Below W.heap.size W w') :
    Calls Tryd.prog 37 #[.int .i64 (n : Int)] w fun e w' => e = .returned (strV (Lib.decDigits n)) ∧ Below w.heap.size w w' := by
  by_cases h10 : n < 10
  · have hi : (n : Int) < 10 := by omega
    have hcv := one_byte w.heap.size n h10 (w.alloc (.cells #[.int .u8 (48 + (n : Int))] 5)) (Cel.new w #[.int .u8 (48 + (n : Int))] _)
    have HE : Hid (strV [dgB n] = strV (Lib.decDigits n)) := by unfold Hid; rw [Lib.decDigits_one h10]; rfl
    have HB : Hid (Below w.heap.size w (w.alloc (.cells #[.int .u8 (48 + (n : Int))] 5))) := (Below.refl _ _).alloc (Nat.le_refl _) _
    go_enter Tryd.func37, Tryd.ntmps37
    go_wp2_with (fail)
    go_ret
    exact ⟨by rw [← HE.out]; rfl, HB.out⟩
  · have hi : ¬ (n : Int) < 10 := by omega
    have hcat := fun (W : World) => cat_run (Lib.decDigits (n / 10)) [dgB (n % 10)] (by have := dec_len (n / 10) (by omega); simp; omega) W
    rw [show Lib.decDigits (n / 10) ++ [dgB (n % 10)] = Lib.decDigits n by rw [Lib.decDigits.eq_def n, dif_neg h10]; rfl] at hcat
    go_enter Tryd.func37, Tryd.ntmps37
    go_wp2_with (fail)
    refine wp_region_early 10 (fun _ => false) dN1 Bel (fun _ => True) (GL [Eqv (.int .i64 (n : Int)), Eqv (.int .i64 ((n / 10 : Nat) : Int)), Eqv (strV (Lib.decDigits (n / 10))), Eqv (.int .i64 (n : Int)), Eqv (.int .i64 ((n % 10 : Nat) : Int)), Eqv (.int .i64 (48 + ((n % 10 : Nat) : Int))), Eqv (.int .u8 (48 + ((n % 10 : Nat) : Int))), SlcB w.heap.size [.int .u8 (48 + ((n % 10 : Nat) : Int))], Eqv (strV [dgB (n % 10)]), Eqv (strV (Lib.decDigits n))]) (by kernel_rfl) (by kernel_rfl) (fun _ _ _ _ _ h => h) (fun _ _ _ h1 h2 => Bel.trans h1 h2) Bel.rfl' (GL.stab (by repeat (first | exact AllStb.nil | refine AllStb.cons (by first | exact stb_eq _ | exact stb_slcB _ _) ?_))) (Bel.drew _) trivial (fun i o' _ hX => by cases hX) ?_ ?_
    · intro i o hi hX ho a' W hW hIW hfar hdep
      have e0 : a'.tmps.getD 0 undef = .int .i64 (n : Int) := (hfar 0 (by decide)).trans rfl
      have dep : ∀ j, j < 10 → Region.waitsFor .any _ i j = true → (GL [Eqv (.int .i64 (n : Int)), Eqv (.int .i64 ((n / 10 : Nat) : Int)), Eqv (strV (Lib.decDigits (n / 10))), Eqv (.int .i64 (n : Int)), Eqv (.int .i64 ((n % 10 : Nat) : Int)), Eqv (.int .i64 (48 + ((n % 10 : Nat) : Int))), Eqv (.int .u8 (48 + ((n % 10 : Nat) : Int))), SlcB w.heap.size [.int .u8 (48 + ((n % 10 : Nat) : Int))], Eqv (strV [dgB (n % 10)]), Eqv (strV (Lib.decDigits n))]) j (a'.tmps.getD (dN1 j) undef) W := hdep
      have hi8 : i = 0 ∨ i = 1 ∨ i = 2 ∨ i = 3 ∨ i = 4 ∨ i = 5 ∨ i = 6 ∨ i = 7 ∨ i = 8 ∨ i = 9 := by omega
      clear hfar hdep hX hi
      rcases hi8 with rfl | rfl | rfl | rfl | rfl | rfl | rfl | rfl | rfl | rfl
      all_goals (simp at ho; subst ho)
      · exact .inl ⟨.int .i64 (n : Int), W, by simp only [execOp, Act.eval, e0]; go_simp, Bel.rfl' _, trivial, rfl⟩
      · have d1 : a'.tmps.getD 10 undef = .int .i64 (n : Int) := dep 0 (by omega) (by kernel_rfl)
        exact .inl ⟨.int .i64 ((n / 10 : Nat) : Int), W, by simp only [execOp, Act.eval, d1]; go_simp; first | rfl | exact IntWalk.i64_in _ (by omega) | omega | trace_state, Bel.rfl' _, trivial, rfl⟩
      · have d1 : a'.tmps.getD 11 undef = .int .i64 ((n / 10 : Nat) : Int) := dep 1 (by omega) (by kernel_rfl)
        refine .inr ⟨37, #[.int .i64 ((n / 10 : Nat) : Int)], by simp only [execOp, Act.eval, d1]; go_simp, ?_⟩
        refine (ih (n / 10) (by omega) W).mono ?_
        rintro e W' ⟨rfl, hb'⟩
        exact ⟨_, rfl, hb', trivial, rfl⟩
      · exact .inl ⟨.int .i64 (n : Int), W, by simp only [execOp, Act.eval, e0]; go_simp, Bel.rfl' _, trivial, rfl⟩
      · have d1 : a'.tmps.getD 13 undef = .int .i64 (n : Int) := dep 3 (by omega) (by kernel_rfl)
        exact .inl ⟨.int .i64 ((n % 10 : Nat) : Int), W, by simp only [execOp, Act.eval, d1]; go_simp; first | rfl | omega | (rw [Int.tmod_eq_emod_of_nonneg (by omega)]; omega), Bel.rfl' _, trivial, rfl⟩
      · have d1 : a'.tmps.getD 14 undef = .int .i64 ((n % 10 : Nat) : Int) := dep 4 (by omega) (by kernel_rfl)
        exact .inl ⟨.int .i64 (48 + ((n % 10 : Nat) : Int)), W, by simp only [execOp, Act.eval, d1]; go_simp; first | rfl | exact IntWalk.i64_in _ (by omega), Bel.rfl' _, trivial, rfl⟩
      · have d1 : a'.tmps.getD 15 undef = .int .i64 (48 + ((n % 10 : Nat) : Int)) := dep 5 (by omega) (by kernel_rfl)
        exact .inl ⟨.int .u8 (48 + ((n % 10 : Nat) : Int)), W, by simp only [execOp, Act.eval, d1]; go_simp; first | rfl | (simp [IntKind.wrap, IntKind.bits, IntKind.signed]; omega), Bel.rfl' _, trivial, rfl⟩
      · have d1 : a'.tmps.getD 16 undef = .int .u8 (48 + ((n % 10 : Nat) : Int)) := dep 6 (by omega) (by kernel_rfl)
        have d1' := d1
        rw [Array.getD_eq_getD_getElem?] at d1'
        exact .inl ⟨.slice (some ⟨W.heap.size, 0, none⟩) 1 1, W.alloc (.cells #[.int .u8 (48 + ((n % 10 : Nat) : Int))] 5), by simp only [execOp, Act.eval, d1]; go_simp, Bel.alloc _ _, trivial, W.heap.size, rfl, Below.size hW, Cel.new W #[.int .u8 (48 + ((n % 10 : Nat) : Int))] _⟩
      · obtain ⟨gb, d1, _, hcb⟩ : SlcB w.heap.size [.int .u8 (48 + ((n % 10 : Nat) : Int))] (a'.tmps.getD 17 undef) W := dep 7 (by omega) (by kernel_rfl)
        have hcv := one_byte gb (n % 10) (Nat.mod_lt _ (by omega)) W hcb
        exact .inl ⟨strV [dgB (n % 10)], W, by simp only [execOp, Act.eval, d1]; go_simp, Bel.rfl' _, trivial, rfl⟩
      · have d1 : a'.tmps.getD 12 undef = strV (Lib.decDigits (n / 10)) := dep 2 (by omega) (by kernel_rfl)
        have d2 : a'.tmps.getD 18 undef = strV [dgB (n % 10)] := dep 8 (by omega) (by kernel_rfl)
        have hf0 := hcat W
        exact .inl ⟨strV (Lib.decDigits n), W, by simp only [execOp, Act.eval, d1, d2]; go_simp, Bel.rfl' _, trivial, rfl⟩
    intro v W2 hW hIW hg
    have g0 : v 0 = .int .i64 (n : Int) := hg 0 (by omega)
    have g1 : v 1 = .int .i64 ((n / 10 : Nat) : Int) := hg 1 (by omega)
    have g2 : v 2 = strV (Lib.decDigits (n / 10)) := hg 2 (by omega)
    have g3 : v 3 = .int .i64 (n : Int) := hg 3 (by omega)
    have g4 : v 4 = .int .i64 ((n % 10 : Nat) : Int) := hg 4 (by omega)
    have g5 : v 5 = .int .i64 (48 + ((n % 10 : Nat) : Int)) := hg 5 (by omega)
    have g6 : v 6 = .int .u8 (48 + ((n % 10 : Nat) : Int)) := hg 6 (by omega)
    obtain ⟨_, g7, _, _⟩ : SlcB w.heap.size [.int .u8 (48 + ((n % 10 : Nat) : Int))] (v 7) W2 := hg 7 (by omega)
    have g8 : v 8 = strV [dgB (n % 10)] := hg 8 (by omega)
    have g9 : v 9 = strV (Lib.decDigits n) := hg 9 (by omega)
    simp only [List.drop_succ_cons, List.drop_zero, putV, dN1, g0, g1, g2, g3, g4, g5, g6, g7, g8, g9, Act.put]
    clear g0 g1 g2 g3 g4 g5 g6 g7 g8 g9 hg hIW
    have HB : Hid (Below w.heap.size w W2) := hW
    clear hW
    go_wp2_with (fail)
    go_ret
    exact ⟨rfl, HB.out⟩
theorem l01Number_any : ∀ (k n : Nat) (w : World), n < k → n < 1000000000000000000 → Calls Tryd.prog 37 #[.int .i64 (n : Int)] w fun e w' => e = .returned (strV (Lib.decDigits n)) ∧ Below w.heap.size w w'
  | 0, _, _, h, _ => absurd h (Nat.not_lt_zero _)
  | k + 1, n, w, h, hn => l01Number_step n w hn fun m hm W => l01Number_any k m W (by omega) (by omega)
end Go.Proofs.YtkjlafcnmniomaaDoor

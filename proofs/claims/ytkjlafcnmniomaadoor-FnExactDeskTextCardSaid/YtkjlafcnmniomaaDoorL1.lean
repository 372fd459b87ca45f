/- Contracts of what the laws do with results: they are held against each other, marked, and looked at again. There are no conditions. -/
import Derived.Test.YtkjlafcnmniomaaDoorBase2
namespace Go.Proofs.YtkjlafcnmniomaaDoor
set_option linter.unusedVariables false
set_option linter.unusedSimpArgs false
open Go.RowKit


theorem eqVariant_yes (p c h s : Int) (w : World) :
    Calls Tryd.prog 27 #[.agg #[.int .i64 p, .int .i64 c, .int .i64 h, .int .i64 s], .agg #[.int .i64 p, .int .i64 c, .int .i64 h, .int .i64 s]] w fun e w' => e = .returned (.bool true) ∧ Below w.heap.size w w' := by
  go_enter Tryd.func27, Tryd.ntmps27
  go_wp2
  go_ret
  exact ⟨rfl, ((Below.refl _ _).alloc (Nat.le_refl _) _).alloc (by simp) _⟩
theorem eqRoll_yes (a b : Int) (w : World) :
    Calls Tryd.prog 29 #[.agg #[.int .i64 a, .int .i64 b], .agg #[.int .i64 a, .int .i64 b]] w fun e w' => e = .returned (.bool true) ∧ Below w.heap.size w w' := by
  go_enter Tryd.func29, Tryd.ntmps29
  go_wp2
  go_ret
  exact ⟨rfl, ((Below.refl _ _).alloc (Nat.le_refl _) _).alloc (by simp) _⟩

theorem eqInt64S_yes (A1 A2 : Option Addr) (n c1 c2 : Nat) (xs : List Int) (w : World) (h1 : SL w A1 n xs) (h2 : SL w A2 n xs) (hn : n ≤ 2000000) :
    Calls Tryd.prog 52 #[.slice A1 n c1, .slice A2 n c2] w fun e w' => e = .returned (.bool true) ∧ Below w.heap.size w w' := by
  have H1 := Lib.hid h1
  have H2 := Lib.hid h2
  clear h1 h2
  have hne : ((n : Int) != (n : Int)) = false := by simp
  go_enter Tryd.func52, Tryd.ntmps52
  go_wp2_with (fail)
  go_loopw [5] (fun i wr => ∃ k : Nat, k ≤ n ∧ i = .int .i64 k ∧ Below w.heap.size w wr) (fun i _ => n - (intOf i).toNat)
  case atStart => exact ⟨0, by omega, rfl, Below.refl _ _⟩
  case round =>
    obtain ⟨k, hk, rfl, hb⟩ := hrel
    by_cases hlt : k < n
    · obtain ⟨x1, o1, rfl, hb1, hc1⟩ := (H1.out.keep (Nat.le_refl _) hb).2 (by omega)
      obtain ⟨x2, o2, rfl, hb2, hc2⟩ := (H2.out.keep (Nat.le_refl _) hb).2 (by omega)
      have q1 := hc1 k hlt
      have q2 := hc2 k hlt
      have hki : (k : Int) < (n : Int) := by omega
      have hk0 : (0 : Int) ≤ (k : Int) := by omega
      clear hc1 hc2
      generalize xs.getD k 0 = u at *
      go_wp2_with (fail)
      refine wp_region_more (by kernel_rfl) (by kernel_rfl) ?_
      repeat (first | go_big_quiet_step ((fail)) | quiet_step ((fail)))
      refine wpQuiet_nil ?_
      intro _ hw'
      obtain ⟨tq, hw''⟩ := hw'
      subst hw''
      have hbm := below_more wr tq
      go_wp2
      go_roundw
      case rel => exact ⟨k + 1, by omega, by go_num, hb.trans (hbm.mono hb.size)⟩
      case measure => simp [intOf]; omega
    · go_wp2
      go_ret
      exact ⟨rfl, hb⟩

set_option maxRecDepth 100000 in
theorem eqBoard_yes (A1 A2 B1 B2 : Option Addr) (n1 c1 n2 c2 d1 d2 : Nat) (xs ys : List Int) (w : World) (h1 : SL w A1 n1 xs) (h2 : SL w A2 n2 ys) (k1 : SL w B1 n1 xs) (k2 : SL w B2 n2 ys) (hn1 : n1 ≤ 2000000) (hn2 : n2 ≤ 2000000) :
    Calls Tryd.prog 28 #[.agg #[.slice A1 n1 c1, .slice A2 n2 c2], .agg #[.slice B1 n1 d1, .slice B2 n2 d2]] w fun e w' => e = .returned (.bool true) ∧ Below w.heap.size w w' := by
  have HB : Hid (Below w.heap.size w ((w.alloc (.cells #[.slice A1 n1 c1, .slice A2 n2 c2] 35)).alloc (.cells #[.slice B1 n1 d1, .slice B2 n2 d2] 35))) := ((Below.refl _ _).alloc (Nat.le_refl _) _).alloc (by simp) _
  have C1 := Lib.hid (eqInt64S_yes A1 B1 n1 c1 d1 xs _ (h1.below HB.out) (k1.below HB.out) hn1)
  have C2 := Lib.hid fun t => eqInt64S_yes A2 B2 n2 c2 d2 ys (more _ t) ((h2.below HB.out).more t) ((k2.below HB.out).more t) hn2
  clear h1 h2 k1 k2
  go_enter Tryd.func28, Tryd.ntmps28
  go_wp2_with (first | (go_at_call_of 52 A1; refine (more_first C1.out).mono ?_; rintro e w' ⟨rfl, t, rfl⟩) | (go_at_call_of 52 A2; refine (more_call (C2.out _)).mono ?_; rintro e w' ⟨rfl, t, rfl⟩))
  go_ret
  exact ⟨rfl, HB.out.trans ((below_more _ _).mono HB.out.size)⟩

/-- The numbers k, k + 1, .. -/
def seqL (k n : Nat) : List Int := (List.range n).map fun i => ((k + i : Nat) : Int)
theorem seqL_length (k n : Nat) : (seqL k n).length = n := by simp [seqL]
theorem seqL_getD (k n i : Nat) (h : i < n) : (seqL k n).getD i 0 = ((k + i : Nat) : Int) := by simp [seqL, List.getD, h]

theorem mixL_step (k : Nat) (xs : List Int) (i : Nat) (h : i < xs.length) : (seqL k i ++ xs.drop i).set i ((k + i : Nat) : Int) = seqL k (i + 1) ++ xs.drop (i + 1) := by
  rw [List.set_append_right _ _ (by rw [seqL_length]; omega), seqL_length, Nat.sub_self, List.drop_eq_getElem_cons h, List.set_cons_zero]
  simp [seqL, List.range_succ]

theorem grown_trans' {a b c : World} {r : Option Nat} (h : a.grownBy b r) (k : b.grownBy c r) : a.grownBy c r :=
  ⟨k.os.trans h.os, k.tape.trans h.tape, k.output.trans h.output, Nat.le_trans h.size k.size, fun i hi hne => (k.block i (Nat.lt_of_lt_of_le hi h.size) hne).trans (h.block i hi hne)⟩

end Go.Proofs.YtkjlafcnmniomaaDoor

/- Contracts of holding desks against each other, and of marking a desk without a past. There are no conditions. -/
import Derived.Test.YtlbkfhdnhalpbaaL2
namespace Go.Proofs.Ytlbkfhdnhalpbaa
set_option linter.unusedVariables false
set_option linter.unusedSimpArgs false
open Go.RowKit

set_option maxHeartbeats 600000 in
set_option maxRecDepth 100000 in
theorem eqDesk_yes (p c h s ra rb seed : Int) (A1 A2 A3 B1 B2 B3 : Option Addr) (n1 c1 n2 c2 n3 c3 d1 d2 d3 : Nat) (xs ys : List Int) (w : World) (h1 : SL w A1 n1 xs) (h2 : SL w A2 n2 ys) (k1 : SL w B1 n1 xs) (k2 : SL w B2 n2 ys) (hn1 : n1 ≤ 2000000) (hn2 : n2 ≤ 2000000)
    (hp : ∀ W, Below w.heap.size w W → Calls Try.prog 31 #[.slice A3 n3 c3, .slice B3 n3 d3] W fun e w' => e = .returned (.bool true) ∧ Below W.heap.size W w') :
    Calls Try.prog 9 #[.agg #[.int .i64 p, .int .i64 c, .int .i64 h, .int .i64 s, .slice A1 n1 c1, .slice A2 n2 c2, .int .i64 ra, .int .i64 rb, .int .i64 seed, .slice A3 n3 c3], .agg #[.int .i64 p, .int .i64 c, .int .i64 h, .int .i64 s, .slice B1 n1 d1, .slice B2 n2 d2, .int .i64 ra, .int .i64 rb, .int .i64 seed, .slice B3 n3 d3]] w
      fun e w' => e = .returned (.bool true) ∧ Below w.heap.size w w' := by
  have HB : Hid (Below w.heap.size w ((w.alloc (.cells #[.int .i64 p, .int .i64 c, .int .i64 h, .int .i64 s, .slice A1 n1 c1, .slice A2 n2 c2, .int .i64 ra, .int .i64 rb, .int .i64 seed, .slice A3 n3 c3] 32)).alloc (.cells #[.int .i64 p, .int .i64 c, .int .i64 h, .int .i64 s, .slice B1 n1 d1, .slice B2 n2 d2, .int .i64 ra, .int .i64 rb, .int .i64 seed, .slice B3 n3 d3] 32))) := ((Below.refl _ _).alloc (Nat.le_refl _) _).alloc (by simp) _
  have C1 := Lib.hid fun t => eqBoard_yes A1 A2 B1 B2 n1 c1 n2 c2 d1 d2 xs ys (more _ t) ((h1.below HB.out).more t) ((h2.below HB.out).more t) ((k1.below HB.out).more t) ((k2.below HB.out).more t) hn1 hn2
  have C2 := Lib.hid fun t => hp (more _ t) (HB.out.trans ((below_more _ t).mono HB.out.size))
  clear h1 h2 k1 k2 hp
  go_enter Try.func9, Try.ntmps9
  go_wp2_with (first | (go_at_call 28; refine (more_first (eqVariant_yes _ _ _ _ _)).mono ?_; rintro e w' ⟨rfl, t, rfl⟩) | (go_at_call 29; refine (more_call (C1.out _)).mono ?_; rintro e w' ⟨rfl, t, rfl⟩) | (go_at_call 30; refine (more_call (eqRoll_yes _ _ _)).mono ?_; rintro e w' ⟨rfl, t, rfl⟩) | (go_at_call 31; refine (more_call (C2.out _)).mono ?_; rintro e w' ⟨rfl, t, rfl⟩))
  go_ret
  exact ⟨rfl, HB.out.trans ((below_more _ _).mono HB.out.size)⟩

set_option maxHeartbeats 600000 in
set_option maxRecDepth 100000 in
theorem markDesk_zero (p c h s ra rb seed : Int) (A1 A2 A3 : Option Addr) (n1 c1 n2 c2 c3 b : Nat) (e : TypeId) (xs ys : List Int) (k : Nat) (w : World) (h1 : OwnS w b e (.slice A1 n1 c1) xs) (h2 : OwnS w b e (.slice A2 n2 c2) ys)
    (ha : Apart (.slice A1 n1 c1) (.slice A2 n2 c2)) (hn1 : n1 ≤ 2000000) (hn2 : n2 ≤ 2000000) (hk : k ≤ 90000000) :
    Calls Try.prog 10 #[.agg #[.int .i64 p, .int .i64 c, .int .i64 h, .int .i64 s, .slice A1 n1 c1, .slice A2 n2 c2, .int .i64 ra, .int .i64 rb, .int .i64 seed, .slice A3 0 c3], .int .i64 k] w
      fun en w' => en = .returned (.int .i64 ((k + n1 + n2 : Nat) : Int)) ∧ OwnS w' b e (.slice A1 n1 c1) (seqL k n1) ∧ OwnS w' b e (.slice A2 n2 c2) (seqL (k + n1) n2) ∧
      Frm (fun j => some j = (Value.slice A1 n1 c1).ownBlock ∨ some j = (Value.slice A2 n2 c2).ownBlock) w w' := by
  have L1 := Lib.hid h1.lt
  have L2 := Lib.hid h2.lt
  have H1 := Lib.hid (h1.alloc (.cells #[.int .i64 p, .int .i64 c, .int .i64 h, .int .i64 s, .slice A1 n1 c1, .slice A2 n2 c2, .int .i64 ra, .int .i64 rb, .int .i64 seed, .slice A3 0 c3] 32))
  have H2 := Lib.hid (h2.alloc (.cells #[.int .i64 p, .int .i64 c, .int .i64 h, .int .i64 s, .slice A1 n1 c1, .slice A2 n2 c2, .int .i64 ra, .int .i64 rb, .int .i64 seed, .slice A3 0 c3] 32))
  have HA := Lib.hid ha
  clear h1 h2 ha
  go_enter Try.func10, Try.ntmps10
  go_wp2_with (fail)
  refine (markBoard_any A1 A2 n1 c1 n2 c2 b e xs ys k _ H1.out H2.out HA.out hn1 hn2 hk).mono ?_
  rintro en w1 ⟨rfl, ho1, ho2, hf⟩
  have d1 : w1.cell? ⟨w.heap.size, 9, none⟩ = some (.slice A3 0 c3) := hf.cell (v := .slice A3 0 c3) (by simp [go_sem]) (fun h => h.elim (fun h => by have := (L1.out _ h.symm).2; simp at this) (fun h => by have := (L2.out _ h.symm).2; simp at this))
  have P1 := Lib.hid ho1
  have P2 := Lib.hid ho2
  have F := Lib.hid hf
  clear ho1 ho2 hf
  have hK := Nat.zero_le (k + n1 + n2)
  generalize hk2 : ((k + n1 + n2 : Nat) : Int) = K at *
  have HK := Lib.hid hk2
  clear hk2
  go_wp2_with (go_at_call 33; refine (markBoardS_zero A3 c3 K _).mono ?_; rintro en w2 ⟨rfl, rfl⟩)
  go_ret
  exact ⟨ret_int (by have := HK.out; omega), P1.out, P2.out, ((Frm.of_below ((Below.refl _ _).alloc (Nat.le_refl _) _)).mono (fun _ h => h.elim)).trans F.out⟩

set_option maxHeartbeats 600000 in
set_option maxRecDepth 100000 in
theorem heldDesk_zero (p c h s ra rb seed : Int) (A1 A2 A3 : Option Addr) (n1 c1 n2 c2 c3 k : Nat) (w : World) (h1 : SL w A1 n1 (seqL k n1)) (h2 : SL w A2 n2 (seqL (k + n1) n2)) (hn1 : n1 ≤ 2000000) (hn2 : n2 ≤ 2000000) (hk : k ≤ 90000000) :
    Calls Try.prog 11 #[.agg #[.int .i64 p, .int .i64 c, .int .i64 h, .int .i64 s, .slice A1 n1 c1, .slice A2 n2 c2, .int .i64 ra, .int .i64 rb, .int .i64 seed, .slice A3 0 c3], .int .i64 k] w
      fun en w' => en = .returned (.int .i64 ((k + n1 + n2 : Nat) : Int)) ∧ Below w.heap.size w w' := by
  have HB : Hid (Below w.heap.size w (w.alloc (.cells #[.int .i64 p, .int .i64 c, .int .i64 h, .int .i64 s, .slice A1 n1 c1, .slice A2 n2 c2, .int .i64 ra, .int .i64 rb, .int .i64 seed, .slice A3 0 c3] 32))) := (Below.refl _ _).alloc (Nat.le_refl _) _
  have C1 := Lib.hid (heldBoard_yes A1 A2 n1 c1 n2 c2 k _ (h1.below HB.out) (h2.below HB.out) hn1 hn2 hk)
  clear h1 h2
  have hK0 : (0 : Int) ≤ ((k + n1 + n2 : Nat) : Int) := by omega
  have hK1 : ((k + n1 + n2 : Nat) : Int) ≤ 100000000 := by omega
  generalize hk2 : ((k + n1 + n2 : Nat) : Int) = K at *
  go_enter Try.func11, Try.ntmps11
  go_wp2_with (first | (go_at_call 34; refine (more_first C1.out).mono ?_; rintro e w' ⟨rfl, t, rfl⟩) | (go_at_call 35; refine (heldBoardS_zero A3 c3 K _).mono ?_; rintro en w2 ⟨rfl, rfl⟩))
  go_ret
  exact ⟨rfl, HB.out.trans ((below_more _ _).mono HB.out.size)⟩
end Go.Proofs.Ytlbkfhdnhalpbaa

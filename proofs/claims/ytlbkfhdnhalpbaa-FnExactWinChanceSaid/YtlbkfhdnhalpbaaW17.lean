/- Joined texts of one proof: N15, N16, N17, Map, QM. Each part tells what it shows. There are no conditions. -/
import Derived.Test.YtlbkfhdnhalpbaaW16
import Derived.Test.YtlbkfhdnhalpbaaW3
import Derived.Test.YtlbkfhdnhalpbaaW10
import Derived.Maps.OwnSet
import Derived.Maps.Ext
import Derived.Test.YtlbkfhdnhalpbaaW5

/- Contracts of one minus a number, the program's and the reference's. There are no conditions. -/
namespace Go.Proofs.Ytlbkfhdnhalpbaa
set_option linter.unusedVariables false
set_option linter.unusedSimpArgs false
open Go.RowKit Ps Ra Ex

theorem l11One_any (w : World) : Calls Try.prog 67 #[] w fun e w' => e = .returned (.agg #[.int .i64 1, .int .i64 0]) ∧ Below w.heap.size w w' := by
  go_enter Try.func67, Try.ntmps67
  go_wp2
  refine bodyPost_ret (v := .agg #[.int .i64 1, .int .i64 0]) (by simp [results, Try.results67, go_sem]) rfl ⟨rfl, ?_⟩
  exact (Below.refl _ _).alloc (Nat.le_refl _) _


set_option maxRecDepth 10000 in
theorem oneMinus_any (p c h xn : Int) (s xd : Nat) (w : World) (hs1 : 1 ≤ s) (hs6 : s ≤ 6) (hx : Val (sq s) ⟨xn, xd⟩) :
    Calls Try.prog 110 #[.agg #[.int .i64 p, .int .i64 c, .int .i64 h, .int .i64 s], .agg #[.int .i64 xn, .int .i64 xd]] w (RetE w (oneM (sq s) ⟨xn, xd⟩)) := by
  obtain ⟨hq1, hq36, _⟩ := sq_bd hs1 hs6
  have hx1 : -1000000000000000000 ≤ xn := hx.1
  have hx2 : xn ≤ 1000000000000000000 := hx.2.1
  have hd50 : xd < 50 := depth_lt hq1 hx
  have HF : Hid (Fr w (((w.alloc (.cells #[.int .i64 p, .int .i64 c, .int .i64 h, .int .i64 s] 24)).alloc (.cells #[.int .i64 xn, .int .i64 xd] 49)).alloc (.cells #[.int .i64 0, .int .i64 0] 49)) [[.int .i64 p, .int .i64 c, .int .i64 h, .int .i64 s], [.int .i64 xn, .int .i64 xd], [.int .i64 0, .int .i64 0]]) :=
    (((Fr.start w).allocT (by simp) _ _).allocT (by simp) _ _).allocT (by simp) _ _
  rcases hm : oneM (sq s) ⟨xn, xd⟩ with _ | ⟨m, d⟩
  · have AD : Hid (∀ W : World, Calls Try.prog 107 #[.agg #[.int .i64 p, .int .i64 c, .int .i64 h, .int .i64 s], .agg #[.int .i64 1, .int .i64 0], .agg #[.int .i64 (-xn), .int .i64 xd]] W fun e w' => e = .returned (.tuple #[.agg #[.int .i64 0, .int .i64 0], .bool false]) ∧ Below W.heap.size W w') := fun W => by
      have := addExact_any p c h 1 (-xn) s 0 xd W hs1 hs6 one_val (neg_val hx); rw [show addE (sq s) ⟨1, 0⟩ ⟨-xn, xd⟩ = oneM (sq s) ⟨xn, xd⟩ from rfl, hm] at this; exact this
    clear hx
    go_enter Try.func110, Try.ntmps110
    go_wp2_with (fail)
    refine (more_first (AD.out _)).mono ?_
    rintro e w' ⟨rfl, t, rfl⟩
    have HZ := Lib.hid (HF.out.more t)
    generalize more (((w.alloc (.cells #[.int .i64 p, .int .i64 c, .int .i64 h, .int .i64 s] 24)).alloc (.cells #[.int .i64 xn, .int .i64 xd] 49)).alloc (.cells #[.int .i64 0, .int .i64 0] 49)) t = Z at *
    have z0 : w.heap.size < Z.heap.size := HZ.out.ltA 0 rfl (by simp)
    have c00 := HZ.out.cellA (b := w.heap.size) 0 0 rfl rfl
    have f00 := HZ.out.frozA (b := w.heap.size) 0 0 rfl rfl
    have c01 := HZ.out.cellA (b := w.heap.size) 0 1 rfl rfl
    have f01 := HZ.out.frozA (b := w.heap.size) 0 1 rfl rfl
    have c02 := HZ.out.cellA (b := w.heap.size) 0 2 rfl rfl
    have f02 := HZ.out.frozA (b := w.heap.size) 0 2 rfl rfl
    have c03 := HZ.out.cellA (b := w.heap.size) 0 3 rfl rfl
    have f03 := HZ.out.frozA (b := w.heap.size) 0 3 rfl rfl
    have z1 : w.heap.size + 1 < Z.heap.size := HZ.out.ltA 1 rfl (by simp)
    have c10 := HZ.out.cellA (b := w.heap.size + 1) 1 0 rfl rfl
    have f10 := HZ.out.frozA (b := w.heap.size + 1) 1 0 rfl rfl
    have c11 := HZ.out.cellA (b := w.heap.size + 1) 1 1 rfl rfl
    have f11 := HZ.out.frozA (b := w.heap.size + 1) 1 1 rfl rfl
    have z2 : w.heap.size + 1 + 1 < Z.heap.size := HZ.out.ltA 2 rfl (by simp)
    have c20 := HZ.out.cellA (b := w.heap.size + 1 + 1) 2 0 rfl rfl
    have f20 := HZ.out.frozA (b := w.heap.size + 1 + 1) 2 0 rfl rfl
    have c21 := HZ.out.cellA (b := w.heap.size + 1 + 1) 2 1 rfl rfl
    have f21 := HZ.out.frozA (b := w.heap.size + 1 + 1) 2 1 rfl rfl
    go_wp2_with (fail)
    refine bodyPost_ret (v := .tuple #[.agg #[.int .i64 0, .int .i64 0], .bool false]) (by simp [results, Try.results110, go_sem, c20, c21, z2, f20, f21]) rfl (RetE.mkN rfl ?_)
    repeat (first | exact HZ.out.b | refine stw ?_ (by omega))
  · have AD : Hid (∀ W : World, Calls Try.prog 107 #[.agg #[.int .i64 p, .int .i64 c, .int .i64 h, .int .i64 s], .agg #[.int .i64 1, .int .i64 0], .agg #[.int .i64 (-xn), .int .i64 xd]] W fun e w' => e = .returned (.tuple #[.agg #[.int .i64 m, .int .i64 d], .bool true]) ∧ Below W.heap.size W w') := fun W => by
      have := addExact_any p c h 1 (-xn) s 0 xd W hs1 hs6 one_val (neg_val hx); rw [show addE (sq s) ⟨1, 0⟩ ⟨-xn, xd⟩ = oneM (sq s) ⟨xn, xd⟩ from rfl, hm] at this; exact this
    clear hx
    go_enter Try.func110, Try.ntmps110
    go_wp2_with (fail)
    refine (more_first (AD.out _)).mono ?_
    rintro e w' ⟨rfl, t, rfl⟩
    have HZ := Lib.hid (HF.out.more t)
    generalize more (((w.alloc (.cells #[.int .i64 p, .int .i64 c, .int .i64 h, .int .i64 s] 24)).alloc (.cells #[.int .i64 xn, .int .i64 xd] 49)).alloc (.cells #[.int .i64 0, .int .i64 0] 49)) t = Z at *
    have z0 : w.heap.size < Z.heap.size := HZ.out.ltA 0 rfl (by simp)
    have c00 := HZ.out.cellA (b := w.heap.size) 0 0 rfl rfl
    have f00 := HZ.out.frozA (b := w.heap.size) 0 0 rfl rfl
    have c01 := HZ.out.cellA (b := w.heap.size) 0 1 rfl rfl
    have f01 := HZ.out.frozA (b := w.heap.size) 0 1 rfl rfl
    have c02 := HZ.out.cellA (b := w.heap.size) 0 2 rfl rfl
    have f02 := HZ.out.frozA (b := w.heap.size) 0 2 rfl rfl
    have c03 := HZ.out.cellA (b := w.heap.size) 0 3 rfl rfl
    have f03 := HZ.out.frozA (b := w.heap.size) 0 3 rfl rfl
    have z1 : w.heap.size + 1 < Z.heap.size := HZ.out.ltA 1 rfl (by simp)
    have c10 := HZ.out.cellA (b := w.heap.size + 1) 1 0 rfl rfl
    have f10 := HZ.out.frozA (b := w.heap.size + 1) 1 0 rfl rfl
    have c11 := HZ.out.cellA (b := w.heap.size + 1) 1 1 rfl rfl
    have f11 := HZ.out.frozA (b := w.heap.size + 1) 1 1 rfl rfl
    have z2 : w.heap.size + 1 + 1 < Z.heap.size := HZ.out.ltA 2 rfl (by simp)
    have c20 := HZ.out.cellA (b := w.heap.size + 1 + 1) 2 0 rfl rfl
    have f20 := HZ.out.frozA (b := w.heap.size + 1 + 1) 2 0 rfl rfl
    have c21 := HZ.out.cellA (b := w.heap.size + 1 + 1) 2 1 rfl rfl
    have f21 := HZ.out.frozA (b := w.heap.size + 1 + 1) 2 1 rfl rfl
    go_wp2_with (fail)
    refine bodyPost_ret (v := .tuple #[.agg #[.int .i64 m, .int .i64 d], .bool true]) (by simp [results, Try.results110, go_sem, c20, c21, z2, f20, f21]) rfl (RetE.mkY rfl ?_)
    repeat (first | exact HZ.out.b | refine stw ?_ (by omega))

set_option maxRecDepth 10000 in
theorem l12Minus_any (p c h xn : Int) (s xd : Nat) (w : World) (hs1 : 1 ≤ s) (hs6 : s ≤ 6) (hx : Val (sq s) ⟨xn, xd⟩) :
    Calls Try.prog 93 #[.agg #[.int .i64 p, .int .i64 c, .int .i64 h, .int .i64 s], .agg #[.int .i64 xn, .int .i64 xd]] w (RetE w (oneM (sq s) ⟨xn, xd⟩)) := by
  obtain ⟨hq1, hq36, _⟩ := sq_bd hs1 hs6
  have hx1 : -1000000000000000000 ≤ xn := hx.1
  have hx2 : xn ≤ 1000000000000000000 := hx.2.1
  have hd50 : xd < 50 := depth_lt hq1 hx
  have HF : Hid (Fr w (((w.alloc (.cells #[.int .i64 p, .int .i64 c, .int .i64 h, .int .i64 s] 24)).alloc (.cells #[.int .i64 xn, .int .i64 xd] 49)).alloc (.cells #[.int .i64 0, .int .i64 0] 49)) [[.int .i64 p, .int .i64 c, .int .i64 h, .int .i64 s], [.int .i64 xn, .int .i64 xd], [.int .i64 0, .int .i64 0]]) :=
    (((Fr.start w).allocT (by simp) _ _).allocT (by simp) _ _).allocT (by simp) _ _
  rcases hm : oneM (sq s) ⟨xn, xd⟩ with _ | ⟨m, d⟩
  · have AD : Hid (∀ W : World, Calls Try.prog 86 #[.agg #[.int .i64 p, .int .i64 c, .int .i64 h, .int .i64 s], .agg #[.int .i64 1, .int .i64 0], .agg #[.int .i64 (-xn), .int .i64 xd]] W fun e w' => e = .returned (.tuple #[.agg #[.int .i64 0, .int .i64 0], .bool false]) ∧ Below W.heap.size W w') := fun W => by
      have := l09Add_any p c h 1 (-xn) s 0 xd W hs1 hs6 one_val (neg_val hx); rw [show addE (sq s) ⟨1, 0⟩ ⟨-xn, xd⟩ = oneM (sq s) ⟨xn, xd⟩ from rfl, hm] at this; exact this
    clear hx
    go_enter Try.func93, Try.ntmps93
    go_wp2_with (fail)
    first | refine wp_region_tail_more2 11 (by kernel_rfl) (by kernel_rfl) ?_ | refine wp_region_tail_more 11 (by kernel_rfl) (by kernel_rfl) ?_
    simp only [List.take_succ_cons, List.take_zero, List.drop_succ_cons, List.drop_zero]
    repeat (first | go_big_quiet_step (first | (go_at_call 86; exact more_call (AD.out _)) | (go_at_call 67; exact more_call (l11One_any _))) | quiet_step (first | (go_at_call 86; exact more_call (AD.out _)) | (go_at_call 67; exact more_call (l11One_any _))))
    refine wpQuiet_nil ?_
    intro _ hw'
    obtain ⟨t, hw''⟩ := hw'
    subst hw''
    have HZ := Lib.hid (HF.out.more t)
    generalize more (((w.alloc (.cells #[.int .i64 p, .int .i64 c, .int .i64 h, .int .i64 s] 24)).alloc (.cells #[.int .i64 xn, .int .i64 xd] 49)).alloc (.cells #[.int .i64 0, .int .i64 0] 49)) t = Z at *
    have z0 : w.heap.size < Z.heap.size := HZ.out.ltA 0 rfl (by simp)
    have c00 := HZ.out.cellA (b := w.heap.size) 0 0 rfl rfl
    have f00 := HZ.out.frozA (b := w.heap.size) 0 0 rfl rfl
    have c01 := HZ.out.cellA (b := w.heap.size) 0 1 rfl rfl
    have f01 := HZ.out.frozA (b := w.heap.size) 0 1 rfl rfl
    have c02 := HZ.out.cellA (b := w.heap.size) 0 2 rfl rfl
    have f02 := HZ.out.frozA (b := w.heap.size) 0 2 rfl rfl
    have c03 := HZ.out.cellA (b := w.heap.size) 0 3 rfl rfl
    have f03 := HZ.out.frozA (b := w.heap.size) 0 3 rfl rfl
    have z1 : w.heap.size + 1 < Z.heap.size := HZ.out.ltA 1 rfl (by simp)
    have c10 := HZ.out.cellA (b := w.heap.size + 1) 1 0 rfl rfl
    have f10 := HZ.out.frozA (b := w.heap.size + 1) 1 0 rfl rfl
    have c11 := HZ.out.cellA (b := w.heap.size + 1) 1 1 rfl rfl
    have f11 := HZ.out.frozA (b := w.heap.size + 1) 1 1 rfl rfl
    have z2 : w.heap.size + 1 + 1 < Z.heap.size := HZ.out.ltA 2 rfl (by simp)
    have c20 := HZ.out.cellA (b := w.heap.size + 1 + 1) 2 0 rfl rfl
    have f20 := HZ.out.frozA (b := w.heap.size + 1 + 1) 2 0 rfl rfl
    have c21 := HZ.out.cellA (b := w.heap.size + 1 + 1) 2 1 rfl rfl
    have f21 := HZ.out.frozA (b := w.heap.size + 1 + 1) 2 1 rfl rfl
    go_wp2_with (fail)
    refine bodyPost_ret (v := .tuple #[.agg #[.int .i64 0, .int .i64 0], .bool false]) (by simp [results, Try.results93, go_sem, c20, c21, z2, f20, f21]) rfl (RetE.mkN rfl ?_)
    repeat (first | exact HZ.out.b | refine stw ?_ (by omega))
  · have AD : Hid (∀ W : World, Calls Try.prog 86 #[.agg #[.int .i64 p, .int .i64 c, .int .i64 h, .int .i64 s], .agg #[.int .i64 1, .int .i64 0], .agg #[.int .i64 (-xn), .int .i64 xd]] W fun e w' => e = .returned (.tuple #[.agg #[.int .i64 m, .int .i64 d], .bool true]) ∧ Below W.heap.size W w') := fun W => by
      have := l09Add_any p c h 1 (-xn) s 0 xd W hs1 hs6 one_val (neg_val hx); rw [show addE (sq s) ⟨1, 0⟩ ⟨-xn, xd⟩ = oneM (sq s) ⟨xn, xd⟩ from rfl, hm] at this; exact this
    clear hx
    go_enter Try.func93, Try.ntmps93
    go_wp2_with (fail)
    first | refine wp_region_tail_more2 11 (by kernel_rfl) (by kernel_rfl) ?_ | refine wp_region_tail_more 11 (by kernel_rfl) (by kernel_rfl) ?_
    simp only [List.take_succ_cons, List.take_zero, List.drop_succ_cons, List.drop_zero]
    repeat (first | go_big_quiet_step (first | (go_at_call 86; exact more_call (AD.out _)) | (go_at_call 67; exact more_call (l11One_any _))) | quiet_step (first | (go_at_call 86; exact more_call (AD.out _)) | (go_at_call 67; exact more_call (l11One_any _))))
    refine wpQuiet_nil ?_
    intro _ hw'
    obtain ⟨t, hw''⟩ := hw'
    subst hw''
    have HZ := Lib.hid (HF.out.more t)
    generalize more (((w.alloc (.cells #[.int .i64 p, .int .i64 c, .int .i64 h, .int .i64 s] 24)).alloc (.cells #[.int .i64 xn, .int .i64 xd] 49)).alloc (.cells #[.int .i64 0, .int .i64 0] 49)) t = Z at *
    have z0 : w.heap.size < Z.heap.size := HZ.out.ltA 0 rfl (by simp)
    have c00 := HZ.out.cellA (b := w.heap.size) 0 0 rfl rfl
    have f00 := HZ.out.frozA (b := w.heap.size) 0 0 rfl rfl
    have c01 := HZ.out.cellA (b := w.heap.size) 0 1 rfl rfl
    have f01 := HZ.out.frozA (b := w.heap.size) 0 1 rfl rfl
    have c02 := HZ.out.cellA (b := w.heap.size) 0 2 rfl rfl
    have f02 := HZ.out.frozA (b := w.heap.size) 0 2 rfl rfl
    have c03 := HZ.out.cellA (b := w.heap.size) 0 3 rfl rfl
    have f03 := HZ.out.frozA (b := w.heap.size) 0 3 rfl rfl
    have z1 : w.heap.size + 1 < Z.heap.size := HZ.out.ltA 1 rfl (by simp)
    have c10 := HZ.out.cellA (b := w.heap.size + 1) 1 0 rfl rfl
    have f10 := HZ.out.frozA (b := w.heap.size + 1) 1 0 rfl rfl
    have c11 := HZ.out.cellA (b := w.heap.size + 1) 1 1 rfl rfl
    have f11 := HZ.out.frozA (b := w.heap.size + 1) 1 1 rfl rfl
    have z2 : w.heap.size + 1 + 1 < Z.heap.size := HZ.out.ltA 2 rfl (by simp)
    have c20 := HZ.out.cellA (b := w.heap.size + 1 + 1) 2 0 rfl rfl
    have f20 := HZ.out.frozA (b := w.heap.size + 1 + 1) 2 0 rfl rfl
    have c21 := HZ.out.cellA (b := w.heap.size + 1 + 1) 2 1 rfl rfl
    have f21 := HZ.out.frozA (b := w.heap.size + 1 + 1) 2 1 rfl rfl
    go_wp2_with (fail)
    refine bodyPost_ret (v := .tuple #[.agg #[.int .i64 m, .int .i64 d], .bool true]) (by simp [results, Try.results93, go_sem, c20, c21, z2, f20, f21]) rfl (RetE.mkY rfl ?_)
    repeat (first | exact HZ.out.b | refine stw ?_ (by omega))
end Go.Proofs.Ytlbkfhdnhalpbaa

/- Contracts of what is a bear-off position, the program's and the reference's. There are no conditions. -/
namespace Go.Proofs.Ytlbkfhdnhalpbaa
set_option linter.unusedVariables false
set_option linter.unusedSimpArgs false
open Go.RowKit Ps

/-- xs is a bear-off position: h numbers, none negative, of sum at most c. -/
def PosI (h c : Int) (xs : List Int) : Prop := (xs.length : Int) = h ∧ (∀ x ∈ xs, 0 ≤ x) ∧ xs.sum ≤ c
instance (h c : Int) (xs : List Int) : Decidable (PosI h c xs) := by unfold PosI; infer_instance
def posB (h c : Int) (xs : List Int) : Bool := decide (PosI h c xs)
theorem posB_yes {h c : Int} {xs : List Int} (H : posB h c xs = true) : PosI h c xs := of_decide_eq_true H
theorem posB_pos {h c : Nat} {xs : List Int} (H : posB h c xs = true) : PosP h c xs := by
  obtain ⟨h1, h2, h3⟩ := posB_yes H
  exact ⟨by omega, h2, h3⟩
theorem posB_len {h c : Int} {xs : List Int} (H : (xs.length : Int) ≠ h) : posB h c xs = false := decide_eq_false fun h => H h.1
theorem posB_neg {h c : Int} {xs : List Int} {x : Int} (hx : x ∈ xs) (h0 : x < 0) : posB h c xs = false := decide_eq_false fun H => by have := H.2.1 x hx; omega
theorem posB_far {h c : Int} {xs : List Int} (k : Nat) (hs : c < (xs.take k).sum) : posB h c xs = false := decide_eq_false fun H => by
  have := sum_take_le xs k H.2.1
  have := H.2.2
  omega
theorem posB_full {h c : Int} {xs : List Int} (hl : (xs.length : Int) = h) (h0 : ∀ x ∈ xs, 0 ≤ x) (hs : xs.sum ≤ c) : posB h c xs = true := decide_eq_true ⟨hl, h0, hs⟩
theorem mem_take_succ {xs : List Int} {k : Nat} {x : Int} (hk : k < xs.length) (h : x ∈ xs.take (k + 1)) : x ∈ xs.take k ∨ x = xs.getD k 0 := by
  rw [List.take_succ_eq_append_getElem hk] at h
  rcases List.mem_append.1 h with h | h
  · exact .inl h
  · right; simpa [List.getD, hk] using h

set_option maxRecDepth 10000 in
theorem isBearoff_any (p c h s : Int) (A : Option Addr) (n cp : Nat) (xs : List Int) (w : World) (hx : SL w A n xs) (hc1 : 0 ≤ c) (hc2 : c ≤ 15) (hh : h ≤ 24) :
    Calls Try.prog 89 #[.agg #[.int .i64 p, .int .i64 c, .int .i64 h, .int .i64 s], .slice A n cp] w fun e w' => e = .returned (.bool (posB h c xs)) ∧ Below w.heap.size w w' := by
  have HB : Hid (Below w.heap.size w (w.alloc (.cells #[.int .i64 p, .int .i64 c, .int .i64 h, .int .i64 s] 24))) := (Below.refl _ _).alloc (Nat.le_refl _) _
  have hl : xs.length = n := hx.1
  have HX := Lib.hid (hx.alloc (.cells #[.int .i64 p, .int .i64 c, .int .i64 h, .int .i64 s] 24))
  have HL := Lib.hid hl
  clear hx hl
  by_cases hn : (n : Int) = h
  · have hn24 : n ≤ 24 := by omega
    have e1 : ((n : Int) != h) = false := by simp [hn]
    have HN := Lib.hid hn
    clear hn
    go_enter Try.func89, Try.ntmps89
    go_wp2
    go_loop [5, 17] (fun l i => ∃ k : Nat, k ≤ n ∧ i = .int .i64 k ∧ l = .int .i64 (c - (xs.take k).sum) ∧ Hid (∀ x ∈ xs.take k, 0 ≤ x) ∧ Hid ((xs.take k).sum ≤ c) ∧ 0 ≤ (xs.take k).sum) (fun _ i => n - (intOf i).toNat)
    case atStart => exact ⟨0, by omega, rfl, by simp, by unfold Hid; simp, by unfold Hid; simpa using hc1, by simp⟩
    case round =>
      obtain ⟨k, hk, rfl, rfl, h0, hs, hs0⟩ := hrel
      have hs' := hs.out
      by_cases hlt : k < n
      · have hki : (k : Int) < (n : Int) := by omega
        obtain ⟨b, off, rfl, _, hc⟩ := HX.out.2 (by omega)
        have hcell := hc k hlt
        have e := Lib.hid (sum_take_succ xs k (by rw [HL.out]; exact hlt))
        have hm := Lib.hid (getD_mem xs k (by rw [HL.out]; exact hlt))
        have ht : Hid (∀ y, y ∈ xs.take (k + 1) → y ∈ xs.take k ∨ y = xs.getD k 0) := fun y hy => mem_take_succ (by rw [HL.out]; exact hlt) hy
        clear hc
        generalize xs.getD k 0 = x at *
        have E := Lib.hid e.out
        clear e
        generalize (xs.take k).sum = u at *
        by_cases hx0 : x < 0
        · have HR : Hid (posB h c xs = false) := posB_neg hm.out hx0
          have b1 : decide (x < 0) = true := decide_eq_true hx0
          have b2 : inB x 0 (c - u) = false := inB_no (by omega)
          go_wp2_with (fail)
          go_ret
          exact ⟨by rw [HR.out]; rfl, HB.out⟩
        · have b1 : decide (x < 0) = false := decide_eq_false hx0
          by_cases hx1 : c - u < x
          · have HR : Hid (posB h c xs = false) := posB_far (k + 1) (by rw [E.out]; omega)
            have b3 : decide (c - u < x) = true := decide_eq_true hx1
            have b2 : inB x 0 (c - u) = false := inB_no (by omega)
            go_wp2_with (fail)
            go_ret
            exact ⟨by rw [HR.out]; rfl, HB.out⟩
          · have b3 : decide (c - u < x) = false := decide_eq_false hx1
            have b2 : inB x 0 (c - u) = true := inB_yes (by omega)
            go_wp2_with (fail)
            go_round
            case rel => exact ⟨k + 1, by omega, by go_num, by rw [E.out]; go_num, fun y hy => by
                rcases ht.out y hy with h' | h'
                · exact h0.out y h'
                · omega, by unfold Hid; rw [E.out]; omega, by rw [E.out]; omega⟩
            case measure => simp [intOf]; omega
      · have hkn : k = n := by omega
        subst hkn
        have HR : Hid (posB h c xs = true) := by
          have e : xs.take k = xs := List.take_of_length_le (by rw [HL.out]; exact Nat.le_refl _)
          rw [e] at h0 hs
          exact posB_full (by rw [HL.out]; exact HN.out) h0.out hs.out
        go_wp2_with (fail)
        go_ret
        exact ⟨by rw [HR.out]; rfl, HB.out⟩
  · have e1 : ((n : Int) != h) = true := by simp [hn]
    have HR : Hid (posB h c xs = false) := posB_len (by rw [HL.out]; exact hn)
    go_enter Try.func89, Try.ntmps89
    go_wp2
    go_ret
    exact ⟨by rw [HR.out]; rfl, HB.out⟩
set_option maxRecDepth 10000 in
theorem l10Valid_any (p c h s : Int) (A : Option Addr) (n cp : Nat) (xs : List Int) (w : World) (hx : SL w A n xs) (hc1 : 0 ≤ c) (hc2 : c ≤ 15) (hh : h ≤ 24) :
    Calls Try.prog 64 #[.agg #[.int .i64 p, .int .i64 c, .int .i64 h, .int .i64 s], .slice A n cp] w fun e w' => e = .returned (.bool (posB h c xs)) ∧ Below w.heap.size w w' := by
  have HB : Hid (Below w.heap.size w (w.alloc (.cells #[.int .i64 p, .int .i64 c, .int .i64 h, .int .i64 s] 24))) := (Below.refl _ _).alloc (Nat.le_refl _) _
  have hl : xs.length = n := hx.1
  have HX := Lib.hid (hx.alloc (.cells #[.int .i64 p, .int .i64 c, .int .i64 h, .int .i64 s] 24))
  have HL := Lib.hid hl
  clear hx hl
  by_cases hn : (n : Int) = h
  · have hn24 : n ≤ 24 := by omega
    have e1 : ((n : Int) != h) = false := by simp [hn]
    have HN := Lib.hid hn
    clear hn
    go_enter Try.func64, Try.ntmps64
    go_wp2
    go_loop [5, 6] (fun l i => ∃ k : Nat, k ≤ n ∧ i = .int .i64 k ∧ l = .int .i64 (c - (xs.take k).sum) ∧ Hid (∀ x ∈ xs.take k, 0 ≤ x) ∧ Hid ((xs.take k).sum ≤ c) ∧ 0 ≤ (xs.take k).sum) (fun _ i => n - (intOf i).toNat)
    case atStart => exact ⟨0, by omega, rfl, by simp, by unfold Hid; simp, by unfold Hid; simpa using hc1, by simp⟩
    case round =>
      obtain ⟨k, hk, rfl, rfl, h0, hs, hs0⟩ := hrel
      have hs' := hs.out
      by_cases hlt : k < n
      · have hki : (k : Int) < (n : Int) := by omega
        obtain ⟨b, off, rfl, _, hc⟩ := HX.out.2 (by omega)
        have hcell := hc k hlt
        have e := Lib.hid (sum_take_succ xs k (by rw [HL.out]; exact hlt))
        have hm := Lib.hid (getD_mem xs k (by rw [HL.out]; exact hlt))
        have ht : Hid (∀ y, y ∈ xs.take (k + 1) → y ∈ xs.take k ∨ y = xs.getD k 0) := fun y hy => mem_take_succ (by rw [HL.out]; exact hlt) hy
        clear hc
        generalize xs.getD k 0 = x at *
        have E := Lib.hid e.out
        clear e
        generalize (xs.take k).sum = u at *
        by_cases hx0 : x < 0
        · have HR : Hid (posB h c xs = false) := posB_neg hm.out hx0
          have b1 : decide (x < 0) = true := decide_eq_true hx0
          have b2 : inB x 0 (c - u) = false := inB_no (by omega)
          go_wp2_with ((go_at_call 53; refine (l01In_any _ _ _ _).mono ?_; rintro e w' ⟨rfl, rfl⟩))
          go_ret
          exact ⟨by rw [HR.out]; rfl, HB.out⟩
        · have b1 : decide (x < 0) = false := decide_eq_false hx0
          by_cases hx1 : c - u < x
          · have HR : Hid (posB h c xs = false) := posB_far (k + 1) (by rw [E.out]; omega)
            have b3 : decide (c - u < x) = true := decide_eq_true hx1
            have b2 : inB x 0 (c - u) = false := inB_no (by omega)
            go_wp2_with ((go_at_call 53; refine (l01In_any _ _ _ _).mono ?_; rintro e w' ⟨rfl, rfl⟩))
            go_ret
            exact ⟨by rw [HR.out]; rfl, HB.out⟩
          · have b3 : decide (c - u < x) = false := decide_eq_false hx1
            have b2 : inB x 0 (c - u) = true := inB_yes (by omega)
            go_wp2_with ((go_at_call 53; refine (l01In_any _ _ _ _).mono ?_; rintro e w' ⟨rfl, rfl⟩))
            go_round
            case rel => exact ⟨k + 1, by omega, by go_num, by rw [E.out]; go_num, fun y hy => by
                rcases ht.out y hy with h' | h'
                · exact h0.out y h'
                · omega, by unfold Hid; rw [E.out]; omega, by rw [E.out]; omega⟩
            case measure => simp [intOf]; omega
      · have hkn : k = n := by omega
        subst hkn
        have HR : Hid (posB h c xs = true) := by
          have e : xs.take k = xs := List.take_of_length_le (by rw [HL.out]; exact Nat.le_refl _)
          rw [e] at h0 hs
          exact posB_full (by rw [HL.out]; exact HN.out) h0.out hs.out
        go_wp2_with (fail)
        go_ret
        exact ⟨by rw [HR.out]; rfl, HB.out⟩
  · have e1 : ((n : Int) != h) = true := by simp [hn]
    have HR : Hid (posB h c xs = false) := posB_len (by rw [HL.out]; exact hn)
    go_enter Try.func64, Try.ntmps64
    go_wp2
    go_ret
    exact ⟨by rw [HR.out]; rfl, HB.out⟩
end Go.Proofs.Ytlbkfhdnhalpbaa

/- Contracts of the number of a bear-off position, the program's and the reference's. There are no conditions. -/
namespace Go.Proofs.Ytlbkfhdnhalpbaa
set_option linter.unusedVariables false
set_option linter.unusedSimpArgs false
open Go.RowKit Ps

theorem numT_take {p : List Int} {i left : Nat} (hi : i < p.length) : numT (p.take (i + 1)).reverse left = sumW i left (p.getD i 0).toNat + numT (p.take i).reverse (left - (p.getD i 0).toNat) := by
  rw [List.take_succ_eq_append_getElem hi, List.reverse_append]
  have e : p[i] = p.getD i 0 := by simp [List.getD, hi]
  rw [e]
  show numT (p.getD i 0 :: (p.take i).reverse) left = _
  rw [numT_cons]
  simp [Nat.min_eq_left (Nat.le_of_lt hi)]
theorem sumT_take {p : List Int} {i : Nat} (hi : i < p.length) : (p.take (i + 1)).sum = (p.take i).sum + p.getD i 0 := sum_take_succ p i hi

set_option maxRecDepth 10000 in
set_option maxHeartbeats 1000000 in
theorem bearoffNumber_any (p s : Int) (c h : Nat) (A : Option Addr) (n cp : Nat) (xs : List Int) (w : World) (hx : SL w A n xs) (hp : PosP h c xs) (hc : c ≤ 15) (hh : h ≤ 24)  :
    Calls Try.prog 77 #[.agg #[.int .i64 p, .int .i64 c, .int .i64 h, .int .i64 s], .slice A n cp] w fun e w' => e = .returned (.int .i64 (num c xs)) ∧ Below w.heap.size w w' := by
  have HB : Hid (Below w.heap.size w (w.alloc (.cells #[.int .i64 p, .int .i64 c, .int .i64 h, .int .i64 s] 24))) := (Below.refl _ _).alloc (Nat.le_refl _) _
  have hl : xs.length = n := hx.1
  have hn24 : n ≤ 24 := by have := hp.1; omega
  have hbd : num c xs < wys h c := num_lt hp
  have hwb := wys_bd (k := h) (m := c) (by omega) hc
  have HW : Hid (∀ i m, i ≤ h → m ≤ c → wys i m ≤ wys h c) := fun i m hi hm => wys_mono hi hm
  have HP := Lib.hid hp
  have HX := Lib.hid (hx.alloc (.cells #[.int .i64 p, .int .i64 c, .int .i64 h, .int .i64 s] 24))
  have HL := Lib.hid hl
  have hnh := Lib.hid (show n = h by rw [← hl]; exact hp.1)
  have HN : Hid (numT (xs.take n).reverse c = num c xs) := by unfold Hid num; rw [List.take_of_length_le (by omega)]
  have HS : Hid ((xs.take n).sum ≤ c) := by unfold Hid; rw [List.take_of_length_le (by omega)]; exact hp.2.2
  have HPN : Hid (∀ k, 0 ≤ (xs.take k).sum) := fun k => sum_take_nonneg xs k hp.2.1
  clear hx hl hp
  go_enter Try.func77, Try.ntmps77
  go_wp2
  go_loop [5, 6, 7] (fun v l i => ∃ (k nn lf : Nat), k ≤ n ∧ lf ≤ c ∧ i = .int .i64 ((k : Int) - 1) ∧ l = .int .i64 lf ∧ v = .int .i64 nn ∧ Hid (nn + numT (xs.take k).reverse lf = num c xs) ∧ Hid ((xs.take k).sum ≤ lf)) (fun _ _ i => (intOf i + 1).toNat)
  case atStart => exact ⟨n, 0, c, by omega, by omega, rfl, rfl, rfl, by unfold Hid; rw [HN.out]; omega, HS.out⟩
  case round =>
    obtain ⟨k, nn, lf, hk, hlf, hi, rfl, rfl, hnum, hs⟩ := hrel
    rcases k with _ | j
    · rw [show ((0 : Nat) : Int) - 1 = -1 from rfl] at hi
      subst hi
      have HR : Hid (nn = num c xs) := by have := hnum.out; unfold Hid; simpa [numT] using this
      go_wp2_with (fail)
      go_ret
      exact ⟨by rw [← HR.out]; rfl, HB.out⟩
    · rw [show ((j + 1 : Nat) : Int) - 1 = (j : Int) by omega] at hi
      subst hi
      obtain ⟨b, off, rfl, _, hcells⟩ := HX.out.2 (by omega)
      have hcell := hcells j (by omega)
      have e1 := numT_take (p := xs) (i := j) (left := lf) (by rw [HL.out]; omega)
      have e2 := sumT_take (p := xs) (i := j) (by rw [HL.out]; omega)
      have e3 := HPN.out j
      have e4 := HP.out.2.1 _ (getD_mem xs j (by rw [HL.out]; omega))
      obtain ⟨x, hx⟩ : ∃ x : Nat, xs.getD j 0 = (x : Int) := ⟨(xs.getD j 0).toNat, by omega⟩
      rw [hx] at hcell e1 e2 e4
      simp only [Int.toNat_natCast] at e1
      have e5 := hs.out
      rw [e2] at e5
      have hxl : x ≤ lf := by omega
      have hnum' : Hid (nn + sumW j lf x + numT (xs.take j).reverse (lf - x) = num c xs) := by have := hnum.out; rw [e1] at this; unfold Hid; omega
      have hs' : Hid ((xs.take j).sum ≤ ((lf - x : Nat) : Int)) := by unfold Hid; omega
      have hb0 : nn + sumW j lf x < wys h c := by have := hnum'.out; omega
      have HM : Hid (∀ d, d ≤ x → sumW j lf d ≤ sumW j lf x) := fun d hd => sumW_mono hd
      clear hcells e1 e2 e3 e4 e5 hx hnum hs
      go_wp2_with (fail)
      go_loop [5, 22] (fun v dv => ∃ d : Nat, d ≤ x ∧ dv = .int .i64 d ∧ v = .int .i64 ((nn + sumW j lf d : Nat) : Int)) (fun _ dv => x - (intOf dv).toNat)
      case atStart => exact ⟨0, by omega, rfl, by simp [sumW]⟩
      case round =>
        obtain ⟨d, hd, rfl, rfl⟩ := hrel
        by_cases hdx : d < x
        · have hdi : (d : Int) < (x : Int) := by omega
          have hsub : ((lf : Int) - (d : Int)) = ((lf - d : Nat) : Int) := by omega
          have hm1 := HM.out (d + 1) (by omega)
          have hm2 := HM.out d (by omega)
          have E := Lib.hid (sumW_succ j lf d)
          have hm3 : sumW j lf d + wys j (lf - d) ≤ sumW j lf x := by rw [← E.out]; exact hm1
          have CL := Lib.hid (fun (W : World) => listsUpTo_any j (lf - d) W (by omega) (by omega))
          clear hm1
          go_wp2_with ((go_at_call 90; (try rw [hsub]); refine (CL.out _).mono ?_; rintro e w' ⟨rfl, rfl⟩))
          go_round
          case rel => exact ⟨d + 1, by omega, by go_num, by rw [E.out]; go_num⟩
          case measure => simp [intOf]; omega
        · have hdx2 : d = x := by omega
          subst hdx2
          go_wp2_with (fail)
          go_round
          case rel => exact ⟨j, nn + sumW j lf d, lf - d, by omega, by omega, by go_num, by go_num, rfl, hnum'.out, hs'.out⟩
          case measure => (simp [intOf]) <;> omega
set_option maxRecDepth 10000 in
set_option maxHeartbeats 1000000 in
theorem l10Number_any (p s : Int) (c h : Nat) (A : Option Addr) (n cp : Nat) (xs : List Int) (w : World) (hx : SL w A n xs) (hp : PosP h c xs) (hc : c ≤ 15) (hh : h ≤ 24) (hw6 : wys h c ≤ 1000000) :
    Calls Try.prog 68 #[.agg #[.int .i64 p, .int .i64 c, .int .i64 h, .int .i64 s], .slice A n cp] w fun e w' => e = .returned (.int .i64 (num c xs)) ∧ Below w.heap.size w w' := by
  have HB : Hid (Below w.heap.size w (w.alloc (.cells #[.int .i64 p, .int .i64 c, .int .i64 h, .int .i64 s] 24))) := (Below.refl _ _).alloc (Nat.le_refl _) _
  have hl : xs.length = n := hx.1
  have hn24 : n ≤ 24 := by have := hp.1; omega
  have hbd : num c xs < wys h c := num_lt hp
  have hwb := wys_bd (k := h) (m := c) (by omega) hc
  have HW : Hid (∀ i m, i ≤ h → m ≤ c → wys i m ≤ wys h c) := fun i m hi hm => wys_mono hi hm
  have HP := Lib.hid hp
  have HX := Lib.hid (hx.alloc (.cells #[.int .i64 p, .int .i64 c, .int .i64 h, .int .i64 s] 24))
  have HL := Lib.hid hl
  have hnh := Lib.hid (show n = h by rw [← hl]; exact hp.1)
  have HN : Hid (numT (xs.take n).reverse c = num c xs) := by unfold Hid num; rw [List.take_of_length_le (by omega)]
  have HS : Hid ((xs.take n).sum ≤ c) := by unfold Hid; rw [List.take_of_length_le (by omega)]; exact hp.2.2
  have HPN : Hid (∀ k, 0 ≤ (xs.take k).sum) := fun k => sum_take_nonneg xs k hp.2.1
  clear hx hl hp
  go_enter Try.func68, Try.ntmps68
  go_wp2
  go_loop [5, 6, 7] (fun v l i => ∃ (k nn lf : Nat), k ≤ n ∧ lf ≤ c ∧ i = .int .i64 ((k : Int) - 1) ∧ l = .int .i64 lf ∧ v = .int .i64 nn ∧ Hid (nn + numT (xs.take k).reverse lf = num c xs) ∧ Hid ((xs.take k).sum ≤ lf)) (fun _ _ i => (intOf i + 1).toNat)
  case atStart => exact ⟨n, 0, c, by omega, by omega, rfl, rfl, rfl, by unfold Hid; rw [HN.out]; omega, HS.out⟩
  case round =>
    obtain ⟨k, nn, lf, hk, hlf, hi, rfl, rfl, hnum, hs⟩ := hrel
    rcases k with _ | j
    · rw [show ((0 : Nat) : Int) - 1 = -1 from rfl] at hi
      subst hi
      have HR : Hid (nn = num c xs) := by have := hnum.out; unfold Hid; simpa [numT] using this
      go_wp2_with (fail)
      go_ret
      exact ⟨by rw [← HR.out]; rfl, HB.out⟩
    · rw [show ((j + 1 : Nat) : Int) - 1 = (j : Int) by omega] at hi
      subst hi
      obtain ⟨b, off, rfl, _, hcells⟩ := HX.out.2 (by omega)
      have hcell := hcells j (by omega)
      have e1 := numT_take (p := xs) (i := j) (left := lf) (by rw [HL.out]; omega)
      have e2 := sumT_take (p := xs) (i := j) (by rw [HL.out]; omega)
      have e3 := HPN.out j
      have e4 := HP.out.2.1 _ (getD_mem xs j (by rw [HL.out]; omega))
      obtain ⟨x, hx⟩ : ∃ x : Nat, xs.getD j 0 = (x : Int) := ⟨(xs.getD j 0).toNat, by omega⟩
      rw [hx] at hcell e1 e2 e4
      simp only [Int.toNat_natCast] at e1
      have e5 := hs.out
      rw [e2] at e5
      have hxl : x ≤ lf := by omega
      have hnum' : Hid (nn + sumW j lf x + numT (xs.take j).reverse (lf - x) = num c xs) := by have := hnum.out; rw [e1] at this; unfold Hid; omega
      have hs' : Hid ((xs.take j).sum ≤ ((lf - x : Nat) : Int)) := by unfold Hid; omega
      have hb0 : nn + sumW j lf x < wys h c := by have := hnum'.out; omega
      have HM : Hid (∀ d, d ≤ x → sumW j lf d ≤ sumW j lf x) := fun d hd => sumW_mono hd
      clear hcells e1 e2 e3 e4 e5 hx hnum hs
      go_wp2_with (fail)
      go_loop [5, 8] (fun v dv => ∃ d : Nat, d ≤ x ∧ dv = .int .i64 d ∧ v = .int .i64 ((nn + sumW j lf d : Nat) : Int)) (fun _ dv => x - (intOf dv).toNat)
      case atStart => exact ⟨0, by omega, rfl, by simp [sumW]⟩
      case round =>
        obtain ⟨d, hd, rfl, rfl⟩ := hrel
        by_cases hdx : d < x
        · have hdi : (d : Int) < (x : Int) := by omega
          have hsub : ((lf : Int) - (d : Int)) = ((lf - d : Nat) : Int) := by omega
          have hm1 := HM.out (d + 1) (by omega)
          have hm2 := HM.out d (by omega)
          have E := Lib.hid (sumW_succ j lf d)
          have hm3 : sumW j lf d + wys j (lf - d) ≤ sumW j lf x := by rw [← E.out]; exact hm1
          have CL := Lib.hid (fun (W : World) => (show Calls Try.prog 73 #[.int .i64 ((lf - d : Nat) : Int), .int .i64 j] W (fun e w' => e = .returned (.int .i64 (wys j (lf - d))) ∧ W = w') from by have h1 := l10Ways_any j (lf - d) W (by omega) (by omega); rw [wysC_ok (Nat.le_trans (HW.out _ _ (by have := hnh.out; omega) (by omega)) hw6)] at h1; exact h1))
          clear hm1
          go_wp2_with ((go_at_call 73; (try rw [hsub]); refine (CL.out _).mono ?_; rintro e w' ⟨rfl, rfl⟩))
          go_round
          case rel => exact ⟨d + 1, by omega, by go_num, by rw [E.out]; go_num⟩
          case measure => simp [intOf]; omega
        · have hdx2 : d = x := by omega
          subst hdx2
          go_wp2_with (fail)
          go_round
          case rel => exact ⟨j, nn + sumW j lf d, lf - d, by omega, by omega, by go_num, by go_num, rfl, hnum'.out, hs'.out⟩
          case measure => (simp [intOf]) <;> omega
end Go.Proofs.Ytlbkfhdnhalpbaa

/- Words for maps of whatever elements: what a map holds, as a function of the key. No statement is proved here; there are no conditions. -/
namespace Go.Proofs.Ytlbkfhdnhalpbaa
set_option linter.unusedVariables false
set_option linter.unusedSimpArgs false
open Go.RowKit Go.Maps
open Go.ChangeMaps Go.MapKept Go.WideShapes

/-- How an element reads: as itself. -/
def heldV (v : Value) : Option (DataW Value × List MemPlace) := some (.held v, [])

theorem length_inj {α : Type} [DecidableEq α] : ∀ {l U : List α}, l.Pairwise (fun a b => a ≠ b) → (∀ x ∈ l, x ∈ U) → l.length ≤ U.length
  | [], _, _, _ => Nat.zero_le _
  | x :: r, U, hp, hm => by
    have hp' := List.pairwise_cons.1 hp
    have hx := hm x (by simp)
    have h1 : (U.erase x).length = U.length - 1 := List.length_erase_of_mem hx
    have h2 := length_inj (l := r) (U := U.erase x) hp'.2 fun y hy => (List.mem_erase_of_ne (Ne.symm (hp'.1 y hy))).2 (hm y (by simp [hy]))
    have h3 : 1 ≤ U.length := List.length_pos_of_mem hx
    simp only [List.length_cons]
    omega

/-- Block b is a map that holds f, with keys of U alone. -/
def MapV (P : Program) (k : TypeId) (w : World) (b : Nat) (U : List Lit) (f : Lit → Option Value) : Prop :=
  ∃ D : DataW Value, w.ownsMap P k heldV b U.length D ∧ (∀ l, WideAt.IsKeyLit l → has D l = (f l).isSome ∧ ∀ z, D.atKey l (.held z) = .held ((f l).getD z)) ∧ ∀ l, has D l = true → l ∈ U

section
variable {P : Program} {k : TypeId} {w w' : World} {b : Nat} {U : List Lit} {f : Lit → Option Value}
theorem MapV.lt (h : MapV P k w b U f) : b < w.heap.size := let ⟨_, h, _⟩ := h; h.lt
theorem ownsMap_lower {n m : Nat} {D : DataW Value} {R : Value → Option (DataW Value × List MemPlace)} (h : w.ownsMap P k R b n D) (hs : size D ≤ m) : w.ownsMap P k R b m D := by
  obtain ⟨es, clock, hb, F, _, hD⟩ := h
  refine ⟨es, clock, hb, F, ?_, hD⟩
  rw [hD] at hs
  simpa [Maps.size, length_sorted] using hs
theorem MapV.made (P : Program) (k : TypeId) (w : World) (U : List Lit) : MapV P k (w.alloc (.map #[] 0)) w.heap.size U (fun _ => none) := by
  refine ⟨.map [], (World.ownsMap_made w P k heldV).mono (Nat.zero_le _), fun l hl => ⟨rfl, fun z => rfl⟩, fun l h => by simp [has] at h⟩
theorem MapV.frm {S : Nat → Prop} (h : MapV P k w b U f) (hf : Frm S w w') (hn : ¬ S b) : MapV P k w' b U f := by
  obtain ⟨D, hD, h1, h2⟩ := h
  refine ⟨D, ?_, h1, h2⟩
  have hlt := hD.lt
  obtain ⟨es, clock, hb, r⟩ := hD
  exact ⟨es, clock, (hf.block b hlt hn).trans hb, r⟩
theorem MapV.below (h : MapV P k w b U f) (hb : Below w.heap.size w w') : MapV P k w' b U f := h.frm (Frm.of_below hb) id
theorem MapV.alloc (h : MapV P k w b U f) (o : Obj) : MapV P k (w.alloc o) b U f := h.below ((Below.refl _ _).alloc (Nat.le_refl _) o)
theorem MapV.drew (h : MapV P k w b U f) : MapV P k w.drew b U f := h
theorem MapV.drewN (h : MapV P k w b U f) (n : Nat) : MapV P k (w.drewN n) b U f := h
theorem heldV_inj {v : Value} {z : Value} {ps : List MemPlace} (h : heldV v = some (.held z, ps)) : v = z := by
  simp only [heldV, Option.some.injEq, Prod.mk.injEq, DataW.held.injEq] at h
  exact h.1
theorem MapV.look {t e : TypeId} (h : MapV P k w b U f) (K : Keyed P k) (ht : P.underlying t = some (.map k e)) {z : Value} (hz : (zeroValue e).run P w = .ok z w) {key : Value} {kl : Lit} (hkey : keyOf P k key = some kl) :
    (Instr.lookup t (.map (some b)) key false).run P w = .ok ((f kl).getD z) w := by
  obtain ⟨D, hD, h1, _⟩ := h
  obtain ⟨v, ps, hrun, hv⟩ := hD.lookup K ht hz (zd := .held z) (zp := []) rfl hkey
  rw [(h1 kl (K.key hkey)).2 z] at hv
  rw [heldV_inj hv] at hrun
  exact hrun
theorem MapV.look_ok {t e : TypeId} (h : MapV P k w b U f) (K : Keyed P k) (ht : P.underlying t = some (.map k e)) {z : Value} (hz : (zeroValue e).run P w = .ok z w) {key : Value} {kl : Lit} (hkey : keyOf P k key = some kl) :
    (Instr.lookup t (.map (some b)) key true).run P w = .ok (.tuple #[(f kl).getD z, .bool (f kl).isSome]) w := by
  obtain ⟨D, hD, h1, _⟩ := h
  obtain ⟨v, ps, hrun, hv⟩ := World.ownsMap.look_ok hD K ht hz (zd := .held z) (zp := []) rfl hkey
  rw [(h1 kl (K.key hkey)).2 z] at hv
  rw [heldV_inj hv, (h1 kl (K.key hkey)).1] at hrun
  exact hrun
open Classical in
/-- f with v at l. -/
noncomputable def putF (f : Lit → Option Value) (l : Lit) (v : Value) : Lit → Option Value := fun l' => if l' = l then some v else f l'
theorem putF_same (f : Lit → Option Value) (l : Lit) (v : Value) : putF f l v l = some v := by unfold putF; exact if_pos rfl
theorem putF_other (f : Lit → Option Value) {l l' : Lit} (h : l' ≠ l) (v : Value) : putF f l v l' = f l' := by unfold putF; exact if_neg h
theorem MapV.store {t e : TypeId} (h : MapV P k w b U f) (K : Keyed P k) (ht : P.underlying t = some (.map k e)) (hn : U.length < maxLen) {key val : Value} {kl : Lit} (hkey : keyOf P k key = some kl) (hU : kl ∈ U) :
    ∃ w', (Instr.mapUpdate t (.map (some b)) key val).run P w = .ok () w' ∧ MapV P k w' b U (putF f kl val) ∧ w.grownBy w' (some b) := by
  obtain ⟨D, hD, h1, h2⟩ := h
  obtain ⟨w', hrun, hD', hg⟩ := hD.update K ht hn hkey (val := val) (d := .held val) (ps := []) rfl
  have hM := World.ownsMap.isMap hD
  have hT := World.ownsMap.tidy hD' K
  have hl := K.key hkey
  have h2' : ∀ l, has (D.put kl (.held val)) l = true → l ∈ U := by
    intro l hh
    by_cases e : l = kl
    · rw [e]; exact hU
    · rw [has_put_other e] at hh; exact h2 l hh
  refine ⟨w', hrun, ⟨D.put kl (.held val), ownsMap_lower hD' ?_, fun l hl' => ?_, h2'⟩, hg⟩
  · classical
    obtain ⟨es, hes, hp0, hkl⟩ := World.ownsMap.canon hD' K
    have hp := Go.Maps.apart_of_rising hp0
    rw [hes, size_eq]
    have hp2 : (es.map (·.1)).Pairwise (fun a b => a ≠ b) := List.pairwise_map.2 hp
    have := length_inj hp2 (U := U) fun x hx => by
      obtain ⟨p, hp', rfl⟩ := List.mem_map.1 hx
      apply h2'
      rw [hes, has_eq]
      exact List.any_eq_true.2 ⟨p, hp', by have := hkl p hp'; revert this; cases p.1 <;> simp [Lit.sameKey, WideAt.IsKeyLit]⟩
    simpa using this
  · by_cases e : l = kl
    · subst e
      rw [putF_same]
      exact ⟨has_put_same hM hl' _, fun z => atKey_put_same hM hl' _ _⟩
    · rw [putF_other f e]
      exact ⟨(has_put_other e _).trans (h1 l hl').1, fun z => (atKey_put_other e _ _).trans ((h1 l hl').2 z)⟩
end

/-! ### at the operation -/
theorem wpList_look_mapV {P : Program} (w : World) {ops : Array Oper} {rest : List Oper} {o : Oper} {a : Act} {Q : Exit → Act → World → Prop}
    (hg : o.guard = none) (m x : Operand) (t : TypeId) (hop : o.op = Op.lookup t m x false)
    (k e : TypeId) (K : Keyed P k) (ht : P.underlying t = some (.map k e)) {z : Value} (hz : (zeroValue e).run P w = .ok z w) (b : Nat) (U : List Lit) (f : Lit → Option Value)
    (hm : a.eval m = .map (some b)) (hown : MapV P k w b U f) (key : Value) (kl : Lit) (hx : a.eval x = key) (hkey : keyOf P k key = some kl)
    (hK : wpList P ops Q rest (a.put o.dst ((f kl).getD z)) w) :
    wpList P ops Q (o :: rest) a w := by
  refine wpList_plain hg fun K' hK' => ?_
  have hrun := hown.look K ht hz hkey
  unfold Oper.wp
  simp [execOp, hop, hm, hx, hrun, Result.andThen]
  exact hK' _ _ hK
theorem wpList_look_ok_mapV {P : Program} (w : World) {ops : Array Oper} {rest : List Oper} {o : Oper} {a : Act} {Q : Exit → Act → World → Prop}
    (hg : o.guard = none) (m x : Operand) (t : TypeId) (hop : o.op = Op.lookup t m x true)
    (k e : TypeId) (K : Keyed P k) (ht : P.underlying t = some (.map k e)) {z : Value} (hz : (zeroValue e).run P w = .ok z w) (b : Nat) (U : List Lit) (f : Lit → Option Value)
    (hm : a.eval m = .map (some b)) (hown : MapV P k w b U f) (key : Value) (kl : Lit) (hx : a.eval x = key) (hkey : keyOf P k key = some kl)
    (hK : wpList P ops Q rest (a.put o.dst (.tuple #[(f kl).getD z, .bool (f kl).isSome])) w) :
    wpList P ops Q (o :: rest) a w := by
  refine wpList_plain hg fun K' hK' => ?_
  have hrun := hown.look_ok K ht hz hkey
  unfold Oper.wp
  simp [execOp, hop, hm, hx, hrun, Result.andThen]
  exact hK' _ _ hK
theorem wpList_store_mapV {P : Program} (w : World) {ops : Array Oper} {rest : List Oper} {o : Oper} {a : Act} {Q : Exit → Act → World → Prop}
    (hg : o.guard = none) (m x v : Operand) (t : TypeId) (hop : o.op = Op.mapUpdate t m x v)
    (k e : TypeId) (K : Keyed P k) (ht : P.underlying t = some (.map k e)) (b : Nat) (U : List Lit) (f : Lit → Option Value)
    (hm : a.eval m = .map (some b)) (hown : MapV P k w b U f) (hn : U.length < maxLen) (key val : Value) (kl : Lit) (hx : a.eval x = key) (hv : a.eval v = val) (hkey : keyOf P k key = some kl) (hU : kl ∈ U)
    (hK : ∀ w', MapV P k w' b U (putF f kl val) → w.grownBy w' (some b) → wpList P ops Q rest (a.put o.dst undef) w') :
    wpList P ops Q (o :: rest) a w := by
  refine wpList_plain hg fun K' hK' => ?_
  obtain ⟨w', hrun, r1, r2⟩ := hown.store K ht hn hkey (val := val) hU
  unfold Oper.wp
  simp [execOp, hop, hm, hx, hv, hrun, Result.andThen]
  exact hK' _ _ (hK w' r1 r2)
end Go.Proofs.Ytlbkfhdnhalpbaa

/- A region that draws its order: a head of operations that read, call or make memory in whatever order, each with a value of which only some words are known that last while memory grows; one chain of operations behind all of them. No statement is proved here; there are no conditions. -/
namespace Go.Proofs.Ytlbkfhdnhalpbaa
set_option linter.unusedVariables false
set_option linter.unusedSimpArgs false
open Go.RowKit

/-! ### how many of the first n are done -/
def cntL (listed : Array Bool) : Nat → Nat
  | 0 => 0
  | n + 1 => cntL listed n + if listed.getD n false = true then 1 else 0
theorem cntL_le (listed : Array Bool) : ∀ n, cntL listed n ≤ n
  | 0 => Nat.le_refl _
  | n + 1 => by have := cntL_le listed n; unfold cntL; split <;> omega
theorem cntL_full {listed : Array Bool} : ∀ {n : Nat}, cntL listed n = n → ∀ i, i < n → listed.getD i false = true
  | 0, _, i, h => by omega
  | n + 1, h, i, hi => by
    have h1 := cntL_le listed n
    unfold cntL at h
    split at h
    · rename_i hn
      by_cases e : i = n
      · rw [e]; exact hn
      · exact cntL_full (n := n) (by omega) i (by omega)
    · omega
theorem cntL_zero (m : Nat) : ∀ n, cntL (Array.replicate m false) n = 0
  | 0 => rfl
  | n + 1 => by unfold cntL; rw [cntL_zero m n, getD_replicate_false]; rfl
theorem cntL_hole {listed : Array Bool} : ∀ {n : Nat}, cntL listed n < n → ∃ i, i < n ∧ listed.getD i false = false ∧ ∀ j, j < i → listed.getD j false = true
  | 0, h => by omega
  | n + 1, h => by
    by_cases h1 : cntL listed n < n
    · obtain ⟨i, h2, h3, h4⟩ := cntL_hole h1
      exact ⟨i, by omega, h3, h4⟩
    · have h2 := cntL_le listed n
      have h3 := cntL_full (show cntL listed n = n by omega)
      unfold cntL at h
      split at h
      · omega
      · rename_i hn
        exact ⟨n, by omega, by simpa using hn, h3⟩
theorem cntL_set {listed : Array Bool} {i : Nat} (hs : i < listed.size) (h : listed.getD i false = false) : ∀ n, cntL (listed.setIfInBounds i true) n = cntL listed n + if i < n then 1 else 0
  | 0 => rfl
  | n + 1 => by
    unfold cntL
    rw [cntL_set hs h n]
    by_cases e : i = n
    · subst e
      have h1 : (listed.setIfInBounds i true).getD i false = true := by simp [hs]
      rw [h1, h]; simp
    · rw [getD_set_ne false e]
      have e2 : (if i < n + 1 then 1 else 0) = if i < n then 1 else 0 := by
        by_cases hlt : i < n
        · rw [if_pos hlt, if_pos (by omega)]
        · rw [if_neg hlt, if_neg (by omega)]
      rw [e2]; omega

section
variable {P : Program} {w : World}

def putV (a : Act) (ds : Nat → Nat) (v : Nat → Value) : Nat → Act
  | 0 => a
  | k + 1 => (putV a ds v k).put (some (ds k)) (v k)
theorem putV_defers (a : Act) (ds : Nat → Nat) (v : Nat → Value) : ∀ n, (putV a ds v n).defers = a.defers
  | 0 => rfl
  | n + 1 => by unfold putV; simp [Act.put, putV_defers a ds v n]
theorem putV_size (a : Act) (ds : Nat → Nat) (v : Nat → Value) : ∀ n, (putV a ds v n).tmps.size = a.tmps.size
  | 0 => rfl
  | n + 1 => by unfold putV; simp [Act.put, putV_size a ds v n]
theorem put_get_ne (a : Act) {d t : Nat} (h : d ≠ t) (v : Value) : (a.put (some d) v).tmps.getD t undef = a.tmps.getD t undef := by
  simp only [Act.put, Array.getD_eq_getD_getElem?]; rw [Array.getElem?_setIfInBounds_ne h]
theorem put_get_eq (a : Act) {d : Nat} (h : d < a.tmps.size) (v : Value) : (a.put (some d) v).tmps.getD d undef = v := by
  simp [Act.put, h]
theorem putV_far (a : Act) (ds : Nat → Nat) (v : Nat → Value) {t : Nat} : ∀ n, (∀ i, i < n → ds i ≠ t) → (putV a ds v n).tmps.getD t undef = a.tmps.getD t undef
  | 0, _ => rfl
  | n + 1, h => by unfold putV; rw [put_get_ne _ (h n (by omega)), putV_far a ds v n fun i hi => h i (by omega)]
theorem putV_at (a : Act) (ds : Nat → Nat) (v : Nat → Value) : ∀ n, (∀ i, i < n → ds i < a.tmps.size) → (∀ i j, i < n → j < n → i ≠ j → ds i ≠ ds j) → ∀ i, i < n → (putV a ds v n).tmps.getD (ds i) undef = v i
  | 0, _, _, i, hi => by omega
  | n + 1, hs, hd, i, hi => by
    unfold putV
    by_cases e : i = n
    · subst e; exact put_get_eq _ (by rw [putV_size]; exact hs i (by omega)) _
    · rw [put_get_ne _ (hd n i (by omega) (by omega) (by omega))]
      exact putV_at a ds v n (fun i hi => hs i (by omega)) (fun i j hi hj => hd i j (by omega) (by omega)) i (by omega)

/-- What an operation of the head gives. -/
def MGood (G : Nat → Value → World → Prop) (own : Nat → Value → Option Nat) (i : Nat) (W : World) (v : Value) (W' : World) : Prop :=
  Below W.heap.size W W' ∧ G i v W' ∧ ∀ b, own i v = some b → W.heap.size ≤ b
def MStep (P : Program) (o : Oper) (a : Act) (W : World) (good : Value → World → Prop) : Prop :=
  (∃ v W', (execOp a.eval o).run P W = .ok (.value v) W' ∧ good v W') ∨ ∃ f args, (execOp a.eval o).run P W = .ok (.enter f args) W ∧ Calls P f args W fun e W' => ∃ v, e = .returned v ∧ good v W'
theorem MStep.wp {o : Oper} {a : Act} {W : World} {good : Value → World → Prop} {K : Act → World → Prop} {Q : Exit → Act → World → Prop} (h : MStep P o a W good) (hK : ∀ v W', good v W' → K (a.put o.dst v) W') : o.wp P a W K Q := by
  unfold Oper.wp
  rcases h with ⟨v, W', hr, hg⟩ | ⟨f, args, hr, hc⟩
  · rw [hr, Oper.upon_value]; exact hK v W' hg
  · rw [hr, Oper.upon_enter]
    refine hc.mono ?_
    rintro e W' ⟨v, rfl, hg⟩
    exact hK v W' hg

def headArr (n m : Nat) : Array Bool := ((List.range m).map fun i => decide (i < n)).toArray
def makesB (ops : Array Oper) (n : Nat) (ds : Nat → Nat) (m : Nat) : Bool :=
  decide (n < ops.size) && Region.sinkB .any ops n && Region.chainB .any ops n && Region.seqB .any ops (ops.size - n) n (headArr n ops.size) &&
  ((List.range n).all fun i => match ops[i]? with
    | some o => o.guard.isNone && decide (o.dst = some (ds i)) && decide (ds i < m) && (o.after.all fun e => !Region.binds .any e || decide (e.on < i)) && ((List.range n).all fun j => i == j || decide (ds i ≠ ds j))
    | none => false)

structure MInv (ops : Array Oper) (a0 : Act) (w : World) (n : Nat) (ds : Nat → Nat) (G : Nat → Value → World → Prop) (own : Nat → Value → Option Nat) (listed : Array Bool) (a : Act) (W : World) : Prop where
  inv : HeadInv .any ops n listed
  b : Below w.heap.size w W
  df : a.defers = a0.defers
  sz : a.tmps.size = a0.tmps.size
  far : ∀ t, (∀ i, i < n → ds i ≠ t) → a.tmps.getD t undef = a0.tmps.getD t undef
  g : ∀ i, i < n → listed.getD i false = true → G i (a.tmps.getD (ds i) undef) W
  ap : ∀ i j, i < n → j < n → i ≠ j → listed.getD i false = true → listed.getD j false = true → ∀ b, own i (a.tmps.getD (ds i) undef) = some b → own j (a.tmps.getD (ds j) undef) ≠ some b

theorem headArr_of {ops : Array Oper} {n : Nat} {listed : Array Bool} (inv : HeadInv .any ops n listed) (hall : ∀ i, i < n → listed.getD i false = true) : listed = headArr n ops.size := by
  apply Array.ext
  · rw [inv.size]; simp [headArr]
  · intro i h1 h2
    by_cases hi : i < n
    · have := hall i hi
      simp [h1] at this
      simp [headArr, hi, this]
    · have := inv.tail i (by omega) (by rw [← inv.size]; exact h1)
      simp [h1] at this
      simp [headArr, hi, this]

theorem wp_region_makes {id : Nat} {Q : Exit → Act → World → Prop} {a : Act} {l : List Oper} (n : Nat) (ds : Nat → Nat) (G : Nat → Value → World → Prop) (own : Nat → Value → Option Nat)
    (hm : P.follows .mixedOrders = true) (hB : makesB l.toArray n ds a.tmps.size = true)
    (stab : ∀ i v W W', G i v W → Below W.heap.size W W' → G i v W') (hlt : ∀ i v W b, G i v W → own i v = some b → b < W.heap.size)
    (step : ∀ i o, i < n → l[i]? = some o → ∀ (a' : Act) (W : World), Below w.heap.size w W → (∀ t, (∀ i, i < n → ds i ≠ t) → a'.tmps.getD t undef = a.tmps.getD t undef) →
      (∀ j, j < n → Region.waitsFor .any l.toArray i j = true → G j (a'.tmps.getD (ds j) undef) W) → MStep P o a' W (MGood G own i W))
    (tail : ∀ (v : Nat → Value) (W : World), Below w.heap.size w W → (∀ i, i < n → G i (v i) W) → (∀ i j, i < n → j < n → i ≠ j → ∀ b, own i (v i) = some b → own j (v j) ≠ some b) → wpList P l.toArray Q (l.drop n) (putV a ds v n) W) :
    (Code.region id l.toArray true).wp P Q a w := by
  simp only [makesB, Bool.and_eq_true, decide_eq_true_eq] at hB
  obtain ⟨⟨⟨⟨hn, hs⟩, hc⟩, hq⟩, hh⟩ := hB
  have hop : ∀ i, i < n → ∃ o, l.toArray[i]? = some o ∧ l[i]? = some o ∧ o.guard = none ∧ o.dst = some (ds i) ∧ ds i < a.tmps.size ∧ (∀ e ∈ o.after, Region.binds .any e = true → e.on < i) ∧ ∀ j, j < n → i ≠ j → ds i ≠ ds j := fun i hi => by
    have h := List.all_eq_true.1 hh i (List.mem_range.2 hi)
    cases ho : l.toArray[i]? with
    | none => rw [ho] at h; cases h
    | some o =>
      rw [ho] at h
      simp only [Bool.and_eq_true, decide_eq_true_eq] at h
      obtain ⟨⟨⟨⟨h1, h2⟩, h3⟩, h4⟩, h5⟩ := h
      refine ⟨o, rfl, by simpa using ho, by simpa using h1, h2, h3, fun e he hb => ?_, fun j hj hij => ?_⟩
      · have h6 := (Array.all_eq_true'.1 h4) e he
        simpa [hb] using h6
      · have h6 := List.all_eq_true.1 h5 j (List.mem_range.2 hj)
        simpa [hij] using h6
  have hdd : ∀ i j, i < n → j < n → i ≠ j → ds i ≠ ds j := fun i j hi hj hij => by obtain ⟨_, _, _, _, _, _, _, h⟩ := hop i hi; exact h j hj hij
  have hdz : ∀ i, i < n → ds i < a.tmps.size := fun i hi => by obtain ⟨_, _, _, _, _, h, _⟩ := hop i hi; exact h
  have H : ∀ (f : Nat) (listed : Array Bool) (a' : Act) (W : World), cntL listed n + f = n → MInv l.toArray a w n ds G own listed a' W → wpAny P .any l.toArray Q (f + (l.toArray.size - n)) listed a' W := by
    intro f
    induction f with
    | zero =>
      intro listed a' W hcnt I
      have hall := cntL_full (listed := listed) (n := n) (by omega)
      have hl := headArr_of I.inv hall
      have hv : putV a ds (fun i => a'.tmps.getD (ds i) undef) n = a' := by
        have e1 : (putV a ds (fun i => a'.tmps.getD (ds i) undef) n).tmps = a'.tmps := by
          apply Array.ext
          · rw [putV_size, I.sz]
          · intro t h1 h2
            have e : ∀ (A : Array Value) (h : t < A.size), A[t] = A.getD t undef := fun A h => by simp [h]
            rw [e _ h1, e _ h2]
            by_cases hx : ∃ i, i < n ∧ ds i = t
            · obtain ⟨i, hi, rfl⟩ := hx
              exact putV_at a ds _ n hdz hdd i hi
            · have hx' : ∀ i, i < n → ds i ≠ t := fun i hi he => hx ⟨i, hi, he⟩
              rw [putV_far a ds _ n hx', I.far t hx']
        have e2 : (putV a ds (fun i => a'.tmps.getD (ds i) undef) n).defers = a'.defers := by rw [putV_defers, I.df]
        generalize putV a ds (fun i => a'.tmps.getD (ds i) undef) n = x at *
        cases x; cases a'
        simp only at e1 e2
        rw [e1, e2]
      have ht := tail (fun i => a'.tmps.getD (ds i) undef) W I.b (fun i hi => I.g i hi (hall i hi)) (fun i j hi hj hij b => I.ap i j hi hj hij (hall i hi) (hall j hj) b)
      rw [hv] at ht
      rw [Nat.zero_add]
      have hdl : (l.drop n).length = l.toArray.size - n := by simp
      have := wpAny_of_seq (md := .any) (Q' := Q) (ops := l.toArray) (l.drop n) n listed a' W (fun j => by simp [List.getElem?_drop]) (by rw [hdl, hl]; exact hq) ht
      rwa [hdl] at this
    | succ f ih =>
      intro listed a' W hcnt I
      obtain ⟨k, hk, hkf, hkl⟩ := cntL_hole (listed := listed) (n := n) (by omega)
      have hkr : k ∈ Region.ready .any l.toArray listed := by
        obtain ⟨o, ho, _, _, _, _, h5, _⟩ := hop k hk
        exact mem_ready.2 ⟨getD_in (by rw [I.inv.size]; omega) hkf, o, ho, fun e he hb => hkl _ (h5 e he hb)⟩
      rw [show f + 1 + (l.toArray.size - n) = (f + (l.toArray.size - n)) + 1 by omega]
      refine ⟨fun h0 => (by rw [h0] at hkr; cases hkr), fun i hi => ?_⟩
      have hin : i < n := by
        rcases Nat.lt_or_ge i n with h | h
        · exact h
        · exact absurd hi (tail_waits hs hc hn I.inv _ k rfl hk (getD_in (by rw [I.inv.size]; omega) hkf) i h)
      obtain ⟨hun, o', ho', hall'⟩ := mem_ready.1 hi
      obtain ⟨o, ho, hol, hg, hd, hz, _, _⟩ := hop i hin
      have : o' = o := Option.some.inj (ho'.symm.trans ho)
      subst this
      have hst := step i o' hin hol a' W I.b I.far fun j hj hw => by
        obtain ⟨oj, hoj, e, he, hb, hon⟩ := Region.waitsFor_spec hw
        have : oj = o' := Option.some.inj (hoj.symm.trans ho')
        subst this
        exact I.g j hj (by have := hall' e he hb; rwa [hon] at this)
      unfold wpOp
      rw [ho']
      simp only [Region.wanted, hg]
      simp only [if_true]
      refine .inl (hst.wp fun v W' hgd => ?_)
      obtain ⟨hb, hG, hf⟩ := hgd
      rw [hd]
      have hsz : i < listed.size := by rw [I.inv.size]; omega
      refine ih _ _ _ (by rw [cntL_set hsz (getD_both hun), if_pos hin]; omega) ⟨I.inv.set hi hin, I.b.trans (hb.mono I.b.size), by simp [Act.put, I.df], by simp [Act.put, I.sz], fun t ht => ?_, fun j hj hlj => ?_, fun j1 j2 h1 h2 h12 l1 l2 b hb1 => ?_⟩
      · rw [put_get_ne _ (ht i hin)]; exact I.far t ht
      · by_cases e : j = i
        · subst e; rw [put_get_eq _ (by rw [I.sz]; exact hz)]; exact hG
        · rw [put_get_ne _ (hdd i j hin hj (Ne.symm e))]
          rw [getD_set_ne false (Ne.symm e)] at hlj
          exact stab _ _ _ _ (I.g j hj hlj) hb
      · by_cases e1 : j1 = i
        · subst e1
          have e2 : j1 ≠ j2 := h12
          rw [put_get_eq _ (by rw [I.sz]; exact hz)] at hb1
          rw [put_get_ne _ (hdd j1 j2 hin h2 e2)]
          rw [getD_set_ne false e2] at l2
          intro hb2
          have := hlt _ _ _ _ (I.g j2 h2 l2) hb2
          have := hf b hb1
          omega
        · rw [put_get_ne _ (hdd i j1 hin h1 (Ne.symm e1))] at hb1
          rw [getD_set_ne false (Ne.symm e1)] at l1
          by_cases e2 : j2 = i
          · subst e2
            rw [put_get_eq _ (by rw [I.sz]; exact hz)]
            intro hb2
            have := hlt _ _ _ _ (I.g j1 h1 l1) hb1
            have := hf b hb2
            omega
          · rw [put_get_ne _ (hdd i j2 hin h2 (Ne.symm e2))]
            rw [getD_set_ne false (Ne.symm e2)] at l2
            exact I.ap j1 j2 h1 h2 h12 l1 l2 b hb1
  refine wp_region_any hm ?_
  have := H n (Array.replicate l.toArray.size false) a { w with drawn := w.drawn + 1 } (by rw [cntL_zero]; omega)
    ⟨⟨by simp, fun j oj _ hl => (by rw [getD_replicate_false] at hl; cases hl), fun t _ ht => getD_in (by simpa using ht) (getD_replicate_false _ _)⟩, ⟨rfl, rfl, rfl, Nat.le_refl _, fun _ _ => rfl⟩, rfl, rfl, fun _ _ => rfl,
      fun i _ h => (by rw [getD_replicate_false] at h; cases h), fun i j _ _ _ h => (by rw [getD_replicate_false] at h; cases h)⟩
  rwa [show n + (l.toArray.size - n) = l.toArray.size by omega] at this
end
end Go.Proofs.Ytlbkfhdnhalpbaa

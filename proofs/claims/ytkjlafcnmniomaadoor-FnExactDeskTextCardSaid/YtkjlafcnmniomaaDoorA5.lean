/- Contracts of NewDesk and of what the laws do with desks. There are no conditions. -/
import Derived.Test.YtkjlafcnmniomaaDoorBase2
namespace Go.Proofs.YtkjlafcnmniomaaDoor
set_option linter.unusedVariables false
set_option linter.unusedSimpArgs false
open Go.RowKit

/-- A call hands back a new desk: two slices of its own that share nothing, no past. -/
def RetD (w : World) (p ch h s seed : Int) (own : List Int) (en : Ending) (w' : World) : Prop := ∃ A1 c1 A2 c2 A3 c3, en = .returned (.tuple #[.agg #[.int .i64 p, .int .i64 ch, .int .i64 h, .int .i64 s, .slice A1 own.length c1, .slice A2 own.length c2, .int .i64 0, .int .i64 0, .int .i64 seed, .slice A3 0 c3], .int .i64 0]) ∧
  OwnS w' w.heap.size 2 (.slice A1 own.length c1) own ∧ OwnS w' w.heap.size 2 (.slice A2 own.length c2) own ∧
  ((Value.slice A1 own.length c1).ownBlock = none ∨ (Value.slice A1 own.length c1).ownBlock ≠ (Value.slice A2 own.length c2).ownBlock) ∧ Below w.heap.size w w'

/-- A variant with a first board. -/
def startB (p c h s : Int) : Bool := isVar p c h s && decide (4 ≤ p)
theorem l34Start_any (p ch h s : Int) (w : World) :
    Calls Tryd.prog 32 #[.agg #[.int .i64 p, .int .i64 ch, .int .i64 h, .int .i64 s]] w fun e w' => e = .returned (.bool (startB p ch h s)) ∧ Below w.heap.size w w' := by
  have HB : Hid (Below w.heap.size w (w.alloc (.cells #[.int .i64 p, .int .i64 ch, .int .i64 h, .int .i64 s] 34))) := (Below.refl _ _).alloc (Nat.le_refl _) _
  by_cases hv : isVar p ch h s = true
  · by_cases hp : 4 ≤ p
    · have HF : Hid (startB p ch h s = true) := by simp [startB, hv, hp, Hid]
      go_enter Tryd.func32, Tryd.ntmps32
      go_wp2_with (go_at_call 38; refine (more_first (sIsVariant_any _ _ _ _ _)).mono ?_; rintro e w' ⟨rfl, t, rfl⟩)
      go_ret
      exact ⟨by rw [HF.out]; rfl, HB.out.trans ((below_more _ _).mono HB.out.size)⟩
    · have HF : Hid (startB p ch h s = false) := by simp [startB, hp, Hid]
      have hd : decide (4 ≤ p) = false := by simp; omega
      go_enter Tryd.func32, Tryd.ntmps32
      go_wp2_with (go_at_call 38; refine (more_first (sIsVariant_any _ _ _ _ _)).mono ?_; rintro e w' ⟨rfl, t, rfl⟩)
      go_ret
      exact ⟨by rw [HF.out]; rfl, HB.out.trans ((below_more _ _).mono HB.out.size)⟩
  · replace hv : isVar p ch h s = false := by simpa using hv
    have HF : Hid (startB p ch h s = false) := by simp [startB, hv, Hid]
    go_enter Tryd.func32, Tryd.ntmps32
    go_wp2_with (go_at_call 38; refine (more_first (sIsVariant_any _ _ _ _ _)).mono ?_; rintro e w' ⟨rfl, t, rfl⟩)
    go_ret
    exact ⟨by rw [HF.out]; rfl, HB.out.trans ((below_more _ _).mono HB.out.size)⟩

end Go.Proofs.YtkjlafcnmniomaaDoor

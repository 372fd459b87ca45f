/- The statement FnExactNewDesk: for all arguments the program's NewDesk returns what the reference's returns. There are no conditions. -/
import Derived.Test.YtlbkfhdnhalpbaaRows
import Derived.Test.YtlbkfhdnhalpbaaL4
import Derived.ProofKit
import Derived.OpenShut
import Derived.ShutString
import Derived.ChangeOld
import Derived.Below
import Derived.Lib.SmallJoins
namespace Go.Proofs.Ytlbkfhdnhalpbaa.newDesk
set_option linter.unusedVariables false
set_option linter.unusedSimpArgs false
open Go.ChangeShapes Go.WideShapes Go.ChangeAt Go.RowKit Go.Joins

theorem own : ownKnob Try.prog.godebug = none := by kernel_rfl
theorem laidOut : laidOutB Try.prog = true := by kernel_rfl
theorem cellsV : Try.prog.cellsOf 23 = 4 := by kernel_rfl

theorem walk (p c h s seed : Int) (w : World) :
    Calls Try.prog 3 #[.agg #[.int .i64 p, .int .i64 c, .int .i64 h, .int .i64 s], .int .i64 seed] w fun e w' => e = .returned (.bool true) ∧ Below w.heap.size w w' := by
  by_cases hy : isVar p c h s = true ∧ 4 ≤ p ∧ seedB seed = true
  · obtain ⟨hv, hp, hs⟩ := hy
    have hp0 : 0 ≤ p := by omega
    obtain ⟨P, rfl⟩ := Int.eq_ofNat_of_zero_le hp0
    have hP4 : 4 ≤ P := by omega
    have hP24 : P ≤ 24 := by have := (isVar_yes hv).2.1; omega
    have hl : (startL P c h s).length = P + 1 := by
      unfold startL; split
      · rename_i hq; obtain ⟨rfl, _⟩ := hq; simp
      · simp
    refine newDesk_core P c h s seed P c h s seed 0 (startL P c h s).length (startL P c h s) (by omega) w (fun W => ?_) (fun W => ?_)
    · exact (sNewDesk_yes P c h s seed W hv hP4 hs).mono fun e w' ⟨A1, c1, A2, c2, A3, c3, he, h1, h2, h3, h4⟩ => ⟨A1, c1, A2, c2, A3, c3, he, h1, h2, h3, h4⟩
    · exact (NewDesk_yes P c h s seed W hv hP4 hs).mono fun e w' ⟨A1, c1, A2, c2, A3, c3, he, h1, h2, h3, h4⟩ => ⟨A1, c1, A2, c2, A3, c3, he, h1, h2, h3, h4⟩
  · have hn : ∀ W w' : World, OwnS w' W.heap.size 2 (.slice none 0 0) [] := fun _ _ => World.ownsRow_nil _ _ _ _
    refine newDesk_core p c h s seed 0 0 0 0 0 (ndCode p c h s seed) 0 [] (by omega) w (fun W => ?_) (fun W => ?_)
    · exact (sNewDesk_no p c h s seed W hy).mono fun e w' ⟨he, hb⟩ => ⟨none, 0, none, 0, none, 0, he, hn W w', hn W w', .inl rfl, hb⟩
    · exact (NewDesk_no p c h s seed W hy).mono fun e w' ⟨he, hb⟩ => ⟨none, 0, none, 0, none, 0, he, hn W w', hn W w', .inl rfl, hb⟩

set_option maxRecDepth 100000 in
theorem lifted (os : Os) (started : os.Started) (H : Type) (enc : TypeId × Value → H) :
    ReturnsInHanded {} Try.checked os 3 .any (Rows.fnExactNewDeskSpec.pre6 enc Try.prog Try.f3 Rows.fnExactNewDeskRow.domain false) (Rows.fnExactNewDeskSpec.post enc Try.prog Try.f3 false true false false) := by
  refine returnsInHanded_of_change (C := Try.checked) own started (by kernel_rfl) Try.func3
    (ChangeSpec.witness6 (enc := enc) (C := Try.checked) false ⟨#[], #[.agg #[.int .i64 0, .int .i64 0, .int .i64 0, .int .i64 0], .int .i64 0], []⟩ 8 (by kernel_rfl) (by kernel_rfl) (by kernel_rfl) (by kernel_rfl)) ?_
  intro W base args ds gs before hval0 hW hcnd _
  have hval : ∀ (j : Nat) t v, Try.f3.params[j]? = some t → args[j]? = some v → Value.okWide Try.prog W .any base t v := hval0
  have hW' := hW
  obtain ⟨p, q, hA0, hV, rfl, hfz, hnd⟩ := hW
  have hA : DataW.TrodAll enc Try.prog W 0 (fun _ => true) true Try.f3.params.toList args.toList ds p := hA0
  rw [Try.params3] at hA hval
  obtain ⟨v0, vs0, d0, ds0, p0, q0, hargs, rfl, rfl, h0, r0⟩ := trodAll_cons hA
  obtain ⟨v1, vs1, d1, ds1, p1, q1, rfl, rfl, rfl, h1, r1⟩ := trodAll_cons r0
  obtain ⟨rfl, rfl, rfl⟩ := trodAll_nil r1
  obtain rfl : args = #[v0, v1] := by cases args; simp_all
  obtain ⟨rfl, rfl⟩ := trodVars_none hV
  have k0 := h0
  have lt0 : ∀ x ∈ p0, x.block < W.heap.size := by obtain ⟨m, hm⟩ := k0; exact DataW.trod_lt m _ _ _ hm
  obtain ⟨a, b, c, d, rfl⟩ : ∃ a b c d : Int, v0 = .agg #[.int .i64 a, .int .i64 b, .int .i64 c, .int .i64 d] := by
    obtain ⟨c0, c1, c2, c3, y0, y1, y2, y3, m, rfl, _, _, t0, t1, t2, t3⟩ := open_agg4 Try.underlying23 (by kernel_rfl) cellsV (hval 0 23 v0 rfl rfl) h0
    obtain ⟨a0, e0, _, _⟩ := DataW.trod_int Try.underlying2 t0
    obtain ⟨a1, e1, _, _⟩ := DataW.trod_int Try.underlying2 t1
    obtain ⟨a2, e2, _, _⟩ := DataW.trod_int Try.underlying2 t2
    obtain ⟨a3, e3, _, _⟩ := DataW.trod_int Try.underlying2 t3
    simp at e0 e1 e2 e3
    subst e0 e1 e2 e3
    exact ⟨_, _, _, _, rfl⟩
  obtain ⟨a1, rfl, rfl, rfl, w1⟩ := open_int Try.underlying2 (hval 1 2 v1 rfl rfl) h1
  clear hA0 hval0
  refine (walk a b c d a1 W).mono fun e W' ⟨he, bel⟩ => ?_
  subst he
  exact ⟨_, rfl, _, _, _, [], _, [], hW', trodAll_mk1 (shut_bool Try.underlying4 _), (trodAll_cons_mk (Below.trod laidOut (by kernel_rfl) (of_decide_eq_true (by kernel_rfl)) k0 bel lt0) (trodAll_cons_mk (shut_int Try.underlying2 w1) trodAll_mk0)), rfl, bel.frame _, fun h => by cases h⟩

theorem over : Rows.fnExactNewDeskRow.holds Try.pinned (OpenSpec.ofChange Rows.fnExactNewDeskSpec) :=
  OpenClaim.holds_of_wide 3 Try.f3 rfl rfl rfl rfl rfl rfl rfl ⟨rfl, rfl, rfl, rfl, rfl⟩ rfl rfl rfl rfl rfl (by kernel_rfl) Try.func3 (by kernel_rfl)
    (of_decide_eq_true (by kernel_rfl)) (by unfold Func.isWrapper; first | (rw [if_pos (by decide +kernel)]; kernel_rfl) | (rw [if_neg (by decide +kernel)]; exact ⟨rfl, rfl⟩))
    (fun os started H enc _ => lifted os started H enc)

theorem proved : Rows.FnExactNewDeskSaid := over
#print axioms proved
end Go.Proofs.Ytlbkfhdnhalpbaa.newDesk

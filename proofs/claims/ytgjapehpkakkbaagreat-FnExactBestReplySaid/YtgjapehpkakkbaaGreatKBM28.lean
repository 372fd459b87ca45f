/- Contracts of the doubled equity, the program's and the reference's. There are no conditions. -/
import Derived.Test.YtgjapehpkakkbaaGreatKBM24
namespace Go.Proofs.YtgjapehpkakkbaaGreat
set_option linter.unusedVariables false
set_option linter.unusedSimpArgs false
open Go.RowKit Mo Ps Ra Ex

theorem dblT_all (t : WT) (ht : t.Ok) {own other : List Int} (hq : PosP t.h t.c own) (hq2 : PosP t.h t.c other) (h0 : own.sum ≠ 0) {c : Cb} (hc : CbOk t.K c) (hmay : may t.ru c = true) : DblT t own other c := l17Double_any t ht hc hmay fun cc hcc => rolT_all t ht hq hq2 h0 hcc

def codeD (p c h s m : Int) (bv : Bool) (own other : List Int) (v o : Int) : Int :=
 if codeM p c h s m own other v o true = 0 then (if may ⟨m, bv⟩ (v, o) = true then 0 else 5) else codeM p c h s m own other v o true
theorem codeD_ok {p c h s m : Int} {bv : Bool} {own other : List Int} {v o : Int} (H : codeD p c h s m bv own other v o = 0) : codeM p c h s m own other v o true = 0 ∧ may ⟨m, bv⟩ (v, o) = true := by
 unfold codeD at H
 by_cases h0 : codeM p c h s m own other v o true = 0
 · rw [if_pos h0] at H
   by_cases h1 : may ⟨m, bv⟩ (v, o) = true
   · exact ⟨h0, h1⟩
   · rw [if_neg h1] at H; cases H
 · rw [if_neg h0] at H; exact absurd H h0
set_option maxRecDepth 100000 in
set_option maxHeartbeats 4000000 in
theorem checkDoubled_any (p c h s m : Int) (b j : Bool) (A B : Option Addr) (n k ca cb : Nat) (own other : List Int) (v o : Int) (w : World) (hA : SL w A n own) (hB : SL w B k other) :
   Calls Tryz.prog 101 #[.agg #[.int .i64 p, .int .i64 c, .int .i64 h, .int .i64 s], .agg #[.int .i64 m, .bool b, .bool j], .slice A n ca, .slice B k cb, .agg #[.int .i64 v, .int .i64 o]] w fun e w' => e = .returned (.int .i64 (codeD p c h s m b own other v o)) ∧ Below w.heap.size w w' := by
 have HB : Hid (Below w.heap.size w (((w.alloc (.cells #[.int .i64 p, .int .i64 c, .int .i64 h, .int .i64 s] 25)).alloc (.cells #[.int .i64 m, .bool b, .bool j] 59)).alloc (.cells #[.int .i64 v, .int .i64 o] 62))) := (((Below.refl _ _).alloc (Nat.le_refl _) _).alloc (by simp) _).alloc (by simp; omega) _
 have CK := Lib.hid (checkMoney_any p c h s m b j A B n k ca cb own other v o true _ (hA.below HB.out) (hB.below HB.out)); clear hA hB
 by_cases hcm : codeM p c h s m own other v o true = 0
 · obtain ⟨hcl, _, _⟩ := codeM_ok hcm
   obtain ⟨_, hr, _, _, hcu, _, _⟩ := codeL_ok hcl; obtain ⟨K, hK, rfl⟩ := rulB_two hr; have hcv := (cubB_ok hcu).v1 hK
   have MA0 := Lib.hid fun (W : World) => mayDouble_any (two K) b j v o W (by have := hcv.1; simp only at this; omega) (by have := hcv.2.1; simp only at this; omega)
   have HRB : Hid (codeD p c h s (two K) b own other v o = if may ⟨two K, b⟩ (v, o) = true then 0 else 5) := by unfold Hid codeD; rw [if_pos hcm]
   rw [hcm] at CK; clear hcm hcl hr hcu hcv; generalize may ⟨two K, b⟩ (v, o) = my at *; generalize codeD p c h s (two K) b own other v o = kk at *; generalize two K = m at *
   cases my
   · have HR : Hid (kk = 5) := HRB.out
     clear HRB
     go_enter Tryz.func101, Tryz.ntmps101
     go_wp2_with (first
       | (go_at_call 94; (with_reducible refine (more_first CK.out).mono ?_); rintro e w' ⟨rfl, t, rfl⟩)
       | (go_at_call 160; (with_reducible refine (more_call (MA0.out _)).mono ?_); rintro e w' ⟨rfl, t2, rfl⟩))
     go_ret
     exact ⟨by rw [HR.out]; rfl, by first | exact blw HB.out (Nat.le_refl _) | exact HB.out⟩
   · have HR : Hid (kk = 0) := HRB.out
     clear HRB
     go_enter Tryz.func101, Tryz.ntmps101
     go_wp2_with (first
       | (go_at_call 94; (with_reducible refine (more_first CK.out).mono ?_); rintro e w' ⟨rfl, t, rfl⟩)
       | (go_at_call 160; (with_reducible refine (more_call (MA0.out _)).mono ?_); rintro e w' ⟨rfl, t2, rfl⟩))
     go_ret
     exact ⟨by rw [HR.out]; rfl, by first | exact blw HB.out (Nat.le_refl _) | exact HB.out⟩
 · have HR : Hid (codeD p c h s m b own other v o = codeM p c h s m own other v o true) := by unfold Hid codeD; rw [if_neg hcm]
   generalize codeD p c h s m b own other v o = kk2 at *; generalize codeM p c h s m own other v o true = kk at *
   have b0 : (kk == 0) = false := by simp [hcm]
   clear hcm
   go_enter Tryz.func101, Tryz.ntmps101
   go_wp2_with (go_at_call 94; (with_reducible refine (more_first CK.out).mono ?_); rintro e w' ⟨rfl, t, rfl⟩)
   go_ret
   exact ⟨by rw [HR.out]; rfl, by first | exact blw HB.out (Nat.le_refl _) | exact HB.out⟩

end Go.Proofs.YtgjapehpkakkbaaGreat

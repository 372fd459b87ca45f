/- Contracts of the reference's lists of all rolls, and of its mean as it is called from outside. There are no conditions beyond those that each states. -/
import Derived.Test.YtkaiilmgemaljaaGreatPV1
import Derived.Test.YtkaiilmgemaljaaGreatPN14
import Derived.Test.YtkaiilmgemaljaaGreatPZl
import Derived.Test.YtkaiilmgemaljaaGreatPL6
namespace Go.Proofs.YtkaiilmgemaljaaGreat
set_option linter.unusedVariables false
set_option linter.unusedSimpArgs false
open Go.RowKit Ps Ra Ex

set_option maxHeartbeats 2000000 in
set_option maxRecDepth 10000 in
theorem l07All_any (p c h : Int) (s : Nat) (w : World) (hs6 : s ≤ 6) :
   Calls Tryz.prog 81 #[.agg #[.int .i64 p, .int .i64 c, .int .i64 h, .int .i64 s]] w (RetR w (rollsN s)) := by
 obtain ⟨i0, hi, hz0, hz1, hz2⟩ := info_parts Tryz.infoR
 have HF0 := Lib.hid (((Fr.start w).allocT (by simp) #[.int .i64 p, .int .i64 c, .int .i64 h, .int .i64 s] 25))
 have HF : Hid (Fr w ((w.alloc (.cells #[.int .i64 p, .int .i64 c, .int .i64 h, .int .i64 s] 25)).alloc (.cells #[] 39)) [[.int .i64 p, .int .i64 c, .int .i64 h, .int .i64 s]]) := HF0.out.alloc _
 have HO : Hid (OwnR ((w.alloc (.cells #[.int .i64 p, .int .i64 c, .int .i64 h, .int .i64 s] 25)).alloc (.cells #[] 39)) (w.heap.size + 1) (.slice (some ⟨w.heap.size + 1, 0, none⟩) 0 0) (rollsN 0)) := by
   have := row_made (w.alloc (.cells #[.int .i64 p, .int .i64 c, .int .i64 h, .int .i64 s] 25)) (base := w.heap.size + 1) 39 (z := 2) (n := 0) #[] (by simp) (by unfold maxLen; omega) rfl
   show World.ownsRow _ _ _ 2 _ 0 []
   simpa using this
 clear HF0
 go_enter Tryz.func81, Tryz.ntmps81
 go_wp2_with (fail)
 go_loopw [3, 4, 5] (fun v va vb wr => ∃ a : Nat, a ≤ s ∧ va = .int .i64 ((a : Int) + 1) ∧ OwnR wr (w.heap.size + 1) v (rollsN a) ∧ Fr w wr [[.int .i64 p, .int .i64 c, .int .i64 h, .int .i64 s]]) (fun _ va _ _ => s + 1 - (intOf va).toNat)
 case atStart => exact ⟨0, Nat.zero_le _, rfl, HO.out, HF.out⟩
 case round =>
   obtain ⟨a, ha, rfl, hO, hF⟩ := hrel; have HOa := Lib.hid hO; have HFa := Lib.hid hF; clear hO hF; obtain ⟨z0, c00, f00, c01, f01, c02, f02, c03, f03⟩ := HFa.out.xf3
   by_cases hlt : a < s
   ·
     have hlti : (a : Int) + 1 ≤ (s : Int) := by omega
     have HL := Lib.hid (rolls_le (a := a) (by omega))
     go_wp2_with (fail)
     obtain ⟨wo, rfl⟩ : ∃ wo : World, wo = wr := ⟨_, rfl⟩
     go_loopw [3, 5] (fun v vb wi => ∃ b : Nat, b ≤ a + 1 ∧ vb = .int .i64 ((b : Int) + 1) ∧ OwnR wi (w.heap.size + 1) v (rollsN a ++ rowN (a + 1) b) ∧ Fr w wi [[.int .i64 p, .int .i64 c, .int .i64 h, .int .i64 s]]) (fun _ vb _ => a + 2 - (intOf vb).toNat)
     case atStart => exact ⟨0, Nat.zero_le _, rfl, by rw [show rollsN a ++ rowN (a + 1) 0 = rollsN a by simp [rowN]]; exact HOa.out, HFa.out⟩
     case round =>
       clear z0 c00 c01 c02 c03 f00 f01 f02 f03; obtain ⟨b, hb, rfl, hO, hF⟩ := hrel; have HOb := Lib.hid hO; have HFb := Lib.hid hF; clear hO hF; obtain ⟨z0, c00, f00, c01, f01, c02, f02, c03, f03⟩ := HFb.out.xf3
       by_cases hbl : b < a + 1
       ·
         have hbi : (b : Int) + 1 ≤ (a : Int) + 1 := by omega
         have HLb : Hid ((rollsN a ++ rowN (a + 1) b).length ≤ 28) := by unfold Hid; rw [List.length_append, rowN_length]; have := HL.out; omega
         go_wp2_with (at_builtin; refine wpList_append_own _ rfl _ _ 32 rfl (w.heap.size + 1) 39 i0 (.agg #[.int .i64 0, .int .i64 0]) 2 16 Tryz.underlying32 hi hz0 hz1 hz2 rfl (by decide) _ _ _ rfl (row_alloc HOb.out _) ⟨wr.heap.size, 0, none⟩ 1 1 [.int .i64 ((a : Int) + 1), .int .i64 ((b : Int) + 1)] rfl rfl (two_new _ _ _ _) (two_cells _ _) (by have := HLb.out; unfold maxLen; omega) (by have := HLb.out; omega) (by have := HFb.out.z; simp at this; simp; omega) ?_; intro v' w1 hown hgrow _)
         have HF2 := Lib.hid ((HFb.out.alloc _).grow hgrow (row_alloc HOb.out _) (by simp))
         have HO2 : Hid (OwnR w1 (w.heap.size + 1) v' (rollsN a ++ rowN (a + 1) (b + 1))) := by
           unfold Hid OwnR
           rw [show rowN (a + 1) (b + 1) = rowN (a + 1) b ++ [(a + 1, b + 1)] from rfl, ← List.append_assoc, rollC_snoc, List.length_append]
           exact hown
         clear hown hgrow
         go_wp2_with (fail)
         go_roundw
         case rel => exact ⟨b + 1, by omega, by go_num, HO2.out, HF2.out⟩
         case measure => simp [intOf]; omega
       ·
         have hba : b = a + 1 := by omega
         subst hba
         go_wp2_with (fail)
         go_roundw
         case rel => exact ⟨a + 1, by omega, by go_num, HOb.out, HFb.out⟩
         case measure => simp [intOf]; omega
   ·
     have has : a = s := by omega
     subst has
     have HR : Hid (RetR w (rollsN a) (.returned _) wr) := ⟨_, rfl, own_base HOa.out (by omega), HFa.out.b⟩
     go_wp2_with (fail)
     go_ret
     exact HR.out

theorem sAllRolls_any (p c h : Int) (s : Nat) (w : World) (hv : isVar p c h s = true) :
   Calls Tryz.prog 18 #[.agg #[.int .i64 p, .int .i64 c, .int .i64 h, .int .i64 s]] w fun e w' => ∃ v, e = .returned v ∧ OwnR w' w.heap.size v (rollsN s) ∧ Below w.heap.size w w' := by
 have hs6 : s ≤ 6 := by have := (isVar_yes hv).2.2.2.2.2.2.2; omega
 have CV : Hid (∀ W : World, Calls Tryz.prog 80 #[.agg #[.int .i64 p, .int .i64 c, .int .i64 h, .int .i64 s]] W fun e w' => e = .returned (.bool true) ∧ Below W.heap.size W w') := fun W => by
   have := sIsVariant_any p c h s W; rwa [hv] at this
 have HF0 : Hid (Fr w (w.alloc (.cells #[.int .i64 p, .int .i64 c, .int .i64 h, .int .i64 s] 25)) [[.int .i64 p, .int .i64 c, .int .i64 h, .int .i64 s]]) := (Fr.start w).allocT (by simp) _ _
 clear hv
 go_enter Tryz.func18, Tryz.ntmps18
 go_wp2_with (fail)
 refine (CV.out _).mono ?_
 rintro e w1 ⟨rfl, hb⟩
 have HF1 := Lib.hid (HF0.out.below hb); clear hb HF0; obtain ⟨z0, c00, f00, c01, f01, c02, f02, c03, f03⟩ := HF1.out.xf3
 go_wp2_with (fail)
 refine (l07All_any p c h s w1 hs6).mono ?_
 rintro e w2 ⟨v, rfl, ho, hb⟩
 have HR : Hid (∃ u, Ending.returned v = .returned u ∧ OwnR w2 w.heap.size u (rollsN s) ∧ Below w.heap.size w w2) := ⟨v, rfl, own_base ho HF1.out.b.size, (HF1.out.below hb).b⟩; clear ho hb HF1; clear z0 c00 f00 c01 f01 c02 f02 c03 f03
 go_wp2_with (fail)
 go_ret
 exact HR.out

set_option maxHeartbeats 4000000 in
set_option maxRecDepth 10000 in
theorem sMeanExact_any (p c h : Int) (s n c0 : Nat) (A : Option Addr) (xs : List E) (x : E) (w : World) (hv : isVar p c h s = true) (hx : EL (fun _ => False) w A n xs) (hn : (rollsN s).length = n) (hval : ∀ y ∈ xs, Val (sq s) y) (hm : meanE (sq s) (rollsN s) xs = some x) :
   Calls Tryz.prog 20 #[.agg #[.int .i64 p, .int .i64 c, .int .i64 h, .int .i64 s], .slice A n c0] w fun e w' => e = .returned (.tuple #[.agg #[.int .i64 x.num, .int .i64 (x.depth : Int)], .int .i64 0]) ∧ Below w.heap.size w w' := by
 have hs1 : 1 ≤ s := by have := (isVar_yes hv).2.2.2.2.2.2.1; omega
 have hs6 : s ≤ 6 := by have := (isVar_yes hv).2.2.2.2.2.2.2; omega
 obtain ⟨hq1, hq36, _⟩ := sq_bd hs1 hs6
 have hn21 : n ≤ 21 := by rw [← hn]; exact rolls_le hs6
 have CV : Hid (∀ W : World, Calls Tryz.prog 80 #[.agg #[.int .i64 p, .int .i64 c, .int .i64 h, .int .i64 s]] W fun e w' => e = .returned (.bool true) ∧ Below W.heap.size W w') := fun W => by
   have := sIsVariant_any p c h s W; rwa [hv] at this
 have C9 : Hid (∀ y ∈ xs, ∀ W : World, Calls Tryz.prog 86 #[.agg #[.int .i64 p, .int .i64 c, .int .i64 h, .int .i64 s], .agg #[.int .i64 y.num, .int .i64 (y.depth : Int)]] W fun e w' => e = .returned (.bool true) ∧ Below W.heap.size W w') := fun y hy W => by
   have hyd : y.depth < 50 := depth_lt hq1 (hval y hy)
   have := l09Valid_any p c h y.num s y.depth W hs1 hs6 (by omega); rwa [valid_yes (hval y hy)] at this
 have CM : Hid (∀ W : World, EL (fun _ => False) W A n xs → Calls Tryz.prog 88 #[.agg #[.int .i64 p, .int .i64 c, .int .i64 h, .int .i64 s], .slice A n c0] W (fun e w' => e = .returned (.tuple #[.agg #[.int .i64 x.num, .int .i64 (x.depth : Int)], .bool true]) ∧ Below W.heap.size W w')) := fun W hW => by
   have := l09Mean_any p c h s n c0 A xs W hs1 hs6 hW hn hval; rw [hm] at this; exact this
 have HF0 : Hid (Fr w ((w.alloc (.cells #[.int .i64 p, .int .i64 c, .int .i64 h, .int .i64 s] 25)).alloc (.cells #[.int .i64 0, .int .i64 0] 35)) [[.int .i64 p, .int .i64 c, .int .i64 h, .int .i64 s], [.int .i64 0, .int .i64 0]]) :=
   ((Fr.start w).allocT (by simp) _ _).allocT (by simp) _ _
 have HX := Lib.hid hx; have hxl : xs.length = n := hx.1; have HXL := Lib.hid hxl; have HN := Lib.hid hn; clear hx hval hxl hv hm hn hq1 hq36
 go_enter Tryz.func20, Tryz.ntmps20
 go_wp2_with (fail)
 refine (CV.out _).mono ?_
 rintro e w1 ⟨rfl, hb⟩
 have HF1 := Lib.hid (HF0.out.below hb); clear hb HF0; obtain ⟨z0, c00, f00, c01, f01, c02, f02, c03, f03, z1, c10, f10, c11, f11⟩ := HF1.out.xf1
 go_wp2_with (fail)
 clear z0 c00 f00 c01 f01 c02 f02 c03 f03 z1 c10 f10 c11 f11
 go_loopw [6] (fun vi wr => ∃ k : Nat, k ≤ n ∧ vi = .int .i64 k ∧ Fr w wr [[.int .i64 p, .int .i64 c, .int .i64 h, .int .i64 s], [.int .i64 0, .int .i64 0]]) (fun vi _ => n - (intOf vi).toNat)
 case atStart => exact ⟨0, Nat.zero_le _, rfl, HF1.out⟩
 case round =>
   obtain ⟨k, hk, rfl, hF⟩ := hrel; have HFr := Lib.hid hF; clear hF HF1; obtain ⟨z0, c00, f00, c01, f01, c02, f02, c03, f03, z1, c10, f10, c11, f11⟩ := HFr.out.xf1; have HXr := Lib.hid (HX.out.below HFr.out.b)
   by_cases hlt : k < n
   · have hki : (k : Int) < (n : Int) := by omega
     obtain ⟨b2, off2, rfl, hb2, q3, q4⟩ := HXr.out.at hlt
     have C9y := Lib.hid (C9.out _ (getD_mem' xs ⟨0, 0⟩ (by rw [HXL.out]; exact hlt)))
     generalize xs.getD k ⟨0, 0⟩ = y at *
     go_wp2_with (fail)
     first | refine wp_region_more2 (by kernel_rfl) (by kernel_rfl) ?_ | refine wp_region_more (by kernel_rfl) (by kernel_rfl) ?_
     repeat (first | go_big_quiet_step (first | (go_at_call 86; exact more_call (C9y.out _)) | fail) | quiet_step (first | (go_at_call 86; exact more_call (C9y.out _)) | fail))
     refine wpQuiet_nil ?_
     intro _ hw'
     obtain ⟨tq, hw''⟩ := hw'; subst hw''; have HZ := Lib.hid (HFr.out.more tq); clear z0 c00 f00 c01 f01 c02 f02 c03 f03 z1 c10 f10 c11 f11
     go_wp2_with (fail)
     go_roundw
     case rel => exact ⟨k + 1, by omega, by go_num, HZ.out⟩
     case measure => simp [intOf]; omega
   · have hkn : k = n := by omega
     subst hkn
     go_wp2_with (fail)
     refine (l09Rolls_any p c h s _ hs6).mono ?_
     rintro e w2 ⟨v1, rfl, ho, hb⟩
     obtain ⟨A1, c1, rfl, hR, _⟩ := ho.read (S := fun _ => False) (fun _ _ h => h)
     have HF2 := Lib.hid (HFr.out.below hb); have HX2 := Lib.hid (HXr.out.below hb); rw [HN.out]; clear ho hb hR; clear z0 c00 f00 c01 f01 c02 f02 c03 f03 z1 c10 f10 c11 f11; obtain ⟨z0, c00, f00, c01, f01, c02, f02, c03, f03, z1, c10, f10, c11, f11⟩ := HF2.out.xf1
     go_wp2_with (fail)
     refine (CM.out w2 HX2.out).mono ?_
     rintro e w3 ⟨rfl, hb⟩
     have HF3 := Lib.hid ((HF2.out.below hb).alloc (.cells #[.int .i64 x.num, .int .i64 (x.depth : Int)] 35))
     have HG3 : Hid (Fr w3 (w3.alloc (.cells #[.int .i64 x.num, .int .i64 (x.depth : Int)] 35)) [[.int .i64 x.num, .int .i64 (x.depth : Int)]]) := (Fr.start w3).allocT (by simp) _ _
     have hz3 : w.heap.size + 2 ≤ w3.heap.size := by have := (HF2.out.below hb).z; simpa using this
     clear hb; clear z0 c00 f00 c01 f01 c02 f02 c03 f03 z1 c10 f10 c11 f11; obtain ⟨z0, c00, f00, c01, f01, c02, f02, c03, f03, z1, c10, f10, c11, f11⟩ := HF3.out.xf1; obtain ⟨gz0, gc00, gf00, gc01, gf01⟩ := HG3.out.xf4
     go_wp2_with (fail)
     refine bodyPost_ret (v := .tuple #[.agg #[.int .i64 x.num, .int .i64 (x.depth : Int)], .int .i64 0]) (by simp [results, Tryz.results20, go_sem, c10, c11, z1, f10, f11]) rfl ⟨rfl, ?_⟩
     repeat (first | exact HF3.out.b | refine stw ?_ (by omega) | refine alw ?_ (by omega))

theorem neq_exact (a b a' b' : Int) (w : World) : (binOp .neq 35 (.agg #[.int .i64 a, .int .i64 b]) (.agg #[.int .i64 a', .int .i64 b'])).run Tryz.prog w = .ok (.bool (!decide (a = a' ∧ b = b'))) w := by
 have u3 := Tryz.underlying2
 have hS : Tryz.prog.underlying 35 = some (.struct (Tryz.prog.fieldsOf 35)) := by kernel_rfl
 have hp : Tryz.prog.stoodInHeld 35 = false := by kernel_rfl
 rw [run_neq_struct, show (10000 : Nat) = 9999 + 1 from rfl, run_equalIn_agg w 9999 35 _ _ hS hp]
 simp only [Program.fieldsOf, Tryz.underlying35]
 go_simp
 by_cases h1 : a = a' <;> by_cases h2 : b = b' <;> simp [h1, h2]
theorem eql_exact (a b a' b' : Int) (w : World) : (binOp .eql 35 (.agg #[.int .i64 a, .int .i64 b]) (.agg #[.int .i64 a', .int .i64 b'])).run Tryz.prog w = .ok (.bool (decide (a = a' ∧ b = b'))) w := by
 have u3 := Tryz.underlying2
 have hS : Tryz.prog.underlying 35 = some (.struct (Tryz.prog.fieldsOf 35)) := by kernel_rfl
 have hp : Tryz.prog.stoodInHeld 35 = false := by kernel_rfl
 rw [run_eql_struct, show (10000 : Nat) = 9999 + 1 from rfl, run_equalIn_agg w 9999 35 _ _ hS hp]
 simp only [Program.fieldsOf, Tryz.underlying35]
 go_simp
 by_cases h1 : a = a' <;> by_cases h2 : b = b' <;> simp [h1, h2]
theorem big_any (A : Option Addr) (n c : Nat) (w : World) : Calls Tryz.prog 14 #[.slice A n c] w fun e w' => e = .returned (.bool (decide (4096 < n))) ∧ w = w' := by
 go_enter Tryz.func14, Tryz.ntmps14
 go_wp2_with (fail)
 go_ret
 exact ⟨by by_cases h : 4096 < n <;> simp [h] <;> omega, rfl⟩
end Go.Proofs.YtkaiilmgemaljaaGreat

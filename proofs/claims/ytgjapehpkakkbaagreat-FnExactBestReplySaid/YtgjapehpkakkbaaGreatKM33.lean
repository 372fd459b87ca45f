/- Contracts of the best reply, the program's and the reference's. There are no conditions. -/
import Derived.Test.YtgjapehpkakkbaaGreatKBM29
import Derived.Test.YtgjapehpkakkbaaGreatKM32
namespace Go.Proofs.YtgjapehpkakkbaaGreat
set_option linter.unusedVariables false
set_option linter.unusedSimpArgs false
open Go.RowKit Mo Ps Ra Ex

theorem Fr.xf7 {w wr : World} {a0_0 a0_1 a0_2 a0_3 a1_0 a1_1 a1_2 a2_0 a2_1 : Value} {t0 t1 t2 : List Value} {tt : List (List Value)} (h : Fr w wr ((a0_0 :: a0_1 :: a0_2 :: a0_3 :: t0) :: (a1_0 :: a1_1 :: a1_2 :: t1) :: (a2_0 :: a2_1 :: t2) :: tt)) : w.heap.size < wr.heap.size ∧ wr.cell? ⟨w.heap.size, 0, none⟩ = some a0_0 ∧ wr.frozen? ⟨w.heap.size, 0, none⟩ = false ∧ wr.cell? ⟨w.heap.size, 1, none⟩ = some a0_1 ∧ wr.frozen? ⟨w.heap.size, 1, none⟩ = false ∧ wr.cell? ⟨w.heap.size, 2, none⟩ = some a0_2 ∧ wr.frozen? ⟨w.heap.size, 2, none⟩ = false ∧ wr.cell? ⟨w.heap.size, 3, none⟩ = some a0_3 ∧ wr.frozen? ⟨w.heap.size, 3, none⟩ = false ∧ w.heap.size + 1 < wr.heap.size ∧ wr.cell? ⟨w.heap.size + 1, 0, none⟩ = some a1_0 ∧ wr.frozen? ⟨w.heap.size + 1, 0, none⟩ = false ∧ wr.cell? ⟨w.heap.size + 1, 1, none⟩ = some a1_1 ∧ wr.frozen? ⟨w.heap.size + 1, 1, none⟩ = false ∧ wr.cell? ⟨w.heap.size + 1, 2, none⟩ = some a1_2 ∧ wr.frozen? ⟨w.heap.size + 1, 2, none⟩ = false ∧ w.heap.size + 1 + 1 < wr.heap.size ∧ wr.cell? ⟨w.heap.size + 1 + 1, 0, none⟩ = some a2_0 ∧ wr.frozen? ⟨w.heap.size + 1 + 1, 0, none⟩ = false ∧ wr.cell? ⟨w.heap.size + 1 + 1, 1, none⟩ = some a2_1 ∧ wr.frozen? ⟨w.heap.size + 1 + 1, 1, none⟩ = false :=
 ⟨h.l0 (by simp), h.c0 0 rfl, h.f0 0 rfl, h.c0 1 rfl, h.f0 1 rfl, h.c0 2 rfl, h.f0 2 rfl, h.c0 3 rfl, h.f0 3 rfl, h.l1 (by simp), h.c1 0 rfl, h.f1 0 rfl, h.c1 1 rfl, h.f1 1 rfl, h.c1 2 rfl, h.f1 2 rfl, h.l2 (by simp), h.c2 0 rfl, h.f2 0 rfl, h.c2 1 rfl, h.f2 1 rfl⟩

def RetNN (w : World) (r : Int × Int) (e : Ending) (w' : World) : Prop := e = .returned (.tuple #[.int .i64 r.1, .int .i64 r.2]) ∧ Below w.heap.size w w'
theorem RetNN.mk' {w w' : World} {r : Int × Int} {a b : Int} (hr : r = (a, b)) (hb : Below w.heap.size w w') : RetNN w r (.returned (.tuple #[.int .i64 a, .int .i64 b])) w' := by subst hr; exact ⟨rfl, hb⟩
noncomputable def bpR (p c h s m : Int) (bv : Bool) (own other : List Int) (v o : Int) : Int × Int := ((dgR p c h s m bv own other v o).2.2.1, (dgR p c h s m bv own other v o).2.2.2)

set_option maxRecDepth 100000 in
set_option maxHeartbeats 4000000 in
theorem BestReply_any (p c h s m : Int) (bv j : Bool) (A B : Option Addr) (n k ca cb : Nat) (own other : List Int) (v o : Int) (w : World) (hA : SL w A n own) (hB : SL w B k other) (hca : n ≤ ca) (hcb : k ≤ cb) :
   Calls Tryz.prog 43 #[.agg #[.int .i64 p, .int .i64 c, .int .i64 h, .int .i64 s], .agg #[.int .i64 m, .bool bv, .bool j], .slice A n ca, .slice B k cb, .agg #[.int .i64 v, .int .i64 o]] w (RetNN w (bpR p c h s m bv own other v o)) := by
 have HF0 : Hid (Fr w (((w.alloc (.cells #[.int .i64 p, .int .i64 c, .int .i64 h, .int .i64 s] 25)).alloc (.cells #[.int .i64 m, .bool bv, .bool j] 59)).alloc (.cells #[.int .i64 v, .int .i64 o] 62)) [[.int .i64 p, .int .i64 c, .int .i64 h, .int .i64 s], [.int .i64 m, .bool bv, .bool j], [.int .i64 v, .int .i64 o]]) := (((Fr.start w).allocT (by simp) _ _).allocT (by simp) _ _).allocT (by simp) _ _
 have HA0 := Lib.hid (hA.below HF0.out.b); have HB0 := Lib.hid (hB.below HF0.out.b); have HAL := Lib.hid hA.1; have HBL := Lib.hid hB.1; have CK := Lib.hid (checkDoubled_any p c h s m bv j A B n k ca cb own other v o _ HA0.out HB0.out); clear hA hB
 by_cases hcd : codeD p c h s m bv own other v o = 0
 · obtain ⟨hcm, hmay⟩ := codeD_ok hcd
   obtain ⟨hcl, hz1, hz2⟩ := codeM_ok hcm; rw [hcd] at CK; obtain ⟨hv, hr, hp1, hp2, hcu, _, hgi⟩ := codeL_ok hcl; have hvv := isVar_yes hv; obtain ⟨K, hK, rfl⟩ := rulB_two hr
   obtain ⟨c', rfl⟩ : ∃ c' : Nat, c = c' := ⟨c.toNat, by omega⟩
   obtain ⟨h', rfl⟩ : ∃ h' : Nat, h = h' := ⟨h.toNat, by omega⟩
   obtain ⟨s', rfl⟩ : ∃ s' : Nat, s = s' := ⟨s.toNat, by omega⟩
   rw [gamI_two hK] at hgi; obtain ⟨hN, _⟩ := gamB_yes hgi; have HP1 := Lib.hid (posB_pos hp1); have HP2 := Lib.hid (posB_pos hp2); have hcb0 := cubB_ok hcu
   have hnh : h' = n := by rw [← HAL.out]; exact (HP1.out.1).symm
   have hmh : h' = k := by rw [← HBL.out]; exact (HP2.out.1).symm
   subst hnh; subst hmh
   have CNEW := Lib.hid fun (W : World) => newMoney_any p c' h' s' K bv j W hv hN hK
   have HWR0 : Hid (bpR p c' h' s' (two K) bv own other v o = ((dgO (dbl s' ⟨two K, bv⟩ own other (v, o))).2.2.1, (dgO (dbl s' ⟨two K, bv⟩ own other (v, o))).2.2.2)) := by
     unfold Hid bpR dgR; rw [if_pos hcd]
     simp only [Int.toNat_natCast]
   obtain ⟨ov, hov⟩ : ∃ ov, ov = dbl s' ⟨two K, bv⟩ own other (v, o) := ⟨_, rfl⟩; rw [← hov] at HWR0
   have HDB : Hid (∀ (m : MT), m.t.c = c' → m.t.h = h' → m.t.s = s' → m.K = K → m.bv = bv → m.Ok → ∀ W : World, MonI m m.S W → SQ m.S W A h' own → SQ m.S W B h' other → Calls Tryz.prog 102 #[.pointer (some ⟨m.bm, 0, none⟩), .slice A h' ca, .slice B h' cb, .agg #[.int .i64 v, .int .i64 o]] W (RetMo m m.S W (ov.map fun y => y.1))) := by
     intro m e1 e2 e3 e4 e5 hok W hI h1 h2
     subst e1 e2 e3 e4 e5; rw [hov]
     exact doubled_all m hok HP1.out HP2.out hz1 hcb0 hmay m.S A B ca cb W (fun k hk hs => by have := hI.ltS k hs; omega) hI h1 hca h2 hcb
   have HRP : Hid (∀ (xn : Int) (xd : Nat) (a : Int), ov = some (⟨xn, xd⟩, a) → ∀ (m : MT), m.t.c = c' → m.t.h = h' → m.t.s = s' → m.K = K → m.bv = bv → m.Ok → ∀ W : World, MonI m m.S W → SQ m.S W A h' own → SQ m.S W B h' other → Calls Tryz.prog 103 #[.pointer (some ⟨m.bm, 0, none⟩), .slice A h' ca, .slice B h' cb, .agg #[.int .i64 v, .int .i64 o], .agg #[.int .i64 xn, .int .i64 (xd : Int)]] W (fun e w' => e = .returned (.int .i64 a) ∧ Frm m.S W w')) := by
     intro xn xd a he m e1 e2 e3 e4 e5 hok W hI h1 h2
     subst e1 e2 e3 e4 e5
     exact reply_any m hok HP1.out HP2.out hz1 hcb0 hmay (D := ⟨xn, xd⟩) (by rw [← he, hov]; rfl) m.S A B ca cb W (fun k hk hs => by have := hI.ltS k hs; omega) hI h1 hca h2 hcb
   clear hcd hmay hcm hcl hv hr hp1 hp2 hcu hgi hvv hov HAL HBL; generalize bpR p c' h' s' (two K) bv own other v o = rr at *
   go_enter Tryz.func43, Tryz.ntmps43
   go_wp2_with (fail)
   refine CK.out.mono ?_
   rintro e w1 ⟨rfl, hb1⟩
   have HFX := Lib.hid (HF0.out.below hb1); have HAX := Lib.hid (HA0.out.below hb1); have HBX := Lib.hid (HB0.out.below hb1); clear CK hb1 HF0 HA0 HB0; obtain ⟨z0, c00, f00, c01, f01, c02, f02, c03, f03, z1, c10, f10, c11, f11, c12, f12, z2, c20, f20, c21, f21⟩ := HFX.out.xf7
   go_wp2_with (fail)
   clear z0 c00 f00 c01 f01 c02 f02 c03 f03 z1 c10 f10 c11 f11 c12 f12 z2 c20 f20 c21 f21
   refine (CNEW.out _).mono ?_
   rintro e w2 ⟨m, _, m2, m3, m4, m5, m6, rfl, hok, hI, hlow, hb2⟩
   have HD2 := Lib.hid (HDB.out m m2 m3 m4 m5 m6 hok w2 hI ((SQ.of_sl HAX.out hlow).below hb2) ((SQ.of_sl HBX.out hlow).below hb2))
   have HR2 := Lib.hid fun (xn : Int) (xd : Nat) (a : Int) (he : ov = some (⟨xn, xd⟩, a)) => HRP.out xn xd a he m m2 m3 m4 m5 m6 hok
   have HLOW := Lib.hid hlow; have HQ1 := Lib.hid ((SQ.of_sl HAX.out hlow).below hb2); have HQ2 := Lib.hid ((SQ.of_sl HBX.out hlow).below hb2)
   have hz0 : w.heap.size + 3 ≤ w1.heap.size := by have := HFX.out.z; simpa using this
   replace HFX := Lib.hid (HFX.out.below hb2)
   have HLO2 : Hid (∀ k, m.S k → w.heap.size + 3 ≤ k) := fun k hk => by have h1 := HLOW.out k hk; omega
   clear m2 m3 m4 m5 m6 hok hI hlow hb2 HDB HRP CNEW HAX HBX; obtain ⟨z0, c00, f00, c01, f01, c02, f02, c03, f03, z1, c10, f10, c11, f11, c12, f12, z2, c20, f20, c21, f21⟩ := HFX.out.xf7
   go_wp2_with (fail)
   clear z0 c00 f00 c01 f01 c02 f02 c03 f03 z1 c10 f10 c11 f11 c12 f12 z2 c20 f20 c21 f21
   refine HD2.out.mono ?_
   rintro e w3 ⟨rfl, hI3, hf3⟩
   replace HFX := Lib.hid (HFX.out.frm hf3 (fun k hk => by have := HLO2.out k hk; omega) fun k hk => HLO2.out k hk)
   replace HQ1 := Lib.hid (HQ1.out.frm hf3); replace HQ2 := Lib.hid (HQ2.out.frm hf3)
   have hz3 : w.heap.size + 3 ≤ w3.heap.size := by have := HFX.out.z; simpa using this
   clear hf3 HD2 HLOW
   rcases ov with _ | ⟨⟨xn, xd⟩, ra⟩
   · have HWR : Hid (rr = (0, 3)) := HWR0.out
     simp only [Option.map_none, exV, Option.getD_none, Option.isSome_none]
     clear HR2 HQ1 HQ2 hI3; obtain ⟨z0, c00, f00, c01, f01, c02, f02, c03, f03, z1, c10, f10, c11, f11, c12, f12, z2, c20, f20, c21, f21⟩ := HFX.out.xf7
     go_wp2_with (fail)
     refine bodyPost_ret (v := .tuple #[.int .i64 0, .int .i64 3]) (by simp [results, Tryz.results43, go_sem]) rfl (RetNN.mk' HWR.out ?_)
     repeat (first | exact HFX.out.b | refine stw ?_ (by omega) | refine alw ?_ (by omega))
   · have HWR : Hid (rr = (ra, 0)) := HWR0.out
     simp only [Option.map_some, exV, Option.getD_some, Option.isSome_some]
     have CR := Lib.hid (HR2.out xn xd ra rfl (w3.alloc (.cells #[.int .i64 xn, .int .i64 (xd : Int)] 35)) (hI3.alloc _) (HQ1.out.below ((Below.refl _ _).alloc (Nat.le_refl _) _)) (HQ2.out.below ((Below.refl _ _).alloc (Nat.le_refl _) _))); clear HR2 HQ1 HQ2 hI3; obtain ⟨z0, c00, f00, c01, f01, c02, f02, c03, f03, z1, c10, f10, c11, f11, c12, f12, z2, c20, f20, c21, f21⟩ := HFX.out.xf7
     go_wp2_with (fail)
     clear z0 c00 f00 c01 f01 c02 f02 c03 f03 z1 c10 f10 c11 f11 c12 f12 z2 c20 f20 c21 f21
     refine CR.out.mono ?_
     rintro e w4 ⟨rfl, hf4⟩
     replace HFX := Lib.hid ((HFX.out.alloc (.cells #[.int .i64 xn, .int .i64 (xd : Int)] 35)).frm hf4 (fun k hk => by have := HLO2.out k hk; omega) fun k hk => HLO2.out k hk)
     clear hf4 CR HLO2; obtain ⟨z0, c00, f00, c01, f01, c02, f02, c03, f03, z1, c10, f10, c11, f11, c12, f12, z2, c20, f20, c21, f21⟩ := HFX.out.xf7
     go_wp2_with (fail)
     refine bodyPost_ret (v := .tuple #[.int .i64 ra, .int .i64 0]) (by simp [results, Tryz.results43, go_sem]) rfl (RetNN.mk' HWR.out ?_)
     repeat (first | exact HFX.out.b | refine stw ?_ (by omega) | refine alw ?_ (by omega))
 · have HWR : Hid (bpR p c h s m bv own other v o = (0, codeD p c h s m bv own other v o)) := by
     unfold Hid bpR dgR; rw [if_neg hcd]
   generalize codeD p c h s m bv own other v o = kk at *
   have b0 : (kk != 0) = true := by simp [hcd]
   clear hcd
   go_enter Tryz.func43, Tryz.ntmps43
   go_wp2_with (fail)
   refine CK.out.mono ?_
   rintro e w1 ⟨rfl, hb1⟩
   have HFX := Lib.hid (HF0.out.below hb1); have HAX := Lib.hid (HA0.out.below hb1); have HBX := Lib.hid (HB0.out.below hb1); clear CK hb1 HF0 HA0 HB0; obtain ⟨z0, c00, f00, c01, f01, c02, f02, c03, f03, z1, c10, f10, c11, f11, c12, f12, z2, c20, f20, c21, f21⟩ := HFX.out.xf7
   go_wp2_with (fail)
   refine bodyPost_ret (v := .tuple #[.int .i64 0, .int .i64 kk]) (by simp [results, Tryz.results43, go_sem]) rfl (RetNN.mk' HWR.out ?_)
   repeat (first | exact HFX.out.b | refine stw ?_ (by omega) | refine alw ?_ (by omega))

set_option maxRecDepth 100000 in
set_option maxHeartbeats 4000000 in
theorem sBestReply_any (p c h s m : Int) (bv j : Bool) (A B : Option Addr) (n k ca cb : Nat) (own other : List Int) (v o : Int) (w : World) (hA : SL w A n own) (hB : SL w B k other) (hca : n ≤ ca) (hcb : k ≤ cb) :
   Calls Tryz.prog 42 #[.agg #[.int .i64 p, .int .i64 c, .int .i64 h, .int .i64 s], .agg #[.int .i64 m, .bool bv, .bool j], .slice A n ca, .slice B k cb, .agg #[.int .i64 v, .int .i64 o]] w (RetNN w (bpR p c h s m bv own other v o)) := by
 have HF0 : Hid (Fr w (((w.alloc (.cells #[.int .i64 p, .int .i64 c, .int .i64 h, .int .i64 s] 25)).alloc (.cells #[.int .i64 m, .bool bv, .bool j] 59)).alloc (.cells #[.int .i64 v, .int .i64 o] 62)) [[.int .i64 p, .int .i64 c, .int .i64 h, .int .i64 s], [.int .i64 m, .bool bv, .bool j], [.int .i64 v, .int .i64 o]]) := (((Fr.start w).allocT (by simp) _ _).allocT (by simp) _ _).allocT (by simp) _ _
 have HA0 := Lib.hid (hA.below HF0.out.b); have HB0 := Lib.hid (hB.below HF0.out.b); have HAL := Lib.hid hA.1; have HBL := Lib.hid hB.1; have CK := Lib.hid (l17Doubling_any p c h s m bv j A B n k ca cb own other v o _ HA0.out HB0.out hca hcb); have HWR : Hid (bpR p c h s m bv own other v o = ((dgR p c h s m bv own other v o).2.2.1, (dgR p c h s m bv own other v o).2.2.2)) := rfl; clear hA hB
 rcases hdg : dgR p c h s m bv own other v o with ⟨a1, a2, a3, a4⟩
 rw [hdg] at CK HWR; clear hdg
 go_enter Tryz.func42, Tryz.ntmps42
 go_wp2_with (fail)
 refine CK.out.mono ?_
 rintro e w1 ⟨rfl, hb1⟩
 have HFX := Lib.hid (HF0.out.below hb1); have HAX := Lib.hid (HA0.out.below hb1); have HBX := Lib.hid (HB0.out.below hb1); clear CK hb1 HF0 HA0 HB0
 have hz4 : w.heap.size + 3 ≤ w1.heap.size := by have := HFX.out.z; simpa using this
 obtain ⟨z0, c00, f00, c01, f01, c02, f02, c03, f03, z1, c10, f10, c11, f11, c12, f12, z2, c20, f20, c21, f21⟩ := HFX.out.xf7
 go_wp2_with (fail)
 refine bodyPost_ret (v := .tuple #[.int .i64 a3, .int .i64 a4]) (by simp [results, Tryz.results42, go_sem]) rfl (RetNN.mk' HWR.out ?_)
 repeat (first | exact HFX.out.b | refine stw ?_ (by omega) | refine alw ?_ (by omega))
end Go.Proofs.YtgjapehpkakkbaaGreat

/- Contract of the best reply, out of the program's money tables. There are no conditions beyond those that it states. -/
import Derived.Test.YtgjapehpkakkbaaGreatKM14
import Derived.Test.YtgjapehpkakkbaaGreatKM31
namespace Go.Proofs.YtgjapehpkakkbaaGreat
set_option linter.unusedVariables false
set_option linter.unusedSimpArgs false
open Go.RowKit Ps Ra Ex Go.Maps Mo

theorem doubled_all (m : MT) (hm : m.Ok) {own other : List Int} (hq : PosP m.t.h m.t.c own) (hq2 : PosP m.t.h m.t.c other) (h0 : own.sum ≠ 0) {c : Cb} (hc : CbOk m.K c) (hmay : may m.ru c = true) : DblC m own other c := doubled_any m hm hc hmay fun cc hcc => mroll_all m hm hq hq2 h0 hcc
theorem beaver_all (m : MT) (hm : m.Ok) {own other : List Int} (hq : PosP m.t.h m.t.c own) (hq2 : PosP m.t.h m.t.c other) (h0 : own.sum ≠ 0) {c : Cb} (hc : CbOk m.K c) (hb : bvr m.ru c = true) : BevC m own other c := beaver_any m hm hc hb fun cc hcc => mroll_all m hm hq hq2 h0 hcc

theorem eql_exactM (a b a' b' : Int) (w : World) : (binOp .eql 35 (.agg #[.int .i64 a, .int .i64 b]) (.agg #[.int .i64 a', .int .i64 b'])).run Tryz.prog w = .ok (.bool (decide (a = a' ∧ b = b'))) w := by
 have u3 := Tryz.underlying2
 have hS : Tryz.prog.underlying 35 = some (.struct (Tryz.prog.fieldsOf 35)) := by kernel_rfl
 have hp : Tryz.prog.stoodInHeld 35 = false := by kernel_rfl
 rw [run_eql_struct, show (10000 : Nat) = 9999 + 1 from rfl, run_equalIn_agg w 9999 35 _ _ hS hp]
 simp only [Program.fieldsOf, Tryz.underlying35]
 go_simp
 by_cases h1 : a = a' <;> by_cases h2 : b = b' <;> simp [h1, h2]
set_option maxRecDepth 100000 in
set_option maxHeartbeats 4000000 in
theorem reply_any (m : MT) (hm : m.Ok) {own other : List Int} (hq : PosP m.t.h m.t.c own) (hq2 : PosP m.t.h m.t.c other) (h0 : own.sum ≠ 0) {c : Cb} (hc : CbOk m.K c) (hmay : may m.ru c = true) {D : E} {a : Int} (hd : dbl m.t.s m.ru own other c = some (D, a))
   (T : Nat → Prop) (A B : Option Addr) (ca cb : Nat) (w : World) (hT : ∀ k, w.heap.size ≤ k → ¬ T k) (hI : MonI m T w) (hA : SQ T w A m.t.h own) (hca : m.t.h ≤ ca) (hB : SQ T w B m.t.h other) (hcb : m.t.h ≤ cb) :
   Calls Tryz.prog 103 #[.pointer (some ⟨m.bm, 0, none⟩), .slice A m.t.h ca, .slice B m.t.h cb, .agg #[.int .i64 c.1, .int .i64 c.2], .agg #[.int .i64 D.num, .int .i64 (D.depth : Int)]] w fun e w' => e = .returned (.int .i64 a) ∧ Frm m.S w w' := by
 obtain ⟨v, o⟩ := c; obtain ⟨dn, dd⟩ := D; have hcv : 1 ≤ v ∧ v ≤ 1024 ∧ 0 ≤ o ∧ o ≤ 2 := hc.v1 hm.k; obtain ⟨x, hx, hcases⟩ := reply_law hd; have R2 := Lib.hid (mroll_all m hm hq hq2 h0 (up2 hc hmay))
 have CA := Lib.hid fun (W : World) => cubeAfter_any v o 1 W (by omega) (by omega)
 have hlow := hI.ltS
 have HF : Hid (FrS m.S w ((w.alloc (.cells #[.int .i64 v, .int .i64 o] 62)).alloc (.cells #[.int .i64 dn, .int .i64 (dd : Int)] 35)) [[.int .i64 v, .int .i64 o], [.int .i64 dn, .int .i64 (dd : Int)]]) := ((FrS.start w hlow).allocT (by simp) _ _).allocT (by simp) _ _
 have hb0 : Below w.heap.size w ((w.alloc (.cells #[.int .i64 v, .int .i64 o] 62)).alloc (.cells #[.int .i64 dn, .int .i64 (dd : Int)] 35)) := ((Below.refl _ _).alloc (Nat.le_refl _) _).alloc (by simp) _
 have HI := Lib.hid (hI.below hb0); have HA := Lib.hid (hA.below hb0); have HB := Lib.hid (hB.below hb0); have HTS := Lib.hid hI.sub
 have HTN : Hid (∀ W : World, w.heap.size ≤ W.heap.size → ∀ k, W.heap.size ≤ k → ¬ T k) := fun W hz k hk => hT k (Nat.le_trans hz hk)
 by_cases hw : (⟨dn, dd⟩ : E) = whl v
 · have ha : a = 2 := by
     rcases hcases with ⟨_, h⟩ | ⟨h, _⟩ | ⟨h, _⟩
     · exact h
     · exact absurd hw h
     · exact absurd hw h
   have hq1 : ∀ W : World, (binOp .eql 35 (.agg #[.int .i64 dn, .int .i64 (dd : Int)]) (.agg #[.int .i64 v, .int .i64 0])).run Tryz.prog W = .ok (.bool true) W := fun W => by
     rw [eql_exactM, decide_eq_true (by injection hw with e1 e2; exact ⟨e1, by omega⟩)]
   subst ha; clear hcases hx hd hT hI hA hB hm hq hq2 h0 hc hmay hlow R2 CA HA HB HI HTN hw
   go_enter Tryz.func103, Tryz.ntmps103
   go_wp2_with (fail)
   generalize (w.alloc (.cells #[.int .i64 v, .int .i64 o] 62)).alloc (.cells #[.int .i64 dn, .int .i64 (dd : Int)] 35) = W at *
   go_ret
   exact ⟨rfl, HF.out.f⟩
 · have hq1 : ∀ W : World, (binOp .eql 35 (.agg #[.int .i64 dn, .int .i64 (dd : Int)]) (.agg #[.int .i64 v, .int .i64 0])).run Tryz.prog W = .ok (.bool false) W := fun W => by
     rw [eql_exactM, decide_eq_false fun ⟨e1, e2⟩ => hw (by rw [e1, show dd = 0 by omega]; rfl)]
   obtain ⟨xn, xd⟩ := x; have hx' : rol m.t.s m.ru own other (2 * v, 2) = some ⟨xn, xd⟩ := hx
   have R2' : Hid (∀ (W : World), w.heap.size ≤ W.heap.size → MonI m T W → SQ T W A m.t.h own → SQ T W B m.t.h other → Calls Tryz.prog 99 #[.pointer (some ⟨m.bm, 0, none⟩), .slice A m.t.h ca, .slice B m.t.h cb, .agg #[.int .i64 (2 * v), .int .i64 2]] W (fun e w' => e = .returned (.tuple #[.agg #[.int .i64 xn, .int .i64 (xd : Int)], .bool true]) ∧ MonI m T w' ∧ Frm m.S W w')) := fun W hz h1 h2 h3 => by
     have := R2.out T A B ca cb W (HTN.out W hz) h1 h2 hca h3 hcb; unfold RetMo at this; rw [hx'] at this
     exact this
   by_cases hwx : (⟨xn, xd⟩ : E) = ⟨dn, dd⟩
   · have ha : a = 1 := by
       rcases hcases with ⟨h, _⟩ | ⟨_, _, h⟩ | ⟨_, h, _⟩
       · exact absurd h hw
       · exact h
       · exact absurd hwx.symm h
     have hq2' : ∀ W : World, (binOp .eql 35 (.agg #[.int .i64 xn, .int .i64 (xd : Int)]) (.agg #[.int .i64 dn, .int .i64 (dd : Int)])).run Tryz.prog W = .ok (.bool true) W := fun W => by
       rw [eql_exactM, decide_eq_true (by injection hwx with e1 e2; exact ⟨e1, by omega⟩)]
     subst ha; clear hcases hx hx' hd hT hI hA hB hm hq hq2 h0 hc hmay R2 HTN hw hwx
     go_enter Tryz.func103, Tryz.ntmps103
     go_wp2_with (go_at_call 162; (with_reducible refine (more_first (CA.out _)).mono ?_); rintro e w' ⟨rfl, tr, rfl⟩)
     replace HF := Lib.hid (HF.out.more tr); replace HI := Lib.hid (HI.out.below (below_more _ tr)); replace HA := Lib.hid (HA.out.below (below_more _ tr)); replace HB := Lib.hid (HB.out.below (below_more _ tr)); generalize more ((w.alloc (.cells #[.int .i64 v, .int .i64 o] 62)).alloc (.cells #[.int .i64 dn, .int .i64 (dd : Int)] 35)) tr = W1 at *
     have hz1 : w.heap.size + 2 ≤ W1.heap.size := by have := HF.out.z; simpa using this
     refine (R2'.out W1 (by omega) HI.out HA.out HB.out).mono ?_
     rintro e w2 ⟨rfl, hI2, hf2⟩
     have hfT := frmT_M hf2 HTS.out; replace HF := Lib.hid (HF.out.frm hf2); replace HI := Lib.hid hI2; replace HA := Lib.hid (HA.out.frm hfT); replace HB := Lib.hid (HB.out.frm hfT)
     have hz2 : w.heap.size + 2 ≤ w2.heap.size := by have := hf2.size; omega
     clear hI2 hf2 hfT R2' CA; obtain ⟨z0, c00, f00, c01, f01, z1, c10, f10, c11, f11⟩ := HF.out.xf3
     go_wp2_with (fail)
     refine bodyPost_ret (v := .int .i64 1) (by simp [results, Tryz.results103, go_sem]) rfl ⟨rfl, ?_⟩
     repeat (first | exact HF.out.f | refine Frm.alloc ?_ _ | refine Frm.ownSet ?_ (by omega) _)
   · obtain ⟨hb, y, yb, hbev, ha⟩ : bvr m.ru (v, o) = true ∧ ∃ y b, bev m.t.s m.ru own other (v, o) = some (y, b) ∧ a = if b then 4 else 3 := by
       rcases hcases with ⟨h, _⟩ | ⟨_, h, _⟩ | ⟨_, _, h1, h2⟩
       · exact absurd h hw
       · exact absurd h.symm hwx
       · exact ⟨h1, h2⟩
     obtain ⟨yn, yd⟩ := y
     have hq2' : ∀ W : World, (binOp .eql 35 (.agg #[.int .i64 xn, .int .i64 (xd : Int)]) (.agg #[.int .i64 dn, .int .i64 (dd : Int)])).run Tryz.prog W = .ok (.bool false) W := fun W => by
       rw [eql_exactM, decide_eq_false fun ⟨e1, e2⟩ => hwx (by rw [e1, show xd = dd by omega])]
     have BV : Hid (∀ (W : World), w.heap.size ≤ W.heap.size → MonI m T W → SQ T W A m.t.h own → SQ T W B m.t.h other → Calls Tryz.prog 164 #[.pointer (some ⟨m.bm, 0, none⟩), .slice A m.t.h ca, .slice B m.t.h cb, .agg #[.int .i64 v, .int .i64 o]] W (fun e w' => e = .returned (.tuple #[.agg #[.int .i64 yn, .int .i64 (yd : Int)], .int .i64 a, .bool true]) ∧ Frm m.S W w')) := fun W hz h1 h2 h3 => by
       refine (beaver_all m hm hq hq2 h0 hc hb T A B ca cb W (HTN.out W hz) h1 h2 hca h3 hcb).mono ?_
       rintro e w' ⟨_, hf, he⟩
       rw [hbev] at he
       exact ⟨by rw [ha]; exact he, hf⟩
     clear hcases hx hx' hd hT hI hA hB hm hq hq2 h0 hc hmay R2 HTN hw hwx hb hbev ha
     go_enter Tryz.func103, Tryz.ntmps103
     go_wp2_with (go_at_call 162; (with_reducible refine (more_first (CA.out _)).mono ?_); rintro e w' ⟨rfl, tr, rfl⟩)
     replace HF := Lib.hid (HF.out.more tr); replace HI := Lib.hid (HI.out.below (below_more _ tr)); replace HA := Lib.hid (HA.out.below (below_more _ tr)); replace HB := Lib.hid (HB.out.below (below_more _ tr)); generalize more ((w.alloc (.cells #[.int .i64 v, .int .i64 o] 62)).alloc (.cells #[.int .i64 dn, .int .i64 (dd : Int)] 35)) tr = W1 at *
     have hz1 : w.heap.size + 2 ≤ W1.heap.size := by have := HF.out.z; simpa using this
     refine (R2'.out W1 (by omega) HI.out HA.out HB.out).mono ?_
     rintro e w2 ⟨rfl, hI2, hf2⟩
     have hfT := frmT_M hf2 HTS.out; replace HF := Lib.hid (HF.out.frm hf2); replace HI := Lib.hid hI2; replace HA := Lib.hid (HA.out.frm hfT); replace HB := Lib.hid (HB.out.frm hfT)
     have hz2 : w.heap.size + 2 ≤ w2.heap.size := by have := hf2.size; omega
     clear hI2 hf2 hfT R2' CA; obtain ⟨z0, c00, f00, c01, f01, z1, c10, f10, c11, f11⟩ := HF.out.xf3
     go_wp2_with (fail)
     clear z0 c00 f00 c01 f01 z1 c10 f10 c11 f11
     have hzb : w.heap.size ≤ w2.heap.size := by omega
     have HF3 := Lib.hid (HF.out.alloc (.cells #[.int .i64 xn, .int .i64 (xd : Int)] 35))
     refine (BV.out _ (by simp; omega) (HI.out.alloc _) (HA.out.below ((Below.refl _ _).alloc (Nat.le_refl _) _)) (HB.out.below ((Below.refl _ _).alloc (Nat.le_refl _) _))).mono ?_
     rintro e w3 ⟨rfl, hf3⟩
     replace HF := Lib.hid (HF3.out.frm hf3); clear hf3 HF3 HI HA HB BV; obtain ⟨z0, c00, f00, c01, f01, z1, c10, f10, c11, f11⟩ := HF.out.xf3
     go_wp2_with (fail)
     refine bodyPost_ret (v := .int .i64 a) (by simp [results, Tryz.results103, go_sem]) rfl ⟨rfl, ?_⟩
     repeat (first | exact HF.out.f | refine Frm.alloc ?_ _ | refine Frm.ownSet ?_ (by omega) _)
end Go.Proofs.YtgjapehpkakkbaaGreat

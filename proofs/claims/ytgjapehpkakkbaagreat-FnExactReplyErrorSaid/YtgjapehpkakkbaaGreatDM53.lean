/- Part of one proof. There are no conditions. -/
import Derived.Test.YtgjapehpkakkbaaGreatDM39
import Derived.Test.YtgjapehpkakkbaaGreatDM45
import Derived.Test.YtgjapehpkakkbaaGreatDJ7
set_option linter.unusedVariables false
set_option linter.unusedSimpArgs false
namespace Go.Proofs.YtgjapehpkakkbaaGreat
open Go.RowKit Mo Ps Ra Ex
def minE (B:Int) (x y:E):Option E:=addE B x (negE y)
set_option maxRecDepth 10000 in
theorem minusExact_any (p c h xn yn:Int) (s xd yd:Nat) (w:World) (hs1:1≤s) (hs6:s≤6) (hx:Val (sq s) ⟨xn,xd⟩) (hy:Val (sq s) ⟨yn,yd⟩):
  Calls Tryz.prog 74 #[.agg #[.int .i64 p,.int .i64 c,.int .i64 h,.int .i64 s],.agg #[.int .i64 xn,.int .i64 xd],.agg #[.int .i64 yn,.int .i64 yd]] w (RetE w (minE (sq s) ⟨xn,xd⟩ ⟨yn,yd⟩)):=by
 have hy1 : -1000000000000000000≤yn:=hy.1;have hy2:yn≤1000000000000000000:=hy.2.1
 rcases hm:minE (sq s) ⟨xn,xd⟩ ⟨yn,yd⟩with _|⟨m,d⟩
 ·have AD:Hid (∀W:World,Calls Tryz.prog 133 #[.agg #[.int .i64 p,.int .i64 c,.int .i64 h,.int .i64 s],.agg #[.int .i64 xn,.int .i64 xd],.agg #[.int .i64 (-yn),.int .i64 yd]] W fun e w'=>e = .returned (.tuple #[.agg #[.int .i64 0,.int .i64 0],.bool false])∧Below W.heap.size W w'):=fun W=>by
   have:=addExact_any p c h xn (-yn) s xd yd W hs1 hs6 hx (neg_val hy);rw[show addE (sq s) ⟨xn,xd⟩ ⟨-yn,yd⟩=minE (sq s) ⟨xn,xd⟩ ⟨yn,yd⟩from rfl,hm]at this;exact this
  have HF:Hid (Fr w ((((w.alloc (.cells #[.int .i64 p,.int .i64 c,.int .i64 h,.int .i64 s] 25)).alloc (.cells #[.int .i64 xn,.int .i64 xd] 35)).alloc (.cells #[.int .i64 yn,.int .i64 yd] 35)).alloc (.cells #[.int .i64 0,.int .i64 0] 35)) [[.int .i64 p,.int .i64 c,.int .i64 h,.int .i64 s],[.int .i64 xn,.int .i64 xd],[.int .i64 yn,.int .i64 yd],[.int .i64 0,.int .i64 0]]):=
   ((((Fr.start w).allocT (by simp) _ _).allocT (by simp) _ _).allocT (by simp) _ _).allocT (by simp) _ _
  clear hx hy hm
  go_enter Tryz.func74,Tryz.ntmps74
  go_wp2_with (fail)
  refine (more_first (AD.out _)).mono ?_
  rintro e w' ⟨rfl,t,rfl⟩
  have HZ:=h_ (HF.out.more t);generalize more ((((w.alloc (.cells #[.int .i64 p,.int .i64 c,.int .i64 h,.int .i64 s] 25)).alloc (.cells #[.int .i64 xn,.int .i64 xd] 35)).alloc (.cells #[.int .i64 yn,.int .i64 yd] 35)).alloc (.cells #[.int .i64 0,.int .i64 0] 35)) t=Z at *;obtain⟨z0,c00,f00,c01,f01,c02,f02,c03,f03,z1,c10,f10,c11,f11,z2,c20,f20,c21,f21,z3,c30,f30,c31,f31⟩:=HZ.out.xf0
  go_wp2_with (fail)
  refine bodyPost_ret (v:=.tuple #[.agg #[.int .i64 0,.int .i64 0],.bool false]) (by simp[results,Tryz.results74,go_sem,c30,c31,z3,f30,f31]) rfl (RetE.mkN rfl ?_)
  repeat (first|exact HZ.out.b|refine stw ?_ (by omega))
 ·have AD:Hid (∀W:World,Calls Tryz.prog 133 #[.agg #[.int .i64 p,.int .i64 c,.int .i64 h,.int .i64 s],.agg #[.int .i64 xn,.int .i64 xd],.agg #[.int .i64 (-yn),.int .i64 yd]] W fun e w'=>e = .returned (.tuple #[.agg #[.int .i64 m,.int .i64 d],.bool true])∧Below W.heap.size W w'):=fun W=>by
   have:=addExact_any p c h xn (-yn) s xd yd W hs1 hs6 hx (neg_val hy);rw[show addE (sq s) ⟨xn,xd⟩ ⟨-yn,yd⟩=minE (sq s) ⟨xn,xd⟩ ⟨yn,yd⟩from rfl,hm]at this;exact this
  have HF:Hid (Fr w ((((w.alloc (.cells #[.int .i64 p,.int .i64 c,.int .i64 h,.int .i64 s] 25)).alloc (.cells #[.int .i64 xn,.int .i64 xd] 35)).alloc (.cells #[.int .i64 yn,.int .i64 yd] 35)).alloc (.cells #[.int .i64 0,.int .i64 0] 35)) [[.int .i64 p,.int .i64 c,.int .i64 h,.int .i64 s],[.int .i64 xn,.int .i64 xd],[.int .i64 yn,.int .i64 yd],[.int .i64 0,.int .i64 0]]):=
   ((((Fr.start w).allocT (by simp) _ _).allocT (by simp) _ _).allocT (by simp) _ _).allocT (by simp) _ _
  clear hx hy hm
  go_enter Tryz.func74,Tryz.ntmps74
  go_wp2_with (fail)
  refine (more_first (AD.out _)).mono ?_
  rintro e w' ⟨rfl,t,rfl⟩
  have HZ:=h_ (HF.out.more t);generalize more ((((w.alloc (.cells #[.int .i64 p,.int .i64 c,.int .i64 h,.int .i64 s] 25)).alloc (.cells #[.int .i64 xn,.int .i64 xd] 35)).alloc (.cells #[.int .i64 yn,.int .i64 yd] 35)).alloc (.cells #[.int .i64 0,.int .i64 0] 35)) t=Z at *;obtain⟨z0,c00,f00,c01,f01,c02,f02,c03,f03,z1,c10,f10,c11,f11,z2,c20,f20,c21,f21,z3,c30,f30,c31,f31⟩:=HZ.out.xf0
  go_wp2_with (fail)
  refine bodyPost_ret (v:=.tuple #[.agg #[.int .i64 m,.int .i64 d],.bool true]) (by simp[results,Tryz.results74,go_sem,c30,c31,z3,f30,f31]) rfl (RetE.mkY rfl ?_)
  repeat (first|exact HZ.out.b|refine stw ?_ (by omega))
theorem min_some {s:Nat} (hs1:1≤s) (hs6:s≤6) {x y:E} (hx:Val (sq s) x) (hy:Val (sq s) y) (bx:Bd (sq s) 1024 x) (by':Bd (sq s) 1024 y):∃z,minE (sq s) x y=some z:=add_some hs1 hs6 hx (neg_val hy) bx (bd_neg by')
theorem two_1024 {K:Nat} (hK:K≤10):two K≤1024:=Int.le_trans (two_mono hK) (by decide)
theorem dcd_facts {s K:Nat} {bv:Bool} {own other:List Int} {c:Cb} (hs1:1≤s) (hs6:s≤6) (hK:K≤10) (hc:CbOk K c) {a b:Int} {x y z:E} (h:dcd s ⟨two K,bv⟩ own other c=some (a,x,y,b,z)):
  (Val (sq s) x∧Bd (sq s) 1024 x)∧(Val (sq s) y∧Bd (sq s) 1024 y)∧(Val (sq s) z∧Bd (sq s) 1024 z):=by
 obtain⟨hB,_,_⟩:=sq_bd hs1 hs6;have h10:=two_1024 hK;have hv:=hc.val;unfold dcd at h
 cases hx:rol s ⟨two K,bv⟩ own other c with
 | none=>rw[hx]at h;cases h
 | some x' =>
   rw [hx, Option.bind_some] at h; have f1 : Val (sq s) x' ∧ Bd (sq s) 1024 x' := ⟨rol_val hB hx, bd_mono hB h10 (rol_bd hs1 hs6 hc hx)⟩
   have f0 : Val (sq s) ⟨0, 0⟩ ∧ Bd (sq s) 1024 ⟨0, 0⟩ := ⟨zero_val, bd_zero (by omega)⟩
   split at h
   · rename_i hm
     cases hy : dbl s ⟨two K, bv⟩ own other c with
     | none => rw [hy] at h; cases h
     | some d =>
       rw [hy, Option.map_some] at h
       have f2 : Val (sq s) d.1 ∧ Bd (sq s) 1024 d.1 := ⟨dblV_val (s := s) (r := ⟨two K, bv⟩) (own := own) (other := other) (c := c) hB (by omega) (by omega) (by rw [← dbl_fst, hy]; rfl), bd_mono hB h10 (dbl_bd hs1 hs6 hc hm hy)⟩
       split at h
       · injection h with h
         injection h with h1 h; injection h with h2 h; injection h with h3 h; injection h with h4 h5; subst h2 h3 h5
         exact ⟨f1, f2, f2⟩
       · injection h with h
         injection h with h1 h; injection h with h2 h; injection h with h3 h; injection h with h4 h5; subst h2 h3 h5
         exact ⟨f1, f2, f1⟩
   · injection h with h
     injection h with h1 h; injection h with h2 h; injection h with h3 h; injection h with h4 h5; subst h2 h3 h5
     exact ⟨f1, f0, f1⟩
theorem val_facts {s K:Nat} {bv:Bool} {own other:List Int} {c:Cb} {a:Int} (hs1:1≤s) (hs6:s≤6) (hK:K≤10) (hc:CbOk K c) (hpa:posA ⟨two K,bv⟩ c a=true) {x:E} (h:valV s ⟨two K,bv⟩ own other c a=some x):Val (sq s) x∧Bd (sq s) 1024 x:=by
 obtain⟨hB,_,_⟩:=sq_bd hs1 hs6;have h10:=two_1024 hK;have hv:=hc.val;unfold valV at h
 split at h
 ·injection h with h
  subst h
  exact⟨whl_val' (n:=c.1) (by omega) (by omega),bd_whl (n:=c.1) (by omega) (by omega)⟩
 ·rename_i h2
  exact⟨rol_val hB h,bd_mono hB h10 (rol_bd hs1 hs6 (aft_ok hc hpa h2) h)⟩
theorem val_some {s:Nat} {r:Ru} {own other:List Int} {c:Cb} {a:Int} (hv:1≤c.1) (hpa:posA r c a=true) {d:Int×E×E×Int×E} (h:dcd s r own other c=some d):∃x,valV s r own other c a=some x:=by
 unfold valV
 by_cases h2:a=2
 ·exact⟨_,if_pos h2⟩
 rw[if_neg h2];unfold dcd at h
 cases hx:rol s r own other c with
 | none=>rw[hx]at h;cases h
 | some x' =>
   rw [hx, Option.bind_some] at h
   by_cases h0 : a = 0
   · subst h0; exact ⟨x', hx⟩
   have hcase : a = 1 ∨ a = 3 ∨ a = 4 ∨ ¬ (0 ≤ a ∧ a ≤ 4) := by omega
   have key : may r c = true → ∃ y, dbl s r own other c = some y := fun hm => by
     rw [if_pos hm] at h
     cases hy : dbl s r own other c with
     | none => rw [hy] at h; cases h
     | some y => exact ⟨y, rfl⟩
   have k1 : may r c = true → ∃ x, rol s r own other (2 * c.1, 2) = some x := fun hm => by
     obtain ⟨y, hy⟩ := key hm
     obtain ⟨x, h1, _⟩ := reply_law (show dblG (sq s) r (rol s r) own other c = some (y.1, y.2) from hy)
     exact ⟨x, h1⟩
   have k3 : bvr r c = true → ∃ y, bevG (sq s) r (rol s r) own other c = some y := fun hb => by
     have hm : may r c = true := by unfold bvr at hb; simp only [Bool.and_eq_true] at hb; exact hb.1.1
     obtain ⟨y, hy⟩ := key hm; have hy : dblG (sq s) r (rol s r) own other c = some y := hy; rw [dblG_eq] at hy
     cases hz : rol s r own other (2 * c.1, 2) with
     | none => rw [hz] at hy; cases hy
     | some z =>
       rw [hz, Option.bind_some, if_pos hb] at hy
       cases hw : bevG (sq s) r (rol s r) own other c with
       | none => rw [hw] at hy; cases hy
       | some u => exact ⟨u, rfl⟩
   rcases hcase with rfl | rfl | rfl | hn
   · exact k1 hpa
   · obtain ⟨y, hy⟩ := k3 hpa
     unfold bevG at hy
     cases hz : rol s r own other (4 * c.1, 2) with
     | none => rw [hz] at hy; cases hy
     | some z => exact ⟨z, hz⟩
   · have hr : rcn r c = true := hpa
     have hb : bvr r c = true := by
       unfold rcn at hr; unfold bvr
       simp only [Bool.and_eq_true, decide_eq_true_eq] at hr ⊢
       exact ⟨hr.1, by have := hr.2; omega⟩
     obtain ⟨y, hy⟩ := k3 hb; unfold bevG at hy
     cases hz : rol s r own other (4 * c.1, 2) with
     | none => rw [hz] at hy; cases hy
     | some z =>
       rw [hz, Option.bind_some, if_pos hr] at hy
       cases hw : rol s r own other (8 * c.1, 2) with
       | none => rw [hw] at hy; cases hy
       | some u => exact ⟨u, hw⟩
   · rw [posA_no hn] at hpa; cases hpa
def erV (B:Int) (a:Int) (d:Int×E×E×Int×E) (x:E):E×E:=if a=0 then ((minE B d.2.2.2.2 d.2.1).getD ⟨0,0⟩,⟨0,0⟩) else ((minE B d.2.2.2.2 d.2.2.1).getD ⟨0,0⟩,(minE B x d.2.2.1).getD ⟨0,0⟩)
noncomputable def erR (p c h s m:Int) (bv:Bool) (own other:List Int) (v o a:Int):(Int×Int)×(Int×Int)×Int:=
 if codeC p c h s m bv own other v o a=0 then (match dcd s.toNat ⟨m,bv⟩ own other (v,o) with
 | none=>((0,0),(0,0),3)
 | some d=>(((erV (sq s.toNat) a d ((valV s.toNat ⟨m,bv⟩ own other (v,o) a).getD ⟨0,0⟩)).1.num,((erV (sq s.toNat) a d ((valV s.toNat ⟨m,bv⟩ own other (v,o) a).getD ⟨0,0⟩)).1.depth:Int)),((erV (sq s.toNat) a d ((valV s.toNat ⟨m,bv⟩ own other (v,o) a).getD ⟨0,0⟩)).2.num,((erV (sq s.toNat) a d ((valV s.toNat ⟨m,bv⟩ own other (v,o) a).getD ⟨0,0⟩)).2.depth:Int)),0)) else ((0,0),(0,0),codeC p c h s m bv own other v o a)
noncomputable def deR (p c h s m:Int) (bv:Bool) (own other:List Int) (v o a:Int):Int×Int×Int:=((erR p c h s m bv own other v o a).1.1,(erR p c h s m bv own other v o a).1.2,(erR p c h s m bv own other v o a).2.2)
noncomputable def reR (p c h s m:Int) (bv:Bool) (own other:List Int) (v o a:Int):Int×Int×Int:=((erR p c h s m bv own other v o a).2.1.1,(erR p c h s m bv own other v o a).2.1.2,(erR p c h s m bv own other v o a).2.2)
end Go.Proofs.YtgjapehpkakkbaaGreat
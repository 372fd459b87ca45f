/- Part of one proof. There are no conditions. -/
import Derived.Test.YtkaiilmgemaljaaGreatGP3
import Derived.Test.YtkaiilmgemaljaaGreatGM23
set_option maxHeartbeats 0
set_option linter.unusedVariables false
set_option linter.unusedSimpArgs false
set_option maxRecDepth 100000
namespace Go.Proofs.YtkaiilmgemaljaaGreat
open Go.RowKit Mo Ps Ra Ex
theorem CubeGain_any (p c h s m:Int) (bv j:Bool) (A B:Option Addr) (n k ca cb:Nat) (own other:List Int) (v o:Int) (w:World) (hA:SL w A n own) (hB:SL w B k other) (hca:n<=ca) (hcb:k<=cb):
  Calls Tryz.prog 59 #[.agg #[.int .i64 p,.int .i64 c,.int .i64 h,.int .i64 s],.agg #[.int .i64 m,.bool bv,.bool j],.slice A n ca,.slice B k cb,.agg #[.int .i64 v,.int .i64 o]] w (RetN w (cgR p c h s m bv own other v o)):=by
 have HF0:Hid (Fr w ((((w.alloc (.cells #[.int .i64 p,.int .i64 c,.int .i64 h,.int .i64 s] 25)).alloc (.cells #[.int .i64 m,.bool bv,.bool j] 53)).alloc (.cells #[.int .i64 v,.int .i64 o] 55)).alloc (.cells #[.int .i64 0,.int .i64 0] 35)) [[.int .i64 p,.int .i64 c,.int .i64 h,.int .i64 s],[.int .i64 m,.bool bv,.bool j],[.int .i64 v,.int .i64 o],[.int .i64 0,.int .i64 0]]):=((((Fr.start w).allocT (by simp) _ _).allocT (by simp) _ _).allocT (by simp) _ _).allocT (by simp) _ _
 have HA0:=h_ (hA.below HF0.out.b);have HB0:=h_ (hB.below HF0.out.b);have HAL:=h_ hA.1;have HBL:=h_ hB.1;have CK:=h_ (je p c h s m bv j A B n k ca cb own other v o true _ HA0.out HB0.out);have HAW:=h_ hA;have HBW:=h_ hB;clear hA hB
 by_cases hcm:codeM p c h s m own other v o true=0
 focus
  obtain⟨hcl,hz1,hz2⟩:=ki hcm
  rw[hcm]at CK;obtain⟨hv,hr,hp1,hp2,hcu,_,hgi⟩:=gp hcl;have hvv:=ak hv;obtain⟨K,hK,rfl⟩:=eU hr
  obtain⟨c',rfl⟩:∃c':Nat,c=c':=⟨c.toNat,by omega⟩
  obtain⟨h',rfl⟩:∃h':Nat,h=h':=⟨h.toNat,by omega⟩
  obtain⟨s',rfl⟩:∃s':Nat,s=s':=⟨s.toNat,by omega⟩
  rw[eW hK]at hgi;obtain⟨hN,_⟩:=gi hgi;have HP1:=h_ (bC hp1);have HP2:=h_ (bC hp2);have hcb0:=cubB_ok hcu
  have hnh:h'=n:=by rw[<- HAL.out];exact (HP1.out.1).symm
  have hmh:h'=k:=by rw[<- HBL.out];exact (HP2.out.1).symm
  subst hnh;subst hmh
  have CNEW:=h_ fun (W:World)=>newMoney_any p c' h' s' K bv j W hv hN hK
  have hcv:=hcb0.v1 hK;have hv1:1<=v:=hcv.1;have hv2:v<=1024:=hcv.2.1
  have hs1:1<=s':=by omega
  have hs6:s'<=6:=by omega
  have hq1:=(sq_bd hs1 hs6).1;obtain⟨cu,hcu'⟩:∃cu,cu=(win s' own other).bind (cubE (sq s')):=⟨_,rfl⟩;obtain⟨ov,hov⟩:∃ov,ov=eqv s' ⟨two K,bv⟩ own other (v,o):=⟨_,rfl⟩
  have HVV:Hid (∀x,ov=some x->Val (sq s') x):=fun x hx=>by rw[hov]at hx;exact kd hq1 (by show (-100000:Int)<=v;omega) (by show v<=100000;omega) hx
  have HCB:Hid (∀y,cu=some y->Val (sq s') y/\Bd (sq s') 3 y):=fun y hy=>by
   rw[hcu']at hy;obtain⟨w0,hw0,hy⟩:=cC hy
   exact cub_bd hq1 (win_uni hq1 hw0) hy
  have hcub:=cub_of_M hcm;rw[<- hcu']at hcub;obtain⟨r3,hr3⟩:∃r3,r3=cubR p c' h' s' own other:=⟨_,rfl⟩;obtain⟨cn,cd,ck⟩:=r3
  have CCU:Hid (∀W:World,SL W A h' own->SL W B h' other->Calls Tryz.prog 50 #[.agg #[.int .i64 p,.int .i64 c',.int .i64 h',.int .i64 s'],.slice A h' ca,.slice B h' cb] W fun e w'=>e = .returned (.tuple #[.agg #[.int .i64 cn,.int .i64 cd],.int .i64 ck])/\Below W.heap.size W w'):=fun W h1 h2=>by
   have:=gw p c' h' s' A B h' h' ca cb own other W h1 h2 hca hcb;rw[<- hr3]at this
   exact this
  rw[hcub]at hr3
  have HWR:Hid (cgR p c' h' s' (two K) bv own other v o=numR (gainE (sq s') ov cu v)):=by
   unfold Hid cgR;rw[if_pos hcm,hov,hcu']
   simp only[Int.toNat_natCast]
  have HYES:Hid (ck=0->∃y,cu=some y/\cn=y.num/\cd=(y.depth:Int)):=fun hk=>by
   subst hk
   rcases cu with _|y
   ·cases hr3
   ·exact⟨y,rfl,congrArg (fun t=>t.1) hr3,congrArg (fun t=>t.2.1) hr3⟩
  obtain⟨rr,hrr⟩:∃rr,rr=cgR p c' h' s' (two K) bv own other v o:=⟨_,rfl⟩;rw[<- hrr]at HWR ⊢
  have HNO:Hid (ck≠0->rr=(0,0,3)):=fun hk=>by
   rw[HWR.out]
   rcases cu with _|y
   ·rcases ov with _|x<;>rfl
   ·exact absurd (congrArg (fun t=>t.2.2) hr3) hk
  have HALL:Hid (∀(m:MT),m.t.c=c'->m.t.h=h'->m.t.s=s'->m.K=K->m.bv=bv->m.Ok->∀W:World,MonI m m.S W->SQ m.S W A h' own->SQ m.S W B h' other->Calls Tryz.prog 104 #[.pointer (some ⟨m.bm,0,none⟩),.slice A h' ca,.slice B h' cb,.agg #[.int .i64 v,.int .i64 o]] W (RetMo m m.S W ov)):=by
   intro m e1 e2 e3 e4 e5 hok W hI h1 h2
   subst e1 e2 e3 e4 e5;rw[hov]
   exact equity_all m hok HP1.out HP2.out hcb0 m.S A B ca cb W (fun k hk hs=>by have:=hI.ltS k hs;omega) hI h1 hca h2 hcb
  clear hcm hcl hv hr hp1 hp2 hcu hgi hvv hov HAL HBL hrr hr3 hcub hcu' hcv
  go_enter Tryz.func59,Tryz.ntmps59
  go_wp2_with (fail)
  refine CK.out.mono ?_
  rintro e w1 ⟨rfl,hb1⟩
  have HFX:=h_ (HF0.out.below hb1);have HAX:=h_ (HA0.out.below hb1);have HBX:=h_ (HB0.out.below hb1);clear CK hb1 HF0 HA0 HB0;obtain⟨z0,c00,f00,c01,f01,c02,f02,c03,f03,z1,c10,f10,c11,f11,c12,f12,z2,c20,f20,c21,f21,z3,c30,f30,c31,f31⟩:=HFX.out.xf7
  go_wp2_with (fail)
  clear z0 c00 f00 c01 f01 c02 f02 c03 f03 z1 c10 f10 c11 f11 c12 f12 z2 c20 f20 c21 f21 z3 c30 f30 c31 f31
  refine jK 11 (fun i=>i == 9) (fun i=>if i=7 then 31 else if i<7 then i+32 else if i=10 then 13 else i+31) 2 6 (moG p c' h' s' K bv j A B ca cb v o ov) (by kernel_rfl) (by kernel_rfl) (fun _ _ _ _ _ h=>h) (by omega) (by omega) rfl (by kernel_rfl) moG_stab moG_conv ?_ ?_ ?_ ?_
  ·intro fl i op hi hX ho a' X hbX hfar hdep
   have hi8:i=9:=by simpa using hX
   subst hi8
   simp at ho
   subst ho
   obtain⟨_,_,d0⟩:=hdep 7 (by omega) (by kernel_rfl)
   replace d0:a'.tmps.getD 31 undef = .tuple #[exV ov,.bool ov.isSome]:=d0
   exact⟨.bool ov.isSome,fun W'=>by simp only[execOp,Act.eval,d0];go_simp,rfl⟩
  ·intro fl i op hi hX hne ho a' X hbX hfar hdep
   have e2:a'.tmps.getD 2 undef = .slice A h' ca:=(hfar 2 (by decide)).trans rfl
   have e3:a'.tmps.getD 3 undef = .slice B h' cb:=(hfar 3 (by decide)).trans rfl
   have e5:a'.tmps.getD 5 undef = .pointer (some ⟨w.heap.size,0,none⟩):=(hfar 5 (by decide)).trans rfl
   have e6:a'.tmps.getD 6 undef = .pointer (some ⟨w.heap.size+1,0,none⟩):=(hfar 6 (by decide)).trans rfl
   have e9:a'.tmps.getD 9 undef = .pointer (some ⟨w.heap.size+1+1,0,none⟩):=(hfar 9 (by decide)).trans rfl
   have HFh:=h_ (HFX.out.below hbX);obtain⟨z0,c00,f00,c01,f01,c02,f02,c03,f03,z1,c10,f10,c11,f11,c12,f12,z2,c20,f20,c21,f21,z3,c30,f30,c31,f31⟩:=HFh.out.xf7
   have hi9:i=0\/i=1\/i=2\/i=3\/i=4\/i=5\/i=7\/i=8\/i=10:=by simp at hX;omega
   clear hne hX
   rcases hi9 with rfl|rfl|rfl|rfl|rfl|rfl|rfl|rfl|rfl
   all_goals
    simp at ho
    subst ho
   ·exact .inl ⟨.agg #[.int .i64 p,.int .i64 c',.int .i64 h',.int .i64 s'],X,by simp only[execOp,Act.eval,e5];go_simp,Below.refl _ _,rfl⟩
   ·exact .inl ⟨.agg #[.int .i64 (two K),.bool bv,.bool j],X,by simp only[execOp,Act.eval,e6];go_simp,Below.refl _ _,rfl⟩
   ·obtain⟨_,_,d0⟩:=hdep 0 (by omega) (by kernel_rfl)
    obtain⟨_,_,d1⟩:=hdep 1 (by omega) (by kernel_rfl)
    replace d0:a'.tmps.getD 32 undef = .agg #[.int .i64 p,.int .i64 c',.int .i64 h',.int .i64 s']:=d0;replace d1:a'.tmps.getD 33 undef = .agg #[.int .i64 (two K),.bool bv,.bool j]:=d1
    refine .inr ⟨103,#[.agg #[.int .i64 p,.int .i64 c',.int .i64 h',.int .i64 s'],.agg #[.int .i64 (two K),.bool bv,.bool j]],by simp only[execOp,Act.eval,d0,d1];go_simp,?_⟩
    refine (CNEW.out X).mono ?_
    rintro e X' ⟨m,m1,m2,m3,m4,m5,m6,rfl,hok,hI,hlow,hb'⟩
    exact⟨_,rfl,hb',m,m1,m2,m3,m4,m5,m6,rfl,hok,fun _=>⟨hI,fun k hk=>⟨hlow k hk,hI.ltS k hk⟩⟩⟩
   ·exact .inl ⟨.slice A h' ca,X,by simp only[execOp,Act.eval,e2];go_simp,Below.refl _ _,rfl⟩
   ·exact .inl ⟨.slice B h' cb,X,by simp only[execOp,Act.eval,e3];go_simp,Below.refl _ _,rfl⟩
   ·exact .inl ⟨.agg #[.int .i64 v,.int .i64 o],X,by simp only[execOp,Act.eval,e9];go_simp,Below.refl _ _,rfl⟩
   ·obtain⟨_,_,d0⟩:=hdep 6 (by omega) (by kernel_rfl)
    replace d0:a'.tmps.getD 38 undef = .tuple #[exV ov,.bool ov.isSome]:=d0
    exact .inl ⟨.tuple #[exV ov,.bool ov.isSome],X,by simp only[execOp,Act.eval,d0];go_simp,Below.refl _ _,rfl⟩
   ·obtain⟨_,_,d0⟩:=hdep 7 (by omega) (by kernel_rfl)
    replace d0:a'.tmps.getD 31 undef = .tuple #[exV ov,.bool ov.isSome]:=d0
    exact .inl ⟨exV ov,X,by simp only[execOp,Act.eval,d0];go_simp,Below.refl _ _,rfl⟩
   ·refine .inl ⟨.pointer (some ⟨X.heap.size,0,none⟩),X.alloc (.cells #[.int .i64 0,.int .i64 0] 35),by kernel_rfl,(Below.refl _ _).alloc (Nat.le_refl _) _,rfl,by simp,⟨by simp[go_sem],by simp[go_sem]⟩,fun j hj=>?_⟩
    have:j=0\/j=1:=by omega
    rcases this with rfl|rfl<;>simp[go_sem]
  ·intro op ho a' X lo hi hbX hlo hhi hgd hfar hdep
   simp at ho
   subst ho;obtain⟨m,m1,m2,m3,m4,m5,m6,d2,hok,hI⟩:=hgd;replace d2:a'.tmps.getD 34 undef = .pointer (some ⟨m.bm,0,none⟩):=d2;obtain⟨hI,hrng⟩:=hI rfl
   obtain⟨_,_,d3⟩:=hdep 3 (by omega) (by kernel_rfl)
   obtain⟨_,_,d4⟩:=hdep 4 (by omega) (by kernel_rfl)
   obtain⟨_,_,d5⟩:=hdep 5 (by omega) (by kernel_rfl)
   replace d3:a'.tmps.getD 35 undef = .slice A h' ca:=d3;replace d4:a'.tmps.getD 36 undef = .slice B h' cb:=d4;replace d5:a'.tmps.getD 37 undef = .agg #[.int .i64 v,.int .i64 o]:=d5
   refine .inr ⟨104,#[.pointer (some ⟨m.bm,0,none⟩),.slice A h' ca,.slice B h' cb,.agg #[.int .i64 v,.int .i64 o]],by simp only[execOp,Act.eval,d2,d3,d4,d5];go_simp,?_⟩
   refine (HALL.out m m2 m3 m4 m5 m6 hok X hI ((SQ.of_sl HAX.out fun k hk=>Nat.le_trans hlo (hrng k hk).1).below hbX) ((SQ.of_sl HBX.out fun k hk=>Nat.le_trans hlo (hrng k hk).1).below hbX)).mono ?_
   rintro e X' ⟨rfl,_,hf'⟩
   exact⟨_,rfl,hf'.mono hrng,rfl⟩
  intro u X lo hh hbX hg hd
  have g0:u 0 = .agg #[.int .i64 p,.int .i64 c',.int .i64 h',.int .i64 s']:=(hg 0 (by omega)).1
  have g1:u 1 = .agg #[.int .i64 (two K),.bool bv,.bool j]:=(hg 1 (by omega)).1
  obtain⟨mm,_,_,_,_,_,_,g2,_,_⟩:moG p c' h' s' K bv j A B ca cb v o ov true 2 (u 2) (lo 2) (hh 2) X:=(hg 2 (by omega)).1
  have g3:u 3 = .slice A h' ca:=(hg 3 (by omega)).1
  have g4:u 4 = .slice B h' cb:=(hg 4 (by omega)).1
  have g5:u 5 = .agg #[.int .i64 v,.int .i64 o]:=(hg 5 (by omega)).1
  have g6:u 6 = .tuple #[exV ov,.bool ov.isSome]:=(hg 6 (by omega)).1
  have g7:u 7 = .tuple #[exV ov,.bool ov.isSome]:=(hg 7 (by omega)).1
  have g8:u 8=exV ov:=(hg 8 (by omega)).1
  have g9:u 9 = .bool ov.isSome:=(hg 9 (by omega)).1
  obtain⟨g10,l10,⟨k10,k11⟩,f10'⟩:moG p c' h' s' K bv j A B ca cb v o ov true 10 (u 10) (lo 10) (hh 10) X:=(hg 10 (by omega)).1
  have hlo:=(hg 10 (by omega)).2.1
  clear hg hd;obtain⟨b13,hb13⟩:∃b13,b13=lo 10:=⟨_,rfl⟩;rw[<- hb13]at g10 l10 k10 k11 f10' hlo
  have fa0:=f10' 0 (by omega)
  have fa1:=f10' 1 (by omega)
  have kz:=World.block_lt_of_cell? X _ k10;have HF3:=h_ (HFX.out.below hbX)
  have hz4:w.heap.size+4<=b13:=by have:=HFX.out.z;simp at this;omega
  have n1:¬b13=w.heap.size+1+1+1:=by omega
  have n2:¬w.heap.size+1+1+1=b13:=by omega
  clear hbX HFX f10' hlo CNEW HALL HAX HBX l10
  simp only[List.drop_succ_cons,List.drop_zero,putV,g0,g1,g2,g3,g4,g5,g6,g7,g8,g9,g10,Act.put]
  clear g0 g1 g2 g3 g4 g5 g6 g7 g8 g9 g10 hb13
  have K0:Hid (Cel X b13 [.int .i64 0,.int .i64 0]):=⟨kz,fun i x hx=>by
   rcases i with _|_|i
   ·simp at hx;subst hx;exact k10
   ·simp at hx;subst hx;exact k11
   ·simp at hx,fun i x hx=>by
   rcases i with _|_|i
   ·exact fa0
   ·exact fa1
   ·simp at hx⟩
  rcases ov with _|⟨xn,xd⟩
  focus
   have HRR:Hid (rr=(0,0,3)):=HWR.out
   unfold exV
   simp only[Option.getD_none,Option.isSome_none]
   obtain⟨z0,c00,f00,c01,f01,c02,f02,c03,f03,z1,c10,f10,c11,f11,c12,f12,z2,c20,f20,c21,f21,z3,c30,f30,c31,f31⟩:=HF3.out.xf7
   go_wp2_with (fail)
   clear z0 c00 f00 c01 f01 c02 f02 c03 f03 z1 c10 f10 c11 f11 c12 f12 z2 c20 f20 c21 f21 z3 c30 f30 c31 f31
   have HF4:Hid (Fr w ((X.setCell ⟨b13,0,none⟩ (.int .i64 0)).setCell ⟨b13,1,none⟩ (.int .i64 ((0:Nat):Int))) [[.int .i64 p,.int .i64 c',.int .i64 h',.int .i64 s'],[.int .i64 (two K),.bool bv,.bool j],[.int .i64 v,.int .i64 o],[.int .i64 0,.int .i64 0]]):=(HF3.out.setOut (by simpa using hz4)).setOut (by simpa using hz4)
   have K13:Hid (Cel ((X.setCell ⟨b13,0,none⟩ (.int .i64 0)).setCell ⟨b13,1,none⟩ (.int .i64 ((0:Nat):Int))) b13 [.int .i64 0,.int .i64 ((0:Nat):Int)]):=(K0.out.st (i:=0) (v:=.int .i64 0) (by simp)).st (i:=1) (v:=.int .i64 ((0:Nat):Int)) (by simp)
   clear k10 k11 fa0 fa1 kz K0 HF3;generalize ((X.setCell ⟨b13,0,none⟩ (.int .i64 0)).setCell ⟨b13,1,none⟩ (.int .i64 ((0:Nat):Int)))=W4 at *
   refine ?zn
  rotate_left
  focus
   unfold exV
   simp only[Option.getD_some,Option.isSome_some]
   have HVX:Hid (Val (sq s') ⟨xn,xd⟩):=HVV.out _ rfl;obtain⟨z0,c00,f00,c01,f01,c02,f02,c03,f03,z1,c10,f10,c11,f11,c12,f12,z2,c20,f20,c21,f21,z3,c30,f30,c31,f31⟩:=HF3.out.xf7
   go_wp2_with (fail)
   clear z0 c00 f00 c01 f01 c02 f02 c03 f03 z1 c10 f10 c11 f11 c12 f12 z2 c20 f20 c21 f21 z3 c30 f30 c31 f31
   have HF4:Hid (Fr w ((X.setCell ⟨b13,0,none⟩ (.int .i64 xn)).setCell ⟨b13,1,none⟩ (.int .i64 (xd:Int))) [[.int .i64 p,.int .i64 c',.int .i64 h',.int .i64 s'],[.int .i64 (two K),.bool bv,.bool j],[.int .i64 v,.int .i64 o],[.int .i64 0,.int .i64 0]]):=(HF3.out.setOut (by simpa using hz4)).setOut (by simpa using hz4)
   have K13:Hid (Cel ((X.setCell ⟨b13,0,none⟩ (.int .i64 xn)).setCell ⟨b13,1,none⟩ (.int .i64 (xd:Int))) b13 [.int .i64 xn,.int .i64 (xd:Int)]):=(K0.out.st (i:=0) (v:=.int .i64 xn) (by simp)).st (i:=1) (v:=.int .i64 (xd:Int)) (by simp)
   clear k10 k11 fa0 fa1 kz K0 HF3;generalize ((X.setCell ⟨b13,0,none⟩ (.int .i64 xn)).setCell ⟨b13,1,none⟩ (.int .i64 (xd:Int)))=W4 at *
   refine ?zo
 rotate_left 2
 ·have HRR:Hid (cgR p c h s m bv own other v o=(0,0,codeM p c h s m own other v o true)):=by
   unfold Hid cgR;rw[if_neg hcm]
  generalize codeM p c h s m own other v o true=kk at *
  have b0:(kk != 0)=true:=by simp[hcm]
  clear hcm HAW HBW
  go_enter Tryz.func59,Tryz.ntmps59
  go_wp2_with (fail)
  refine CK.out.mono ?_
  rintro e w1 ⟨rfl,hb1⟩
  have HF2:=h_ (HF0.out.below hb1);clear CK hb1 HF0 HA0 HB0;obtain⟨z0,c00,f00,c01,f01,c02,f02,c03,f03,z1,c10,f10,c11,f11,c12,f12,z2,c20,f20,c21,f21,z3,c30,f30,c31,f31⟩:=HF2.out.xf7
  go_wp2_with (fail)
  refine bodyPost_ret (v:=.tuple #[.agg #[.int .i64 0,.int .i64 0],.int .i64 kk]) (by simp[results,Tryz.results59,go_sem,c30,c31,z3,f30,f31]) rfl (RetN.mk' HRR.out ?_)
  repeat (first|exact HF2.out.b|refine stw ?_ (by omega)|refine alw ?_ (by omega))
 case' zn|zo=>
  refine (CCU.out W4 (HAW.out.below HF4.out.b) (HBW.out.below HF4.out.b)).mono ?_
  rintro e w5 ⟨rfl,hb⟩
 case' zn=>
  have HF5:=h_ (HF4.out.below hb);replace K13:=h_ (K13.out.below hb);clear hb HF4 CCU HAW HBW;obtain⟨z0,c00,f00,c01,f01,c02,f02,c03,f03,z1,c10,f10,c11,f11,c12,f12,z2,c20,f20,c21,f21,z3,c30,f30,c31,f31⟩:=HF5.out.xf7
  go_wp2_with (fail)
 case' zo=>
  have HF5:=h_ (HF4.out.below hb);replace K13:=h_ (K13.out.below hb);clear hb HF4 CCU HAW HBW
  by_cases hk:ck=0
  focus
   have b1:(ck != 0)=false:=by simp[hk]
   obtain⟨y,hy,hyn,hyd⟩:=HYES.out hk;obtain⟨vy,by3⟩:=HCB.out y hy;obtain⟨q1,q2⟩:=cub_small hq1 vy by3
   have hHR:rr=numR ((sclE (sq s') y v).bind fun z=>minE (sq s') ⟨xn,xd⟩ z):=by rw[HWR.out,hy];rfl
   obtain⟨vn,rfl⟩:∃vn:Nat,v=vn:=⟨v.toNat,by omega⟩
   have SC:=h_ fun (W:World)=>et p c' h' y.num s' y.depth vn W hs1 hs6 vy (by omega) (by omega) (by
    have e1:(y.num.natAbs:Int)<=3000000000000000:=by omega
    have:=Int.mul_le_mul e1 (show (vn:Int)<=1024 by omega) (by omega) (by omega)
    omega)
   subst hyn hyd;obtain⟨z0,c00,f00,c01,f01,c02,f02,c03,f03,z1,c10,f10,c11,f11,c12,f12,z2,c20,f20,c21,f21,z3,c30,f30,c31,f31⟩:=HF5.out.xf7;have HF6:=h_ (HF5.out.alloc (.cells #[.int .i64 y.num,.int .i64 (y.depth:Int)] 35));replace K13:=h_ (K13.out.alloc (.cells #[.int .i64 y.num,.int .i64 (y.depth:Int)] 35));have K15:Hid (Cel (w5.alloc (.cells #[.int .i64 y.num,.int .i64 (y.depth:Int)] 35)) w5.heap.size [.int .i64 y.num,.int .i64 (y.depth:Int)]):=Cel.new w5 #[.int .i64 y.num,.int .i64 (y.depth:Int)] _;clear HF5 HYES HCB q1 q2 by3 hy
   rcases hm:sclE (sq s') y (vn:Int) with _|⟨zn,zd⟩
   focus
    rw[hm]at hHR SC
    have HRR:Hid (rr=(0,0,3)):=hHR;clear hHR
    refine ?zg
   rotate_left
   focus
    rw[hm]at hHR SC
    have vz:=eT hq1 hm
    have MC:=h_ fun (W:World)=>jb p c' h' xn zn s' xd zd W hs1 hs6 HVX.out vz
    refine ?zf
  rotate_left 2
  focus
   have b1:(ck != 0)=true:=by simp[hk]
   have HRR:Hid (rr=(0,0,3)):=HNO.out hk;obtain⟨z0,c00,f00,c01,f01,c02,f02,c03,f03,z1,c10,f10,c11,f11,c12,f12,z2,c20,f20,c21,f21,z3,c30,f30,c31,f31⟩:=HF5.out.xf7
   go_wp2_with (fail)
   refine ?ze
 case' zf|zg=>
  go_wp2_with (fail)
  clear z0 c00 f00 c01 f01 c02 f02 c03 f03 z1 c10 f10 c11 f11 c12 f12 z2 c20 f20 c21 f21 z3 c30 f30 c31 f31;generalize w5.alloc (.cells #[.int .i64 y.num,.int .i64 (y.depth:Int)] 35)=W6 at *;generalize w5.heap.size=b15 at *
  refine (SC.out W6).mono ?_
  rintro e w7 ⟨rfl,hb⟩
 case' zf=>
  have HF7:=h_ (HF6.out.below hb);replace K13:=h_ (K13.out.below hb);clear hb HF6 K15 SC;have HF8:=h_ (HF7.out.alloc (.cells #[.int .i64 zn,.int .i64 (zd:Int)] 35));replace K13:=h_ (K13.out.alloc (.cells #[.int .i64 zn,.int .i64 (zd:Int)] 35));have K17:Hid (Cel (w7.alloc (.cells #[.int .i64 zn,.int .i64 (zd:Int)] 35)) w7.heap.size [.int .i64 zn,.int .i64 (zd:Int)]):=Cel.new w7 #[.int .i64 zn,.int .i64 (zd:Int)] _;obtain⟨z0,c00,f00,c01,f01,c02,f02,c03,f03,z1,c10,f10,c11,f11,c12,f12,z2,c20,f20,c21,f21,z3,c30,f30,c31,f31⟩:=HF7.out.xf7;have d13:=K13.out.lt;clear HF7;replace hHR:rr=numR (minE (sq s') ⟨xn,xd⟩ ⟨zn,zd⟩):=hHR
  rcases hu:minE (sq s') ⟨xn,xd⟩ ⟨zn,zd⟩with _|⟨un,ud⟩
  focus
   rw[hu]at hHR MC
   have HRR:Hid (rr=(0,0,3)):=hHR;clear hHR;have cK13_0:=K13.out.cell 0 _ rfl;have cK13_1:=K13.out.cell 1 _ rfl;have cK13_z:=K13.out.lt
   refine ?za
  rotate_left
  focus
   rw[hu]at hHR MC
   have HRR:Hid (rr=(un,(ud:Int),0)):=hHR;clear hHR;have cK13_0:=K13.out.cell 0 _ rfl;have cK13_1:=K13.out.cell 1 _ rfl;have cK13_z:=K13.out.lt
   refine ?zb
 case' za|zb=>
  go_wp2_with (fail)
  clear z0 c00 f00 c01 f01 c02 f02 c03 f03 z1 c10 f10 c11 f11 c12 f12 z2 c20 f20 c21 f21 z3 c30 f30 c31 f31;clear cK13_0 cK13_1 cK13_z;generalize w7.alloc (.cells #[.int .i64 zn,.int .i64 (zd:Int)] 35)=W8 at *;generalize w7.heap.size=b17 at *
  refine (MC.out W8).mono ?_
  rintro e w9 ⟨rfl,hb⟩
  have HF9:=h_ (HF8.out.below hb);clear hb HF8 K17 K13 MC;obtain⟨z0,c00,f00,c01,f01,c02,f02,c03,f03,z1,c10,f10,c11,f11,c12,f12,z2,c20,f20,c21,f21,z3,c30,f30,c31,f31⟩:=HF9.out.xf7
  go_wp2_with (fail)
 case' zg=>
  have HF7:=h_ (HF6.out.below hb);replace K13:=h_ (K13.out.below hb);clear hb HF6 K15 SC;clear K13;obtain⟨z0,c00,f00,c01,f01,c02,f02,c03,f03,z1,c10,f10,c11,f11,c12,f12,z2,c20,f20,c21,f21,z3,c30,f30,c31,f31⟩:=HF7.out.xf7
  go_wp2_with (fail)
 case' zn|zg|ze|za=>
  refine bodyPost_ret (v:=.tuple #[.agg #[.int .i64 0,.int .i64 0],.int .i64 3]) (by simp[results,Tryz.results59,go_sem,c30,c31,z3,f30,f31]) rfl (RetN.mk' HRR.out ?_)
 case zg=>
  repeat (first|exact HF7.out.b|refine stw ?_ (by omega)|refine alw ?_ (by omega))
 case zn|ze=>
  repeat (first|exact HF5.out.b|refine stw ?_ (by omega)|refine alw ?_ (by omega))
 case' zb=>
  refine bodyPost_ret (v:=.tuple #[.agg #[.int .i64 un,.int .i64 (ud:Int)],.int .i64 0]) (by simp[results,Tryz.results59,go_sem,c30,c31,z3,f30,f31]) rfl (RetN.mk' HRR.out ?_)
 case zb|za=>
  repeat (first|exact HF9.out.b|refine stw ?_ (by omega)|refine alw ?_ (by omega))
end Go.Proofs.YtkaiilmgemaljaaGreat

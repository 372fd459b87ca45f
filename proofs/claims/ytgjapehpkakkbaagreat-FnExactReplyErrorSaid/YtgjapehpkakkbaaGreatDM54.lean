/- Part of one proof. There are no conditions. -/
import Derived.Test.YtgjapehpkakkbaaGreatDM53
import Derived.Test.YtgjapehpkakkbaaGreatDZl
import Derived.Test.YtgjapehpkakkbaaGreatDJ8
set_option linter.unusedVariables false
set_option linter.unusedSimpArgs false
namespace Go.Proofs.YtgjapehpkakkbaaGreat
open Go.RowKit Mo Ps Ra Ex
def RetEr (w:World) (r:(Int×Int)×(Int×Int)×Int) (e:Ending) (w':World):Prop:=e = .returned (.tuple #[.agg #[.int .i64 r.1.1,.int .i64 r.1.2],.agg #[.int .i64 r.2.1.1,.int .i64 r.2.1.2],.int .i64 r.2.2])∧Below w.heap.size w w'
theorem RetEr.mk' {w w':World} {r:(Int×Int)×(Int×Int)×Int} {a b c d k:Int} (hr:r=((a,b),(c,d),k)) (hb:Below w.heap.size w w'):RetEr w r (.returned (.tuple #[.agg #[.int .i64 a,.int .i64 b],.agg #[.int .i64 c,.int .i64 d],.int .i64 k])) w':=by subst hr;exact⟨rfl,hb⟩
set_option maxRecDepth 100000 in
set_option maxHeartbeats 4000000 in
theorem choiceErrors_any (p c h s m:Int) (bv j:Bool) (A B:Option Addr) (n k ca cb:Nat) (own other:List Int) (v o a:Int) (w:World) (hA:SL w A n own) (hB:SL w B k other) (hca:n≤ca) (hcb:k≤cb):
  Calls Tryz.prog 115 #[.agg #[.int .i64 p,.int .i64 c,.int .i64 h,.int .i64 s],.agg #[.int .i64 m,.bool bv,.bool j],.slice A n ca,.slice B k cb,.agg #[.int .i64 v,.int .i64 o],.int .i64 a] w (RetEr w (erR p c h s m bv own other v o a)):=by
 have HF0:Hid (Fr w (((((w.alloc (.cells #[.int .i64 p,.int .i64 c,.int .i64 h,.int .i64 s] 25)).alloc (.cells #[.int .i64 m,.bool bv,.bool j] 59)).alloc (.cells #[.int .i64 v,.int .i64 o] 62)).alloc (.cells #[.int .i64 0,.int .i64 0] 35)).alloc (.cells #[.int .i64 0,.int .i64 0] 35)) [[.int .i64 p,.int .i64 c,.int .i64 h,.int .i64 s],[.int .i64 m,.bool bv,.bool j],[.int .i64 v,.int .i64 o],[.int .i64 0,.int .i64 0],[.int .i64 0,.int .i64 0]]):=(((((Fr.start w).allocT (by simp) _ _).allocT (by simp) _ _).allocT (by simp) _ _).allocT (by simp) _ _).allocT (by simp) _ _
 have HA0:=h_ (hA.below HF0.out.b);have HB0:=h_ (hB.below HF0.out.b);have HAL:=h_ hA.1;have HBL:=h_ hB.1;have CK:=h_ (checkChoice_any p c h s m bv j A B n k ca cb own other v o a _ HA0.out HB0.out);clear hA hB
 by_cases hcm:codeC p c h s m bv own other v o a=0
 ·obtain⟨hcl,hz1,hz2⟩:=codeM_ok (show codeM p c h s m own other v o (posA ⟨m,bv⟩ (v,o) a)=0 from hcm)
  rw[hcm]at CK;obtain⟨hv,hr,hp1,hp2,hcu,hpa,hgi⟩:=codeL_ok hcl;have hvv:=isVar_yes hv;obtain⟨K,hK,rfl⟩:=rulB_two hr
  obtain⟨c',rfl⟩:∃c':Nat,c=c':=⟨c.toNat,by omega⟩
  obtain⟨h',rfl⟩:∃h':Nat,h=h':=⟨h.toNat,by omega⟩
  obtain⟨s',rfl⟩:∃s':Nat,s=s':=⟨s.toNat,by omega⟩
  rw[gamI_two hK]at hgi;obtain⟨hN,_⟩:=gamB_yes hgi
  have hs1:1≤s':=by omega
  have hs6:s'≤6:=by omega
  have HP1:=h_ (posB_pos hp1);have HP2:=h_ (posB_pos hp2);have hcb0:=cubB_ok hcu;have hcv:=hcb0.v1 hK
  have hnh:h'=n:=by rw[← HAL.out];exact (HP1.out.1).symm
  have hmh:h'=k:=by rw[← HBL.out];exact (HP2.out.1).symm
  subst hnh;subst hmh
  have CNEW:=h_ fun (W:World)=>newMoney_any p c' h' s' K bv j W hv hN hK
  have HWR0:Hid (erR p c' h' s' (two K) bv own other v o a=match dcd s' ⟨two K,bv⟩ own other (v,o) with|none=>((0,0),(0,0),3)|some d=>(((erV (sq s') a d ((valV s' ⟨two K,bv⟩ own other (v,o) a).getD ⟨0,0⟩)).1.num,((erV (sq s') a d ((valV s' ⟨two K,bv⟩ own other (v,o) a).getD ⟨0,0⟩)).1.depth:Int)),((erV (sq s') a d ((valV s' ⟨two K,bv⟩ own other (v,o) a).getD ⟨0,0⟩)).2.num,((erV (sq s') a d ((valV s' ⟨two K,bv⟩ own other (v,o) a).getD ⟨0,0⟩)).2.depth:Int)),0)):=by
   unfold Hid erR;rw[if_pos hcm]
   simp only[Int.toNat_natCast]
   rfl
  obtain⟨od,hod⟩:∃od,od=dcd s' ⟨two K,bv⟩ own other (v,o):=⟨_,rfl⟩;obtain⟨ov,hov⟩:∃ov,ov=valV s' ⟨two K,bv⟩ own other (v,o) a:=⟨_,rfl⟩;rw[← hod,← hov]at HWR0
  have HDE:Hid (∀(m:MT),m.t.c=c'→m.t.h=h'→m.t.s=s'→m.K=K→m.bv=bv→m.Ok→∀W:World,MonI m m.S W→SQ m.S W A h' own→SQ m.S W B h' other→Calls Tryz.prog 113 #[.pointer (some ⟨m.bm,0,none⟩),.slice A h' ca,.slice B h' cb,.agg #[.int .i64 v,.int .i64 o]] W (RetDc m m.S W od)):=by
   intro m e1 e2 e3 e4 e5 hok W hI h1 h2
   subst e1 e2 e3 e4 e5;rw[hod]
   exact decide_any m hok HP1.out HP2.out hz1 hcb0 m.S A B ca cb W (fun k hk hs=>by have:=hI.ltS k hs;omega) hI h1 hca h2 hcb
  have HVA:Hid (∀(m:MT),m.t.c=c'→m.t.h=h'→m.t.s=s'→m.K=K→m.bv=bv→m.Ok→∀W:World,MonI m m.S W→SQ m.S W A h' own→SQ m.S W B h' other→Calls Tryz.prog 111 #[.pointer (some ⟨m.bm,0,none⟩),.slice A h' ca,.slice B h' cb,.agg #[.int .i64 v,.int .i64 o],.int .i64 a] W (RetMo m m.S W ov)):=by
   intro m e1 e2 e3 e4 e5 hok W hI h1 h2
   subst e1 e2 e3 e4 e5;rw[hov]
   exact value_any m hok HP1.out HP2.out hz1 hcb0 hpa m.S A B ca cb W (fun k hk hs=>by have:=hI.ltS k hs;omega) hI h1 hca h2 hcb
  have HDF:Hid (∀(ac rp:Int) (x y z:E),od=some (ac,x,y,rp,z)→(Val (sq s') x∧Bd (sq s') 1024 x)∧(Val (sq s') y∧Bd (sq s') 1024 y)∧(Val (sq s') z∧Bd (sq s') 1024 z)):=fun ac rp x y z he=>dcd_facts hs1 hs6 hK hcb0 (by rw[← hod];exact he)
  have HVF:Hid (∀x,ov=some x→Val (sq s') x∧Bd (sq s') 1024 x):=fun x he=>val_facts hs1 hs6 hK hcb0 hpa (by rw[← hov];exact he)
  have HVS:Hid (∀d,od=some d→∃x,ov=some x):=fun d he=>by rw[hov];exact val_some (show (1:Int)≤(v,o).1 from hcv.1) hpa (by rw[← hod];exact he)
  have CM:=h_ fun (xn yn:Int) (xd yd:Nat) (W:World) (hx:Val (sq s') ⟨xn,xd⟩) (hy:Val (sq s') ⟨yn,yd⟩)=>minusExact_any p c' h' xn yn s' xd yd W hs1 hs6 hx hy
  clear hcm hcl hv hr hp1 hp2 hcu hgi hvv hod hov HAL HBL hpa hcb0 hcv hN;generalize erR p c' h' s' (two K) bv own other v o a=rr at *
  go_enter Tryz.func115,Tryz.ntmps115
  go_wp2_with (fail)
  refine CK.out.mono ?_
  rintro e w1 ⟨rfl,hb1⟩
  have HFX:=h_ (HF0.out.below hb1);have HAX:=h_ (HA0.out.below hb1);have HBX:=h_ (HB0.out.below hb1);clear CK hb1 HF0 HA0 HB0;obtain⟨z0,c00,f00,c01,f01,c02,f02,c03,f03,z1,c10,f10,c11,f11,c12,f12,z2,c20,f20,c21,f21,z3,c30,f30,c31,f31,z4,c40,f40,c41,f41⟩:=HFX.out.xf8
  go_wp2_with (fail)
  clear z0 c00 f00 c01 f01 c02 f02 c03 f03 z1 c10 f10 c11 f11 c12 f12 z2 c20 f20 c21 f21 z3 c30 f30 c31 f31 z4 c40 f40 c41 f41
  refine (CNEW.out _).mono ?_
  rintro e w2 ⟨m,_,m2,m3,m4,m5,m6,rfl,hok,hI,hlow,hb2⟩
  have HD2:=h_ (HDE.out m m2 m3 m4 m5 m6 hok);have HV2:=h_ (HVA.out m m2 m3 m4 m5 m6 hok);have HQ1:=h_ ((SQ.of_sl HAX.out hlow).below hb2);have HQ2:=h_ ((SQ.of_sl HBX.out hlow).below hb2);have HI2:=h_ hI
  have hz0:w.heap.size+5≤w1.heap.size:=by have:=HFX.out.z;simpa using this
  replace HFX:=h_ (HFX.out.below hb2)
  have HLO2:Hid (∀k,m.S k→w.heap.size+5≤k):=fun k hk=>by have h1:=hlow k hk;omega
  clear m2 m3 m4 m5 m6 hok hI hlow hb2 HDE HVA CNEW HAX HBX;obtain⟨z0,c00,f00,c01,f01,c02,f02,c03,f03,z1,c10,f10,c11,f11,c12,f12,z2,c20,f20,c21,f21,z3,c30,f30,c31,f31,z4,c40,f40,c41,f41⟩:=HFX.out.xf8
  go_wp2_with (fail)
  clear z0 c00 f00 c01 f01 c02 f02 c03 f03 z1 c10 f10 c11 f11 c12 f12 z2 c20 f20 c21 f21 z3 c30 f30 c31 f31 z4 c40 f40 c41 f41
  refine (HD2.out w2 HI2.out HQ1.out HQ2.out).mono ?_
  rintro e w3 ⟨rfl,hI3,hf3⟩
  replace HFX:=h_ (HFX.out.frm hf3 (fun k hk=>by have:=HLO2.out k hk;omega) fun k hk=>HLO2.out k hk)
  replace HQ1:=h_ (HQ1.out.frm hf3);replace HQ2:=h_ (HQ2.out.frm hf3);have HI3:=h_ hI3
  have hz3:w.heap.size+5≤w3.heap.size:=by have:=HFX.out.z;simpa using this
  clear hf3 HD2 HI2 hI3
  rcases od with _|⟨ac,⟨xn,xd⟩,⟨yn,yd⟩,rp,⟨zn,zd⟩⟩
  ·have HWR:Hid (rr=((0,0),(0,0),3)):=HWR0.out
   simp only[dcV,Option.isSome_none]
   clear HDF HVF HVS CM;obtain⟨z0,c00,f00,c01,f01,c02,f02,c03,f03,z1,c10,f10,c11,f11,c12,f12,z2,c20,f20,c21,f21,z3,c30,f30,c31,f31,z4,c40,f40,c41,f41⟩:=HFX.out.xf8
   go_wp2_with (fail)
   clear z0 c00 f00 c01 f01 c02 f02 c03 f03 z1 c10 f10 c11 f11 c12 f12 z2 c20 f20 c21 f21 z3 c30 f30 c31 f31 z4 c40 f40 c41 f41
   refine (HV2.out (w3.alloc (.cells #[.int .i64 0,.int .i64 0,.int .i64 0,.int .i64 0,.int .i64 0,.int .i64 0,.int .i64 0,.int .i64 0] 79)) (HI3.out.alloc _) (HQ1.out.below ((Below.refl _ _).alloc (Nat.le_refl _) _)) (HQ2.out.below ((Below.refl _ _).alloc (Nat.le_refl _) _))).mono ?_
   rintro e w4 ⟨rfl,_,hf4⟩
   have HF4:=h_ ((HFX.out.alloc (.cells #[.int .i64 0,.int .i64 0,.int .i64 0,.int .i64 0,.int .i64 0,.int .i64 0,.int .i64 0,.int .i64 0] 79)).frm hf4 (fun k hk=>by have:=HLO2.out k hk;omega) fun k hk=>HLO2.out k hk)
   have hz4:w.heap.size+5≤w4.heap.size:=by have:=HF4.out.z;simpa using this
   obtain⟨q1,q2,hq⟩:∃q1 q2:Int,exV ov = .agg #[.int .i64 q1,.int .i64 q2]:=⟨_,_,rfl⟩;rw[hq];generalize ov.isSome=bb at *;clear hf4 HV2 HQ1 HQ2 HI3 HFX HWR0 hq;obtain⟨z0,c00,f00,c01,f01,c02,f02,c03,f03,z1,c10,f10,c11,f11,c12,f12,z2,c20,f20,c21,f21,z3,c30,f30,c31,f31,z4,c40,f40,c41,f41⟩:=HF4.out.xf8
   go_wp2_with (fail)
   refine bodyPost_ret (v:=.tuple #[.agg #[.int .i64 (0),.int .i64 (0)],.agg #[.int .i64 (0),.int .i64 (0)],.int .i64 (3)]) (by simp[results,Tryz.results115,go_sem,c30,c31,z3,f30,f31,c40,c41,z4,f40,f41]) rfl (RetEr.mk' HWR.out ?_)
   repeat (first|with_reducible exact HF4.out.b|with_reducible refine drw ?_|with_reducible refine stw ?_ (by omega)|with_reducible refine alw ?_ (by omega))
  ·obtain⟨⟨vn,vd⟩,hvv⟩:=HVS.out _ rfl
   obtain⟨⟨vx,bx⟩,⟨vy,by'⟩,⟨vz,bz⟩⟩:=HDF.out _ _ _ _ _ rfl
   obtain⟨vw,bw⟩:=HVF.out _ hvv;subst hvv;clear HDF HVF HVS
   simp only[dcV,Option.isSome_some]
   obtain⟨z0,c00,f00,c01,f01,c02,f02,c03,f03,z1,c10,f10,c11,f11,c12,f12,z2,c20,f20,c21,f21,z3,c30,f30,c31,f31,z4,c40,f40,c41,f41⟩:=HFX.out.xf8
   go_wp2_with (fail)
   clear z0 c00 f00 c01 f01 c02 f02 c03 f03 z1 c10 f10 c11 f11 c12 f12 z2 c20 f20 c21 f21 z3 c30 f30 c31 f31 z4 c40 f40 c41 f41
   have hnS:¬m.S w3.heap.size:=fun h=>by have:=HI3.out.ltS _ h;omega
   refine (HV2.out (w3.alloc (.cells #[.int .i64 ac,.int .i64 xn,.int .i64 (xd:Int),.int .i64 yn,.int .i64 (yd:Int),.int .i64 rp,.int .i64 zn,.int .i64 (zd:Int)] 79)) (HI3.out.alloc _) (HQ1.out.below ((Below.refl _ _).alloc (Nat.le_refl _) _)) (HQ2.out.below ((Below.refl _ _).alloc (Nat.le_refl _) _))).mono ?_
   rintro e w4 ⟨rfl,_,hf4⟩
   have HF4:=h_ ((HFX.out.alloc (.cells #[.int .i64 ac,.int .i64 xn,.int .i64 (xd:Int),.int .i64 yn,.int .i64 (yd:Int),.int .i64 rp,.int .i64 zn,.int .i64 (zd:Int)] 79)).frm hf4 (fun k hk=>by have:=HLO2.out k hk;omega) fun k hk=>HLO2.out k hk)
   have hz4:w.heap.size+5≤w4.heap.size:=by have:=HF4.out.z;simpa using this
   have HD:Hid (Cel w4 w3.heap.size [.int .i64 ac,.int .i64 xn,.int .i64 (xd:Int),.int .i64 yn,.int .i64 (yd:Int),.int .i64 rp,.int .i64 zn,.int .i64 (zd:Int)]):=Cel.frm (Cel.new w3 #[.int .i64 ac,.int .i64 xn,.int .i64 (xd:Int),.int .i64 yn,.int .i64 (yd:Int),.int .i64 rp,.int .i64 zn,.int .i64 (zd:Int)] 79) hf4 hnS
   simp only[exV,Option.getD_some,Option.isSome_some]
   clear hf4 HV2 HQ1 HQ2 HI3 HFX hnS
   have hn1:¬w3.heap.size=w.heap.size+1+1+1:=by omega
   have hn2:¬w3.heap.size=w.heap.size+1+1+1+1:=by omega
   have HC:Hid (Cel (w4.alloc (.cells #[.int .i64 vn,.int .i64 (vd:Int)] 35)) w4.heap.size [.int .i64 vn,.int .i64 (vd:Int)]):=Cel.new w4 #[.int .i64 vn,.int .i64 (vd:Int)] 35
   by_cases ha:a=0
   ·have ba:(a == 0)=true:=by simp[ha]
    obtain⟨⟨ln,ld⟩,hl⟩:=min_some hs1 hs6 vz vx bz bx
    have HWR:Hid (rr=((ln,(ld:Int)),(0,0),0)):=by
     unfold Hid;rw[HWR0.out]
     simp only[erV,if_pos ha,Option.getD_some]
     rw[hl]
     rfl
    have CM1:Hid (∀W:World,Calls Tryz.prog 74 #[.agg #[.int .i64 p,.int .i64 c',.int .i64 h',.int .i64 s'],.agg #[.int .i64 zn,.int .i64 (zd:Int)],.agg #[.int .i64 xn,.int .i64 (xd:Int)]] W fun e w'=>e = .returned (.tuple #[.agg #[.int .i64 ln,.int .i64 (ld:Int)],.bool true])∧Below W.heap.size W w'):=fun W=>by
     have:=CM.out zn xn zd xd W vz vx;rw[hl]at this
     exact this
    clear HWR0 CM vx bx vy by' vz bz vw bw hl ha
    obtain⟨z0,c00,f00,c01,f01,c02,f02,c03,f03,z1,c10,f10,c11,f11,c12,f12,z2,c20,f20,c21,f21,z3,c30,f30,c31,f31,z4,c40,f40,c41,f41⟩:=HF4.out.xf8;have xHD0:=HD.out.cell 0 _ rfl;have xHD1:=HD.out.cell 1 _ rfl;have xHD2:=HD.out.cell 2 _ rfl;have xHD3:=HD.out.cell 3 _ rfl;have xHD4:=HD.out.cell 4 _ rfl;have xHD5:=HD.out.cell 5 _ rfl;have xHD6:=HD.out.cell 6 _ rfl;have xHD7:=HD.out.cell 7 _ rfl;have xHDz:=HD.out.lt
    go_wp2_with (fail)
    clear z0 c00 f00 c01 f01 c02 f02 c03 f03 z1 c10 f10 c11 f11 c12 f12 z2 c20 f20 c21 f21 z3 c30 f30 c31 f31 z4 c40 f40 c41 f41
    refine (CM1.out _).mono ?_
    rintro e w5 ⟨rfl,hb5⟩
    have HF5:=h_ ((HF4.out.alloc (.cells #[.int .i64 vn,.int .i64 (vd:Int)] 35)).below hb5)
    have hz5:w.heap.size+5≤w5.heap.size:=by have:=HF5.out.z;simpa using this
    clear hb5 xHD0 xHD1 xHD2 xHD3 xHD4 xHD5 xHD6 xHD7 xHDz HD HC HF4 CM1;obtain⟨z0,c00,f00,c01,f01,c02,f02,c03,f03,z1,c10,f10,c11,f11,c12,f12,z2,c20,f20,c21,f21,z3,c30,f30,c31,f31,z4,c40,f40,c41,f41⟩:=HF5.out.xf8
    go_wp2_with (fail)
    refine bodyPost_ret (v:=.tuple #[.agg #[.int .i64 (ln),.int .i64 ((ld:Int))],.agg #[.int .i64 (0),.int .i64 (0)],.int .i64 (0)]) (by simp[results,Tryz.results115,go_sem,c30,c31,z3,f30,f31,c40,c41,z4,f40,f41]) rfl (RetEr.mk' HWR.out ?_)
    repeat (first|with_reducible exact HF5.out.b|with_reducible refine drw ?_|with_reducible refine stw ?_ (by omega)|with_reducible refine alw ?_ (by omega))
   ·have ba:(a == 0)=false:=by simp[ha]
    obtain⟨⟨ln,ld⟩,hl⟩:=min_some hs1 hs6 vz vy bz by'
    obtain⟨⟨gn,gd⟩,hg⟩:=min_some hs1 hs6 vw vy bw by'
    have HWR:Hid (rr=((ln,(ld:Int)),(gn,(gd:Int)),0)):=by
     unfold Hid;rw[HWR0.out]
     simp only[erV,if_neg ha,Option.getD_some]
     rw[hl,hg]
     rfl
    have CM1:Hid (∀W:World,Calls Tryz.prog 74 #[.agg #[.int .i64 p,.int .i64 c',.int .i64 h',.int .i64 s'],.agg #[.int .i64 zn,.int .i64 (zd:Int)],.agg #[.int .i64 yn,.int .i64 (yd:Int)]] W fun e w'=>e = .returned (.tuple #[.agg #[.int .i64 ln,.int .i64 (ld:Int)],.bool true])∧Below W.heap.size W w'):=fun W=>by
     have:=CM.out zn yn zd yd W vz vy;rw[hl]at this
     exact this
    have CM2:Hid (∀W:World,Calls Tryz.prog 74 #[.agg #[.int .i64 p,.int .i64 c',.int .i64 h',.int .i64 s'],.agg #[.int .i64 vn,.int .i64 (vd:Int)],.agg #[.int .i64 yn,.int .i64 (yd:Int)]] W fun e w'=>e = .returned (.tuple #[.agg #[.int .i64 gn,.int .i64 (gd:Int)],.bool true])∧Below W.heap.size W w'):=fun W=>by
     have:=CM.out vn yn vd yd W vw vy;rw[hg]at this
     exact this
    clear HWR0 CM vx bx vy by' vz bz vw bw hl hg ha
    obtain⟨z0,c00,f00,c01,f01,c02,f02,c03,f03,z1,c10,f10,c11,f11,c12,f12,z2,c20,f20,c21,f21,z3,c30,f30,c31,f31,z4,c40,f40,c41,f41⟩:=HF4.out.xf8;have xHD0:=HD.out.cell 0 _ rfl;have xHD1:=HD.out.cell 1 _ rfl;have xHD2:=HD.out.cell 2 _ rfl;have xHD3:=HD.out.cell 3 _ rfl;have xHD4:=HD.out.cell 4 _ rfl;have xHD5:=HD.out.cell 5 _ rfl;have xHD6:=HD.out.cell 6 _ rfl;have xHD7:=HD.out.cell 7 _ rfl;have xHDz:=HD.out.lt
    go_wp2_with (fail)
    clear z0 c00 f00 c01 f01 c02 f02 c03 f03 z1 c10 f10 c11 f11 c12 f12 z2 c20 f20 c21 f21 z3 c30 f30 c31 f31 z4 c40 f40 c41 f41
    refine (CM1.out _).mono ?_
    rintro e w5 ⟨rfl,hb5⟩
    have HF5:=h_ ((HF4.out.alloc (.cells #[.int .i64 vn,.int .i64 (vd:Int)] 35)).below hb5)
    have hz5:w.heap.size+5≤w5.heap.size:=by have:=HF5.out.z;simpa using this
    clear xHD0 xHD1 xHD2 xHD3 xHD4 xHD5 xHD6 xHD7 xHDz HF4 CM1;replace HD:=h_ ((HD.out.alloc (.cells #[.int .i64 vn,.int .i64 (vd:Int)] 35)).below hb5);replace HC:=h_ (HC.out.below hb5);clear hb5;obtain⟨z0,c00,f00,c01,f01,c02,f02,c03,f03,z1,c10,f10,c11,f11,c12,f12,z2,c20,f20,c21,f21,z3,c30,f30,c31,f31,z4,c40,f40,c41,f41⟩:=HF5.out.xf8;have xHD0:=HD.out.cell 0 _ rfl;have xHD1:=HD.out.cell 1 _ rfl;have xHD2:=HD.out.cell 2 _ rfl;have xHD3:=HD.out.cell 3 _ rfl;have xHD4:=HD.out.cell 4 _ rfl;have xHD5:=HD.out.cell 5 _ rfl;have xHD6:=HD.out.cell 6 _ rfl;have xHD7:=HD.out.cell 7 _ rfl;have xHDz:=HD.out.lt;have u0:=HC.out.cell 0 _ rfl;have u1:=HC.out.cell 1 _ rfl;have uz:=HC.out.lt
    go_wp2_with (fail)
    clear z0 c00 f00 c01 f01 c02 f02 c03 f03 z1 c10 f10 c11 f11 c12 f12 z2 c20 f20 c21 f21 z3 c30 f30 c31 f31 z4 c40 f40 c41 f41
    refine (CM2.out _).mono ?_
    rintro e w6 ⟨rfl,hb6⟩
    have HF6:=h_ ((HF5.out.alloc (.cells #[.int .i64 ln,.int .i64 (ld:Int)] 35)).below hb6);have HL:Hid (Cel w6 w5.heap.size [.int .i64 ln,.int .i64 (ld:Int)]):=(Cel.new w5 #[.int .i64 ln,.int .i64 (ld:Int)] 35).below hb6
    have hz6:w.heap.size+5≤w6.heap.size:=by have:=HF6.out.z;simpa using this
    clear hb6 xHD0 xHD1 xHD2 xHD3 xHD4 xHD5 xHD6 xHD7 xHDz HD HC u0 u1 uz HF5 CM2;obtain⟨z0,c00,f00,c01,f01,c02,f02,c03,f03,z1,c10,f10,c11,f11,c12,f12,z2,c20,f20,c21,f21,z3,c30,f30,c31,f31,z4,c40,f40,c41,f41⟩:=HF6.out.xf8
    go_wp2_with (fail)
    clear z0 c00 f00 c01 f01 c02 f02 c03 f03 z1 c10 f10 c11 f11 c12 f12 z2 c20 f20 c21 f21 z3 c30 f30 c31 f31 z4 c40 f40 c41 f41;obtain⟨X,hX⟩:∃X,X=w6.alloc (.cells #[.int .i64 gn,.int .i64 (gd:Int)] 35):=⟨_,rfl⟩;have HF7:=h_ (HF6.out.alloc (.cells #[.int .i64 gn,.int .i64 (gd:Int)] 35));have HL7:=h_ (HL.out.alloc (.cells #[.int .i64 gn,.int .i64 (gd:Int)] 35));have HG7:=h_ (Cel.new w6 #[.int .i64 gn,.int .i64 (gd:Int)] 35);rw[← hX]at HF7 HL7 HG7 ⊢;clear hX HF6 HL;have l0:=HL7.out.cell 0 _ rfl;have l1:=HL7.out.cell 1 _ rfl;have lz:=HL7.out.lt;have g0:X.cell? ⟨w6.heap.size,0,none⟩=some (.int .i64 gn):=HG7.out.cell 0 _ rfl;have g1:X.cell? ⟨w6.heap.size,1,none⟩=some (.int .i64 (gd:Int)):=HG7.out.cell 1 _ rfl;have gz:=HG7.out.lt;clear HL7 HG7 hn1 hn2 hz3 hz4
    have n1:¬w5.heap.size=w.heap.size+1+1+1:=by omega
    have n2:¬w5.heap.size=w.heap.size+1+1+1+1:=by omega
    have n3:¬w6.heap.size=w.heap.size+1+1+1:=by omega
    have n4:¬w6.heap.size=w.heap.size+1+1+1+1:=by omega
    obtain⟨z0,c00,f00,c01,f01,c02,f02,c03,f03,z1,c10,f10,c11,f11,c12,f12,z2,c20,f20,c21,f21,z3,c30,f30,c31,f31,z4,c40,f40,c41,f41⟩:=HF7.out.xf8
    go_region
    all_goals
     go_wp2_with (fail)
     refine bodyPost_ret (v:=.tuple #[.agg #[.int .i64 (ln),.int .i64 ((ld:Int))],.agg #[.int .i64 (gn),.int .i64 ((gd:Int))],.int .i64 (0)]) (by simp[results,Tryz.results115,go_sem,c30,c31,z3,f30,f31,c40,c41,z4,f40,f41]) rfl (RetEr.mk' HWR.out ?_)
     repeat (first|with_reducible exact HF7.out.b|with_reducible refine drw ?_|with_reducible refine stw ?_ (by omega)|with_reducible refine alw ?_ (by omega))
 ·have HWR:Hid (erR p c h s m bv own other v o a=((0,0),(0,0),codeC p c h s m bv own other v o a)):=by
   unfold Hid erR;rw[if_neg hcm]
  generalize codeC p c h s m bv own other v o a=kk at *
  have b0:(kk != 0)=true:=by simp[hcm]
  clear hcm
  go_enter Tryz.func115,Tryz.ntmps115
  go_wp2_with (fail)
  refine CK.out.mono ?_
  rintro e w1 ⟨rfl,hb1⟩
  have HF2:=h_ (HF0.out.below hb1);clear CK hb1 HF0 HA0 HB0;obtain⟨z0,c00,f00,c01,f01,c02,f02,c03,f03,z1,c10,f10,c11,f11,c12,f12,z2,c20,f20,c21,f21,z3,c30,f30,c31,f31,z4,c40,f40,c41,f41⟩:=HF2.out.xf8
  go_wp2_with (fail)
  refine bodyPost_ret (v:=.tuple #[.agg #[.int .i64 (0),.int .i64 (0)],.agg #[.int .i64 (0),.int .i64 (0)],.int .i64 (kk)]) (by simp[results,Tryz.results115,go_sem,c30,c31,z3,f30,f31,c40,c41,z4,f40,f41]) rfl (RetEr.mk' HWR.out ?_)
  repeat (first|with_reducible exact HF2.out.b|with_reducible refine drw ?_|with_reducible refine stw ?_ (by omega)|with_reducible refine alw ?_ (by omega))
end Go.Proofs.YtgjapehpkakkbaaGreat
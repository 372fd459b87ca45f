/- Part of one proof. There are no conditions. -/
import Derived.Test.YtgjapehpkakkbaaGreatDM55
import Derived.Test.YtgjapehpkakkbaaGreatDM56
set_option linter.unusedVariables false
set_option linter.unusedSimpArgs false
namespace Go.Proofs.YtgjapehpkakkbaaGreat
open Go.RowKit Mo Ps Ra Ex
set_option maxRecDepth 100000 in
set_option maxHeartbeats 4000000 in
theorem sReplyError_any (p c h s m:Int) (bv j:Bool) (A B:Option Addr) (n k ca cb:Nat) (own other:List Int) (v o a:Int) (w:World) (hA:SL w A n own) (hB:SL w B k other) (hca:n≤ca) (hcb:k≤cb):
  Calls Tryz.prog 58 #[.agg #[.int .i64 p,.int .i64 c,.int .i64 h,.int .i64 s],.agg #[.int .i64 m,.bool bv,.bool j],.slice A n ca,.slice B k cb,.agg #[.int .i64 v,.int .i64 o],.int .i64 a] w (RetN w (reR p c h s m bv own other v o a)):=by
 have HF0:Hid (Fr w ((((w.alloc (.cells #[.int .i64 p,.int .i64 c,.int .i64 h,.int .i64 s] 25)).alloc (.cells #[.int .i64 m,.bool bv,.bool j] 59)).alloc (.cells #[.int .i64 v,.int .i64 o] 62)).alloc (.cells #[.int .i64 0,.int .i64 0] 35)) [[.int .i64 p,.int .i64 c,.int .i64 h,.int .i64 s],[.int .i64 m,.bool bv,.bool j],[.int .i64 v,.int .i64 o],[.int .i64 0,.int .i64 0]]):=((((Fr.start w).allocT (by simp) _ _).allocT (by simp) _ _).allocT (by simp) _ _).allocT (by simp) _ _
 have HA0:=h_ (hA.below HF0.out.b);have HB0:=h_ (hB.below HF0.out.b);have HAL:=h_ hA.1;have HBL:=h_ hB.1;have CK:=h_ (l20Code_any p c h s m bv j A B n k ca cb own other v o a _ HA0.out HB0.out);clear hA hB
 by_cases hcm:codeC p c h s m bv own other v o a=0
 ·obtain⟨hcl,hz1,hz2⟩:=codeM_ok (show codeM p c h s m own other v o (posA ⟨m,bv⟩ (v,o) a)=0 from hcm)
  rw[hcm]at CK;obtain⟨hv,hr,hp1,hp2,hcu,hpa,hgi⟩:=codeL_ok hcl;have hvv:=isVar_yes hv;obtain⟨K,hK,rfl⟩:=rulB_two hr
  obtain⟨c',rfl⟩:∃c':Nat,c=c':=⟨c.toNat,by omega⟩
  obtain⟨h',rfl⟩:∃h':Nat,h=h':=⟨h.toNat,by omega⟩
  obtain⟨s',rfl⟩:∃s':Nat,s=s':=⟨s.toNat,by omega⟩
  rw[gamI_two hK]at hgi
  have hs1:1≤s':=by omega
  have hs6:s'≤6:=by omega
  have HP1:=h_ (posB_pos hp1);have HP2:=h_ (posB_pos hp2);have hcb0:=cubB_ok hcu;have hcv:=hcb0.v1 hK
  have hnh:h'=n:=by rw[← HAL.out];exact (HP1.out.1).symm
  have hmh:h'=k:=by rw[← HBL.out];exact (HP2.out.1).symm
  subst hnh;subst hmh
  have CNEW:=h_ fun (W:World)=>l17New_any p c' h' s' K bv j W hv hK hgi
  have HWR0:Hid (erR p c' h' s' (two K) bv own other v o a=match dcd s' ⟨two K,bv⟩ own other (v,o) with|none=>((0,0),(0,0),3)|some d=>(((erV (sq s') a d ((valV s' ⟨two K,bv⟩ own other (v,o) a).getD ⟨0,0⟩)).1.num,((erV (sq s') a d ((valV s' ⟨two K,bv⟩ own other (v,o) a).getD ⟨0,0⟩)).1.depth:Int)),((erV (sq s') a d ((valV s' ⟨two K,bv⟩ own other (v,o) a).getD ⟨0,0⟩)).2.num,((erV (sq s') a d ((valV s' ⟨two K,bv⟩ own other (v,o) a).getD ⟨0,0⟩)).2.depth:Int)),0)):=by
   unfold Hid erR;rw[if_pos hcm]
   simp only[Int.toNat_natCast]
   rfl
  obtain⟨er,her⟩:∃er,er=erR p c' h' s' (two K) bv own other v o a:=⟨_,rfl⟩
  have HRR0:Hid (reR p c' h' s' (two K) bv own other v o a=(er.2.1.1,er.2.1.2,er.2.2)):=by rw[her];rfl
  obtain⟨od,hod⟩:∃od,od=dcd s' ⟨two K,bv⟩ own other (v,o):=⟨_,rfl⟩;obtain⟨ov,hov⟩:∃ov,ov=valV s' ⟨two K,bv⟩ own other (v,o) a:=⟨_,rfl⟩;rw[← hod,← hov,← her]at HWR0
  have HDE:Hid (∀(t:WT),t.c=c'→t.h=h'→t.s=s'→t.K=K→t.bv=bv→t.Ok→∀W:World,TbI t false W→SQ t.S W A h' own→SQ t.S W B h' other→Calls Tryz.prog 112 #[.pointer (some ⟨t.bt,0,none⟩),.slice A h' ca,.slice B h' cb,.agg #[.int .i64 v,.int .i64 o]] W (RetDT t W od)):=by
   intro t e1 e2 e3 e4 e5 hok W hI h1 h2
   subst e1 e2 e3 e4 e5;rw[hod]
   exact l20Decide_any t hok HP1.out HP2.out hz1 hcb0 A B ca cb W hI h1 hca h2 hcb
  have HVA:Hid (∀(t:WT) (fl:Bool),t.c=c'→t.h=h'→t.s=s'→t.K=K→t.bv=bv→t.Ok→∀W:World,TbI t fl W→SQ t.S W A h' own→SQ t.S W B h' other→Calls Tryz.prog 109 #[.pointer (some ⟨t.bt,0,none⟩),.slice A h' ca,.slice B h' cb,.agg #[.int .i64 v,.int .i64 o],.int .i64 a] W (RetT t W fl ov)):=by
   intro t fl e1 e2 e3 e4 e5 hok W hI h1 h2
   subst e1 e2 e3 e4 e5;rw[hov]
   exact l20Value_fl t fl hok HP1.out HP2.out hz1 hcu hpa A B ca cb W hI h1 hca h2 hcb
  have HDF:Hid (∀(ac rp:Int) (x y z:E),od=some (ac,x,y,rp,z)→(Val (sq s') x∧Bd (sq s') 1024 x)∧(Val (sq s') y∧Bd (sq s') 1024 y)∧(Val (sq s') z∧Bd (sq s') 1024 z)):=fun ac rp x y z he=>dcd_facts hs1 hs6 hK hcb0 (by rw[← hod];exact he)
  have HVF:Hid (∀x,ov=some x→Val (sq s') x∧Bd (sq s') 1024 x):=fun x he=>val_facts hs1 hs6 hK hcb0 hpa (by rw[← hov];exact he)
  have HVS:Hid (∀d,od=some d→∃x,ov=some x):=fun d he=>by rw[hov];exact val_some (show (1:Int)≤(v,o).1 from hcv.1) hpa (by rw[← hod];exact he)
  have CL:=h_ fun (xn yn:Int) (xd yd:Nat) (W:World) (hx:Val (sq s') ⟨xn,xd⟩) (hy:Val (sq s') ⟨yn,yd⟩) (ln:Int) (ld:Nat) (hl:minE (sq s') ⟨xn,xd⟩ ⟨yn,yd⟩=some ⟨ln,ld⟩)=>l20Less_any p c' h' xn yn s' xd yd W hv hx hy hl
  clear hcm hcl hv hr hp1 hp2 hcu hgi hvv hod hov HAL HBL hpa hcb0 hcv her;generalize reR p c' h' s' (two K) bv own other v o a=rr at *
  go_enter Tryz.func58,Tryz.ntmps58
  go_wp2_with (fail)
  refine CK.out.mono ?_
  rintro e w1 ⟨rfl,hb1⟩
  have HFX:=h_ (HF0.out.below hb1);have HAX:=h_ (HA0.out.below hb1);have HBX:=h_ (HB0.out.below hb1);clear CK hb1 HF0 HA0 HB0;obtain⟨z0,c00,f00,c01,f01,c02,f02,c03,f03,z1,c10,f10,c11,f11,c12,f12,z2,c20,f20,c21,f21,z3,c30,f30,c31,f31⟩:=HFX.out.xf9
  go_wp2_with (fail)
  clear z0 c00 f00 c01 f01 c02 f02 c03 f03 z1 c10 f10 c11 f11 c12 f12 z2 c20 f20 c21 f21 z3 c30 f30 c31 f31
  refine (CNEW.out _).mono ?_
  rintro e w2 ⟨t,t1,t2,t3,t4,t5,t6,rfl,hok,hI,hlow,hlowr,hb2⟩
  have HQ1:=h_ ((SQ.of_sl HAX.out hlow).below hb2);have HQ2:=h_ ((SQ.of_sl HBX.out hlow).below hb2);have HC:=h_ (HDE.out t t2 t3 t4 t5 t6 hok w2 hI HQ1.out HQ2.out)
  have HVL:=h_ fun (fl:Bool)=>HVA.out t fl t2 t3 t4 t5 t6 hok
  have HLOW:=h_ hlow;have HF3:=h_ (HFX.out.below hb2)
  have hz1':w.heap.size+4≤w1.heap.size:=by have:=HFX.out.z;simpa using this
  have hbt:=hI.ltB;clear t1 t2 t3 t4 t5 t6 hok hI hlow hlowr hb2 HAX HBX CNEW HDE HVA HFX;obtain⟨z0,c00,f00,c01,f01,c02,f02,c03,f03,z1,c10,f10,c11,f11,c12,f12,z2,c20,f20,c21,f21,z3,c30,f30,c31,f31⟩:=HF3.out.xf9
  go_wp2_with (fail)
  clear z0 c00 f00 c01 f01 c02 f02 c03 f03 z1 c10 f10 c11 f11 c12 f12 z2 c20 f20 c21 f21 z3 c30 f30 c31 f31
  refine HC.out.mono ?_
  rintro e w3 ⟨a1,a2,a3,a4,a5,a6,a7,a8,rfl,hI3,hf3,him⟩
  have HF4:Hid (Fr w w3 [[.int .i64 p,.int .i64 c',.int .i64 h',.int .i64 s'],[.int .i64 (two K),.bool bv,.bool j],[.int .i64 v,.int .i64 o],[.int .i64 0,.int .i64 0]]):=HF3.out.frm hf3 (fun k hk=>by have:=HLOW.out k hk;omega) (fun k hk=>by have:=HLOW.out k hk;simp;omega)
  replace HQ1:=h_ (HQ1.out.frm hf3);replace HQ2:=h_ (HQ2.out.frm hf3);have HI3:=h_ hI3
  have hz3:w.heap.size+4≤w3.heap.size:=by have:=HF4.out.z;simpa using this
  have hbt3:=hI3.ltB;have hbt0:w1.heap.size≤t.bt:=HLOW.out _ (.inl rfl)
  have n1:¬t.bt=w3.heap.size:=by omega
  have n2:¬w3.heap.size=t.bt:=by omega
  have n3:¬w3.heap.size=w.heap.size+1+1+1:=by omega
  have n4:¬w.heap.size+1+1+1=w3.heap.size:=by omega
  have n5:¬t.bt=w.heap.size+1+1+1:=by omega
  have n6:¬w.heap.size+1+1+1=t.bt:=by omega
  clear hf3 HF3 HC hbt hI3;obtain⟨z0,c00,f00,c01,f01,c02,f02,c03,f03,z1,c10,f10,c11,f11,c12,f12,z2,c20,f20,c21,f21,z3,c30,f30,c31,f31⟩:=HF4.out.xf9
  go_wp2_with (fail)
  clear z0 c00 f00 c01 f01 c02 f02 c03 f03 z1 c10 f10 c11 f11 c12 f12 z2 c20 f20 c21 f21 z3 c30 f30 c31 f31;have AL0:Hid (Cel (w3.alloc (.cells #[.int .i64 a1,.int .i64 a2,.int .i64 a3,.int .i64 a4,.int .i64 a5,.int .i64 a6,.int .i64 a7,.int .i64 a8] 79)) w3.heap.size [.int .i64 a1,.int .i64 a2,.int .i64 a3,.int .i64 a4,.int .i64 a5,.int .i64 a6,.int .i64 a7,.int .i64 a8]):=Cel.new w3 #[.int .i64 a1,.int .i64 a2,.int .i64 a3,.int .i64 a4,.int .i64 a5,.int .i64 a6,.int .i64 a7,.int .i64 a8] 79
  have hnS:¬t.S w3.heap.size:=fun h=>by have:=HI3.out.ltS _ h;omega
  refine (HVL.out od.isNone _ (HI3.out.alloc _) (HQ1.out.below ((Below.refl _ _).alloc (Nat.le_refl _) _)) (HQ2.out.below ((Below.refl _ _).alloc (Nat.le_refl _) _))).mono ?_
  rintro e w4 ⟨⟨q1,q2⟩,rfl,_,hI4,hf4,him4⟩
  have HF5:Hid (Fr w w4 [[.int .i64 p,.int .i64 c',.int .i64 h',.int .i64 s'],[.int .i64 (two K),.bool bv,.bool j],[.int .i64 v,.int .i64 o],[.int .i64 0,.int .i64 0]]):=(HF4.out.alloc (.cells #[.int .i64 a1,.int .i64 a2,.int .i64 a3,.int .i64 a4,.int .i64 a5,.int .i64 a6,.int .i64 a7,.int .i64 a8] 79)).frm hf4 (fun k hk=>by have:=HLOW.out k hk;omega) (fun k hk=>by have:=HLOW.out k hk;simp;omega)
  have HD:Hid (Cel w4 w3.heap.size [.int .i64 a1,.int .i64 a2,.int .i64 a3,.int .i64 a4,.int .i64 a5,.int .i64 a6,.int .i64 a7,.int .i64 a8]):=Cel.frm AL0.out hf4 hnS;have e11:=hI4.fa;have hbt4:=hI4.ltB
  have hz4:w.heap.size+4≤w4.heap.size:=by have:=HF5.out.z;simpa using this
  have h34:w3.heap.size<w4.heap.size:=HD.out.lt
  have m1:¬t.bt=w4.heap.size:=by omega
  have m2:¬w4.heap.size=t.bt:=by omega
  clear hf4 HVL HQ1 HQ2 HI3 HF4 AL0 hnS hI4 HLOW
  rcases od with _|⟨ac,⟨xn,xd⟩,⟨yn,yd⟩,rp,⟨zn,zd⟩⟩
  ·have HWR:Hid (rr=(0,0,3)):=by unfold Hid;rw[HRR0.out,HWR0.out]
   simp only[Option.isNone_none,Bool.true_or]at e11
   clear him him4 HDF HVF HVS CL;obtain⟨z0,c00,f00,c01,f01,c02,f02,c03,f03,z1,c10,f10,c11,f11,c12,f12,z2,c20,f20,c21,f21,z3,c30,f30,c31,f31⟩:=HF5.out.xf9
   go_wp2_with (fail)
   refine bodyPost_ret (v:=.tuple #[.agg #[.int .i64 (0),.int .i64 (0)],.int .i64 (3)]) (by simp[results,Tryz.results58,go_sem,c30,c31,z3,f30,f31]) rfl (RetN.mk' HWR.out ?_)
   repeat (first|with_reducible exact HF5.out.b|with_reducible refine stw ?_ (by omega)|with_reducible refine alw ?_ (by omega))
  ·have hda:=him rfl
   unfold dcV at hda;injection hda with hda
   obtain⟨rfl,rfl,rfl,rfl,rfl,rfl,rfl,rfl⟩:ac=a1∧xn=a2∧(xd:Int)=a3∧yn=a4∧(yd:Int)=a5∧rp=a6∧zn=a7∧(zd:Int)=a8:=by simpa using hda
   obtain⟨⟨vn,vd⟩,hvv⟩:=HVS.out _ rfl
   obtain⟨⟨vx,bx⟩,⟨vy,by'⟩,⟨vz,bz⟩⟩:=HDF.out _ _ _ _ _ rfl
   obtain⟨vw,bw⟩:=HVF.out _ hvv;subst hvv;clear HDF HVF HVS him hda;have hq:=him4 rfl;injection hq with hq;injection hq with hq1 hq2;subst hq1 hq2
   simp only[Option.isNone_some,Bool.or_self]at e11
   clear him4;have HC:Hid (Cel (w4.alloc (.cells #[.int .i64 vn,.int .i64 (vd:Int)] 35)) w4.heap.size [.int .i64 vn,.int .i64 (vd:Int)]):=Cel.new w4 #[.int .i64 vn,.int .i64 (vd:Int)] 35
   by_cases ha:a=0
   ·have ba:(a == 0)=true:=by simp[ha]
    have HWR:Hid (rr=(0,0,0)):=by
     unfold Hid;rw[HRR0.out,HWR0.out]
     simp only[erV,if_pos ha]
     rfl
    clear HWR0 HRR0 CL vx bx vy by' vz bz vw bw ha HC
    obtain⟨z0,c00,f00,c01,f01,c02,f02,c03,f03,z1,c10,f10,c11,f11,c12,f12,z2,c20,f20,c21,f21,z3,c30,f30,c31,f31⟩:=HF5.out.xf9
    go_wp2_with (fail)
    refine bodyPost_ret (v:=.tuple #[.agg #[.int .i64 (0),.int .i64 (0)],.int .i64 (0)]) (by simp[results,Tryz.results58,go_sem,c30,c31,z3,f30,f31]) rfl (RetN.mk' HWR.out ?_)
    repeat (first|with_reducible exact HF5.out.b|with_reducible refine stw ?_ (by omega)|with_reducible refine alw ?_ (by omega))
   ·have ba:(a == 0)=false:=by simp[ha]
    obtain⟨⟨ln,ld⟩,hl⟩:=min_some hs1 hs6 vw vy bw by'
    have HWR:Hid (rr=(ln,(ld:Int),0)):=by
     unfold Hid;rw[HRR0.out,HWR0.out]
     simp only[erV,if_neg ha,Option.getD_some]
     rw[hl]
     rfl
    have CL1:=h_ fun (W:World)=>CL.out vn yn vd yd W vw vy ln ld hl
    clear HWR0 HRR0 CL vx bx vy by' vz bz vw bw hl ha
    obtain⟨z0,c00,f00,c01,f01,c02,f02,c03,f03,z1,c10,f10,c11,f11,c12,f12,z2,c20,f20,c21,f21,z3,c30,f30,c31,f31⟩:=HF5.out.xf9;have x0:=HD.out.cell 0 _ rfl;have x1:=HD.out.cell 1 _ rfl;have x2:=HD.out.cell 2 _ rfl;have x3:=HD.out.cell 3 _ rfl;have x4:=HD.out.cell 4 _ rfl;have x5:=HD.out.cell 5 _ rfl;have x6:=HD.out.cell 6 _ rfl;have x7:=HD.out.cell 7 _ rfl
    go_wp2_with (fail)
    clear z0 c00 f00 c01 f01 c02 f02 c03 f03 z1 c10 f10 c11 f11 c12 f12 z2 c20 f20 c21 f21 z3 c30 f30 c31 f31
    refine (CL1.out _).mono ?_
    rintro e w5 ⟨rfl,hb5⟩
    have HF6:=h_ ((HF5.out.alloc (.cells #[.int .i64 vn,.int .i64 (vd:Int)] 35)).below hb5)
    have hz6:w.heap.size+4≤w5.heap.size:=by have:=HF6.out.z;simpa using this
    clear hb5 HD HC HF5 CL1 e11 x0 x1 x2 x3 x4 x5 x6 x7;obtain⟨z0,c00,f00,c01,f01,c02,f02,c03,f03,z1,c10,f10,c11,f11,c12,f12,z2,c20,f20,c21,f21,z3,c30,f30,c31,f31⟩:=HF6.out.xf9
    go_wp2_with (fail)
    refine bodyPost_ret (v:=.tuple #[.agg #[.int .i64 (ln),.int .i64 ((ld:Int))],.int .i64 (0)]) (by simp[results,Tryz.results58,go_sem,c30,c31,z3,f30,f31]) rfl (RetN.mk' HWR.out ?_)
    repeat (first|with_reducible exact HF6.out.b|with_reducible refine stw ?_ (by omega)|with_reducible refine alw ?_ (by omega))
 ·have HWR:Hid (reR p c h s m bv own other v o a=(0,0,codeC p c h s m bv own other v o a)):=by
   unfold Hid reR erR;rw[if_neg hcm]
  generalize codeC p c h s m bv own other v o a=kk at *
  have b0:(kk != 0)=true:=by simp[hcm]
  clear hcm
  go_enter Tryz.func58,Tryz.ntmps58
  go_wp2_with (fail)
  refine CK.out.mono ?_
  rintro e w1 ⟨rfl,hb1⟩
  have HFX:=h_ (HF0.out.below hb1);clear CK hb1 HF0 HA0 HB0;obtain⟨z0,c00,f00,c01,f01,c02,f02,c03,f03,z1,c10,f10,c11,f11,c12,f12,z2,c20,f20,c21,f21,z3,c30,f30,c31,f31⟩:=HFX.out.xf9
  go_wp2_with (fail)
  refine bodyPost_ret (v:=.tuple #[.agg #[.int .i64 (0),.int .i64 (0)],.int .i64 (kk)]) (by simp[results,Tryz.results58,go_sem,c30,c31,z3,f30,f31]) rfl (RetN.mk' HWR.out ?_)
  repeat (first|with_reducible exact HFX.out.b|with_reducible refine stw ?_ (by omega)|with_reducible refine alw ?_ (by omega))
end Go.Proofs.YtgjapehpkakkbaaGreat
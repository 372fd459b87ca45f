/- Part of one proof. There are no conditions. -/
import Derived.Test.YtkaiilmgemaljaaGreatYM21
import Derived.Test.YtkaiilmgemaljaaGreatYM23
import Derived.Test.YtkaiilmgemaljaaGreatYE6
set_option maxHeartbeats 0
set_option linter.unusedVariables false
set_option linter.unusedSimpArgs false
set_option maxRecDepth 100000
namespace Go.Proofs.YtkaiilmgemaljaaGreat
open Go.RowKit Mo Ps Ra Ex
theorem ij (p c h s m:Int) (bv j:Bool) (A B:Option Addr) (n k ca cb:Nat) (own other:List Int) (v o:Int) (w:World) (hA:SL w A n own) (hB:SL w B k other) (hca:n<=ca) (hcb:k<=cb):
  Calls Tryz.prog 31 #[.agg #[.int .i64 p,.int .i64 c,.int .i64 h,.int .i64 s],.agg #[.int .i64 m,.bool bv,.bool j],.slice A n ca,.slice B k cb,.agg #[.int .i64 v,.int .i64 o]] w (RetN w (eqR p c h s m bv own other v o)):=by
 have HF0:Hid (Fr w ((((w.alloc (.cells #[.int .i64 p,.int .i64 c,.int .i64 h,.int .i64 s] 25)).alloc (.cells #[.int .i64 m,.bool bv,.bool j] 53)).alloc (.cells #[.int .i64 v,.int .i64 o] 55)).alloc (.cells #[.int .i64 0,.int .i64 0] 35)) [[.int .i64 p,.int .i64 c,.int .i64 h,.int .i64 s],[.int .i64 m,.bool bv,.bool j],[.int .i64 v,.int .i64 o],[.int .i64 0,.int .i64 0]]):=((((Fr.start w).allocT (by simp) _ _).allocT (by simp) _ _).allocT (by simp) _ _).allocT (by simp) _ _
 have HA0:=h_ (hA.below HF0.out.b);have HB0:=h_ (hB.below HF0.out.b);have HAL:=h_ hA.1;have HBL:=h_ hB.1;have CK:=h_ (l17Code_any p c h s m bv j A B n k ca cb own other v o _ HA0.out HB0.out);clear hA hB
 by_cases hcl:codeL p c h s m own other v o true=0
 focus
  obtain⟨hv,hr,hp1,hp2,hcu,_,hgi⟩:=iF hcl;have hvv:=ak hv;obtain⟨K,hK,rfl⟩:=fZ hr
  obtain⟨c',rfl⟩:∃c':Nat,c=c':=⟨c.toNat,by omega⟩
  obtain⟨h',rfl⟩:∃h':Nat,h=h':=⟨h.toNat,by omega⟩
  obtain⟨s',rfl⟩:∃s':Nat,s=s':=⟨s.toNat,by omega⟩
  rw[iB hK]at hgi;obtain⟨hN,_⟩:=kr hgi;have HP1:=h_ (bz hp1);have HP2:=h_ (bz hp2);have hcb0:=cubB_ok hcu
  have hnh:h'=n:=by rw[<- HAL.out];exact (HP1.out.1).symm
  have hmh:h'=k:=by rw[<- HBL.out];exact (HP2.out.1).symm
  subst hnh;subst hmh
  have CNEW:=h_ fun (W:World)=>l17New_any p c' h' s' K bv j W hv hK hgi
  have HWC:Hid (eqR p c' h' s' (two K) bv own other v o=if own.sum=0/\other.sum=0 then (0,0,5) else numR (eqv s' ⟨two K,bv⟩ own other (v,o))):=by
   unfold Hid eqR codeE;rw[if_pos hcl]
   simp only[Int.toNat_natCast]
   split<;>rfl
  obtain⟨ov,hov⟩:∃ov,ov=eqv s' ⟨two K,bv⟩ own other (v,o):=⟨_,rfl⟩;rw[<- hov]at HWC
  have HALL:Hid (∀(t:WT),t.c=c'->t.h=h'->t.s=s'->t.K=K->t.bv=bv->t.Ok->∀W:World,TbI t false W->SQ t.S W A h' own->SQ t.S W B h' other->Calls Tryz.prog 108 #[.pointer (some ⟨t.bt,0,none⟩),.slice A h' ca,.slice B h' cb,.agg #[.int .i64 v,.int .i64 o]] W (fun e w'=>∃x:E,e = .returned (.agg #[.int .i64 x.num,.int .i64 (x.depth:Int)])/\TbI t ov.isNone w'/\Frm t.S W w'/\(ov.isNone=false->ov=some x))):=by
   intro t e1 e2 e3 e4 e5 hok W hI h1 h2
   subst e1 e2 e3 e4 e5;rw[hov]
   refine (eqT_all t hok HP1.out HP2.out hcb0 false A B ca cb W hI h1 hca h2 hcb).mono ?_
   rintro e w' ⟨x,rfl,_,h3,h4,h5⟩
   exact⟨x,rfl,h3,h4,h5⟩
  have TOA:=h_ fun (W:World) (hx:SL W A h' own)=>ec A h' ca own W hx HP1.out.2.1 (by omega)
  have TOB:=h_ fun (W:World) (hx:SL W B h' other)=>ec B h' cb other W hx HP2.out.2.1 (by omega)
  rw[hcl]at CK;clear hcl hv hr hp1 hp2 hcu hvv hov HAL HBL;generalize eqR p c' h' s' (two K) bv own other v o=rr at *
  by_cases hz1:own.sum=0
  focus
   have b1:=decide_eq_true hz1
   rw[b1]at TOA
   by_cases hz2:other.sum=0
   focus
    have b2:=decide_eq_true hz2
    rw[b2]at TOB
    have HWR:Hid (rr=(0,0,5)):=by unfold Hid;rw[HWC.out,if_pos ⟨hz1,hz2⟩]
    clear HWC hz1 hz2 b1 b2 CNEW HALL
    refine ?zd
   rotate_left
   focus
    have b2:=decide_eq_false hz2
    rw[b2]at TOB
    have HWR:Hid (rr=numR ov):=by unfold Hid;rw[HWC.out,if_neg fun hx=>hz2 hx.2]
    clear HWC hz1 hz2 b1 b2
    refine ?za
  rotate_left 2
  focus
   have b1:=decide_eq_false hz1
   rw[b1]at TOA
   have HWR:Hid (rr=numR ov):=by unfold Hid;rw[HWC.out,if_neg fun hx=>hz1 hx.1]
   clear HWC hz1 b1
   refine ?zb
 rotate_left 3
 focus
  have HWR:Hid (eqR p c h s m bv own other v o=(0,0,codeL p c h s m own other v o true)):=by
   unfold Hid eqR codeE;rw[if_neg hcl,if_neg hcl]
  generalize codeL p c h s m own other v o true=kk at *
  have b0:(kk != 0)=true:=by simp[hcl]
  have b5:(kk == 0)=false:=by simp[hcl]
  clear hcl
  refine ?zc
 rotate_left
 case' zc|zd|za|zb=>
  go_enter Tryz.func31,Tryz.ntmps31
  go_wp2_with (fail)
  refine CK.out.mono ?_
  rintro e w1 ⟨rfl,hb1⟩
  have HFX:=h_ (HF0.out.below hb1);have HAX:=h_ (HA0.out.below hb1);have HBX:=h_ (HB0.out.below hb1);clear CK hb1 HF0 HA0 HB0;obtain⟨z0,c00,f00,c01,f01,c02,f02,c03,f03,z1,c10,f10,c11,f11,c12,f12,z2,c20,f20,c21,f21,z3,c30,f30,c31,f31⟩:=HFX.out.xf7
 case za|zb=>
  go_wp2_with (first|(go_at_call_of 106 A;refine (TOA.out _ HAX.out).mono ?_;rintro e w' ⟨rfl,rfl⟩)|(go_at_call_of 106 B;refine (TOB.out _ HBX.out).mono ?_;rintro e w' ⟨rfl,rfl⟩))
  clear z0 c00 f00 c01 f01 c02 f02 c03 f03 z1 c10 f10 c11 f11 c12 f12 z2 c20 f20 c21 f21 z3 c30 f30 c31 f31
  refine (CNEW.out _).mono ?_
  rintro e w2 ⟨t,t1,t2,t3,t4,t5,t6,rfl,hok,hI,hlow,hlowr,hb2⟩
  have HC:=h_ (HALL.out t t2 t3 t4 t5 t6 hok w2 hI ((SQ.of_sl HAX.out hlow).below hb2) ((SQ.of_sl HBX.out hlow).below hb2));have HLOW:=h_ hlow;have HF3:=h_ (HFX.out.below hb2)
  have hz1:w.heap.size+4<=w1.heap.size:=by have:=HFX.out.z;simpa using this
  have hbt:=hI.ltB;clear t1 t2 t3 t4 t5 t6 hok hI hlow hlowr hb2 HAX HBX CNEW HALL HFX;obtain⟨z0,c00,f00,c01,f01,c02,f02,c03,f03,z1,c10,f10,c11,f11,c12,f12,z2,c20,f20,c21,f21,z3,c30,f30,c31,f31⟩:=HF3.out.xf7
  go_wp2_with (fail)
  clear z0 c00 f00 c01 f01 c02 f02 c03 f03 z1 c10 f10 c11 f11 c12 f12 z2 c20 f20 c21 f21 z3 c30 f30 c31 f31
  refine HC.out.mono ?_
  rintro e w3 ⟨⟨xn,xd⟩,rfl,hI3,hf3,him⟩
  have HF4:Hid (Fr w w3 [[.int .i64 p,.int .i64 c',.int .i64 h',.int .i64 s'],[.int .i64 (two K),.bool bv,.bool j],[.int .i64 v,.int .i64 o],[.int .i64 0,.int .i64 0]]):=HF3.out.frm hf3 (fun k hk=>by have:=HLOW.out k hk;omega) (fun k hk=>by have:=HLOW.out k hk;simp;omega)
  have e11:=hI3.fa;have hbt3:=hI3.ltB;have hbt0:w1.heap.size<=t.bt:=HLOW.out _ (.inl rfl)
  have n1:¬t.bt=w3.heap.size:=by omega
  have n2:¬w3.heap.size=t.bt:=by omega
  have hz3:w.heap.size+4<=w3.heap.size:=by have:=HF4.out.z;simpa using this
  have n3:¬w3.heap.size=w.heap.size+1+1+1:=by omega
  have n4:¬w.heap.size+1+1+1=w3.heap.size:=by omega
  have n5:¬t.bt=w.heap.size+1+1+1:=by omega
  have n6:¬w.heap.size+1+1+1=t.bt:=by omega
  clear hf3 HF3 HC HLOW hI3 hbt
  rcases ov with _|y
  ·have HRR:Hid (rr=(0,0,3)):=HWR.out
   simp only[Option.isNone_none]at e11
   clear him;obtain⟨z0,c00,f00,c01,f01,c02,f02,c03,f03,z1,c10,f10,c11,f11,c12,f12,z2,c20,f20,c21,f21,z3,c30,f30,c31,f31⟩:=HF4.out.xf7
   go_wp2_with (fail)
   refine bodyPost_ret (v:=.tuple #[.agg #[.int .i64 0,.int .i64 0],.int .i64 3]) (by simp[results,Tryz.results31,go_sem,c30,c31,z3,f30,f31]) rfl (RetN.mk' HRR.out ?_)
   repeat (first|exact HF4.out.b|refine stw ?_ (by omega)|refine alw ?_ (by omega))
  ·obtain rfl:y=⟨xn,xd⟩:=by have:=him rfl;injection this
   have HRR:Hid (rr=(xn,(xd:Int),0)):=HWR.out
   simp only[Option.isNone_some]at e11
   clear him;obtain⟨z0,c00,f00,c01,f01,c02,f02,c03,f03,z1,c10,f10,c11,f11,c12,f12,z2,c20,f20,c21,f21,z3,c30,f30,c31,f31⟩:=HF4.out.xf7
   go_wp2_with (fail)
   refine bodyPost_ret (v:=.tuple #[.agg #[.int .i64 xn,.int .i64 (xd:Int)],.int .i64 0]) (by simp[results,Tryz.results31,go_sem,c30,c31,z3,f30,f31]) rfl (RetN.mk' HRR.out ?_)
   repeat (first|exact HF4.out.b|refine stw ?_ (by omega)|refine alw ?_ (by omega))
 case' zc=>
  go_wp2_with (fail)
  refine bodyPost_ret (v:=.tuple #[.agg #[.int .i64 0,.int .i64 0],.int .i64 kk]) (by simp[results,Tryz.results31,go_sem,c30,c31,z3,f30,f31]) rfl (RetN.mk' HWR.out ?_)
 case' zd=>
  go_wp2_with (first|(go_at_call_of 106 A;refine (TOA.out _ HAX.out).mono ?_;rintro e w' ⟨rfl,rfl⟩)|(go_at_call_of 106 B;refine (TOB.out _ HBX.out).mono ?_;rintro e w' ⟨rfl,rfl⟩))
  refine bodyPost_ret (v:=.tuple #[.agg #[.int .i64 0,.int .i64 0],.int .i64 5]) (by simp[results,Tryz.results31,go_sem,c30,c31,z3,f30,f31]) rfl (RetN.mk' HWR.out ?_)
 case zc|zd=>
  repeat (first|exact HFX.out.b|refine stw ?_ (by omega)|refine alw ?_ (by omega))
theorem eqR_pos {p c h s m:Int} {bv:Bool} {own other:List Int} {v o x d k:Int} (H:(x,d,k)=eqR p c h s m bv own other v o) (hk:k=0):∃h' c':Nat,PosP h' c' own/\PosP h' c' other:=by
 subst hk;unfold eqR at H
 split at H
 ·rename_i hc
  have hL:codeL p c h s m own other v o true=0:=by
   unfold codeE at hc
   split at hc
   ·assumption
   ·exact hc
  obtain⟨c',h',_,_,_,_,_,_,_,_,_,_,h1,h2,_⟩:=codeL_nat hL
  exact⟨h',c',h1,h2⟩
 ·rename_i hc
  injection H with _ H;injection H with _ H
  exact absurd H.symm hc
theorem ju (C:Option Addr) (n c:Nat) (bs:List Int) (w:World) (hC:SBy w C n bs):
  Calls Tryz.prog 10 #[.slice C n c] w fun e w'=>e = .returned (.bool true)/\Below w.heap.size w w':=by
 have HC:=h_ hC;clear hC
 by_cases hn:4096<n
 ·have hd:decide (4096<n)=true:=by simp[hn]
  go_enter Tryz.func10,Tryz.ntmps10
  go_wp2_with (fail)
  refine (big_any C n c w).mono ?_
  rintro e w' ⟨rfl,rfl⟩
  rw[hd]
  go_wp2_with (fail)
  go_ret
  exact⟨rfl,Bel.rfl' _⟩
 have hd:decide (4096<n)=false:=by simp[hn]
 have HD:=h_ (fO C n c bs w HC.out (by omega))
 clear HC
 go_enter Tryz.func10,Tryz.ntmps10
 go_wp2_with (fail)
 refine (big_any C n c w).mono ?_
 rintro e w' ⟨rfl,rfl⟩
 rw[hd]
 go_wp2_with (fail)
 refine HD.out.mono ?_
 rintro e w1 ⟨p,cv,h,s,m,ba,bj,v1,xs,v2,ys,a,b,rfl,hdv,hdm,hdc,h1,h2,hx,hy,hb⟩
 obtain⟨A1,k1,rfl,s1,m1⟩:=h1.read;obtain⟨A2,k2,rfl,s2,m2⟩:=h2.read;have H1:=h_ s1;have H2:=h_ s2;have HB:=h_ hb;have HDV:=h_ hdv;have HDM:=h_ hdm;have HDC:=h_ hdc;clear HD hb h1 h2 s1 s2 hdv hdm hdc hx hy;replace H1:=h_ (H1.out.alloc (.cells #[.int .i64 p,.int .i64 cv,.int .i64 h,.int .i64 s] 25));replace H2:=h_ (H2.out.alloc (.cells #[.int .i64 p,.int .i64 cv,.int .i64 h,.int .i64 s] 25));replace HB:=h_ (HB.out.alloc HB.out.size (.cells #[.int .i64 p,.int .i64 cv,.int .i64 h,.int .i64 s] 25));have HV:Hid (Cel (w1.alloc (.cells #[.int .i64 p,.int .i64 cv,.int .i64 h,.int .i64 s] 25)) (w1.heap.size) [.int .i64 p,.int .i64 cv,.int .i64 h,.int .i64 s]):=Cel.new w1 #[.int .i64 p,.int .i64 cv,.int .i64 h,.int .i64 s] _;replace H1:=h_ (H1.out.alloc (.cells #[.int .i64 m,.bool ba,.bool bj] 53));replace H2:=h_ (H2.out.alloc (.cells #[.int .i64 m,.bool ba,.bool bj] 53));replace HB:=h_ (HB.out.alloc HB.out.size (.cells #[.int .i64 m,.bool ba,.bool bj] 53));replace HV:=h_ (HV.out.alloc (.cells #[.int .i64 m,.bool ba,.bool bj] 53))
 have HR:Hid (Cel ((w1.alloc (.cells #[.int .i64 p,.int .i64 cv,.int .i64 h,.int .i64 s] 25)).alloc (.cells #[.int .i64 m,.bool ba,.bool bj] 53)) (w1.heap.size+1) [.int .i64 m,.bool ba,.bool bj]):=Cel.new' (w1.alloc (.cells #[.int .i64 p,.int .i64 cv,.int .i64 h,.int .i64 s] 25)) #[.int .i64 m,.bool ba,.bool bj] _ (by simp)
 replace H1:=h_ (H1.out.alloc (.cells #[.int .i64 a,.int .i64 b] 55));replace H2:=h_ (H2.out.alloc (.cells #[.int .i64 a,.int .i64 b] 55));replace HB:=h_ (HB.out.alloc HB.out.size (.cells #[.int .i64 a,.int .i64 b] 55));replace HV:=h_ (HV.out.alloc (.cells #[.int .i64 a,.int .i64 b] 55));replace HR:=h_ (HR.out.alloc (.cells #[.int .i64 a,.int .i64 b] 55))
 have HK:Hid (Cel (((w1.alloc (.cells #[.int .i64 p,.int .i64 cv,.int .i64 h,.int .i64 s] 25)).alloc (.cells #[.int .i64 m,.bool ba,.bool bj] 53)).alloc (.cells #[.int .i64 a,.int .i64 b] 55)) (w1.heap.size+1+1) [.int .i64 a,.int .i64 b]):=Cel.new' ((w1.alloc (.cells #[.int .i64 p,.int .i64 cv,.int .i64 h,.int .i64 s] 25)).alloc (.cells #[.int .i64 m,.bool ba,.bool bj] 53)) #[.int .i64 a,.int .i64 b] _ (by simp)
 replace H1:=h_ (H1.out.alloc (.cells #[.int .i64 1,.bool false,.bool false] 53));replace H2:=h_ (H2.out.alloc (.cells #[.int .i64 1,.bool false,.bool false] 53));replace HB:=h_ (HB.out.alloc HB.out.size (.cells #[.int .i64 1,.bool false,.bool false] 53));replace HV:=h_ (HV.out.alloc (.cells #[.int .i64 1,.bool false,.bool false] 53));replace HR:=h_ (HR.out.alloc (.cells #[.int .i64 1,.bool false,.bool false] 53));replace HK:=h_ (HK.out.alloc (.cells #[.int .i64 1,.bool false,.bool false] 53))
 have HQ:Hid (Cel ((((w1.alloc (.cells #[.int .i64 p,.int .i64 cv,.int .i64 h,.int .i64 s] 25)).alloc (.cells #[.int .i64 m,.bool ba,.bool bj] 53)).alloc (.cells #[.int .i64 a,.int .i64 b] 55)).alloc (.cells #[.int .i64 1,.bool false,.bool false] 53)) (w1.heap.size+1+1+1) [.int .i64 1,.bool false,.bool false]):=Cel.new' (((w1.alloc (.cells #[.int .i64 p,.int .i64 cv,.int .i64 h,.int .i64 s] 25)).alloc (.cells #[.int .i64 m,.bool ba,.bool bj] 53)).alloc (.cells #[.int .i64 a,.int .i64 b] 55)) #[.int .i64 1,.bool false,.bool false] _ (by simp)
 go_wp2_with (fail)
 generalize ((((w1.alloc (.cells #[.int .i64 p,.int .i64 cv,.int .i64 h,.int .i64 s] 25)).alloc (.cells #[.int .i64 m,.bool ba,.bool bj] 53)).alloc (.cells #[.int .i64 a,.int .i64 b] 55)).alloc (.cells #[.int .i64 1,.bool false,.bool false] 53))=V1 at *;generalize w1.heap.size=g1 at *;obtain⟨r1,hr1⟩:∃r,r=eqR p cv h s 1 false xs ys 1 0:=⟨_,rfl⟩;obtain⟨r2,hr2⟩:∃r,r=cubR p cv h s xs ys:=⟨_,rfl⟩;obtain⟨x1,d1,e1⟩:=r1;obtain⟨x2,d2,e2⟩:=r2;have E1:=h_ hr1;have E2:=h_ hr2;clear hr1 hr2;have K:=jn p cv h s 1 false false A1 A2 _ _ k1 k2 xs ys 1 0 _ H1.out H2.out m1 m2;rw[<- E1.out]at K
 refine (K).mono ?_
 rintro e w2 ⟨rfl,hb⟩
 replace H1:=h_ (H1.out.below hb);replace H2:=h_ (H2.out.below hb);replace HB:=h_ (HB.out.trans (hb.mono HB.out.size));replace HV:=h_ (HV.out.below hb);replace HR:=h_ (HR.out.below hb);replace HK:=h_ (HK.out.below hb);replace HQ:=h_ (HQ.out.below hb);clear hb;clear K;have cHV_0:=HV.out.cell 0 _ rfl;have cHV_1:=HV.out.cell 1 _ rfl;have cHV_2:=HV.out.cell 2 _ rfl;have cHV_3:=HV.out.cell 3 _ rfl;have cHV_z:=HV.out.lt;have cHQ_0:=HQ.out.cell 0 _ rfl;have cHQ_1:=HQ.out.cell 1 _ rfl;have cHQ_2:=HQ.out.cell 2 _ rfl;have cHQ_z:=HQ.out.lt;replace H1:=h_ (H1.out.alloc (.cells #[.int .i64 x1,.int .i64 d1] 35));replace H2:=h_ (H2.out.alloc (.cells #[.int .i64 x1,.int .i64 d1] 35));replace HB:=h_ (HB.out.alloc HB.out.size (.cells #[.int .i64 x1,.int .i64 d1] 35));replace HV:=h_ (HV.out.alloc (.cells #[.int .i64 x1,.int .i64 d1] 35));replace HR:=h_ (HR.out.alloc (.cells #[.int .i64 x1,.int .i64 d1] 35));replace HK:=h_ (HK.out.alloc (.cells #[.int .i64 x1,.int .i64 d1] 35));replace HQ:=h_ (HQ.out.alloc (.cells #[.int .i64 x1,.int .i64 d1] 35));have HX:Hid (Cel (w2.alloc (.cells #[.int .i64 x1,.int .i64 d1] 35)) (w2.heap.size) [.int .i64 x1,.int .i64 d1]):=Cel.new w2 #[.int .i64 x1,.int .i64 d1] _
 go_wp2_with (fail)
 clear cHV_0 cHV_1 cHV_2 cHV_3 cHV_z cHQ_0 cHQ_1 cHQ_2 cHQ_z;generalize (w2.alloc (.cells #[.int .i64 x1,.int .i64 d1] 35))=V2 at *;generalize w2.heap.size=g2 at *;have K:=ij p cv h s 1 false false A1 A2 _ _ k1 k2 xs ys 1 0 _ H1.out H2.out m1 m2;rw[<- E1.out]at K
 refine (K).mono ?_
 rintro e w3 ⟨rfl,hb⟩
 replace H1:=h_ (H1.out.below hb);replace H2:=h_ (H2.out.below hb);replace HB:=h_ (HB.out.trans (hb.mono HB.out.size));replace HV:=h_ (HV.out.below hb);replace HR:=h_ (HR.out.below hb);replace HK:=h_ (HK.out.below hb);replace HQ:=h_ (HQ.out.below hb);replace HX:=h_ (HX.out.below hb);clear hb;clear K;have cHV_0:=HV.out.cell 0 _ rfl;have cHV_1:=HV.out.cell 1 _ rfl;have cHV_2:=HV.out.cell 2 _ rfl;have cHV_3:=HV.out.cell 3 _ rfl;have cHV_z:=HV.out.lt;replace H1:=h_ (H1.out.alloc (.cells #[.int .i64 x1,.int .i64 d1] 35));replace H2:=h_ (H2.out.alloc (.cells #[.int .i64 x1,.int .i64 d1] 35));replace HB:=h_ (HB.out.alloc HB.out.size (.cells #[.int .i64 x1,.int .i64 d1] 35));replace HV:=h_ (HV.out.alloc (.cells #[.int .i64 x1,.int .i64 d1] 35));replace HR:=h_ (HR.out.alloc (.cells #[.int .i64 x1,.int .i64 d1] 35));replace HK:=h_ (HK.out.alloc (.cells #[.int .i64 x1,.int .i64 d1] 35));replace HQ:=h_ (HQ.out.alloc (.cells #[.int .i64 x1,.int .i64 d1] 35));replace HX:=h_ (HX.out.alloc (.cells #[.int .i64 x1,.int .i64 d1] 35));have HZ:Hid (Cel (w3.alloc (.cells #[.int .i64 x1,.int .i64 d1] 35)) (w3.heap.size) [.int .i64 x1,.int .i64 d1]):=Cel.new w3 #[.int .i64 x1,.int .i64 d1] _
 have b0:(e1 != e1)=false:=by simp
 go_wp2_with (fail)
 clear cHV_0 cHV_1 cHV_2 cHV_3 cHV_z;generalize (w3.alloc (.cells #[.int .i64 x1,.int .i64 d1] 35))=V3 at *;generalize w3.heap.size=g3 at *;have K:=gD p cv h s A1 A2 _ _ k1 k2 xs ys _ H1.out H2.out m1 m2;rw[<- E2.out]at K
 refine (K).mono ?_
 rintro e w4 ⟨rfl,hb⟩
 replace H1:=h_ (H1.out.below hb);replace H2:=h_ (H2.out.below hb);replace HB:=h_ (HB.out.trans (hb.mono HB.out.size));replace HV:=h_ (HV.out.below hb);replace HR:=h_ (HR.out.below hb);replace HK:=h_ (HK.out.below hb);replace HQ:=h_ (HQ.out.below hb);replace HX:=h_ (HX.out.below hb);replace HZ:=h_ (HZ.out.below hb);clear hb;clear K;have cHV_0:=HV.out.cell 0 _ rfl;have cHV_1:=HV.out.cell 1 _ rfl;have cHV_2:=HV.out.cell 2 _ rfl;have cHV_3:=HV.out.cell 3 _ rfl;have cHV_z:=HV.out.lt;have cHX_0:=HX.out.cell 0 _ rfl;have cHX_1:=HX.out.cell 1 _ rfl;have cHX_z:=HX.out.lt;replace H1:=h_ (H1.out.alloc (.cells #[.int .i64 x2,.int .i64 d2] 35));replace H2:=h_ (H2.out.alloc (.cells #[.int .i64 x2,.int .i64 d2] 35));replace HB:=h_ (HB.out.alloc HB.out.size (.cells #[.int .i64 x2,.int .i64 d2] 35));replace HV:=h_ (HV.out.alloc (.cells #[.int .i64 x2,.int .i64 d2] 35));replace HR:=h_ (HR.out.alloc (.cells #[.int .i64 x2,.int .i64 d2] 35));replace HK:=h_ (HK.out.alloc (.cells #[.int .i64 x2,.int .i64 d2] 35));replace HQ:=h_ (HQ.out.alloc (.cells #[.int .i64 x2,.int .i64 d2] 35));replace HX:=h_ (HX.out.alloc (.cells #[.int .i64 x2,.int .i64 d2] 35));replace HZ:=h_ (HZ.out.alloc (.cells #[.int .i64 x2,.int .i64 d2] 35));have HY:Hid (Cel (w4.alloc (.cells #[.int .i64 x2,.int .i64 d2] 35)) (w4.heap.size) [.int .i64 x2,.int .i64 d2]):=Cel.new w4 #[.int .i64 x2,.int .i64 d2] _
 by_cases h12:e1=0/\e2=0
 ·obtain⟨h1,h2⟩:=h12
  have b1:(e1 != 0)=false:=by simp[h1]
  have b2:(e2 != 0)=false:=by simp[h2]
  obtain⟨s1',u,hs1',hv',_,_,hu,rfl,rfl⟩:=eqR_ok E1.out h1;have hpos:=eqR_pos E1.out h1;obtain⟨s',w0,t,y,rfl,hv,hw,hwr,ht,hy,rfl,rfl⟩:=winR_of_cub E2.out h2
  obtain rfl:s1'=s':=by omega
  obtain⟨h',c',ho,hoo⟩:=hpos
  have hs1:1<=s1':=by have:=(ak hv).2.2.2.2.2.2.1;omega
  have hs6:s1'<=6:=by have:=(ak hv).2.2.2.2.2.2.2;omega
  have hB:=(sq_bd hs1 hs6).1;obtain⟨hay,hsum⟩:=nd_facts hB ho hoo hu hw ht hy;have vw:Val (sq s1') ⟨w0.num,w0.depth⟩:=iL hB hw;have vy:Val (sq s1') ⟨y.num,y.depth⟩:=iH hB hy
  have CS:=h_ fun (W:World)=>fu p cv h w0.num s1' w0.depth 2 W hv vw (by omega) (by omega)
  have CA:=h_ fun (W:World)=>ii p cv h y.num 1 s1' y.depth 0 W hv vy (dq (by decide) (by decide))
  have e3:sclE (sq s1') ⟨w0.num,w0.depth⟩ ((2:Nat):Int)=some t:=ht;have e4:addE (sq s1') ⟨y.num,y.depth⟩ ⟨1,0⟩=some t:=hsum;rw[e3]at CS;rw[e4]at CA
  have q1:∀W:World,(binOp .eql 35 (.agg #[.int .i64 u.num,.int .i64 (u.depth:Int)]) (.agg #[.int .i64 y.num,.int .i64 (y.depth:Int)])).run Tryz.prog W = .ok (.bool true) W:=fun W=>by rw[eql_exact,hay];simp
  have q2:∀W:World,(binOp .eql 35 (.agg #[.int .i64 t.num,.int .i64 (t.depth:Int)]) (.agg #[.int .i64 t.num,.int .i64 (t.depth:Int)])).run Tryz.prog W = .ok (.bool true) W:=fun W=>by rw[eql_exact];simp
  have HWR:=h_ hwr;clear hu hw hwr ht hy hay hsum vw vy e3 e4 ho hoo hv' h1 h2 E1 E2 hs1 hs6 hB hs1'
  go_wp2_with (fail)
  clear cHV_0 cHV_1 cHV_2 cHV_3 cHV_z cHX_0 cHX_1 cHX_z;generalize (w4.alloc (.cells #[.int .i64 y.num,.int .i64 (y.depth:Int)] 35))=V4 at *;generalize w4.heap.size=g4 at *;have K:=gC p cv h s1' A1 A2 _ _ k1 k2 xs ys _ H1.out H2.out m1 m2;rw[HWR.out]at K
  refine (K).mono ?_
  rintro e w5 ⟨rfl,hb⟩
  replace H1:=h_ (H1.out.below hb);replace H2:=h_ (H2.out.below hb);replace HB:=h_ (HB.out.trans (hb.mono HB.out.size));replace HV:=h_ (HV.out.below hb);replace HR:=h_ (HR.out.below hb);replace HK:=h_ (HK.out.below hb);replace HQ:=h_ (HQ.out.below hb);replace HX:=h_ (HX.out.below hb);replace HZ:=h_ (HZ.out.below hb);replace HY:=h_ (HY.out.below hb);clear hb;clear K;have cHV_0:=HV.out.cell 0 _ rfl;have cHV_1:=HV.out.cell 1 _ rfl;have cHV_2:=HV.out.cell 2 _ rfl;have cHV_3:=HV.out.cell 3 _ rfl;have cHV_z:=HV.out.lt;replace H1:=h_ (H1.out.alloc (.cells #[.int .i64 (w0.num),.int .i64 ((w0.depth:Int))] 35));replace H2:=h_ (H2.out.alloc (.cells #[.int .i64 (w0.num),.int .i64 ((w0.depth:Int))] 35));replace HB:=h_ (HB.out.alloc HB.out.size (.cells #[.int .i64 (w0.num),.int .i64 ((w0.depth:Int))] 35));replace HV:=h_ (HV.out.alloc (.cells #[.int .i64 (w0.num),.int .i64 ((w0.depth:Int))] 35));replace HR:=h_ (HR.out.alloc (.cells #[.int .i64 (w0.num),.int .i64 ((w0.depth:Int))] 35));replace HK:=h_ (HK.out.alloc (.cells #[.int .i64 (w0.num),.int .i64 ((w0.depth:Int))] 35));replace HQ:=h_ (HQ.out.alloc (.cells #[.int .i64 (w0.num),.int .i64 ((w0.depth:Int))] 35));replace HX:=h_ (HX.out.alloc (.cells #[.int .i64 (w0.num),.int .i64 ((w0.depth:Int))] 35));replace HZ:=h_ (HZ.out.alloc (.cells #[.int .i64 (w0.num),.int .i64 ((w0.depth:Int))] 35));replace HY:=h_ (HY.out.alloc (.cells #[.int .i64 (w0.num),.int .i64 ((w0.depth:Int))] 35));have HW:Hid (Cel (w5.alloc (.cells #[.int .i64 (w0.num),.int .i64 ((w0.depth:Int))] 35)) (w5.heap.size) [.int .i64 (w0.num),.int .i64 ((w0.depth:Int))]):=Cel.new w5 #[.int .i64 (w0.num),.int .i64 ((w0.depth:Int))] _;have cw0:=HW.out.cell 0 _ rfl;have cw1:=HW.out.cell 1 _ rfl
  go_wp2_with (fail)
  clear cw0 cw1;clear cHV_0 cHV_1 cHV_2 cHV_3 cHV_z;generalize (w5.alloc (.cells #[.int .i64 (w0.num),.int .i64 ((w0.depth:Int))] 35))=V5 at *;generalize w5.heap.size=g5 at *
  refine (CS.out _).mono ?_
  rintro e w6 ⟨rfl,hb⟩
  replace H1:=h_ (H1.out.below hb);replace H2:=h_ (H2.out.below hb);replace HB:=h_ (HB.out.trans (hb.mono HB.out.size));replace HV:=h_ (HV.out.below hb);replace HR:=h_ (HR.out.below hb);replace HK:=h_ (HK.out.below hb);replace HQ:=h_ (HQ.out.below hb);replace HX:=h_ (HX.out.below hb);replace HZ:=h_ (HZ.out.below hb);replace HY:=h_ (HY.out.below hb);replace HW:=h_ (HW.out.below hb);clear hb;have cHV_0:=HV.out.cell 0 _ rfl;have cHV_1:=HV.out.cell 1 _ rfl;have cHV_2:=HV.out.cell 2 _ rfl;have cHV_3:=HV.out.cell 3 _ rfl;have cHV_z:=HV.out.lt;have cHY_0:=HY.out.cell 0 _ rfl;have cHY_1:=HY.out.cell 1 _ rfl;have cHY_z:=HY.out.lt;replace H1:=h_ (H1.out.alloc (.cells #[.int .i64 (t.num),.int .i64 ((t.depth:Int))] 35));replace H2:=h_ (H2.out.alloc (.cells #[.int .i64 (t.num),.int .i64 ((t.depth:Int))] 35));replace HB:=h_ (HB.out.alloc HB.out.size (.cells #[.int .i64 (t.num),.int .i64 ((t.depth:Int))] 35));replace HV:=h_ (HV.out.alloc (.cells #[.int .i64 (t.num),.int .i64 ((t.depth:Int))] 35));replace HR:=h_ (HR.out.alloc (.cells #[.int .i64 (t.num),.int .i64 ((t.depth:Int))] 35));replace HK:=h_ (HK.out.alloc (.cells #[.int .i64 (t.num),.int .i64 ((t.depth:Int))] 35));replace HQ:=h_ (HQ.out.alloc (.cells #[.int .i64 (t.num),.int .i64 ((t.depth:Int))] 35));replace HX:=h_ (HX.out.alloc (.cells #[.int .i64 (t.num),.int .i64 ((t.depth:Int))] 35));replace HZ:=h_ (HZ.out.alloc (.cells #[.int .i64 (t.num),.int .i64 ((t.depth:Int))] 35));replace HY:=h_ (HY.out.alloc (.cells #[.int .i64 (t.num),.int .i64 ((t.depth:Int))] 35));replace HW:=h_ (HW.out.alloc (.cells #[.int .i64 (t.num),.int .i64 ((t.depth:Int))] 35));have HT:Hid (Cel (w6.alloc (.cells #[.int .i64 (t.num),.int .i64 ((t.depth:Int))] 35)) (w6.heap.size) [.int .i64 (t.num),.int .i64 ((t.depth:Int))]):=Cel.new w6 #[.int .i64 (t.num),.int .i64 ((t.depth:Int))] _
  go_wp2_with (fail)
  clear cHV_0 cHV_1 cHV_2 cHV_3 cHV_z cHY_0 cHY_1 cHY_z;generalize (w6.alloc (.cells #[.int .i64 (t.num),.int .i64 ((t.depth:Int))] 35))=V6 at *;generalize w6.heap.size=g6 at *
  refine (CA.out _).mono ?_
  rintro e w7 ⟨rfl,hb⟩
  replace H1:=h_ (H1.out.below hb);replace H2:=h_ (H2.out.below hb);replace HB:=h_ (HB.out.trans (hb.mono HB.out.size));replace HV:=h_ (HV.out.below hb);replace HR:=h_ (HR.out.below hb);replace HK:=h_ (HK.out.below hb);replace HQ:=h_ (HQ.out.below hb);replace HX:=h_ (HX.out.below hb);replace HZ:=h_ (HZ.out.below hb);replace HY:=h_ (HY.out.below hb);replace HW:=h_ (HW.out.below hb);replace HT:=h_ (HT.out.below hb);clear hb;have cHX_0:=HX.out.cell 0 _ rfl;have cHX_1:=HX.out.cell 1 _ rfl;have cHX_z:=HX.out.lt;have cHY_0:=HY.out.cell 0 _ rfl;have cHY_1:=HY.out.cell 1 _ rfl;have cHY_z:=HY.out.lt;have cHT_0:=HT.out.cell 0 _ rfl;have cHT_1:=HT.out.cell 1 _ rfl;have cHT_z:=HT.out.lt;replace H1:=h_ (H1.out.alloc (.cells #[.int .i64 (t.num),.int .i64 ((t.depth:Int))] 35));replace H2:=h_ (H2.out.alloc (.cells #[.int .i64 (t.num),.int .i64 ((t.depth:Int))] 35));replace HB:=h_ (HB.out.alloc HB.out.size (.cells #[.int .i64 (t.num),.int .i64 ((t.depth:Int))] 35));replace HV:=h_ (HV.out.alloc (.cells #[.int .i64 (t.num),.int .i64 ((t.depth:Int))] 35));replace HR:=h_ (HR.out.alloc (.cells #[.int .i64 (t.num),.int .i64 ((t.depth:Int))] 35));replace HK:=h_ (HK.out.alloc (.cells #[.int .i64 (t.num),.int .i64 ((t.depth:Int))] 35));replace HQ:=h_ (HQ.out.alloc (.cells #[.int .i64 (t.num),.int .i64 ((t.depth:Int))] 35));replace HX:=h_ (HX.out.alloc (.cells #[.int .i64 (t.num),.int .i64 ((t.depth:Int))] 35));replace HZ:=h_ (HZ.out.alloc (.cells #[.int .i64 (t.num),.int .i64 ((t.depth:Int))] 35));replace HY:=h_ (HY.out.alloc (.cells #[.int .i64 (t.num),.int .i64 ((t.depth:Int))] 35));replace HW:=h_ (HW.out.alloc (.cells #[.int .i64 (t.num),.int .i64 ((t.depth:Int))] 35));replace HT:=h_ (HT.out.alloc (.cells #[.int .i64 (t.num),.int .i64 ((t.depth:Int))] 35));have HU:Hid (Cel (w7.alloc (.cells #[.int .i64 (t.num),.int .i64 ((t.depth:Int))] 35)) (w7.heap.size) [.int .i64 (t.num),.int .i64 ((t.depth:Int))]):=Cel.new w7 #[.int .i64 (t.num),.int .i64 ((t.depth:Int))] _
  go_wp2_with (fail)
  go_ret
  exact⟨rfl,HB.out⟩
 focus
  have b3:e1≠0\/e2≠0:=by
   by_cases h1:e1=0
   ·exact .inr fun h2=>h12 ⟨h1,h2⟩
   ·exact .inl h1
  have b4:(e2 == e2)=true:=by simp
  by_cases h1:e1=0
  focus
   have b1:(e1 != 0)=false:=by simp[h1]
   have b2:(e2 != 0)=true:=by rcases b3 with h|h;exact absurd h1 h;simp[h]
   clear h12 b3 h1
   refine ?za
  rotate_left
  focus
   have b1:(e1 != 0)=true:=by simp[h1]
   clear h12 b3 h1
   refine ?zb
 rotate_left 2
 case za|zb=>
  go_wp2_with (fail)
  clear cHV_0 cHV_1 cHV_2 cHV_3 cHV_z cHX_0 cHX_1 cHX_z;generalize (w4.alloc (.cells #[.int .i64 x2,.int .i64 d2] 35))=V4 at *;generalize w4.heap.size=g4 at *;have K:=da p cv h s A1 A2 _ _ k1 k2 xs ys _ H1.out H2.out m1 m2;rw[<- E2.out]at K
  refine (K).mono ?_
  rintro e w5 ⟨rfl,hb⟩
  replace H1:=h_ (H1.out.below hb);replace H2:=h_ (H2.out.below hb);replace HB:=h_ (HB.out.trans (hb.mono HB.out.size));replace HV:=h_ (HV.out.below hb);replace HR:=h_ (HR.out.below hb);replace HK:=h_ (HK.out.below hb);replace HQ:=h_ (HQ.out.below hb);replace HX:=h_ (HX.out.below hb);replace HZ:=h_ (HZ.out.below hb);replace HY:=h_ (HY.out.below hb);clear hb;clear K;replace H1:=h_ (H1.out.alloc (.cells #[.int .i64 x2,.int .i64 d2] 35));replace H2:=h_ (H2.out.alloc (.cells #[.int .i64 x2,.int .i64 d2] 35));replace HB:=h_ (HB.out.alloc HB.out.size (.cells #[.int .i64 x2,.int .i64 d2] 35));replace HV:=h_ (HV.out.alloc (.cells #[.int .i64 x2,.int .i64 d2] 35));replace HR:=h_ (HR.out.alloc (.cells #[.int .i64 x2,.int .i64 d2] 35));replace HK:=h_ (HK.out.alloc (.cells #[.int .i64 x2,.int .i64 d2] 35));replace HQ:=h_ (HQ.out.alloc (.cells #[.int .i64 x2,.int .i64 d2] 35));replace HX:=h_ (HX.out.alloc (.cells #[.int .i64 x2,.int .i64 d2] 35));replace HZ:=h_ (HZ.out.alloc (.cells #[.int .i64 x2,.int .i64 d2] 35));replace HY:=h_ (HY.out.alloc (.cells #[.int .i64 x2,.int .i64 d2] 35));have HW:Hid (Cel (w5.alloc (.cells #[.int .i64 x2,.int .i64 d2] 35)) (w5.heap.size) [.int .i64 x2,.int .i64 d2]):=Cel.new w5 #[.int .i64 x2,.int .i64 d2] _
  go_wp2_with (fail)
  go_ret
  exact⟨rfl,HB.out⟩
end Go.Proofs.YtkaiilmgemaljaaGreat

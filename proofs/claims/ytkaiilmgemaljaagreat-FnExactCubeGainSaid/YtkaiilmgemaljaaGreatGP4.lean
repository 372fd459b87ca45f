/- Part of one proof. There are no conditions. -/
import Derived.Test.YtkaiilmgemaljaaGreatGM21
import Derived.Test.YtkaiilmgemaljaaGreatGM23
import Derived.Test.YtkaiilmgemaljaaGreatGP3
set_option maxHeartbeats 0
set_option linter.unusedVariables false
set_option linter.unusedSimpArgs false
set_option maxRecDepth 100000
namespace Go.Proofs.YtkaiilmgemaljaaGreat
open Go.RowKit Mo Ps Ra Ex
theorem l17Both_any (p c h s m:Int) (b j:Bool) (A B:Option Addr) (n k ca cb:Nat) (own other:List Int) (v o:Int) (w:World) (hA:SL w A n own) (hB:SL w B k other):
  Calls Tryz.prog 111 #[.agg #[.int .i64 p,.int .i64 c,.int .i64 h,.int .i64 s],.agg #[.int .i64 m,.bool b,.bool j],.slice A n ca,.slice B k cb,.agg #[.int .i64 v,.int .i64 o]] w fun e w'=>e = .returned (.int .i64 (codeM p c h s m own other v o true))/\Below w.heap.size w w':=by
 have HB:Hid (Below w.heap.size w (((w.alloc (.cells #[.int .i64 p,.int .i64 c,.int .i64 h,.int .i64 s] 25)).alloc (.cells #[.int .i64 m,.bool b,.bool j] 53)).alloc (.cells #[.int .i64 v,.int .i64 o] 55))):=(((Below.refl _ _).alloc (Nat.le_refl _) _).alloc (by simp) _).alloc (by simp;omega) _
 have HX:=h_ (hA.below HB.out);have HY:=h_ (hB.below HB.out);have HAL:=h_ hA.1;have HBL:=h_ hB.1;have CK:=h_ (iO p c h s m b j A B n k ca cb own other v o _ HX.out HY.out);clear hA hB
 by_cases hcl:codeL p c h s m own other v o true=0
 ·obtain⟨hv,hr,hp1,hp2,hcu,_,hgi⟩:=gp hcl
  have hvv:=ak hv;have HP1:=h_ (jX hp1);have HP2:=h_ (jX hp2)
  have hn:n<=2000000:=by have:=HAL.out;have:=HP1.out.1;omega
  have hk:k<=2000000:=by have:=HBL.out;have:=HP2.out.1;omega
  have TOA:=h_ fun (W:World) (hx:SL W A n own)=>cx A n ca own W hx HP1.out.2.1 hn
  have TOB:=h_ fun (W:World) (hx:SL W B k other)=>cx B k cb other W hx HP2.out.2.1 hk
  have HRB:Hid (codeM p c h s m own other v o true=if (decide (own.sum=0)||decide (other.sum=0))=true then 5 else 0):=by
   unfold Hid codeM;rw[if_pos hcl];simp
  rw[hcl]at CK;clear hcl hv hr hp1 hp2 hcu hgi hvv HP1 HP2 hn hk HAL HBL
  rcases b1:decide (own.sum=0) with _|_
  all_goals
   rcases b2:decide (other.sum=0) with _|_
   all_goals
    have HR:=HRB;rw[b1,b2]at HR;rw[b1]at TOA;rw[b2]at TOB
    simp only[Bool.or_true,Bool.or_false,Bool.or_self,Bool.true_or,Bool.false_or,if_true,if_false,Bool.false_eq_true]at HR
    clear HRB b1 b2
    go_enter Tryz.func111,Tryz.ntmps111
    go_wp2_with (first
     | (go_at_call 105;(with_reducible refine (more_first CK.out).mono ?_);rintro e w' ⟨rfl,t,rfl⟩)
     | (go_at_call_of 106 A;(refine (TOA.out _ (HX.out.more _)).mono ?_);rintro e w' ⟨rfl,rfl⟩)
     | (go_at_call_of 106 B;(refine (TOB.out _ (HY.out.more _)).mono ?_);rintro e w' ⟨rfl,rfl⟩))
    go_ret
    exact⟨by rw[HR.out];rfl,by first|exact blw HB.out (Nat.le_refl _)|exact HB.out⟩
 ·have HR:Hid (codeM p c h s m own other v o true=codeL p c h s m own other v o true):=by unfold Hid codeM;rw[if_neg hcl]
  generalize codeM p c h s m own other v o true=kk2 at *;generalize codeL p c h s m own other v o true=kk at *
  have b0:(kk == 0)=false:=by simp[hcl]
  clear hcl
  go_enter Tryz.func111,Tryz.ntmps111
  go_wp2_with (go_at_call 105;(with_reducible refine (more_first CK.out).mono ?_);rintro e w' ⟨rfl,t,rfl⟩)
  go_ret
  exact⟨by rw[HR.out];rfl,by first|exact blw HB.out (Nat.le_refl _)|exact HB.out⟩
theorem hZ (p c h s m:Int) (bv j:Bool) (A B:Option Addr) (n k ca cb:Nat) (own other:List Int) (v o:Int) (w:World) (hA:SL w A n own) (hB:SL w B k other) (hca:n<=ca) (hcb:k<=cb):
  Calls Tryz.prog 31 #[.agg #[.int .i64 p,.int .i64 c,.int .i64 h,.int .i64 s],.agg #[.int .i64 m,.bool bv,.bool j],.slice A n ca,.slice B k cb,.agg #[.int .i64 v,.int .i64 o]] w (RetN w (eqR p c h s m bv own other v o)):=by
 have HF0:Hid (Fr w ((((w.alloc (.cells #[.int .i64 p,.int .i64 c,.int .i64 h,.int .i64 s] 25)).alloc (.cells #[.int .i64 m,.bool bv,.bool j] 53)).alloc (.cells #[.int .i64 v,.int .i64 o] 55)).alloc (.cells #[.int .i64 0,.int .i64 0] 35)) [[.int .i64 p,.int .i64 c,.int .i64 h,.int .i64 s],[.int .i64 m,.bool bv,.bool j],[.int .i64 v,.int .i64 o],[.int .i64 0,.int .i64 0]]):=((((Fr.start w).allocT (by simp) _ _).allocT (by simp) _ _).allocT (by simp) _ _).allocT (by simp) _ _
 have HA0:=h_ (hA.below HF0.out.b);have HB0:=h_ (hB.below HF0.out.b);have HAL:=h_ hA.1;have HBL:=h_ hB.1;have CK:=h_ (iO p c h s m bv j A B n k ca cb own other v o _ HA0.out HB0.out);clear hA hB
 by_cases hcl:codeL p c h s m own other v o true=0
 focus
  obtain⟨hv,hr,hp1,hp2,hcu,_,hgi⟩:=gp hcl;have hvv:=ak hv;obtain⟨K,hK,rfl⟩:=eU hr
  obtain⟨c',rfl⟩:∃c':Nat,c=c':=⟨c.toNat,by omega⟩
  obtain⟨h',rfl⟩:∃h':Nat,h=h':=⟨h.toNat,by omega⟩
  obtain⟨s',rfl⟩:∃s':Nat,s=s':=⟨s.toNat,by omega⟩
  rw[eW hK]at hgi;obtain⟨hN,_⟩:=gi hgi;have HP1:=h_ (bC hp1);have HP2:=h_ (bC hp2);have hcb0:=cubB_ok hcu
  have hnh:h'=n:=by rw[<- HAL.out];exact (HP1.out.1).symm
  have hmh:h'=k:=by rw[<- HBL.out];exact (HP2.out.1).symm
  subst hnh;subst hmh
  have CNEW:=h_ fun (W:World)=>l17New_any p c' h' s' K bv j W hv hK hgi
  have HWC:Hid (eqR p c' h' s' (two K) bv own other v o=if own.sum=0/\other.sum=0 then (0,0,5) else numR (eqv s' ⟨two K,bv⟩ own other (v,o))):=by
   unfold Hid eqR codeE;rw[if_pos hcl]
   simp only[Int.toNat_natCast]
   split<;>rfl
  obtain⟨ov,hov⟩:∃ov,ov=eqv s' ⟨two K,bv⟩ own other (v,o):=⟨_,rfl⟩;rw[<- hov]at HWC
  have HALL:Hid (∀(t:WT),t.c=c'->t.h=h'->t.s=s'->t.K=K->t.bv=bv->t.Ok->∀W:World,TbI t false W->SQ t.S W A h' own->SQ t.S W B h' other->Calls Tryz.prog 108 #[.pointer (some ⟨t.bt,0,none⟩),.slice A h' ca,.slice B h' cb,.agg #[.int .i64 v,.int .i64 o]] W (fun e w'=>∃x:E,e = .returned (.agg #[.int .i64 x.num,.int .i64 (x.depth:Int)])/\TbI t ov.isNone w'/\Frm t.S W w'/\(ov.isNone=false->ov=some x))):=by
   intro t e1 e2 e3 e4 e5 hok W hI h1 h2
   subst e1 e2 e3 e4 e5;rw[hov]
   refine (eqT_all t hok HP1.out HP2.out hcb0 false A B ca cb W hI h1 hca h2 hcb).mono ?_
   rintro e w' ⟨x,rfl,_,h3,h4,h5⟩
   exact⟨x,rfl,h3,h4,h5⟩
  have TOA:=h_ fun (W:World) (hx:SL W A h' own)=>cx A h' ca own W hx HP1.out.2.1 (by omega)
  have TOB:=h_ fun (W:World) (hx:SL W B h' other)=>cx B h' cb other W hx HP2.out.2.1 (by omega)
  rw[hcl]at CK;clear hcl hv hr hp1 hp2 hcu hvv hov HAL HBL;generalize eqR p c' h' s' (two K) bv own other v o=rr at *
  by_cases hz1:own.sum=0
  focus
   have b1:=decide_eq_true hz1
   rw[b1]at TOA
   by_cases hz2:other.sum=0
   focus
    have b2:=decide_eq_true hz2
    rw[b2]at TOB
    have HWR:Hid (rr=(0,0,5)):=by unfold Hid;rw[HWC.out,if_pos ⟨hz1,hz2⟩]
    clear HWC hz1 hz2 b1 b2 CNEW HALL
    refine ?zd
   rotate_left
   focus
    have b2:=decide_eq_false hz2
    rw[b2]at TOB
    have HWR:Hid (rr=numR ov):=by unfold Hid;rw[HWC.out,if_neg fun hx=>hz2 hx.2]
    clear HWC hz1 hz2 b1 b2
    refine ?za
  rotate_left 2
  focus
   have b1:=decide_eq_false hz1
   rw[b1]at TOA
   have HWR:Hid (rr=numR ov):=by unfold Hid;rw[HWC.out,if_neg fun hx=>hz1 hx.1]
   clear HWC hz1 b1
   refine ?zb
 rotate_left 3
 focus
  have HWR:Hid (eqR p c h s m bv own other v o=(0,0,codeL p c h s m own other v o true)):=by
   unfold Hid eqR codeE;rw[if_neg hcl,if_neg hcl]
  generalize codeL p c h s m own other v o true=kk at *
  have b0:(kk != 0)=true:=by simp[hcl]
  have b5:(kk == 0)=false:=by simp[hcl]
  clear hcl
  refine ?zc
 rotate_left
 case' zc|zd|za|zb=>
  go_enter Tryz.func31,Tryz.ntmps31
  go_wp2_with (fail)
  refine CK.out.mono ?_
  rintro e w1 ⟨rfl,hb1⟩
  have HFX:=h_ (HF0.out.below hb1);have HAX:=h_ (HA0.out.below hb1);have HBX:=h_ (HB0.out.below hb1);clear CK hb1 HF0 HA0 HB0;obtain⟨z0,c00,f00,c01,f01,c02,f02,c03,f03,z1,c10,f10,c11,f11,c12,f12,z2,c20,f20,c21,f21,z3,c30,f30,c31,f31⟩:=HFX.out.xf7
 case za|zb=>
  go_wp2_with (first|(go_at_call_of 106 A;refine (TOA.out _ HAX.out).mono ?_;rintro e w' ⟨rfl,rfl⟩)|(go_at_call_of 106 B;refine (TOB.out _ HBX.out).mono ?_;rintro e w' ⟨rfl,rfl⟩))
  clear z0 c00 f00 c01 f01 c02 f02 c03 f03 z1 c10 f10 c11 f11 c12 f12 z2 c20 f20 c21 f21 z3 c30 f30 c31 f31
  refine (CNEW.out _).mono ?_
  rintro e w2 ⟨t,t1,t2,t3,t4,t5,t6,rfl,hok,hI,hlow,hlowr,hb2⟩
  have HC:=h_ (HALL.out t t2 t3 t4 t5 t6 hok w2 hI ((SQ.of_sl HAX.out hlow).below hb2) ((SQ.of_sl HBX.out hlow).below hb2));have HLOW:=h_ hlow;have HF3:=h_ (HFX.out.below hb2)
  have hz1:w.heap.size+4<=w1.heap.size:=by have:=HFX.out.z;simpa using this
  have hbt:=hI.ltB;clear t1 t2 t3 t4 t5 t6 hok hI hlow hlowr hb2 HAX HBX CNEW HALL HFX;obtain⟨z0,c00,f00,c01,f01,c02,f02,c03,f03,z1,c10,f10,c11,f11,c12,f12,z2,c20,f20,c21,f21,z3,c30,f30,c31,f31⟩:=HF3.out.xf7
  go_wp2_with (fail)
  clear z0 c00 f00 c01 f01 c02 f02 c03 f03 z1 c10 f10 c11 f11 c12 f12 z2 c20 f20 c21 f21 z3 c30 f30 c31 f31
  refine HC.out.mono ?_
  rintro e w3 ⟨⟨xn,xd⟩,rfl,hI3,hf3,him⟩
  have HF4:Hid (Fr w w3 [[.int .i64 p,.int .i64 c',.int .i64 h',.int .i64 s'],[.int .i64 (two K),.bool bv,.bool j],[.int .i64 v,.int .i64 o],[.int .i64 0,.int .i64 0]]):=HF3.out.frm hf3 (fun k hk=>by have:=HLOW.out k hk;omega) (fun k hk=>by have:=HLOW.out k hk;simp;omega)
  have e11:=hI3.fa;have hbt3:=hI3.ltB;have hbt0:w1.heap.size<=t.bt:=HLOW.out _ (.inl rfl)
  have n1:¬t.bt=w3.heap.size:=by omega
  have n2:¬w3.heap.size=t.bt:=by omega
  have hz3:w.heap.size+4<=w3.heap.size:=by have:=HF4.out.z;simpa using this
  have n3:¬w3.heap.size=w.heap.size+1+1+1:=by omega
  have n4:¬w.heap.size+1+1+1=w3.heap.size:=by omega
  have n5:¬t.bt=w.heap.size+1+1+1:=by omega
  have n6:¬w.heap.size+1+1+1=t.bt:=by omega
  clear hf3 HF3 HC HLOW hI3 hbt
  rcases ov with _|y
  ·have HRR:Hid (rr=(0,0,3)):=HWR.out
   simp only[Option.isNone_none]at e11
   clear him;obtain⟨z0,c00,f00,c01,f01,c02,f02,c03,f03,z1,c10,f10,c11,f11,c12,f12,z2,c20,f20,c21,f21,z3,c30,f30,c31,f31⟩:=HF4.out.xf7
   go_wp2_with (fail)
   refine bodyPost_ret (v:=.tuple #[.agg #[.int .i64 0,.int .i64 0],.int .i64 3]) (by simp[results,Tryz.results31,go_sem,c30,c31,z3,f30,f31]) rfl (RetN.mk' HRR.out ?_)
   repeat (first|exact HF4.out.b|refine stw ?_ (by omega)|refine alw ?_ (by omega))
  ·obtain rfl:y=⟨xn,xd⟩:=by have:=him rfl;injection this
   have HRR:Hid (rr=(xn,(xd:Int),0)):=HWR.out
   simp only[Option.isNone_some]at e11
   clear him;obtain⟨z0,c00,f00,c01,f01,c02,f02,c03,f03,z1,c10,f10,c11,f11,c12,f12,z2,c20,f20,c21,f21,z3,c30,f30,c31,f31⟩:=HF4.out.xf7
   go_wp2_with (fail)
   refine bodyPost_ret (v:=.tuple #[.agg #[.int .i64 xn,.int .i64 (xd:Int)],.int .i64 0]) (by simp[results,Tryz.results31,go_sem,c30,c31,z3,f30,f31]) rfl (RetN.mk' HRR.out ?_)
   repeat (first|exact HF4.out.b|refine stw ?_ (by omega)|refine alw ?_ (by omega))
 case' zc=>
  go_wp2_with (fail)
  refine bodyPost_ret (v:=.tuple #[.agg #[.int .i64 0,.int .i64 0],.int .i64 kk]) (by simp[results,Tryz.results31,go_sem,c30,c31,z3,f30,f31]) rfl (RetN.mk' HWR.out ?_)
 case' zd=>
  go_wp2_with (first|(go_at_call_of 106 A;refine (TOA.out _ HAX.out).mono ?_;rintro e w' ⟨rfl,rfl⟩)|(go_at_call_of 106 B;refine (TOB.out _ HBX.out).mono ?_;rintro e w' ⟨rfl,rfl⟩))
  refine bodyPost_ret (v:=.tuple #[.agg #[.int .i64 0,.int .i64 0],.int .i64 5]) (by simp[results,Tryz.results31,go_sem,c30,c31,z3,f30,f31]) rfl (RetN.mk' HWR.out ?_)
 case zc|zd=>
  repeat (first|exact HFX.out.b|refine stw ?_ (by omega)|refine alw ?_ (by omega))
theorem RetN_no (w:World):RetN w (numR none)=fun e w'=>e = .returned (.tuple #[.agg #[.int .i64 0,.int .i64 0],.int .i64 3])/\Below w.heap.size w w':=rfl
theorem RetN_yes (w:World) (n:Int) (d:Nat):RetN w (numR (some ⟨n,d⟩))=fun e w'=>e = .returned (.tuple #[.agg #[.int .i64 n,.int .i64 (d:Int)],.int .i64 0])/\Below w.heap.size w w':=rfl
theorem jS (p c h s m:Int) (bv j:Bool) (A B:Option Addr) (n k ca cb:Nat) (own other:List Int) (v o:Int) (w:World) (hA:SL w A n own) (hB:SL w B k other) (hca:n<=ca) (hcb:k<=cb):
  Calls Tryz.prog 54 #[.agg #[.int .i64 p,.int .i64 c,.int .i64 h,.int .i64 s],.agg #[.int .i64 m,.bool bv,.bool j],.slice A n ca,.slice B k cb,.agg #[.int .i64 v,.int .i64 o]] w (RetN w (cgR p c h s m bv own other v o)):=by
 have HF0:Hid (Fr w ((((w.alloc (.cells #[.int .i64 p,.int .i64 c,.int .i64 h,.int .i64 s] 25)).alloc (.cells #[.int .i64 m,.bool bv,.bool j] 53)).alloc (.cells #[.int .i64 v,.int .i64 o] 55)).alloc (.cells #[.int .i64 0,.int .i64 0] 35)) [[.int .i64 p,.int .i64 c,.int .i64 h,.int .i64 s],[.int .i64 m,.bool bv,.bool j],[.int .i64 v,.int .i64 o],[.int .i64 0,.int .i64 0]]):=((((Fr.start w).allocT (by simp) _ _).allocT (by simp) _ _).allocT (by simp) _ _).allocT (by simp) _ _
 have HA0:=h_ (hA.below HF0.out.b);have HB0:=h_ (hB.below HF0.out.b);have HAL:=h_ hA.1;have HBL:=h_ hB.1;have CK:=h_ (l17Both_any p c h s m bv j A B n k ca cb own other v o _ HA0.out HB0.out);have HAW:=h_ hA;have HBW:=h_ hB
 have CME0:=fun (W:World) (h1:SL W A n own) (h2:SL W B k other)=>hZ p c h s m bv j A B n k ca cb own other v o W h1 h2 hca hcb
 have CCU0:=fun (W:World) (h1:SL W A n own) (h2:SL W B k other)=>fF p c h s A B n k ca cb own other W h1 h2 hca hcb
 clear hA hB
 by_cases hcm:codeM p c h s m own other v o true=0
 focus
  obtain⟨hcl,hz1,hz2⟩:=ki hcm
  rw[hcm]at CK;obtain⟨hv,hr,hp1,hp2,hcu,_,hgi⟩:=gp hcl;have hvv:=ak hv;obtain⟨K,hK,rfl⟩:=eU hr
  obtain⟨c',rfl⟩:∃c':Nat,c=c':=⟨c.toNat,by omega⟩
  obtain⟨h',rfl⟩:∃h':Nat,h=h':=⟨h.toNat,by omega⟩
  obtain⟨s',rfl⟩:∃s':Nat,s=s':=⟨s.toNat,by omega⟩
  rw[eW hK]at hgi;obtain⟨hN,_⟩:=gi hgi
  have hcv:=(cubB_ok hcu).v1 hK;have hv1:1<=v:=hcv.1;have hv2:v<=1024:=hcv.2.1
  have hs1:1<=s':=by omega
  have hs6:s'<=6:=by omega
  have hq1:=(sq_bd hs1 hs6).1;obtain⟨cu,hcu'⟩:∃cu,cu=(win s' own other).bind (cubE (sq s')):=⟨_,rfl⟩;obtain⟨ov,hov⟩:∃ov,ov=eqv s' ⟨two K,bv⟩ own other (v,o):=⟨_,rfl⟩
  have HVV:Hid (∀x,ov=some x->Val (sq s') x):=fun x hx=>by rw[hov]at hx;exact kd hq1 (by show (-100000:Int)<=v;omega) (by show v<=100000;omega) hx
  have HCB:Hid (∀y,cu=some y->Val (sq s') y/\Bd (sq s') 3 y):=fun y hy=>by
   rw[hcu']at hy;obtain⟨w0,hw0,hy⟩:=cC hy
   exact cub_bd hq1 (win_uni hq1 hw0) hy
  have hce:codeE p c' h' s' (two K) own other v o=0:=by
   unfold codeE
   rw[if_pos hcl,if_neg (fun h=>hz1 h.1)]
  have heq:eqR p c' h' s' (two K) bv own other v o=numR ov:=by
   unfold eqR;rw[if_pos hce,hov,Int.toNat_natCast]
  clear hce;rw[heq]at CME0;rw[cub_of_M hcm,<- hcu']at CCU0;have CME:=h_ CME0;have CCU:=h_ CCU0
  have HWR:Hid (cgR p c' h' s' (two K) bv own other v o=numR (gainE (sq s') ov cu v)):=by
   unfold Hid cgR;rw[if_pos hcm,hov,hcu']
   simp only[Int.toNat_natCast]
  obtain⟨rr,hrr⟩:∃rr,rr=cgR p c' h' s' (two K) bv own other v o:=⟨_,rfl⟩;rw[<- hrr]at HWR ⊢;clear hcm hcl hr hp1 hp2 hcu hgi hov HAL HBL hrr hcu' hcv CME0 CCU0 heq
  rcases ov with _|⟨xn,xd⟩
  focus
   have HRR:Hid (rr=(0,0,3)):=HWR.out
   clear HCB CCU;replace CME:=CME.out
   simp only[RetN_no]at CME
   replace CME:=h_ CME
   refine ?zd
  rotate_left
  focus
   replace CME:=CME.out
   simp only[RetN_yes]at CME
   replace CME:=h_ CME;have HVX:Hid (Val (sq s') ⟨xn,xd⟩):=HVV.out _ rfl
   rcases cu with _|y
   focus
    have HRR:Hid (rr=(0,0,3)):=HWR.out
    clear HCB;replace CCU:=CCU.out
    simp only[RetN_no]at CCU
    replace CCU:=h_ CCU
    refine ?zc
   rotate_left
   focus
    obtain⟨vy,by3⟩:=HCB.out y rfl
    have q0:=pw_top s' (by omega) y.depth (aO hq1 vy) vy.2.2.1
    have q1 : -844424930131968<=y.num:=by have:=by3.1;omega
    have q2:y.num<=844424930131968:=by have:=by3.2;omega
    have hdy:y.depth<50:=aO hq1 vy
    obtain⟨vn,rfl⟩:∃vn:Nat,v=vn:=⟨v.toNat,by omega⟩
    have m1:y.num*vn<=844424930131968*1024:=by
     by_cases h0:0<=y.num
     ·exact Int.mul_le_mul q2 (by omega) (by omega) (by omega)
     ·have:=Int.mul_nonneg (show 0<=-y.num by omega) (show (0:Int)<=vn by omega)
      rw[Int.neg_mul]at this
      omega
    have m2 : -(844424930131968*1024)<=y.num*vn:=by
     by_cases h0:0<=y.num
     ·have:=Int.mul_nonneg h0 (show (0:Int)<=vn by omega)
      omega
     ·have:=Int.mul_le_mul (show -y.num<=844424930131968 by omega) (show (vn:Int)<=1024 by omega) (by omega) (by omega)
      rw[Int.neg_mul]at this
      omega
    obtain⟨z,hz⟩:∃z,sclE (sq s') y (vn:Int)=some z:=mk_ok hq1 (by show -(1000000000000000000:Int)<=_;omega) (by show _<=(1000000000000000000:Int);omega) vy.2.2.1
    have hmk:mk (sq s') (-y.num*vn) y.depth=some (negE z):=by rw[scl_neg hq1,hz];rfl
    have hw1:IntKind.i64.wrap (-y.num) = -y.num:=IntWalk.i64_in _ (by omega)
    have hw2:IntKind.i64.wrap (-y.num*vn) = -y.num*vn:=IntWalk.i64_in _ (by rw[Int.neg_mul];omega)
    have CMK:=h_ fun (W:World)=>jR p c' h' (-y.num*vn) s' y.depth (negE z) W hv (by rw[Int.neg_mul];omega) (by rw[Int.neg_mul];omega) vy.2.2.1 (by omega) hmk
    have vz:Val (sq s') (negE z):=(mk_val hq1 hmk).1
    have hHR:rr=numR (addE (sq s') ⟨xn,xd⟩ (negE z)):=by
     rw[HWR.out]
     show numR ((sclE (sq s') y (vn:Int)).bind fun z=>minE (sq s') ⟨xn,xd⟩ z)=_
     rw[hz]
     rfl
    obtain⟨n,hzn⟩:∃n,n=negE z:=⟨_,rfl⟩;rw[<- hzn]at CMK vz hHR;clear hzn hmk hz m1 m2 q0 q1 q2 by3 HCB HWR;obtain⟨zn,zd⟩:=n;obtain⟨yn,yd⟩:=y
    simp only at hw1 hw2 CMK
    replace CCU:=CCU.out
    simp only[RetN_yes]at CCU
    replace CCU:=h_ CCU
    have CAD:=h_ fun (W:World)=>hY p c' h' xn zn s' xd zd W hv HVX.out vz
    generalize hu:addE (sq s') ⟨xn,xd⟩ ⟨zn,zd⟩=ou at *;generalize hg : -yn*(vn:Int)=g at *
    rcases ou with _|⟨un,ud⟩
    focus
     have HRR:Hid (rr=(0,0,3)):=hHR
     refine ?za
    rotate_left
    focus
     have HRR:Hid (rr=(un,(ud:Int),0)):=hHR
     refine ?zb
 rotate_left 4
 focus
  have HRR:Hid (cgR p c h s m bv own other v o=(0,0,codeM p c h s m own other v o true)):=by
   unfold Hid cgR;rw[if_neg hcm]
  generalize codeM p c h s m own other v o true=kk at *
  have b0:(kk != 0)=true:=by simp[hcm]
  clear hcm HAW HBW CME0 CCU0
  refine ?ze
 rotate_left
 case' za|zb=>
  clear hHR vz vy
 case' ze|zd|zc|za|zb=>
  go_enter Tryz.func54,Tryz.ntmps54
  go_wp2_with (fail)
  refine CK.out.mono ?_
  rintro e w1 ⟨rfl,hb1⟩
 case' zd|zc|za|zb=>
  have HF1:=h_ (HF0.out.below hb1);clear CK hb1 HF0 HA0 HB0;obtain⟨z0,c00,f00,c01,f01,c02,f02,c03,f03,z1,c10,f10,c11,f11,c12,f12,z2,c20,f20,c21,f21,z3,c30,f30,c31,f31⟩:=HF1.out.xf7
  go_wp2_with (fail)
  clear z0 c00 f00 c01 f01 c02 f02 c03 f03 z1 c10 f10 c11 f11 c12 f12 z2 c20 f20 c21 f21 z3 c30 f30 c31 f31
  refine (CME.out _ (HAW.out.below HF1.out.b) (HBW.out.below HF1.out.b)).mono ?_
  rintro e w2 ⟨rfl,hb⟩
 case' zc|za|zb=>
  have HF2:=h_ (HF1.out.below hb);clear hb HF1 CME;obtain⟨z0,c00,f00,c01,f01,c02,f02,c03,f03,z1,c10,f10,c11,f11,c12,f12,z2,c20,f20,c21,f21,z3,c30,f30,c31,f31⟩:=HF2.out.xf7;have HF3:=h_ (HF2.out.alloc (.cells #[.int .i64 xn,.int .i64 (xd:Int)] 35));have K13:Hid (Cel (w2.alloc (.cells #[.int .i64 xn,.int .i64 (xd:Int)] 35)) w2.heap.size [.int .i64 xn,.int .i64 (xd:Int)]):=Cel.new w2 #[.int .i64 xn,.int .i64 (xd:Int)] _;clear HF2
  go_wp2_with (fail)
  clear z0 c00 f00 c01 f01 c02 f02 c03 f03 z1 c10 f10 c11 f11 c12 f12 z2 c20 f20 c21 f21 z3 c30 f30 c31 f31;generalize w2.alloc (.cells #[.int .i64 xn,.int .i64 (xd:Int)] 35)=W3 at *;generalize w2.heap.size=b13 at *
  refine (CCU.out W3 (HAW.out.below HF3.out.b) (HBW.out.below HF3.out.b)).mono ?_
  rintro e w4 ⟨rfl,hb⟩
 case' za|zb=>
  have HF4:=h_ (HF3.out.below hb);replace K13:=h_ (K13.out.below hb);clear hb HF3;clear HAW HBW CCU;obtain⟨z0,c00,f00,c01,f01,c02,f02,c03,f03,z1,c10,f10,c11,f11,c12,f12,z2,c20,f20,c21,f21,z3,c30,f30,c31,f31⟩:=HF4.out.xf7;have HF5:=h_ (HF4.out.alloc (.cells #[.int .i64 yn,.int .i64 (yd:Int)] 35));replace K13:=h_ (K13.out.alloc (.cells #[.int .i64 yn,.int .i64 (yd:Int)] 35));have K14:Hid (Cel (w4.alloc (.cells #[.int .i64 yn,.int .i64 (yd:Int)] 35)) w4.heap.size [.int .i64 yn,.int .i64 (yd:Int)]):=Cel.new w4 #[.int .i64 yn,.int .i64 (yd:Int)] _;clear HF4;have cK13_0:=K13.out.cell 0 _ rfl;have cK13_1:=K13.out.cell 1 _ rfl;have cK13_z:=K13.out.lt
  go_wp2_with (fail)
  clear z0 c00 f00 c01 f01 c02 f02 c03 f03 z1 c10 f10 c11 f11 c12 f12 z2 c20 f20 c21 f21 z3 c30 f30 c31 f31;clear cK13_0 cK13_1 cK13_z;generalize w4.alloc (.cells #[.int .i64 yn,.int .i64 (yd:Int)] 35)=W5 at *;generalize w4.heap.size=b14 at *
  refine (CMK.out W5).mono ?_
  rintro e w6 ⟨rfl,hb⟩
  have HF6:=h_ (HF5.out.below hb);replace K13:=h_ (K13.out.below hb);replace K14:=h_ (K14.out.below hb);clear hb HF5;clear CMK K14;obtain⟨z0,c00,f00,c01,f01,c02,f02,c03,f03,z1,c10,f10,c11,f11,c12,f12,z2,c20,f20,c21,f21,z3,c30,f30,c31,f31⟩:=HF6.out.xf7;have HF7:=h_ (HF6.out.alloc (.cells #[.int .i64 zn,.int .i64 (zd:Int)] 35));replace K13:=h_ (K13.out.alloc (.cells #[.int .i64 zn,.int .i64 (zd:Int)] 35));have K15:Hid (Cel (w6.alloc (.cells #[.int .i64 zn,.int .i64 (zd:Int)] 35)) w6.heap.size [.int .i64 zn,.int .i64 (zd:Int)]):=Cel.new w6 #[.int .i64 zn,.int .i64 (zd:Int)] _;clear HF6;have cK13_0:=K13.out.cell 0 _ rfl;have cK13_1:=K13.out.cell 1 _ rfl;have cK13_z:=K13.out.lt
  go_wp2_with (fail)
  clear z0 c00 f00 c01 f01 c02 f02 c03 f03 z1 c10 f10 c11 f11 c12 f12 z2 c20 f20 c21 f21 z3 c30 f30 c31 f31;clear cK13_0 cK13_1 cK13_z;generalize w6.alloc (.cells #[.int .i64 zn,.int .i64 (zd:Int)] 35)=W7 at *;generalize w6.heap.size=b15 at *
  refine (CAD.out W7).mono ?_
  rintro e w8 ⟨rfl,hb⟩
  have HF8:=h_ (HF7.out.below hb);replace K13:=h_ (K13.out.below hb);replace K15:=h_ (K15.out.below hb);clear hb HF7;clear CAD K13 K15;obtain⟨z0,c00,f00,c01,f01,c02,f02,c03,f03,z1,c10,f10,c11,f11,c12,f12,z2,c20,f20,c21,f21,z3,c30,f30,c31,f31⟩:=HF8.out.xf7
  go_wp2_with (fail)
 case' zc=>
  have HF4:=h_ (HF3.out.below hb);replace K13:=h_ (K13.out.below hb);clear hb HF3;clear HAW HBW CCU K13;obtain⟨z0,c00,f00,c01,f01,c02,f02,c03,f03,z1,c10,f10,c11,f11,c12,f12,z2,c20,f20,c21,f21,z3,c30,f30,c31,f31⟩:=HF4.out.xf7
  go_wp2_with (fail)
 case' zd=>
  have HF2:=h_ (HF1.out.below hb);clear hb HF1 CME;clear HAW HBW;obtain⟨z0,c00,f00,c01,f01,c02,f02,c03,f03,z1,c10,f10,c11,f11,c12,f12,z2,c20,f20,c21,f21,z3,c30,f30,c31,f31⟩:=HF2.out.xf7
  go_wp2_with (fail)
 case' zc|zd|za=>
  refine bodyPost_ret (v:=.tuple #[.agg #[.int .i64 0,.int .i64 0],.int .i64 3]) (by simp[results,Tryz.results54,go_sem,c30,c31,z3,f30,f31]) rfl (RetN.mk' HRR.out ?_)
 case zc=>
  repeat (first|exact HF4.out.b|refine stw ?_ (by omega)|refine alw ?_ (by omega))
 case' zb=>
  refine bodyPost_ret (v:=.tuple #[.agg #[.int .i64 un,.int .i64 (ud:Int)],.int .i64 0]) (by simp[results,Tryz.results54,go_sem,c30,c31,z3,f30,f31]) rfl (RetN.mk' HRR.out ?_)
 case zb|za=>
  repeat (first|exact HF8.out.b|refine stw ?_ (by omega)|refine alw ?_ (by omega))
 case' ze=>
  have HF2:=h_ (HF0.out.below hb1);clear CK hb1 HF0 HA0 HB0;obtain⟨z0,c00,f00,c01,f01,c02,f02,c03,f03,z1,c10,f10,c11,f11,c12,f12,z2,c20,f20,c21,f21,z3,c30,f30,c31,f31⟩:=HF2.out.xf7
  go_wp2_with (fail)
  refine bodyPost_ret (v:=.tuple #[.agg #[.int .i64 0,.int .i64 0],.int .i64 kk]) (by simp[results,Tryz.results54,go_sem,c30,c31,z3,f30,f31]) rfl (RetN.mk' HRR.out ?_)
 case ze|zd=>
  repeat (first|exact HF2.out.b|refine stw ?_ (by omega)|refine alw ?_ (by omega))
end Go.Proofs.YtkaiilmgemaljaaGreat

/- Part of one proof. There are no conditions. -/
import Derived.Test.YtkaiilmgemaljaaGreatCM21
import Derived.Test.YtkaiilmgemaljaaGreatCM23
set_option maxHeartbeats 0
set_option linter.unusedVariables false
set_option linter.unusedSimpArgs false
set_option maxRecDepth 100000
namespace Go.Proofs.YtkaiilmgemaljaaGreat
open Go.RowKit Mo Ps Ra Ex
theorem l17Both_any (p c h s m:Int) (b j:Bool) (A B:Option Addr) (n k ca cb:Nat) (own other:List Int) (v o:Int) (w:World) (hA:SL w A n own) (hB:SL w B k other):
  Calls Tryz.prog 111 #[.agg #[.int .i64 p,.int .i64 c,.int .i64 h,.int .i64 s],.agg #[.int .i64 m,.bool b,.bool j],.slice A n ca,.slice B k cb,.agg #[.int .i64 v,.int .i64 o]] w fun e w'=>e = .returned (.int .i64 (codeM p c h s m own other v o true))∧Below w.heap.size w w':=by
 have HB:Hid (Below w.heap.size w (((w.alloc (.cells #[.int .i64 p,.int .i64 c,.int .i64 h,.int .i64 s] 25)).alloc (.cells #[.int .i64 m,.bool b,.bool j] 53)).alloc (.cells #[.int .i64 v,.int .i64 o] 55))):=(((Below.refl _ _).alloc (Nat.le_refl _) _).alloc (by simp) _).alloc (by simp;omega) _
 have HX:=h_ (hA.below HB.out);have HY:=h_ (hB.below HB.out);have HAL:=h_ hA.1;have HBL:=h_ hB.1;have CK:=h_ (zfQ p c h s m b j A B n k ca cb own other v o _ HX.out HY.out);clear hA hB
 by_cases hcl:codeL p c h s m own other v o true=0
 ·obtain⟨hv,hr,hp1,hp2,hcu,_,hgi⟩:=zbN hcl
  have hvv:=zaj hv;have HP1:=h_ (zhd hp1);have HP2:=h_ (zhd hp2)
  have hn:n≤2000000:=by have:=HAL.out;have:=HP1.out.1;omega
  have hk:k≤2000000:=by have:=HBL.out;have:=HP2.out.1;omega
  have TOA:=h_ fun (W:World) (hx:SL W A n own)=>zbx A n ca own W hx HP1.out.2.1 hn
  have TOB:=h_ fun (W:World) (hx:SL W B k other)=>zbx B k cb other W hx HP2.out.2.1 hk
  have HRB:Hid (codeM p c h s m own other v o true=if (decide (own.sum=0)||decide (other.sum=0))=true then 5 else 0):=by
   unfold Hid codeM;rw[if_pos hcl];simp
  rw[hcl]at CK;clear hcl hv hr hp1 hp2 hcu hgi hvv HP1 HP2 hn hk HAL HBL
  rcases b1:decide (own.sum=0) with _|_
  all_goals
   rcases b2:decide (other.sum=0) with _|_
   all_goals
    have HR:=HRB;rw[b1,b2]at HR;rw[b1]at TOA;rw[b2]at TOB
    simp only[Bool.or_true,Bool.or_false,Bool.or_self,Bool.true_or,Bool.false_or,if_true,if_false,Bool.false_eq_true]at HR
    clear HRB b1 b2
    go_enter Tryz.func111,Tryz.ntmps111
    go_wp2_with (first
     | (go_at_call 105;(with_reducible refine (more_first CK.out).mono ?_);rintro e w' ⟨rfl,t,rfl⟩)
     | (go_at_call_of 106 A;(refine (TOA.out _ (HX.out.more _)).mono ?_);rintro e w' ⟨rfl,rfl⟩)
     | (go_at_call_of 106 B;(refine (TOB.out _ (HY.out.more _)).mono ?_);rintro e w' ⟨rfl,rfl⟩))
    go_ret
    exact⟨by rw[HR.out];rfl,by first|exact blw HB.out (Nat.le_refl _)|exact HB.out⟩
 ·have HR:Hid (codeM p c h s m own other v o true=codeL p c h s m own other v o true):=by unfold Hid codeM;rw[if_neg hcl]
  generalize codeM p c h s m own other v o true=kk2 at *;generalize codeL p c h s m own other v o true=kk at *
  have b0:(kk == 0)=false:=by simp[hcl]
  clear hcl
  go_enter Tryz.func111,Tryz.ntmps111
  go_wp2_with (go_at_call 105;(with_reducible refine (more_first CK.out).mono ?_);rintro e w' ⟨rfl,t,rfl⟩)
  go_ret
  exact⟨by rw[HR.out];rfl,by first|exact blw HB.out (Nat.le_refl _)|exact HB.out⟩
theorem zfb (p c h s m:Int) (bv j:Bool) (A B:Option Addr) (n k ca cb:Nat) (own other:List Int) (v o:Int) (w:World) (hA:SL w A n own) (hB:SL w B k other) (hca:n≤ca) (hcb:k≤cb):
  Calls Tryz.prog 31 #[.agg #[.int .i64 p,.int .i64 c,.int .i64 h,.int .i64 s],.agg #[.int .i64 m,.bool bv,.bool j],.slice A n ca,.slice B k cb,.agg #[.int .i64 v,.int .i64 o]] w (RetN w (eqR p c h s m bv own other v o)):=by
 have HF0:Hid (Fr w ((((w.alloc (.cells #[.int .i64 p,.int .i64 c,.int .i64 h,.int .i64 s] 25)).alloc (.cells #[.int .i64 m,.bool bv,.bool j] 53)).alloc (.cells #[.int .i64 v,.int .i64 o] 55)).alloc (.cells #[.int .i64 0,.int .i64 0] 35)) [[.int .i64 p,.int .i64 c,.int .i64 h,.int .i64 s],[.int .i64 m,.bool bv,.bool j],[.int .i64 v,.int .i64 o],[.int .i64 0,.int .i64 0]]):=((((Fr.start w).allocT (by simp) _ _).allocT (by simp) _ _).allocT (by simp) _ _).allocT (by simp) _ _
 have HA0:=h_ (hA.below HF0.out.b);have HB0:=h_ (hB.below HF0.out.b);have HAL:=h_ hA.1;have HBL:=h_ hB.1;have CK:=h_ (zfQ p c h s m bv j A B n k ca cb own other v o _ HA0.out HB0.out);clear hA hB
 by_cases hcl:codeL p c h s m own other v o true=0
 ·
  obtain⟨hv,hr,hp1,hp2,hcu,_,hgi⟩:=zbN hcl;have hvv:=zaj hv;obtain⟨K,hK,rfl⟩:=zbL hr
  obtain⟨c',rfl⟩:∃c':Nat,c=c':=⟨c.toNat,by omega⟩
  obtain⟨h',rfl⟩:∃h':Nat,h=h':=⟨h.toNat,by omega⟩
  obtain⟨s',rfl⟩:∃s':Nat,s=s':=⟨s.toNat,by omega⟩
  rw[zcP hK]at hgi;obtain⟨hN,_⟩:=zdr hgi;have HP1:=h_ (zaQ hp1);have HP2:=h_ (zaQ hp2);have hcb0:=zdQ hcu
  have hnh:h'=n:=by rw[← HAL.out];exact (HP1.out.1).symm
  have hmh:h'=k:=by rw[← HBL.out];exact (HP2.out.1).symm
  subst hnh;subst hmh
  have CNEW:=h_ fun (W:World)=>zgE p c' h' s' K bv j W hv hK hgi
  have HWC:Hid (eqR p c' h' s' (two K) bv own other v o=if own.sum=0∧other.sum=0 then (0,0,5) else numR (eqv s' ⟨two K,bv⟩ own other (v,o))):=by
   unfold Hid eqR codeE;rw[if_pos hcl]
   simp only[Int.toNat_natCast]
   split<;>rfl
  obtain⟨ov,hov⟩:∃ov,ov=eqv s' ⟨two K,bv⟩ own other (v,o):=⟨_,rfl⟩;rw[← hov]at HWC
  have HALL:Hid (∀(t:WT),t.c=c'→t.h=h'→t.s=s'→t.K=K→t.bv=bv→t.Ok→∀W:World,TbI t false W→SQ t.S W A h' own→SQ t.S W B h' other→Calls Tryz.prog 108 #[.pointer (some ⟨t.bt,0,none⟩),.slice A h' ca,.slice B h' cb,.agg #[.int .i64 v,.int .i64 o]] W (fun e w'=>∃x:E,e = .returned (.agg #[.int .i64 x.num,.int .i64 (x.depth:Int)])∧TbI t ov.isNone w'∧Frm t.S W w'∧(ov.isNone=false→ov=some x))):=by
   intro t e1 e2 e3 e4 e5 hok W hI h1 h2
   subst e1 e2 e3 e4 e5;rw[hov]
   refine (eqT_all t hok HP1.out HP2.out hcb0 false A B ca cb W hI h1 hca h2 hcb).mono ?_
   rintro e w' ⟨x,rfl,_,h3,h4,h5⟩
   exact⟨x,rfl,h3,h4,h5⟩
  have TOA:=h_ fun (W:World) (hx:SL W A h' own)=>zbx A h' ca own W hx HP1.out.2.1 (by omega)
  have TOB:=h_ fun (W:World) (hx:SL W B h' other)=>zbx B h' cb other W hx HP2.out.2.1 (by omega)
  rw[hcl]at CK;clear hcl hv hr hp1 hp2 hcu hvv hov HAL HBL;generalize eqR p c' h' s' (two K) bv own other v o=rr at *
  by_cases hz1:own.sum=0
  ·have b1:=decide_eq_true hz1
   rw[b1]at TOA
   by_cases hz2:other.sum=0
   ·have b2:=decide_eq_true hz2
    rw[b2]at TOB
    have HWR:Hid (rr=(0,0,5)):=by unfold Hid;rw[HWC.out,if_pos ⟨hz1,hz2⟩]
    clear HWC hz1 hz2 b1 b2 CNEW HALL
    go_enter Tryz.func31,Tryz.ntmps31
    go_wp2_with (fail)
    refine CK.out.mono ?_
    rintro e w1 ⟨rfl,hb1⟩
    have HFX:=h_ (HF0.out.below hb1);have HAX:=h_ (HA0.out.below hb1);have HBX:=h_ (HB0.out.below hb1);clear CK hb1 HF0 HA0 HB0;obtain⟨z0,c00,f00,c01,f01,c02,f02,c03,f03,z1,c10,f10,c11,f11,c12,f12,z2,c20,f20,c21,f21,z3,c30,f30,c31,f31⟩:=HFX.out.xf8
    go_wp2_with (first|(go_at_call_of 106 A;refine (TOA.out _ HAX.out).mono ?_;rintro e w' ⟨rfl,rfl⟩)|(go_at_call_of 106 B;refine (TOB.out _ HBX.out).mono ?_;rintro e w' ⟨rfl,rfl⟩))
    refine bodyPost_ret (v:=.tuple #[.agg #[.int .i64 0,.int .i64 0],.int .i64 5]) (by simp[results,Tryz.results31,go_sem,c30,c31,z3,f30,f31]) rfl (RetN.mk' HWR.out ?_)
    repeat (first|exact HFX.out.b|refine stw ?_ (by omega)|refine alw ?_ (by omega))
   ·have b2:=decide_eq_false hz2
    rw[b2]at TOB
    have HWR:Hid (rr=numR ov):=by unfold Hid;rw[HWC.out,if_neg fun hx=>hz2 hx.2]
    clear HWC hz1 hz2 b1 b2
    go_enter Tryz.func31,Tryz.ntmps31
    go_wp2_with (fail)
    refine CK.out.mono ?_
    rintro e w1 ⟨rfl,hb1⟩
    have HFX:=h_ (HF0.out.below hb1);have HAX:=h_ (HA0.out.below hb1);have HBX:=h_ (HB0.out.below hb1);clear CK hb1 HF0 HA0 HB0;obtain⟨z0,c00,f00,c01,f01,c02,f02,c03,f03,z1,c10,f10,c11,f11,c12,f12,z2,c20,f20,c21,f21,z3,c30,f30,c31,f31⟩:=HFX.out.xf8
    go_wp2_with (first|(go_at_call_of 106 A;refine (TOA.out _ HAX.out).mono ?_;rintro e w' ⟨rfl,rfl⟩)|(go_at_call_of 106 B;refine (TOB.out _ HBX.out).mono ?_;rintro e w' ⟨rfl,rfl⟩))
    clear z0 c00 f00 c01 f01 c02 f02 c03 f03 z1 c10 f10 c11 f11 c12 f12 z2 c20 f20 c21 f21 z3 c30 f30 c31 f31
    refine (CNEW.out _).mono ?_
    rintro e w2 ⟨t,t1,t2,t3,t4,t5,t6,rfl,hok,hI,hlow,hlowr,hb2⟩
    have HC:=h_ (HALL.out t t2 t3 t4 t5 t6 hok w2 hI ((SQ.of_sl HAX.out hlow).below hb2) ((SQ.of_sl HBX.out hlow).below hb2));have HLOW:=h_ hlow;have HF3:=h_ (HFX.out.below hb2)
    have hz1:w.heap.size+4≤w1.heap.size:=by have:=HFX.out.z;simpa using this
    have hbt:=hI.ltB;clear t1 t2 t3 t4 t5 t6 hok hI hlow hlowr hb2 HAX HBX CNEW HALL HFX;obtain⟨z0,c00,f00,c01,f01,c02,f02,c03,f03,z1,c10,f10,c11,f11,c12,f12,z2,c20,f20,c21,f21,z3,c30,f30,c31,f31⟩:=HF3.out.xf8
    go_wp2_with (fail)
    clear z0 c00 f00 c01 f01 c02 f02 c03 f03 z1 c10 f10 c11 f11 c12 f12 z2 c20 f20 c21 f21 z3 c30 f30 c31 f31
    refine HC.out.mono ?_
    rintro e w3 ⟨⟨xn,xd⟩,rfl,hI3,hf3,him⟩
    have HF4:Hid (Fr w w3 [[.int .i64 p,.int .i64 c',.int .i64 h',.int .i64 s'],[.int .i64 (two K),.bool bv,.bool j],[.int .i64 v,.int .i64 o],[.int .i64 0,.int .i64 0]]):=HF3.out.frm hf3 (fun k hk=>by have:=HLOW.out k hk;omega) (fun k hk=>by have:=HLOW.out k hk;simp;omega)
    have e11:=hI3.fa;have hbt3:=hI3.ltB;have hbt0:w1.heap.size≤t.bt:=HLOW.out _ (.inl rfl)
    have n1:¬t.bt=w3.heap.size:=by omega
    have n2:¬w3.heap.size=t.bt:=by omega
    have hz3:w.heap.size+4≤w3.heap.size:=by have:=HF4.out.z;simpa using this
    have n3:¬w3.heap.size=w.heap.size+1+1+1:=by omega
    have n4:¬w.heap.size+1+1+1=w3.heap.size:=by omega
    have n5:¬t.bt=w.heap.size+1+1+1:=by omega
    have n6:¬w.heap.size+1+1+1=t.bt:=by omega
    clear hf3 HF3 HC HLOW hI3 hbt
    rcases ov with _|y
    ·have HRR:Hid (rr=(0,0,3)):=HWR.out
     simp only[Option.isNone_none]at e11
     clear him;obtain⟨z0,c00,f00,c01,f01,c02,f02,c03,f03,z1,c10,f10,c11,f11,c12,f12,z2,c20,f20,c21,f21,z3,c30,f30,c31,f31⟩:=HF4.out.xf8
     go_wp2_with (fail)
     refine bodyPost_ret (v:=.tuple #[.agg #[.int .i64 0,.int .i64 0],.int .i64 3]) (by simp[results,Tryz.results31,go_sem,c30,c31,z3,f30,f31]) rfl (RetN.mk' HRR.out ?_)
     repeat (first|exact HF4.out.b|refine stw ?_ (by omega)|refine alw ?_ (by omega))
    ·obtain rfl:y=⟨xn,xd⟩:=by have:=him rfl;injection this
     have HRR:Hid (rr=(xn,(xd:Int),0)):=HWR.out
     simp only[Option.isNone_some]at e11
     clear him;obtain⟨z0,c00,f00,c01,f01,c02,f02,c03,f03,z1,c10,f10,c11,f11,c12,f12,z2,c20,f20,c21,f21,z3,c30,f30,c31,f31⟩:=HF4.out.xf8
     go_wp2_with (fail)
     refine bodyPost_ret (v:=.tuple #[.agg #[.int .i64 xn,.int .i64 (xd:Int)],.int .i64 0]) (by simp[results,Tryz.results31,go_sem,c30,c31,z3,f30,f31]) rfl (RetN.mk' HRR.out ?_)
     repeat (first|exact HF4.out.b|refine stw ?_ (by omega)|refine alw ?_ (by omega))
  ·have b1:=decide_eq_false hz1
   rw[b1]at TOA
   have HWR:Hid (rr=numR ov):=by unfold Hid;rw[HWC.out,if_neg fun hx=>hz1 hx.1]
   clear HWC hz1 b1
   go_enter Tryz.func31,Tryz.ntmps31
   go_wp2_with (fail)
   refine CK.out.mono ?_
   rintro e w1 ⟨rfl,hb1⟩
   have HFX:=h_ (HF0.out.below hb1);have HAX:=h_ (HA0.out.below hb1);have HBX:=h_ (HB0.out.below hb1);clear CK hb1 HF0 HA0 HB0;obtain⟨z0,c00,f00,c01,f01,c02,f02,c03,f03,z1,c10,f10,c11,f11,c12,f12,z2,c20,f20,c21,f21,z3,c30,f30,c31,f31⟩:=HFX.out.xf8
   go_wp2_with (first|(go_at_call_of 106 A;refine (TOA.out _ HAX.out).mono ?_;rintro e w' ⟨rfl,rfl⟩)|(go_at_call_of 106 B;refine (TOB.out _ HBX.out).mono ?_;rintro e w' ⟨rfl,rfl⟩))
   clear z0 c00 f00 c01 f01 c02 f02 c03 f03 z1 c10 f10 c11 f11 c12 f12 z2 c20 f20 c21 f21 z3 c30 f30 c31 f31
   refine (CNEW.out _).mono ?_
   rintro e w2 ⟨t,t1,t2,t3,t4,t5,t6,rfl,hok,hI,hlow,hlowr,hb2⟩
   have HC:=h_ (HALL.out t t2 t3 t4 t5 t6 hok w2 hI ((SQ.of_sl HAX.out hlow).below hb2) ((SQ.of_sl HBX.out hlow).below hb2));have HLOW:=h_ hlow;have HF3:=h_ (HFX.out.below hb2)
   have hz1:w.heap.size+4≤w1.heap.size:=by have:=HFX.out.z;simpa using this
   have hbt:=hI.ltB;clear t1 t2 t3 t4 t5 t6 hok hI hlow hlowr hb2 HAX HBX CNEW HALL HFX;obtain⟨z0,c00,f00,c01,f01,c02,f02,c03,f03,z1,c10,f10,c11,f11,c12,f12,z2,c20,f20,c21,f21,z3,c30,f30,c31,f31⟩:=HF3.out.xf8
   go_wp2_with (fail)
   clear z0 c00 f00 c01 f01 c02 f02 c03 f03 z1 c10 f10 c11 f11 c12 f12 z2 c20 f20 c21 f21 z3 c30 f30 c31 f31
   refine HC.out.mono ?_
   rintro e w3 ⟨⟨xn,xd⟩,rfl,hI3,hf3,him⟩
   have HF4:Hid (Fr w w3 [[.int .i64 p,.int .i64 c',.int .i64 h',.int .i64 s'],[.int .i64 (two K),.bool bv,.bool j],[.int .i64 v,.int .i64 o],[.int .i64 0,.int .i64 0]]):=HF3.out.frm hf3 (fun k hk=>by have:=HLOW.out k hk;omega) (fun k hk=>by have:=HLOW.out k hk;simp;omega)
   have e11:=hI3.fa;have hbt3:=hI3.ltB;have hbt0:w1.heap.size≤t.bt:=HLOW.out _ (.inl rfl)
   have n1:¬t.bt=w3.heap.size:=by omega
   have n2:¬w3.heap.size=t.bt:=by omega
   have hz3:w.heap.size+4≤w3.heap.size:=by have:=HF4.out.z;simpa using this
   have n3:¬w3.heap.size=w.heap.size+1+1+1:=by omega
   have n4:¬w.heap.size+1+1+1=w3.heap.size:=by omega
   have n5:¬t.bt=w.heap.size+1+1+1:=by omega
   have n6:¬w.heap.size+1+1+1=t.bt:=by omega
   clear hf3 HF3 HC HLOW hI3 hbt
   rcases ov with _|y
   ·have HRR:Hid (rr=(0,0,3)):=HWR.out
    simp only[Option.isNone_none]at e11
    clear him;obtain⟨z0,c00,f00,c01,f01,c02,f02,c03,f03,z1,c10,f10,c11,f11,c12,f12,z2,c20,f20,c21,f21,z3,c30,f30,c31,f31⟩:=HF4.out.xf8
    go_wp2_with (fail)
    refine bodyPost_ret (v:=.tuple #[.agg #[.int .i64 0,.int .i64 0],.int .i64 3]) (by simp[results,Tryz.results31,go_sem,c30,c31,z3,f30,f31]) rfl (RetN.mk' HRR.out ?_)
    repeat (first|exact HF4.out.b|refine stw ?_ (by omega)|refine alw ?_ (by omega))
   ·obtain rfl:y=⟨xn,xd⟩:=by have:=him rfl;injection this
    have HRR:Hid (rr=(xn,(xd:Int),0)):=HWR.out
    simp only[Option.isNone_some]at e11
    clear him;obtain⟨z0,c00,f00,c01,f01,c02,f02,c03,f03,z1,c10,f10,c11,f11,c12,f12,z2,c20,f20,c21,f21,z3,c30,f30,c31,f31⟩:=HF4.out.xf8
    go_wp2_with (fail)
    refine bodyPost_ret (v:=.tuple #[.agg #[.int .i64 xn,.int .i64 (xd:Int)],.int .i64 0]) (by simp[results,Tryz.results31,go_sem,c30,c31,z3,f30,f31]) rfl (RetN.mk' HRR.out ?_)
    repeat (first|exact HF4.out.b|refine stw ?_ (by omega)|refine alw ?_ (by omega))
 ·have HWR:Hid (eqR p c h s m bv own other v o=(0,0,codeL p c h s m own other v o true)):=by
   unfold Hid eqR codeE;rw[if_neg hcl,if_neg hcl]
  generalize codeL p c h s m own other v o true=kk at *
  have b0:(kk != 0)=true:=by simp[hcl]
  have b5:(kk == 0)=false:=by simp[hcl]
  clear hcl
  go_enter Tryz.func31,Tryz.ntmps31
  go_wp2_with (fail)
  refine CK.out.mono ?_
  rintro e w1 ⟨rfl,hb1⟩
  have HFX:=h_ (HF0.out.below hb1);have HAX:=h_ (HA0.out.below hb1);have HBX:=h_ (HB0.out.below hb1);clear CK hb1 HF0 HA0 HB0;obtain⟨z0,c00,f00,c01,f01,c02,f02,c03,f03,z1,c10,f10,c11,f11,c12,f12,z2,c20,f20,c21,f21,z3,c30,f30,c31,f31⟩:=HFX.out.xf8
  go_wp2_with (fail)
  refine bodyPost_ret (v:=.tuple #[.agg #[.int .i64 0,.int .i64 0],.int .i64 kk]) (by simp[results,Tryz.results31,go_sem,c30,c31,z3,f30,f31]) rfl (RetN.mk' HWR.out ?_)
  repeat (first|exact HFX.out.b|refine stw ?_ (by omega)|refine alw ?_ (by omega))
theorem zfE (p c h s m:Int) (bv j:Bool) (A B:Option Addr) (n k ca cb:Nat) (own other:List Int) (v o:Int) (w:World) (hA:SL w A n own) (hB:SL w B k other) (hca:n≤ca) (hcb:k≤cb):
  Calls Tryz.prog 35 #[.agg #[.int .i64 p,.int .i64 c,.int .i64 h,.int .i64 s],.agg #[.int .i64 m,.bool bv,.bool j],.slice A n ca,.slice B k cb,.agg #[.int .i64 v,.int .i64 o]] w (RetN w (rlR p c h s m bv own other v o)):=by
 have HF0:Hid (Fr w ((((w.alloc (.cells #[.int .i64 p,.int .i64 c,.int .i64 h,.int .i64 s] 25)).alloc (.cells #[.int .i64 m,.bool bv,.bool j] 53)).alloc (.cells #[.int .i64 v,.int .i64 o] 55)).alloc (.cells #[.int .i64 0,.int .i64 0] 35)) [[.int .i64 p,.int .i64 c,.int .i64 h,.int .i64 s],[.int .i64 m,.bool bv,.bool j],[.int .i64 v,.int .i64 o],[.int .i64 0,.int .i64 0]]):=((((Fr.start w).allocT (by simp) _ _).allocT (by simp) _ _).allocT (by simp) _ _).allocT (by simp) _ _
 have HA0:=h_ (hA.below HF0.out.b);have HB0:=h_ (hB.below HF0.out.b);have HAL:=h_ hA.1;have HBL:=h_ hB.1;have CK:=h_ (l17Both_any p c h s m bv j A B n k ca cb own other v o _ HA0.out HB0.out);clear hA hB
 by_cases hcm:codeM p c h s m own other v o true=0
 ·obtain⟨hcl,hz1,hz2⟩:=zfr hcm
  rw[hcm]at CK;obtain⟨hv,hr,hp1,hp2,hcu,_,hgi⟩:=zbN hcl;have hvv:=zaj hv;obtain⟨K,hK,rfl⟩:=zbL hr
  obtain⟨c',rfl⟩:∃c':Nat,c=c':=⟨c.toNat,by omega⟩
  obtain⟨h',rfl⟩:∃h':Nat,h=h':=⟨h.toNat,by omega⟩
  obtain⟨s',rfl⟩:∃s':Nat,s=s':=⟨s.toNat,by omega⟩
  rw[zcP hK]at hgi;obtain⟨hN,_⟩:=zdr hgi;have HP1:=h_ (zaQ hp1);have HP2:=h_ (zaQ hp2);have hcb0:=zdQ hcu
  have hnh:h'=n:=by rw[← HAL.out];exact (HP1.out.1).symm
  have hmh:h'=k:=by rw[← HBL.out];exact (HP2.out.1).symm
  subst hnh;subst hmh
  have CNEW:=h_ fun (W:World)=>zgE p c' h' s' K bv j W hv hK hgi
  obtain⟨ov,hov⟩:∃ov,ov=rol s' ⟨two K,bv⟩ own other (v,o):=⟨_,rfl⟩
  have HWR:Hid (rlR p c' h' s' (two K) bv own other v o=numR ov):=by
   unfold Hid rlR;rw[if_pos hcm,hov]
   simp only[Int.toNat_natCast]
  have HALL:Hid (∀(t:WT),t.c=c'→t.h=h'→t.s=s'→t.K=K→t.bv=bv→t.Ok→∀W:World,TbI t false W→SQ t.S W A h' own→SQ t.S W B h' other→Calls Tryz.prog 112 #[.pointer (some ⟨t.bt,0,none⟩),.slice A h' ca,.slice B h' cb,.agg #[.int .i64 v,.int .i64 o]] W (fun e w'=>∃x:E,e = .returned (.agg #[.int .i64 x.num,.int .i64 (x.depth:Int)])∧TbI t ov.isNone w'∧Frm t.S W w'∧(ov.isNone=false→ov=some x))):=by
   intro t e1 e2 e3 e4 e5 hok W hI h1 h2
   subst e1 e2 e3 e4 e5;rw[hov]
   refine (rolT_all t hok HP1.out HP2.out hz1 hcb0 false A B ca cb W hI h1 hca h2 hcb).mono ?_
   rintro e w' ⟨x,rfl,_,h3,h4,h5⟩
   exact⟨x,rfl,h3,h4,h5⟩
  clear hcm hcl hv hr hp1 hp2 hcu hvv hov HAL HBL;generalize rlR p c' h' s' (two K) bv own other v o=rr at *
  go_enter Tryz.func35,Tryz.ntmps35
  go_wp2_with (fail)
  refine CK.out.mono ?_
  rintro e w1 ⟨rfl,hb1⟩
  have HFX:=h_ (HF0.out.below hb1);have HAX:=h_ (HA0.out.below hb1);have HBX:=h_ (HB0.out.below hb1);clear CK hb1 HF0 HA0 HB0;obtain⟨z0,c00,f00,c01,f01,c02,f02,c03,f03,z1,c10,f10,c11,f11,c12,f12,z2,c20,f20,c21,f21,z3,c30,f30,c31,f31⟩:=HFX.out.xf8
  go_wp2_with (fail)
  clear z0 c00 f00 c01 f01 c02 f02 c03 f03 z1 c10 f10 c11 f11 c12 f12 z2 c20 f20 c21 f21 z3 c30 f30 c31 f31
  refine (CNEW.out _).mono ?_
  rintro e w2 ⟨t,t1,t2,t3,t4,t5,t6,rfl,hok,hI,hlow,hlowr,hb2⟩
  have HC:=h_ (HALL.out t t2 t3 t4 t5 t6 hok w2 hI ((SQ.of_sl HAX.out hlow).below hb2) ((SQ.of_sl HBX.out hlow).below hb2));have HLOW:=h_ hlow;have HF3:=h_ (HFX.out.below hb2)
  have hz1:w.heap.size+4≤w1.heap.size:=by have:=HFX.out.z;simpa using this
  have hbt:=hI.ltB;clear t1 t2 t3 t4 t5 t6 hok hI hlow hlowr hb2 HAX HBX CNEW HALL HFX;obtain⟨z0,c00,f00,c01,f01,c02,f02,c03,f03,z1,c10,f10,c11,f11,c12,f12,z2,c20,f20,c21,f21,z3,c30,f30,c31,f31⟩:=HF3.out.xf8
  go_wp2_with (fail)
  clear z0 c00 f00 c01 f01 c02 f02 c03 f03 z1 c10 f10 c11 f11 c12 f12 z2 c20 f20 c21 f21 z3 c30 f30 c31 f31
  refine HC.out.mono ?_
  rintro e w3 ⟨⟨xn,xd⟩,rfl,hI3,hf3,him⟩
  have HF4:Hid (Fr w w3 [[.int .i64 p,.int .i64 c',.int .i64 h',.int .i64 s'],[.int .i64 (two K),.bool bv,.bool j],[.int .i64 v,.int .i64 o],[.int .i64 0,.int .i64 0]]):=HF3.out.frm hf3 (fun k hk=>by have:=HLOW.out k hk;omega) (fun k hk=>by have:=HLOW.out k hk;simp;omega)
  have e11:=hI3.fa;have hbt3:=hI3.ltB;have hbt0:w1.heap.size≤t.bt:=HLOW.out _ (.inl rfl)
  have n1:¬t.bt=w3.heap.size:=by omega
  have n2:¬w3.heap.size=t.bt:=by omega
  have hz3:w.heap.size+4≤w3.heap.size:=by have:=HF4.out.z;simpa using this
  have n3:¬w3.heap.size=w.heap.size+1+1+1:=by omega
  have n4:¬w.heap.size+1+1+1=w3.heap.size:=by omega
  have n5:¬t.bt=w.heap.size+1+1+1:=by omega
  have n6:¬w.heap.size+1+1+1=t.bt:=by omega
  clear hf3 HF3 HC HLOW hI3 hbt
  rcases ov with _|y
  ·have HRR:Hid (rr=(0,0,3)):=HWR.out
   simp only[Option.isNone_none]at e11
   clear him;obtain⟨z0,c00,f00,c01,f01,c02,f02,c03,f03,z1,c10,f10,c11,f11,c12,f12,z2,c20,f20,c21,f21,z3,c30,f30,c31,f31⟩:=HF4.out.xf8
   go_wp2_with (fail)
   refine bodyPost_ret (v:=.tuple #[.agg #[.int .i64 0,.int .i64 0],.int .i64 3]) (by simp[results,Tryz.results35,go_sem,c30,c31,z3,f30,f31]) rfl (RetN.mk' HRR.out ?_)
   repeat (first|exact HF4.out.b|refine stw ?_ (by omega)|refine alw ?_ (by omega))
  ·obtain rfl:y=⟨xn,xd⟩:=by have:=him rfl;injection this
   have HRR:Hid (rr=(xn,(xd:Int),0)):=HWR.out
   simp only[Option.isNone_some]at e11
   clear him;obtain⟨z0,c00,f00,c01,f01,c02,f02,c03,f03,z1,c10,f10,c11,f11,c12,f12,z2,c20,f20,c21,f21,z3,c30,f30,c31,f31⟩:=HF4.out.xf8
   go_wp2_with (fail)
   refine bodyPost_ret (v:=.tuple #[.agg #[.int .i64 xn,.int .i64 (xd:Int)],.int .i64 0]) (by simp[results,Tryz.results35,go_sem,c30,c31,z3,f30,f31]) rfl (RetN.mk' HRR.out ?_)
   repeat (first|exact HF4.out.b|refine stw ?_ (by omega)|refine alw ?_ (by omega))
 ·have HWR:Hid (rlR p c h s m bv own other v o=(0,0,codeM p c h s m own other v o true)):=by
   unfold Hid rlR;rw[if_neg hcm]
  generalize codeM p c h s m own other v o true=kk at *
  have b0:(kk != 0)=true:=by simp[hcm]
  clear hcm
  go_enter Tryz.func35,Tryz.ntmps35
  go_wp2_with (fail)
  refine CK.out.mono ?_
  rintro e w1 ⟨rfl,hb1⟩
  have HFX:=h_ (HF0.out.below hb1);have HAX:=h_ (HA0.out.below hb1);have HBX:=h_ (HB0.out.below hb1);clear CK hb1 HF0 HA0 HB0;obtain⟨z0,c00,f00,c01,f01,c02,f02,c03,f03,z1,c10,f10,c11,f11,c12,f12,z2,c20,f20,c21,f21,z3,c30,f30,c31,f31⟩:=HFX.out.xf8
  go_wp2_with (fail)
  refine bodyPost_ret (v:=.tuple #[.agg #[.int .i64 0,.int .i64 0],.int .i64 kk]) (by simp[results,Tryz.results35,go_sem,c30,c31,z3,f30,f31]) rfl (RetN.mk' HWR.out ?_)
  repeat (first|exact HFX.out.b|refine stw ?_ (by omega)|refine alw ?_ (by omega))
end Go.Proofs.YtkaiilmgemaljaaGreat

/- Contract of the reference's ChoiceValue. There are no conditions. -/
import Derived.Test.YtgjapehpkakkbaaGreatLM49
set_option linter.unusedVariables false
set_option linter.unusedSimpArgs false
namespace Go.Proofs.YtgjapehpkakkbaaGreat
open Go.RowKit Mo Ps Ra Ex
set_option maxRecDepth 100000 in
set_option maxHeartbeats 4000000 in
theorem sChoiceValue_any (p c h s m:Int) (bv j:Bool) (A B:Option Addr) (n k ca cb:Nat) (own other:List Int) (v o a:Int) (w:World) (hA:SL w A n own) (hB:SL w B k other) (hca:n≤ca) (hcb:k≤cb):
  Calls Tryz.prog 49 #[.agg #[.int .i64 p,.int .i64 c,.int .i64 h,.int .i64 s],.agg #[.int .i64 m,.bool bv,.bool j],.slice A n ca,.slice B k cb,.agg #[.int .i64 v,.int .i64 o],.int .i64 a] w (RetN w (cvR p c h s m bv own other v o a)):=by
 have HF0:Hid (Fr w ((((w.alloc (.cells #[.int .i64 p,.int .i64 c,.int .i64 h,.int .i64 s] 25)).alloc (.cells #[.int .i64 m,.bool bv,.bool j] 59)).alloc (.cells #[.int .i64 v,.int .i64 o] 62)).alloc (.cells #[.int .i64 0,.int .i64 0] 35)) [[.int .i64 p,.int .i64 c,.int .i64 h,.int .i64 s],[.int .i64 m,.bool bv,.bool j],[.int .i64 v,.int .i64 o],[.int .i64 0,.int .i64 0]]):=((((Fr.start w).allocT (by simp) _ _).allocT (by simp) _ _).allocT (by simp) _ _).allocT (by simp) _ _
 have HA0:=Lib.hid (hA.below HF0.out.b);have HB0:=Lib.hid (hB.below HF0.out.b);have HAL:=Lib.hid hA.1;have HBL:=Lib.hid hB.1;have CK:=Lib.hid (l20Code_any p c h s m bv j A B n k ca cb own other v o a _ HA0.out HB0.out);clear hA hB
 by_cases hcm:codeC p c h s m bv own other v o a=0
 ·obtain⟨hcl,hz1,hz2⟩:=codeM_ok (show codeM p c h s m own other v o (posA ⟨m,bv⟩ (v,o) a)=0 from hcm)
  rw[hcm]at CK;obtain⟨hv,hr,hp1,hp2,hcu,hpa,hgi⟩:=codeL_ok hcl;have hvv:=isVar_yes hv;obtain⟨K,hK,rfl⟩:=rulB_two hr
  obtain⟨c',rfl⟩:∃c':Nat,c=c':=⟨c.toNat,by omega⟩
  obtain⟨h',rfl⟩:∃h':Nat,h=h':=⟨h.toNat,by omega⟩
  obtain⟨s',rfl⟩:∃s':Nat,s=s':=⟨s.toNat,by omega⟩
  rw[gamI_two hK]at hgi;obtain⟨hN,_⟩:=gamB_yes hgi;have HP1:=Lib.hid (posB_pos hp1);have HP2:=Lib.hid (posB_pos hp2);have hcb0:=cubB_ok hcu
  have hnh:h'=n:=by rw[← HAL.out];exact (HP1.out.1).symm
  have hmh:h'=k:=by rw[← HBL.out];exact (HP2.out.1).symm
  subst hnh;subst hmh
  have CNEW:=Lib.hid fun (W:World)=>l17New_any p c' h' s' K bv j W hv hK hgi
  obtain⟨ov,hov⟩:∃ov,ov=valV s' ⟨two K,bv⟩ own other (v,o) a:=⟨_,rfl⟩
  have HWR:Hid (cvR p c' h' s' (two K) bv own other v o a=numR ov):=by
   unfold Hid cvR;rw[if_pos hcm,hov]
   simp only[Int.toNat_natCast]
  have HALL:Hid (∀(t:WT),t.c=c'→t.h=h'→t.s=s'→t.K=K→t.bv=bv→t.Ok→∀W:World,TbI t false W→SQ t.S W A h' own→SQ t.S W B h' other→Calls Tryz.prog 109 #[.pointer (some ⟨t.bt,0,none⟩),.slice A h' ca,.slice B h' cb,.agg #[.int .i64 v,.int .i64 o],.int .i64 a] W (fun e w'=>∃x:E,e = .returned (.agg #[.int .i64 x.num,.int .i64 (x.depth:Int)])∧TbI t ov.isNone w'∧Frm t.S W w'∧(ov.isNone=false→ov=some x))):=by
   intro t e1 e2 e3 e4 e5 hok W hI h1 h2
   subst e1 e2 e3 e4 e5;rw[hov]
   exact l20Value_any t hok HP1.out HP2.out hz1 hcu hpa A B ca cb W hI h1 hca h2 hcb
  clear hcm hcl hv hr hp1 hp2 hcu hvv hov HAL HBL hpa;generalize cvR p c' h' s' (two K) bv own other v o a=rr at *
  go_enter Tryz.func49,Tryz.ntmps49
  go_wp2_with (fail)
  refine CK.out.mono ?_
  rintro e w1 ⟨rfl,hb1⟩
  have HFX:=Lib.hid (HF0.out.below hb1);have HAX:=Lib.hid (HA0.out.below hb1);have HBX:=Lib.hid (HB0.out.below hb1);clear CK hb1 HF0 HA0 HB0;obtain⟨z0,c00,f00,c01,f01,c02,f02,c03,f03,z1,c10,f10,c11,f11,c12,f12,z2,c20,f20,c21,f21,z3,c30,f30,c31,f31⟩:=HFX.out.xf7
  go_wp2_with (fail)
  clear z0 c00 f00 c01 f01 c02 f02 c03 f03 z1 c10 f10 c11 f11 c12 f12 z2 c20 f20 c21 f21 z3 c30 f30 c31 f31
  refine (CNEW.out _).mono ?_
  rintro e w2 ⟨t,t1,t2,t3,t4,t5,t6,rfl,hok,hI,hlow,hlowr,hb2⟩
  have HC:=Lib.hid (HALL.out t t2 t3 t4 t5 t6 hok w2 hI ((SQ.of_sl HAX.out hlow).below hb2) ((SQ.of_sl HBX.out hlow).below hb2));have HLOW:=Lib.hid hlow;have HF3:=Lib.hid (HFX.out.below hb2)
  have hz1:w.heap.size+4≤w1.heap.size:=by have:=HFX.out.z;simpa using this
  have hbt:=hI.ltB;clear t1 t2 t3 t4 t5 t6 hok hI hlow hlowr hb2 HAX HBX CNEW HALL HFX;obtain⟨z0,c00,f00,c01,f01,c02,f02,c03,f03,z1,c10,f10,c11,f11,c12,f12,z2,c20,f20,c21,f21,z3,c30,f30,c31,f31⟩:=HF3.out.xf7
  go_wp2_with (fail)
  clear z0 c00 f00 c01 f01 c02 f02 c03 f03 z1 c10 f10 c11 f11 c12 f12 z2 c20 f20 c21 f21 z3 c30 f30 c31 f31
  refine HC.out.mono ?_
  rintro e w3 ⟨⟨xn,xd⟩,rfl,hI3,hf3,him⟩
  have HF4:Hid (Fr w w3 [[.int .i64 p,.int .i64 c',.int .i64 h',.int .i64 s'],[.int .i64 (two K),.bool bv,.bool j],[.int .i64 v,.int .i64 o],[.int .i64 0,.int .i64 0]]):=HF3.out.frm hf3 (fun k hk=>by have:=HLOW.out k hk;omega) (fun k hk=>by have:=HLOW.out k hk;simp;omega)
  have e11:=hI3.fa;have hbt3:=hI3.ltB;have hbt0:w1.heap.size≤t.bt:=HLOW.out _ (.inl rfl)
  have n1:¬t.bt=w3.heap.size:=by omega
  have n2:¬w3.heap.size=t.bt:=by omega
  have hz3:w.heap.size+4≤w3.heap.size:=by have:=HF4.out.z;simpa using this
  have n3:¬w3.heap.size=w.heap.size+1+1+1:=by omega
  have n4:¬w.heap.size+1+1+1=w3.heap.size:=by omega
  have n5:¬t.bt=w.heap.size+1+1+1:=by omega
  have n6:¬w.heap.size+1+1+1=t.bt:=by omega
  clear hf3 HF3 HC HLOW hI3 hbt
  rcases ov with _|y
  ·have HRR:Hid (rr=(0,0,3)):=HWR.out
   simp only[Option.isNone_none]at e11
   clear him;obtain⟨z0,c00,f00,c01,f01,c02,f02,c03,f03,z1,c10,f10,c11,f11,c12,f12,z2,c20,f20,c21,f21,z3,c30,f30,c31,f31⟩:=HF4.out.xf7
   go_wp2_with (fail)
   refine bodyPost_ret (v:=.tuple #[.agg #[.int .i64 0,.int .i64 0],.int .i64 3]) (by simp[results,Tryz.results49,go_sem,c30,c31,z3,f30,f31]) rfl (RetN.mk' HRR.out ?_)
   repeat (first|exact HF4.out.b|refine stw ?_ (by omega)|refine alw ?_ (by omega))
  ·obtain rfl:y=⟨xn,xd⟩:=by have:=him rfl;injection this
   have HRR:Hid (rr=(xn,(xd:Int),0)):=HWR.out
   simp only[Option.isNone_some]at e11
   clear him;obtain⟨z0,c00,f00,c01,f01,c02,f02,c03,f03,z1,c10,f10,c11,f11,c12,f12,z2,c20,f20,c21,f21,z3,c30,f30,c31,f31⟩:=HF4.out.xf7
   go_wp2_with (fail)
   refine bodyPost_ret (v:=.tuple #[.agg #[.int .i64 xn,.int .i64 (xd:Int)],.int .i64 0]) (by simp[results,Tryz.results49,go_sem,c30,c31,z3,f30,f31]) rfl (RetN.mk' HRR.out ?_)
   repeat (first|exact HF4.out.b|refine stw ?_ (by omega)|refine alw ?_ (by omega))
 ·have HWR:Hid (cvR p c h s m bv own other v o a=(0,0,codeC p c h s m bv own other v o a)):=by
   unfold Hid cvR;rw[if_neg hcm]
  generalize codeC p c h s m bv own other v o a=kk at *
  have b0:(kk != 0)=true:=by simp[hcm]
  clear hcm
  go_enter Tryz.func49,Tryz.ntmps49
  go_wp2_with (fail)
  refine CK.out.mono ?_
  rintro e w1 ⟨rfl,hb1⟩
  have HFX:=Lib.hid (HF0.out.below hb1);have HAX:=Lib.hid (HA0.out.below hb1);have HBX:=Lib.hid (HB0.out.below hb1);clear CK hb1 HF0 HA0 HB0;obtain⟨z0,c00,f00,c01,f01,c02,f02,c03,f03,z1,c10,f10,c11,f11,c12,f12,z2,c20,f20,c21,f21,z3,c30,f30,c31,f31⟩:=HFX.out.xf7
  go_wp2_with (fail)
  refine bodyPost_ret (v:=.tuple #[.agg #[.int .i64 0,.int .i64 0],.int .i64 kk]) (by simp[results,Tryz.results49,go_sem,c30,c31,z3,f30,f31]) rfl (RetN.mk' HWR.out ?_)
  repeat (first|exact HFX.out.b|refine stw ?_ (by omega)|refine alw ?_ (by omega))
end Go.Proofs.YtgjapehpkakkbaaGreat
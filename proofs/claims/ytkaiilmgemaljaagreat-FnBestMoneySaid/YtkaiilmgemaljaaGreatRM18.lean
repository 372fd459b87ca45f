/- Part of one proof. There are no conditions. -/
import Derived.Test.YtkaiilmgemaljaaGreatRM17
set_option maxHeartbeats 0
set_option linter.unusedVariables false
set_option linter.unusedSimpArgs false
set_option maxRecDepth 100000
namespace Go.Proofs.YtkaiilmgemaljaaGreat
open Go.RowKit Ps Ra Ex Mo
theorem dbl_bind {s:Nat} {r:Ru} {own other:List Int} {c:Cb}:dbl s r own other c=(rol s r own other (2*c.1,2)).bind fun x=>if bvr r c then (bev s r own other c).map fun y=>if ltE (sq s) y.1 (les (sq s) x c) then (y.1,if y.2 then 4 else 3) else (les (sq s) x c,lesA (sq s) x c) else some (les (sq s) x c,lesA (sq s) x c):=kK
theorem kA (t:WT) (ht:t.Ok) {own other:List Int} {c:Cb} (hc:CbOk t.K c) (hmay:may t.ru c=true) (hR:∀c,CbOk t.K c->RolT t own other c):DblT t own other c:=by
 intro fl A B ca cb w hI hA hca hB hcb
 obtain⟨v,o⟩:=c;have hv:=aj ht.v
 have hs1:1<=t.s:=by omega
 have hs6:t.s<=6:=by omega
 obtain⟨hq1,hq36,_⟩:=sq_bd hs1 hs6
 have hnr1:0<t.nr:=by
  have h1:=aU t.s
  have h2:1*2<=t.s*(t.s+1):=Nat.mul_le_mul (by omega) (by omega)
  have:=ht.r
  omega
 have hcv:1<=v/\v<=1024/\0<=o/\o<=2:=hc.v1 ht.k;have R2:=h_ (hR _ (up2 hc hmay))
 have HBV:Hid (bvr t.ru (v,o)=true->BevT t own other (v,o)):=fun h=>kB t ht hc h hR
 have HDB:Hid (∀x,rol t.s t.ru own other (2*v,2)=x->dbl t.s t.ru own other (v,o)=x.bind fun x=>if bvr t.ru (v,o) then (bev t.s t.ru own other (v,o)).map fun y=>if ltE (sq t.s) y.1 (les (sq t.s) x (v,o)) then (y.1,if y.2 then 4 else 3) else (les (sq t.s) x (v,o),lesA (sq t.s) x (v,o)) else some (les (sq t.s) x (v,o),lesA (sq t.s) x (v,o))):=fun x hx=>by rw[dbl_bind,<- hx]
 have HVW:Hid (Val (sq t.s) ⟨v,0⟩):=dR (by omega) (by omega)
 have hlow:=hI.ltS;have hlr:=hI.ltR hnr1
 have HNS:Hid (∀j,¬t.S (w.heap.size+j)):=fun j h=>by have:=hlow _ h;omega
 have HNR:Hid (∀j,¬t.rb (w.heap.size+j)):=fun j h=>by have:=hlr _ h;omega
 have hb0:Below w.heap.size w ((w.alloc (.cells #[.int .i64 v,.int .i64 o] 55)).alloc (.cells #[.int .i64 0,.int .i64 0] 35)):=((Below.refl _ _).alloc (Nat.le_refl _) _).alloc (by simp) _
 have HF0:Hid (FrS t.S w ((w.alloc (.cells #[.int .i64 v,.int .i64 o] 55)).alloc (.cells #[.int .i64 0,.int .i64 0] 35)) [[.int .i64 v,.int .i64 o],[.int .i64 0,.int .i64 0]]):=((FrS.start w hlow).allocT (by simp) _ _).allocT (by simp) _ _
 have HIa:=h_ (hI.below hb0);have HA:=h_ (hA.below hb0);have HB:=h_ (hB.below hb0);have HA0:=h_ hA;have HB0:=h_ hB
 have HPO:=h_ fun (W:World)=>eE (two t.K) t.bv t.jc v o 3 W (by omega) (by omega)
 have hrc:posA ⟨two t.K,t.bv⟩ (v,o) 3=bvr t.ru (v,o):=rfl;rw[hrc]at HPO
 have COM:=h_ fun (x y:E) (W:World) (hx:Val (sq t.s) x) (hy:Val (sq t.s) y)=>bU t.p t.c t.h x.num y.num t.s x.depth y.depth W hs1 hs6 hx hy
 have WH:=h_ fun (W:World)=>whole_any v W
 clear hI hA hB hv ht hR hc hmay hb0 hlow hlr hrc
 go_enter Tryz.func195,Tryz.ntmps195
 go_wp2_with (fail)
 refine (WH.out _).mono ?_
 rintro e w1 ⟨rfl,hb⟩
 have HF:=h_ ((HF0.out.below hb).alloc (.cells #[.int .i64 v,.int .i64 0] 35))
 have hz1:w.heap.size+2<=w1.heap.size:=by have:=(HF0.out.below hb).z;simpa using this
 have HNS1:Hid (¬t.S w1.heap.size):=by have:=HNS.out (w1.heap.size-w.heap.size);rwa [show w.heap.size+(w1.heap.size-w.heap.size)=w1.heap.size by omega]at this
 have HNR1:Hid (¬t.rb w1.heap.size):=by have:=HNR.out (w1.heap.size-w.heap.size);rwa [show w.heap.size+(w1.heap.size-w.heap.size)=w1.heap.size by omega]at this
 have HG:Hid (FrS t.S w1 (w1.alloc (.cells #[.int .i64 v,.int .i64 0] 35)) [[.int .i64 v,.int .i64 0]]):=(FrS.start w1 (fun k hk=>by have:=(HF0.out.below hb).low k hk;omega)).allocT (by simp) _ _
 have hbx:Below w1.heap.size w1 (w1.alloc (.cells #[.int .i64 v,.int .i64 0] 35)):=(Below.refl _ _).alloc (Nat.le_refl _) _;replace HIa:=h_ ((HIa.out.below hb).below hbx);replace HA:=h_ ((HA.out.below hb).below hbx);replace HB:=h_ ((HB.out.below hb).below hbx);clear hb hbx HF0 WH;obtain⟨z0,c00,f00,c01,f01,z1,c10,f10,c11,f11⟩:=HF.out.xf4
 go_wp2_with (fail)
 clear z0 c00 f00 c01 f01 z1 c10 f10 c11 f11;generalize w1.alloc (.cells #[.int .i64 v,.int .i64 0] 35)=W1 at *
 refine (R2.out fl A B ca cb W1 HIa.out HA.out hca HB.out hcb).mono ?_
 rintro e w2 ⟨⟨xn,xd⟩,rfl,hvx,hI,hf,him⟩
 replace HF:=h_ (HF.out.frm hf);replace HG:=h_ (HG.out.frm hf);have HI:=h_ hI;replace HA:=h_ (HA.out.frm hf);replace HB:=h_ (HB.out.frm hf);clear hI;have HVX:=h_ hvx;have HIM:=h_ him;clear hf R2 hvx him HIa;obtain⟨z0,c00,f00,c01,f01,z1,c10,f10,c11,f11⟩:=HF.out.xf4;obtain⟨qz0,qc00,qf00,qc01,qf01⟩:=HG.out.xf3
 go_wp2_with (fail)
 clear z0 c00 f00 c01 f01 z1 c10 f10 c11 f11;clear qz0 qc00 qf00 qc01 qf01;replace HF:=h_ (HF.out.alloc (.cells #[.int .i64 (xn),.int .i64 ((xd:Int))] 35));replace HG:=h_ (HG.out.alloc (.cells #[.int .i64 (xn),.int .i64 ((xd:Int))] 35));replace HI:=h_ (HI.out.alloc (.cells #[.int .i64 (xn),.int .i64 ((xd:Int))] 35));replace HA:=h_ (HA.out.below ((Below.refl _ _).alloc (Nat.le_refl _) (.cells #[.int .i64 (xn),.int .i64 ((xd:Int))] 35)));replace HB:=h_ (HB.out.below ((Below.refl _ _).alloc (Nat.le_refl _) (.cells #[.int .i64 (xn),.int .i64 ((xd:Int))] 35)))
 have g0:((w2).alloc (.cells #[.int .i64 (xn),.int .i64 ((xd:Int))] 35)).cell? ⟨(w2).heap.size,0,none⟩=some (.int .i64 (xn)):=by simp[go_sem]
 have g1:((w2).alloc (.cells #[.int .i64 (xn),.int .i64 ((xd:Int))] 35)).cell? ⟨(w2).heap.size,1,none⟩=some (.int .i64 ((xd:Int))):=by simp[go_sem]
 have gz:(w2).heap.size<((w2).alloc (.cells #[.int .i64 (xn),.int .i64 ((xd:Int))] 35)).heap.size:=by simp
 generalize w2.alloc (.cells #[.int .i64 xn,.int .i64 (xd:Int)] 35)=X0 at *;obtain⟨o2,ho2⟩:∃o2,o2=rol t.s t.ru own other (2*v,2):=⟨_,rfl⟩;rw[<- ho2]at HI HIM;have HB1:=h_ (HDB.out o2 ho2.symm);clear HDB ho2
 by_cases hf1:(fl||o2.isNone)=true
 focus
  have HFE:Hid (true=(fl||(dbl t.s t.ru own other (v,o)).isNone)):=by
   unfold Hid;rw[HB1.out]
   cases fl
   ·cases o2
    ·rfl
    ·cases hf1
   ·rfl
  rw[hf1]at HI;clear hf1;have e0:=HI.out.tb 0 _ rfl;have e1:=HI.out.tb 1 _ rfl;have e2:=HI.out.tb 2 _ rfl;have e3:=HI.out.tb 3 _ rfl;have e4:=HI.out.tb 4 _ rfl;have e5:=HI.out.tb 5 _ rfl;have e6:=HI.out.tb 6 _ rfl;have ea:=HI.out.fa;have hbt:=HI.out.ltB;obtain⟨z0,c00,f00,c01,f01,z1,c10,f10,c11,f11⟩:=HF.out.xf4;obtain⟨qz0,qc00,qf00,qc01,qf01⟩:=HG.out.xf3
  first|refine ab (by kernel_rfl) (by kernel_rfl) ?_|refine ac (by kernel_rfl) (by kernel_rfl) ?_
  repeat (first|go_big_quiet_step (fail)|quiet_step (fail))
  refine wpQuiet_nil ?_
  intro _ hw'
  obtain⟨tr,hw''⟩:=hw';subst hw'';clear z0 c00 f00 c01 f01 z1 c10 f10 c11 f11;clear qz0 qc00 qf00 qc01 qf01;clear e0 e1 e2 e3 e4 e5 e6 ea hbt;replace HF:=h_ (HF.out.more tr);replace HG:=h_ (HG.out.more tr);replace HI:=h_ (HI.out.more tr);replace HA:=h_ (HA.out.below (aa _ tr));replace HB:=h_ (HB.out.below (aa _ tr));replace g0:=keep_cell g0 (aa _ tr);replace g1:=keep_cell g1 (aa _ tr);replace gz:=Nat.lt_of_lt_of_le gz (ae _ tr);generalize more X0 tr=Y0 at *;have e0:=HI.out.tb 0 _ rfl;have e1:=HI.out.tb 1 _ rfl;have e2:=HI.out.tb 2 _ rfl;have e3:=HI.out.tb 3 _ rfl;have e4:=HI.out.tb 4 _ rfl;have e5:=HI.out.tb 5 _ rfl;have e6:=HI.out.tb 6 _ rfl;have ea:=HI.out.fa;have hbt:=HI.out.ltB;obtain⟨z0,c00,f00,c01,f01,z1,c10,f10,c11,f11⟩:=HF.out.xf4;obtain⟨qz0,qc00,qf00,qc01,qf01⟩:=HG.out.xf3
  go_wp2_with (fail)
  refine ?zw
 rotate_left
 focus
  have hf1':(fl||o2.isNone)=false:=Bool.eq_false_iff.2 hf1
  rw[hf1']at HI;have h2:=HIM.out hf1'
  have hfl:fl=false:=by cases fl;rfl;cases hf1'
  subst hfl
  have HRE0:Hid (dbl t.s t.ru own other (v,o)=if bvr t.ru (v,o)=true then (bev t.s t.ru own other (v,o)).map fun y=>if ltE (sq t.s) y.1 (les (sq t.s) ⟨xn,xd⟩ (v,o)) then (y.1,if y.2 then 4 else 3) else (les (sq t.s) ⟨xn,xd⟩ (v,o),lesA (sq t.s) ⟨xn,xd⟩ (v,o)) else some (les (sq t.s) ⟨xn,xd⟩ (v,o),lesA (sq t.s) ⟨xn,xd⟩ (v,o))):=by unfold Hid;rw[HB1.out,h2];rfl
  clear hf1 hf1' h2 HIM HB1
  have COM1:Hid (∀W:World,Calls Tryz.prog 176 #[.agg #[.int .i64 t.p,.int .i64 t.c,.int .i64 t.h,.int .i64 t.s],.agg #[.int .i64 xn,.int .i64 (xd:Int)],.agg #[.int .i64 v,.int .i64 0]] W fun e w'=>e = .returned (.int .i64 (cmpE (sq t.s) ⟨xn,xd⟩ ⟨v,0⟩))/\Below W.heap.size W w'):=fun W=>COM.out ⟨xn,xd⟩ ⟨v,0⟩ W HVX.out HVW.out
  have HCS:Hid ((cmpE (sq t.s) ⟨xn,xd⟩ ⟨v,0⟩<0)=(ltE (sq t.s) ⟨xn,xd⟩ ⟨v,0⟩=true)):=gR;have hcb1:=eh (sq t.s) ⟨xn,xd⟩ ⟨v,0⟩
  have HLES:Hid (les (sq t.s) ⟨xn,xd⟩ (v,o)=if ltE (sq t.s) ⟨xn,xd⟩ ⟨v,0⟩=true then ⟨xn,xd⟩ else ⟨v,0⟩):=rfl
  have HLEA:Hid (lesA (sq t.s) ⟨xn,xd⟩ (v,o)=if ltE (sq t.s) ⟨xn,xd⟩ ⟨v,0⟩=true then 1 else 2):=rfl
  generalize cmpE (sq t.s) ⟨xn,xd⟩ ⟨v,0⟩=cm at *
  by_cases hcm:cm<0
  focus
   obtain⟨ln,hln⟩:∃ln,ln=xn:=⟨_,rfl⟩
   obtain⟨ld,hld⟩:∃ld,ld=xd:=⟨_,rfl⟩
   have HREL:Hid (dbl t.s t.ru own other (v,o)=if bvr t.ru (v,o)=true then (bev t.s t.ru own other (v,o)).map fun y=>if ltE (sq t.s) y.1 ⟨ln,ld⟩ then (y.1,if y.2 then 4 else 3) else (⟨ln,ld⟩,1) else some (⟨ln,ld⟩,1)):=by
    unfold Hid
    have e1:les (sq t.s) ⟨xn,xd⟩ (v,o)=⟨xn,xd⟩:=by rw[HLES.out,if_pos (by rw[<- HCS.out];exact hcm)]
    have e2:lesA (sq t.s) ⟨xn,xd⟩ (v,o)=1:=by rw[HLEA.out,if_pos (by rw[<- HCS.out];exact hcm)]
    rw[HRE0.out,e1,e2,hln,hld]
   have HVL:Hid (Val (sq t.s) ⟨ln,ld⟩):=by rw[hln,hld];exact HVX.out
   clear HRE0 HLES HLEA HCS;have e0:=HI.out.tb 0 _ rfl;have e1:=HI.out.tb 1 _ rfl;have e2:=HI.out.tb 2 _ rfl;have e3:=HI.out.tb 3 _ rfl;have e4:=HI.out.tb 4 _ rfl;have e5:=HI.out.tb 5 _ rfl;have e6:=HI.out.tb 6 _ rfl;have ea:=HI.out.fa;have hbt:=HI.out.ltB;obtain⟨z0,c00,f00,c01,f01,z1,c10,f10,c11,f11⟩:=HF.out.xf4;obtain⟨qz0,qc00,qf00,qc01,qf01⟩:=HG.out.xf3
   refine ?zq
  rotate_left
  focus
   obtain⟨ln,hln⟩:∃ln,ln=v:=⟨_,rfl⟩
   obtain⟨ld,hld⟩:∃ld:Nat,ld=0:=⟨_,rfl⟩;have dcm:=decide_eq_false hcm
   have HREL:Hid (dbl t.s t.ru own other (v,o)=if bvr t.ru (v,o)=true then (bev t.s t.ru own other (v,o)).map fun y=>if ltE (sq t.s) y.1 ⟨ln,ld⟩ then (y.1,if y.2 then 4 else 3) else (⟨ln,ld⟩,2) else some (⟨ln,ld⟩,2)):=by
    unfold Hid
    have e1:les (sq t.s) ⟨xn,xd⟩ (v,o)=⟨v,0⟩:=by rw[HLES.out,if_neg (by rw[<- HCS.out];exact hcm)]
    have e2:lesA (sq t.s) ⟨xn,xd⟩ (v,o)=2:=by rw[HLEA.out,if_neg (by rw[<- HCS.out];exact hcm)]
    rw[HRE0.out,e1,e2,hln,hld]
   have HVL:Hid (Val (sq t.s) ⟨ln,ld⟩):=by rw[hln,hld];exact HVW.out
   have HLN:=h_ hln;have HLD:=h_ hld;clear HRE0 HLES HLEA HCS hln hld;have e0:=HI.out.tb 0 _ rfl;have e1:=HI.out.tb 1 _ rfl;have e2:=HI.out.tb 2 _ rfl;have e3:=HI.out.tb 3 _ rfl;have e4:=HI.out.tb 4 _ rfl;have e5:=HI.out.tb 5 _ rfl;have e6:=HI.out.tb 6 _ rfl;have ea:=HI.out.fa;have hbt:=HI.out.ltB;obtain⟨z0,c00,f00,c01,f01,z1,c10,f10,c11,f11⟩:=HF.out.xf4;obtain⟨qz0,qc00,qf00,qc01,qf01⟩:=HG.out.xf3
   refine ?zr
 rotate_left 2
 case' zq|zr=>
  first|refine ab (by kernel_rfl) (by kernel_rfl) ?_|refine ac (by kernel_rfl) (by kernel_rfl) ?_
  repeat (first|go_big_quiet_step ((go_at_call 176;exact more_call (COM1.out _)))|quiet_step ((go_at_call 176;exact more_call (COM1.out _))))
  refine wpQuiet_nil ?_
  intro _ hw'
 case' zq=>
  obtain⟨tr,hw''⟩:=hw';subst hw'';clear z0 c00 f00 c01 f01 z1 c10 f10 c11 f11;clear qz0 qc00 qf00 qc01 qf01;clear e0 e1 e2 e3 e4 e5 e6 ea hbt;replace HF:=h_ (HF.out.more tr);replace HG:=h_ (HG.out.more tr);replace HI:=h_ (HI.out.more tr);replace HA:=h_ (HA.out.below (aa _ tr));replace HB:=h_ (HB.out.below (aa _ tr));replace g0:=keep_cell g0 (aa _ tr);replace g1:=keep_cell g1 (aa _ tr);replace gz:=Nat.lt_of_lt_of_le gz (ae _ tr);generalize more X0 tr=Y0 at *;clear COM1 hcm hcb1;obtain⟨z0,c00,f00,c01,f01,z1,c10,f10,c11,f11⟩:=HF.out.xf4;obtain⟨qz0,qc00,qf00,qc01,qf01⟩:=HG.out.xf3
  go_wp2_with (fail)
  clear z0 c00 f00 c01 f01 z1 c10 f10 c11 f11;clear qz0 qc00 qf00 qc01 qf01
  have hfs:Frm (fun k=>k=w1.heap.size) Y0 ((Y0.setCell ⟨w1.heap.size,0,none⟩ (.int .i64 xn)).setCell ⟨w1.heap.size,1,none⟩ (.int .i64 (xd:Int))):=(Frm.set _ _ _ _).trans (Frm.set _ _ _ _)
  replace HG:=h_ ((HG.out.set 0 0 rfl rfl (.int .i64 xn)).set 0 1 rfl rfl (.int .i64 (xd:Int)))
  replace HF:=h_ (HF.out.out hfs fun k hk=>by rw[hk];exact hz1)
  replace HI:=h_ (HI.out.out hfs (fun k hk=>by rw[hk];exact HNS1.out) fun k hk=>by rw[hk];exact HNR1.out)
  replace HA:=h_ ((HA0.out.frm (HF.out.f)));replace HB:=h_ ((HB0.out.frm (HF.out.f)));clear hfs g0 g1 gz;generalize (Y0.setCell ⟨w1.heap.size,0,none⟩ (.int .i64 xn)).setCell ⟨w1.heap.size,1,none⟩ (.int .i64 (xd:Int))=X at *
  replace HG:Hid (FrS t.S w1 X [[.int .i64 ln,.int .i64 (ld:Int)]]):=by rw[hln,hld];exact HG.out
  clear hln hld;have e0:=HI.out.tb 0 _ rfl;have e1:=HI.out.tb 1 _ rfl;have e2:=HI.out.tb 2 _ rfl;have e3:=HI.out.tb 3 _ rfl;have e4:=HI.out.tb 4 _ rfl;have e5:=HI.out.tb 5 _ rfl;have e6:=HI.out.tb 6 _ rfl;have ea:=HI.out.fa;have hbt:=HI.out.ltB;obtain⟨z0,c00,f00,c01,f01,z1,c10,f10,c11,f11⟩:=HF.out.xf4;obtain⟨qz0,qc00,qf00,qc01,qf01⟩:=HG.out.xf3
 case' zr=>
  obtain⟨tr,hw''⟩:=hw';subst hw'';clear z0 c00 f00 c01 f01 z1 c10 f10 c11 f11;clear qz0 qc00 qf00 qc01 qf01;clear e0 e1 e2 e3 e4 e5 e6 ea hbt;replace HF:=h_ (HF.out.more tr);replace HG:=h_ (HG.out.more tr);replace HI:=h_ (HI.out.more tr);replace HA:=h_ (HA.out.below (aa _ tr));replace HB:=h_ (HB.out.below (aa _ tr));replace g0:=keep_cell g0 (aa _ tr);replace g1:=keep_cell g1 (aa _ tr);replace gz:=Nat.lt_of_lt_of_le gz (ae _ tr);generalize more X0 tr=Y0 at *;clear COM1 hcb1 hcm;obtain⟨z0,c00,f00,c01,f01,z1,c10,f10,c11,f11⟩:=HF.out.xf4;obtain⟨qz0,qc00,qf00,qc01,qf01⟩:=HG.out.xf3
  go_wp2_with (fail)
  clear z0 c00 f00 c01 f01 z1 c10 f10 c11 f11;clear qz0 qc00 qf00 qc01 qf01;clear g0 g1 gz dcm;generalize Y0=X at *
  replace HG:Hid (FrS t.S w1 X [[.int .i64 ln,.int .i64 (ld:Int)]]):=by rw[HLN.out,HLD.out];exact HG.out
  clear HLN HLD;have e0:=HI.out.tb 0 _ rfl;have e1:=HI.out.tb 1 _ rfl;have e2:=HI.out.tb 2 _ rfl;have e3:=HI.out.tb 3 _ rfl;have e4:=HI.out.tb 4 _ rfl;have e5:=HI.out.tb 5 _ rfl;have e6:=HI.out.tb 6 _ rfl;have ea:=HI.out.fa;have hbt:=HI.out.ltB;obtain⟨z0,c00,f00,c01,f01,z1,c10,f10,c11,f11⟩:=HF.out.xf4;obtain⟨qz0,qc00,qf00,qc01,qf01⟩:=HG.out.xf3
 case' zq|zr=>
  first|refine ab (by kernel_rfl) (by kernel_rfl) ?_|refine ac (by kernel_rfl) (by kernel_rfl) ?_
  repeat (first|go_big_quiet_step ((go_at_call 232;exact more_call (HPO.out _)))|quiet_step ((go_at_call 232;exact more_call (HPO.out _))))
  refine wpQuiet_nil ?_
  intro _ hw'
  obtain⟨tr,hw''⟩:=hw';subst hw'';clear z0 c00 f00 c01 f01 z1 c10 f10 c11 f11;clear qz0 qc00 qf00 qc01 qf01;clear e0 e1 e2 e3 e4 e5 e6 ea hbt;replace HF:=h_ (HF.out.more tr);replace HG:=h_ (HG.out.more tr);replace HI:=h_ (HI.out.more tr);replace HA:=h_ (HA.out.below (aa _ tr));replace HB:=h_ (HB.out.below (aa _ tr));generalize more X tr=Y at *
 case' zq=>
  rcases hbv:bvr t.ru (v,o) with _|_
  focus
   have HRE:Hid (dbl t.s t.ru own other (v,o)=some (⟨ln,ld⟩,1)):=by unfold Hid;rw[HREL.out,hbv];rfl
   refine ?zm
  rotate_left
  focus
   have HRE0:Hid (∀z,bev t.s t.ru own other (v,o)=z->dbl t.s t.ru own other (v,o)=z.map fun y=>if ltE (sq t.s) y.1 ⟨ln,ld⟩ then (y.1,if y.2 then 4 else 3) else (⟨ln,ld⟩,1)):=fun z hz=>by rw[HREL.out,hbv,<- hz];rfl
   refine ?zg
 case' zr=>
  rcases hbv:bvr t.ru (v,o) with _|_
  focus
   have HRE:Hid (dbl t.s t.ru own other (v,o)=some (⟨ln,ld⟩,2)):=by unfold Hid;rw[HREL.out,hbv];rfl
   refine ?zn
  rotate_left
  focus
   have HRE0:Hid (∀z,bev t.s t.ru own other (v,o)=z->dbl t.s t.ru own other (v,o)=z.map fun y=>if ltE (sq t.s) y.1 ⟨ln,ld⟩ then (y.1,if y.2 then 4 else 3) else (⟨ln,ld⟩,2)):=fun z hz=>by rw[HREL.out,hbv,<- hz];rfl
   refine ?zh
 case' zg|zh=>
  have BV:=h_ (HBV.out hbv);clear hbv HREL HBV;obtain⟨z0,c00,f00,c01,f01,z1,c10,f10,c11,f11⟩:=HF.out.xf4;obtain⟨qz0,qc00,qf00,qc01,qf01⟩:=HG.out.xf3
  go_wp2_with (fail)
  clear z0 c00 f00 c01 f01 z1 c10 f10 c11 f11;clear qz0 qc00 qf00 qc01 qf01;have HIb:=HI;clear HI
  refine (BV.out false A B ca cb Y HIb.out HA.out hca HB.out hcb).mono ?_
  rintro e w4 ⟨⟨yn,yd⟩,yb,rfl,hvy,hI,hf,him⟩
  replace HF:=h_ (HF.out.frm hf);replace HG:=h_ (HG.out.frm hf);have HI:=h_ hI;replace HA:=h_ (HA.out.frm hf);replace HB:=h_ (HB.out.frm hf);clear hI;have HVY:=h_ hvy;have HIM:=h_ him;clear hf BV hvy him HIb HPO;obtain⟨z0,c00,f00,c01,f01,z1,c10,f10,c11,f11⟩:=HF.out.xf4;obtain⟨qz0,qc00,qf00,qc01,qf01⟩:=HG.out.xf3
  go_wp2_with (fail)
  clear z0 c00 f00 c01 f01 z1 c10 f10 c11 f11;clear qz0 qc00 qf00 qc01 qf01;replace HF:=h_ (HF.out.alloc (.cells #[.int .i64 (yn),.int .i64 ((yd:Int))] 35));replace HG:=h_ (HG.out.alloc (.cells #[.int .i64 (yn),.int .i64 ((yd:Int))] 35));replace HI:=h_ (HI.out.alloc (.cells #[.int .i64 (yn),.int .i64 ((yd:Int))] 35));replace HA:=h_ (HA.out.below ((Below.refl _ _).alloc (Nat.le_refl _) (.cells #[.int .i64 (yn),.int .i64 ((yd:Int))] 35)));replace HB:=h_ (HB.out.below ((Below.refl _ _).alloc (Nat.le_refl _) (.cells #[.int .i64 (yn),.int .i64 ((yd:Int))] 35)))
  have y0:((w4).alloc (.cells #[.int .i64 (yn),.int .i64 ((yd:Int))] 35)).cell? ⟨(w4).heap.size,0,none⟩=some (.int .i64 (yn)):=by simp[go_sem]
  have y1:((w4).alloc (.cells #[.int .i64 (yn),.int .i64 ((yd:Int))] 35)).cell? ⟨(w4).heap.size,1,none⟩=some (.int .i64 ((yd:Int))):=by simp[go_sem]
  have yz:(w4).heap.size<((w4).alloc (.cells #[.int .i64 (yn),.int .i64 ((yd:Int))] 35)).heap.size:=by simp
  generalize w4.alloc (.cells #[.int .i64 yn,.int .i64 (yd:Int)] 35)=X2 at *;obtain⟨o8,ho8⟩:∃o8,o8=bev t.s t.ru own other (v,o):=⟨_,rfl⟩;rw[<- ho8]at HI HIM;have HB3:=h_ (HRE0.out o8 ho8.symm);clear HRE0 ho8
 case' zg=>
  rcases o8 with _|⟨⟨zn,zd⟩,zb⟩
  focus
   refine ?zi
  rotate_left
  focus
   refine ?zs
 case' zh=>
  rcases o8 with _|⟨⟨zn,zd⟩,zb⟩
  focus
   refine ?zj
  rotate_left
  focus
   refine ?zt
 case' zs|zt=>
  have he:((⟨zn,zd⟩:E),zb)=(⟨yn,yd⟩,yb):=by have:=HIM.out rfl;injection this
  injection he with he0 he3;injection he0 with he1 he2;subst he1 he2 he3;replace HI:Hid (TbI t false X2):=HI.out
 case' zs=>
  have HB4:Hid (dbl t.s t.ru own other (v,o)=some (if ltE (sq t.s) ⟨zn,zd⟩ ⟨ln,ld⟩ then (⟨zn,zd⟩,if zb then 4 else 3) else (⟨ln,ld⟩,1))):=HB3.out
 case' zt=>
  have HB4:Hid (dbl t.s t.ru own other (v,o)=some (if ltE (sq t.s) ⟨zn,zd⟩ ⟨ln,ld⟩ then (⟨zn,zd⟩,if zb then 4 else 3) else (⟨ln,ld⟩,2))):=HB3.out
 case' zs|zt=>
  have COM2:=h_ fun (W:World)=>COM.out ⟨zn,zd⟩ ⟨ln,ld⟩ W HVY.out HVL.out
  have HCS:Hid ((cmpE (sq t.s) ⟨zn,zd⟩ ⟨ln,ld⟩<0)=(ltE (sq t.s) ⟨zn,zd⟩ ⟨ln,ld⟩=true)):=gR;have hcb1:=eh (sq t.s) ⟨zn,zd⟩ ⟨ln,ld⟩;clear HB3 HIM COM;generalize cmpE (sq t.s) ⟨zn,zd⟩ ⟨ln,ld⟩=cm at *
 case' zs=>
  by_cases hcm:cm<0
  focus
   cases zb
   focus
    refine ?za
   rotate_left
   focus
    refine ?zb
  rotate_left 2
  focus
   have HRE:Hid (dbl t.s t.ru own other (v,o)=some (⟨ln,ld⟩,1)):=by
    unfold Hid
    rw[HB4.out,if_neg (by rw[<- HCS.out];exact hcm)]
   refine ?zc
 case' zt=>
  by_cases hcm:cm<0
  focus
   cases zb
   focus
    refine ?zf
   rotate_left
   focus
    refine ?zd
  rotate_left 2
  focus
   have HRE:Hid (dbl t.s t.ru own other (v,o)=some (⟨ln,ld⟩,2)):=by
    unfold Hid
    rw[HB4.out,if_neg (by rw[<- HCS.out];exact hcm)]
   refine ?ze
 case' zc|ze=>
  have dcm:=decide_eq_false hcm;clear HB4 HCS;have e0:=HI.out.tb 0 _ rfl;have e1:=HI.out.tb 1 _ rfl;have e2:=HI.out.tb 2 _ rfl;have e3:=HI.out.tb 3 _ rfl;have e4:=HI.out.tb 4 _ rfl;have e5:=HI.out.tb 5 _ rfl;have e6:=HI.out.tb 6 _ rfl;have ea:=HI.out.fa;have hbt:=HI.out.ltB;obtain⟨z0,c00,f00,c01,f01,z1,c10,f10,c11,f11⟩:=HF.out.xf4;obtain⟨qz0,qc00,qf00,qc01,qf01⟩:=HG.out.xf3
 case' za|zf=>
  have HRE:Hid (dbl t.s t.ru own other (v,o)=some (⟨zn,zd⟩,3)):=by
   unfold Hid
   rw[HB4.out,if_pos (by rw[<- HCS.out];exact hcm)];rfl
 case' zb|zd=>
  have HRE:Hid (dbl t.s t.ru own other (v,o)=some (⟨zn,zd⟩,4)):=by
   unfold Hid
   rw[HB4.out,if_pos (by rw[<- HCS.out];exact hcm)];rfl
 case' za|zb|zf|zd=>
  clear HB4 HCS;have e0:=HI.out.tb 0 _ rfl;have e1:=HI.out.tb 1 _ rfl;have e2:=HI.out.tb 2 _ rfl;have e3:=HI.out.tb 3 _ rfl;have e4:=HI.out.tb 4 _ rfl;have e5:=HI.out.tb 5 _ rfl;have e6:=HI.out.tb 6 _ rfl;have ea:=HI.out.fa;have hbt:=HI.out.ltB;obtain⟨z0,c00,f00,c01,f01,z1,c10,f10,c11,f11⟩:=HF.out.xf4;obtain⟨qz0,qc00,qf00,qc01,qf01⟩:=HG.out.xf3
 case' za|zb|zc|zd|ze|zf=>
  first|refine ab (by kernel_rfl) (by kernel_rfl) ?_|refine ac (by kernel_rfl) (by kernel_rfl) ?_
  repeat (first|go_big_quiet_step ((go_at_call 176;exact more_call (COM2.out _)))|quiet_step ((go_at_call 176;exact more_call (COM2.out _))))
 case' zm|zn=>
  clear hbv HREL HBV;obtain⟨z0,c00,f00,c01,f01,z1,c10,f10,c11,f11⟩:=HF.out.xf4;obtain⟨qz0,qc00,qf00,qc01,qf01⟩:=HG.out.xf3
  go_wp2_with (fail)
 case' zi|zj=>
  have HRE:Hid (dbl t.s t.ru own other (v,o)=none):=HB3.out
  replace HI:Hid (TbI t true X2):=HI.out;clear HB3 HIM;have e0:=HI.out.tb 0 _ rfl;have e1:=HI.out.tb 1 _ rfl;have e2:=HI.out.tb 2 _ rfl;have e3:=HI.out.tb 3 _ rfl;have e4:=HI.out.tb 4 _ rfl;have e5:=HI.out.tb 5 _ rfl;have e6:=HI.out.tb 6 _ rfl;have ea:=HI.out.fa;have hbt:=HI.out.ltB;obtain⟨z0,c00,f00,c01,f01,z1,c10,f10,c11,f11⟩:=HF.out.xf4;obtain⟨qz0,qc00,qf00,qc01,qf01⟩:=HG.out.xf3
 case' zw|zi|zj=>
  first|refine ab (by kernel_rfl) (by kernel_rfl) ?_|refine ac (by kernel_rfl) (by kernel_rfl) ?_
  repeat (first|go_big_quiet_step (fail)|quiet_step (fail))
 case' zi|zj|za|zb|zc|zd|ze|zf=>
  refine wpQuiet_nil ?_
  intro _ hw'
  obtain⟨tr,hw''⟩:=hw';subst hw'';clear z0 c00 f00 c01 f01 z1 c10 f10 c11 f11;clear qz0 qc00 qf00 qc01 qf01;clear e0 e1 e2 e3 e4 e5 e6 ea hbt;replace HF:=h_ (HF.out.more tr);replace HG:=h_ (HG.out.more tr);replace HI:=h_ (HI.out.more tr);replace HA:=h_ (HA.out.below (aa _ tr));replace HB:=h_ (HB.out.below (aa _ tr));replace y0:=keep_cell y0 (aa _ tr);replace y1:=keep_cell y1 (aa _ tr);replace yz:=Nat.lt_of_lt_of_le yz (ae _ tr);generalize more X2 tr=Y2 at *;obtain⟨z0,c00,f00,c01,f01,z1,c10,f10,c11,f11⟩:=HF.out.xf4;obtain⟨qz0,qc00,qf00,qc01,qf01⟩:=HG.out.xf3
  go_wp2_with (fail)
 case za|zf=>
  refine bodyPost_ret (v:=.tuple #[.agg #[.int .i64 zn,.int .i64 (zd:Int)],.int .i64 3]) (by simp[results,Tryz.results195,go_sem,c10,c11,z1,f10,f11]) rfl ?_
  refine⟨⟨zn,zd⟩,3,rfl,HVY.out,?_,?_,fun _=>HRE.out⟩
  ·refine TbI.eqf ?_ (show false=(false||(dbl t.s t.ru own other (v,o)).isNone) by rw[HRE.out];rfl)
   repeat (first|exact HI.out|refine TbI.alloc ?_ _|refine TbI.stored ?_ _ (HNS.out 1) (HNR.out 1)|refine TbI.stored ?_ _ HNS1.out HNR1.out)
  ·repeat (first|exact HF.out.f|refine Frm.alloc ?_ _|refine Frm.ownSet ?_ (by omega) _)
 case zb|zd=>
  refine bodyPost_ret (v:=.tuple #[.agg #[.int .i64 zn,.int .i64 (zd:Int)],.int .i64 4]) (by simp[results,Tryz.results195,go_sem,c10,c11,z1,f10,f11]) rfl ?_
  refine⟨⟨zn,zd⟩,4,rfl,HVY.out,?_,?_,fun _=>HRE.out⟩
  ·refine TbI.eqf ?_ (show false=(false||(dbl t.s t.ru own other (v,o)).isNone) by rw[HRE.out];rfl)
   repeat (first|exact HI.out|refine TbI.alloc ?_ _|refine TbI.stored ?_ _ (HNS.out 1) (HNR.out 1)|refine TbI.stored ?_ _ HNS1.out HNR1.out)
  ·repeat (first|exact HF.out.f|refine Frm.alloc ?_ _|refine Frm.ownSet ?_ (by omega) _)
 case' zi|zm|zc=>
  refine bodyPost_ret (v:=.tuple #[.agg #[.int .i64 ln,.int .i64 (ld:Int)],.int .i64 (1)]) (by simp[results,Tryz.results195,go_sem,c10,c11,z1,f10,f11]) rfl ?_
 case' zi=>
  refine⟨⟨ln,ld⟩,1,rfl,HVL.out,?_,?_,fun h=>by rw[HRE.out]at h;cases h⟩
  rotate_left
  ·repeat (first|exact HF.out.f|refine Frm.alloc ?_ _|refine Frm.ownSet ?_ (by omega) _)
 case zm|zc=>
  refine⟨⟨ln,ld⟩,1,rfl,HVL.out,?_,?_,fun _=>HRE.out⟩
  ·refine TbI.eqf ?_ (show false=(false||(dbl t.s t.ru own other (v,o)).isNone) by rw[HRE.out];rfl)
   repeat (first|exact HI.out|refine TbI.alloc ?_ _|refine TbI.stored ?_ _ (HNS.out 1) (HNR.out 1))
  ·repeat (first|exact HF.out.f|refine Frm.alloc ?_ _|refine Frm.ownSet ?_ (by omega) _)
 case' zj|zn|ze=>
  refine bodyPost_ret (v:=.tuple #[.agg #[.int .i64 ln,.int .i64 (ld:Int)],.int .i64 (2)]) (by simp[results,Tryz.results195,go_sem,c10,c11,z1,f10,f11]) rfl ?_
 case' zj=>
  refine⟨⟨ln,ld⟩,2,rfl,HVL.out,?_,?_,fun h=>by rw[HRE.out]at h;cases h⟩
  rotate_left
  ·repeat (first|exact HF.out.f|refine Frm.alloc ?_ _|refine Frm.ownSet ?_ (by omega) _)
 case zn|ze=>
  refine⟨⟨ln,ld⟩,2,rfl,HVL.out,?_,?_,fun _=>HRE.out⟩
  ·refine TbI.eqf ?_ (show false=(false||(dbl t.s t.ru own other (v,o)).isNone) by rw[HRE.out];rfl)
   repeat (first|exact HI.out|refine TbI.alloc ?_ _|refine TbI.stored ?_ _ (HNS.out 1) (HNR.out 1))
  ·repeat (first|exact HF.out.f|refine Frm.alloc ?_ _|refine Frm.ownSet ?_ (by omega) _)
 case zi|zj=>
  refine TbI.eqf ?_ (show true=(false||(dbl t.s t.ru own other (v,o)).isNone) by rw[HRE.out];rfl)
  repeat (first|exact HI.out|refine TbI.alloc ?_ _|refine TbI.stored ?_ _ (HNS.out 1) (HNR.out 1))
 case zw=>
  refine wpQuiet_nil ?_
  intro _ hw'
  obtain⟨tr,hw''⟩:=hw';subst hw'';clear z0 c00 f00 c01 f01 z1 c10 f10 c11 f11;clear qz0 qc00 qf00 qc01 qf01;clear e0 e1 e2 e3 e4 e5 e6 ea hbt;replace HF:=h_ (HF.out.more tr);replace HG:=h_ (HG.out.more tr);replace HI:=h_ (HI.out.more tr);replace HA:=h_ (HA.out.below (aa _ tr));replace HB:=h_ (HB.out.below (aa _ tr));replace g0:=keep_cell g0 (aa _ tr);replace g1:=keep_cell g1 (aa _ tr);replace gz:=Nat.lt_of_lt_of_le gz (ae _ tr);generalize more Y0 tr=Z0 at *;obtain⟨z0,c00,f00,c01,f01,z1,c10,f10,c11,f11⟩:=HF.out.xf4;obtain⟨qz0,qc00,qf00,qc01,qf01⟩:=HG.out.xf3
  go_wp2_with (fail)
  refine bodyPost_ret (v:=.tuple #[.agg #[.int .i64 v,.int .i64 ((0:Nat):Int)],.int .i64 2]) (by simp[results,Tryz.results195,go_sem,c10,c11,z1,f10,f11]) rfl ?_
  refine⟨⟨v,0⟩,2,rfl,HVW.out,?_,?_,fun h=>by rw[<- HFE.out]at h;cases h⟩
  ·refine TbI.eqf ?_ HFE.out
   repeat (first|exact HI.out|refine TbI.alloc ?_ _|refine TbI.stored ?_ _ (HNS.out 1) (HNR.out 1))
  ·repeat (first|exact HF.out.f|refine Frm.alloc ?_ _|refine Frm.ownSet ?_ (by omega) _)
end Go.Proofs.YtkaiilmgemaljaaGreat

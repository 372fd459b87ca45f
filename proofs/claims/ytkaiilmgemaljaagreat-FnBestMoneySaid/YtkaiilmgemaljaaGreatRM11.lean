/- Part of one proof. There are no conditions. -/
import Derived.Test.YtkaiilmgemaljaaGreatRM10
set_option maxHeartbeats 0
set_option linter.unusedVariables false
set_option linter.unusedSimpArgs false
set_option maxRecDepth 100000
namespace Go.Proofs.YtkaiilmgemaljaaGreat
open Go.RowKit Ps Ra Ex Go.Maps Mo
noncomputable def dblV (s:Nat) (r:Ru) (own other:List Int) (c:Cb):Option E:=(rol s r own other (2*c.1,2)).bind fun x=>
 if bvr r c then (bev s r own other c).map fun y=>if ltE (sq s) y.1 (les (sq s) x c) then y.1 else les (sq s) x c else some (les (sq s) x c)
theorem cw (s:Nat) (r:Ru) (own other:List Int) (c:Cb):(dbl s r own other c).map (fun y=>y.1)=dblV s r own other c:=by
 unfold dbl dblV bev;rw[kK]
 cases rol s r own other (2*c.1,2) with
 | none=>rfl
 | some x =>
   simp only [Option.bind_some]
   split
   · cases bevG (sq s) r (rol s r) own other c with
     | none => rfl
     | some y => simp only [Option.map_some]; split <;> rfl
   · rfl
theorem bev_val {s:Nat} (hB:1<=sq s) {r:Ru} {own other:List Int} {c:Cb} {y:E×Bool} (h:bev s r own other c=some y):Val (sq s) y.1:=bevG_val (fun c e h=>ew hB h) h
theorem doubled_any (m:MT) (hm:m.Ok) {own other:List Int} {c:Cb} (hc:CbOk m.K c) (hmay:may m.ru c=true) (hR:∀c,CbOk m.K c->RolC m own other c):DblC m own other c:=by
 intro T A B ca cb w hT hI hA hca hB hcb
 obtain⟨v,o⟩:=c;have hv:=aj hm.t.v
 have hs1:1<=m.t.s:=by omega
 have hs6:m.t.s<=6:=by omega
 obtain⟨hq1,hq36,_⟩:=sq_bd hs1 hs6;have hcv:1<=v/\v<=1024/\0<=o/\o<=2:=hc.v1 hm.k;have R2:=h_ (hR _ (up2 hc hmay))
 have HBV:Hid (bvr m.ru (v,o)=true->BevC m own other (v,o)):=fun h=>beaver_any m hm hc h hR
 have HBVV:Hid (∀y,bev m.t.s m.ru own other (v,o)=some y->Val (sq m.t.s) y.1):=fun y h=>bev_val hq1 h
 have HDV:Hid (∀x,rol m.t.s m.ru own other (2*v,2)=x->dblV m.t.s m.ru own other (v,o)=x.bind fun x=>if bvr m.ru (v,o)=true then (bev m.t.s m.ru own other (v,o)).map fun y=>if ltE (sq m.t.s) y.1 (les (sq m.t.s) x (v,o)) then y.1 else les (sq m.t.s) x (v,o) else some (les (sq m.t.s) x (v,o))):=fun x hx=>by unfold dblV;rw[<- hx]
 have HV2:Hid (∀e,rol m.t.s m.ru own other (2*v,2)=some e->Val (sq m.t.s) e):=fun e h=>ew hq1 h
 have HVW:Hid (Val (sq m.t.s) ⟨v,0⟩):=dR (by omega) (by omega)
 have hlow:=hI.ltS;have HSUB:=h_ hI.sub
 have HNS:Hid (∀j,¬m.S (w.heap.size+j)):=fun j h=>by have:=hlow _ h;omega
 have hb0:Below w.heap.size w (((w.alloc (.cells #[.int .i64 v,.int .i64 o] 55)).alloc (.cells #[.int .i64 0,.int .i64 0] 35)).alloc (.cells #[.int .i64 v,.int .i64 0] 35)):=(((Below.refl _ _).alloc (Nat.le_refl _) _).alloc (by simp) _).alloc (by simp;omega) _
 have HF:Hid (FrS m.S w (((w.alloc (.cells #[.int .i64 v,.int .i64 o] 55)).alloc (.cells #[.int .i64 0,.int .i64 0] 35)).alloc (.cells #[.int .i64 v,.int .i64 0] 35)) [[.int .i64 v,.int .i64 o],[.int .i64 0,.int .i64 0],[.int .i64 v,.int .i64 0]]):=(((FrS.start w hlow).allocT (by simp) _ _).allocT (by simp) _ _).allocT (by simp) _ _
 have HI:=h_ ((hI.wide 3).below hb0);have HA:=h_ ((hA.wide 3).below hb0);have HB:=h_ ((hB.wide 3).below hb0)
 have HTN:Hid (∀W:World,w.heap.size+3<=W.heap.size->∀k,W.heap.size<=k->¬ownT T w 3 k):=fun W hz=>dW hT hz
 have HPO:=h_ fun (W:World)=>di (two m.K) m.bv m.jc v o 3 W (by omega) (by omega)
 have hrc:posA ⟨two m.K,m.bv⟩ (v,o) 3=bvr m.ru (v,o):=rfl
 have CA:=h_ fun (W:World)=>d9 v o 1 W (by omega) (by omega)
 rw[hrc]at HPO
 have COM:=h_ fun (x y:E) (W:World) (hx:Val (sq m.t.s) x) (hy:Val (sq m.t.s) y)=>bW m.t.p m.t.c m.t.h x.num y.num m.t.s x.depth y.depth W hs1 hs6 hx hy
 clear hT hI hA hB hv hm hR hc hmay hb0 hlow hrc;generalize hTT:ownT T w 3=T' at *;replace hTT:=h_ hTT;have HTT:=hTT;have HTS:Hid (∀k,m.S k->T' k):=HI.out.sub;clear hTT
 go_enter Tryz.func118,Tryz.ntmps118
 go_wp2_with (go_at_call 197;(with_reducible refine (more_first (CA.out _)).mono ?_);rintro e w' ⟨rfl,tr,rfl⟩)
 replace HF:=h_ (HF.out.more tr);replace HI:=h_ (HI.out.below (aa _ tr));replace HA:=h_ (HA.out.below (aa _ tr));replace HB:=h_ (HB.out.below (aa _ tr));generalize more (((w.alloc (.cells #[.int .i64 v,.int .i64 o] 55)).alloc (.cells #[.int .i64 0,.int .i64 0] 35)).alloc (.cells #[.int .i64 v,.int .i64 0] 35)) tr=W1 at *
 have hz1:w.heap.size+3<=W1.heap.size:=by have:=HF.out.z;simpa using this
 refine (R2.out T' A B ca cb W1 (HTN.out W1 hz1) HI.out HA.out hca HB.out hcb).mono ?_
 rintro e w2 ⟨rfl,hI,hf⟩
 have hfT:=gr hf HTS.out;replace HF:=h_ (HF.out.frm hf);replace HI:=h_ hI;replace HA:=h_ (HA.out.frm hfT);replace HB:=h_ (HB.out.frm hfT);clear hI;have hz2:w.heap.size+3<=w2.heap.size:=Nat.le_trans hz1 hf.size;clear hf hfT R2 CA
 rcases h2:rol m.t.s m.ru own other (2*v,2) with _|⟨xn,xd⟩
 ·have HRE:Hid (dblV m.t.s m.ru own other (v,o)=none):=HDV.out none h2
  clear h2 HDV;unfold exV
  simp only[Option.getD_none,Option.isSome_none]
  obtain⟨z0,c00,f00,c01,f01,z1,c10,f10,c11,f11,z2,c20,f20,c21,f21⟩:=HF.out.xf5
  go_wp2_with (fail)
  refine bodyPost_ret (v:=.tuple #[.agg #[.int .i64 0,.int .i64 0],.bool false]) (by simp[results,Tryz.results118,go_sem,c10,c11,z1,f10,f11]) rfl ?_
  rw[cw]
  refine RetMo.mkN HRE.out ?_ ?_
  ·refine MonI.less (T:=T') ?_ (fun k hk=>by rw[<- HTT.out];exact .inl hk) HSUB.out
   repeat (first|exact HI.out|refine MonI.alloc ?_ _|refine MonI.stored ?_ _ (by rw[<- HTT.out];exact aG 1 rfl (by omega)) (HNS.out 1))
  ·repeat (first|exact HF.out.f|refine Frm.alloc ?_ _|refine Frm.ownSet ?_ (by omega) _)
 focus
  have HVX:Hid (Val (sq m.t.s) ⟨xn,xd⟩):=HV2.out _ h2
  have HRE0:Hid (dblV m.t.s m.ru own other (v,o)=if bvr m.ru (v,o)=true then (bev m.t.s m.ru own other (v,o)).map fun y=>if ltE (sq m.t.s) y.1 (les (sq m.t.s) ⟨xn,xd⟩ (v,o)) then y.1 else les (sq m.t.s) ⟨xn,xd⟩ (v,o) else some (les (sq m.t.s) ⟨xn,xd⟩ (v,o))):=HDV.out _ h2
  have COM1:Hid (∀W:World,Calls Tryz.prog 166 #[.agg #[.int .i64 m.t.p,.int .i64 m.t.c,.int .i64 m.t.h,.int .i64 m.t.s],.agg #[.int .i64 xn,.int .i64 (xd:Int)],.agg #[.int .i64 v,.int .i64 0]] W fun e w'=>e = .returned (.int .i64 (cmpE (sq m.t.s) ⟨xn,xd⟩ ⟨v,0⟩))/\Below W.heap.size W w'):=fun W=>COM.out ⟨xn,xd⟩ ⟨v,0⟩ W HVX.out HVW.out
  have HCS:Hid ((cmpE (sq m.t.s) ⟨xn,xd⟩ ⟨v,0⟩<0)=(ltE (sq m.t.s) ⟨xn,xd⟩ ⟨v,0⟩=true)):=gR;have hcb1:=eh (sq m.t.s) ⟨xn,xd⟩ ⟨v,0⟩
  have HLES:Hid (les (sq m.t.s) ⟨xn,xd⟩ (v,o)=if ltE (sq m.t.s) ⟨xn,xd⟩ ⟨v,0⟩=true then ⟨xn,xd⟩ else ⟨v,0⟩):=rfl
  clear h2 HDV HV2;unfold exV
  simp only[Option.getD_some,Option.isSome_some]
  obtain⟨z0,c00,f00,c01,f01,z1,c10,f10,c11,f11,z2,c20,f20,c21,f21⟩:=HF.out.xf5
  go_wp2_with (fail)
  clear z0 c00 f00 c01 f01 z1 c10 f10 c11 f11 z2 c20 f20 c21 f21;replace HF:=h_ (HF.out.alloc (.cells #[.int .i64 (xn),.int .i64 ((xd:Int))] 35));replace HI:=h_ (HI.out.alloc (.cells #[.int .i64 (xn),.int .i64 ((xd:Int))] 35));replace HA:=h_ (HA.out.below ((Below.refl _ _).alloc (Nat.le_refl _) (.cells #[.int .i64 (xn),.int .i64 ((xd:Int))] 35)));replace HB:=h_ (HB.out.below ((Below.refl _ _).alloc (Nat.le_refl _) (.cells #[.int .i64 (xn),.int .i64 ((xd:Int))] 35)))
  have g0:((w2).alloc (.cells #[.int .i64 (xn),.int .i64 ((xd:Int))] 35)).cell? ⟨(w2).heap.size,0,none⟩=some (.int .i64 (xn)):=by simp[go_sem]
  have g1:((w2).alloc (.cells #[.int .i64 (xn),.int .i64 ((xd:Int))] 35)).cell? ⟨(w2).heap.size,1,none⟩=some (.int .i64 ((xd:Int))):=by simp[go_sem]
  have gz:(w2).heap.size<((w2).alloc (.cells #[.int .i64 (xn),.int .i64 ((xd:Int))] 35)).heap.size:=by simp
  generalize w2.alloc (.cells #[.int .i64 xn,.int .i64 (xd:Int)] 35)=X0 at *;generalize cmpE (sq m.t.s) ⟨xn,xd⟩ ⟨v,0⟩=cm at *
  by_cases hcm:cm<0
  focus
   obtain⟨ln,hln⟩:∃ln,ln=xn:=⟨_,rfl⟩
   obtain⟨ld,hld⟩:∃ld,ld=xd:=⟨_,rfl⟩
   have HREL:Hid (dblV m.t.s m.ru own other (v,o)=if bvr m.ru (v,o)=true then (bev m.t.s m.ru own other (v,o)).map fun y=>if ltE (sq m.t.s) y.1 ⟨ln,ld⟩ then y.1 else ⟨ln,ld⟩ else some ⟨ln,ld⟩):=by
    unfold Hid
    have e:les (sq m.t.s) ⟨xn,xd⟩ (v,o)=⟨xn,xd⟩:=by rw[HLES.out,if_pos (by rw[<- HCS.out];exact hcm)]
    rw[HRE0.out,e,hln,hld]
   have HVL:Hid (Val (sq m.t.s) ⟨ln,ld⟩):=by rw[hln,hld];exact HVX.out
   clear HRE0 HLES HCS;have e0:=HI.out.tb 0 _ rfl;have e1:=HI.out.tb 1 _ rfl;have e2:=HI.out.tb 2 _ rfl;have e3:=HI.out.tb 3 _ rfl;have r0:=HI.out.ra.tb 0 _ rfl;have r1:=HI.out.ra.tb 1 _ rfl;have r2:=HI.out.ra.tb 2 _ rfl;have r3:=HI.out.ra.tb 3 _ rfl;have hbm:=HI.out.ltB;have hbt:=HI.out.ra.ltB;obtain⟨z0,c00,f00,c01,f01,z1,c10,f10,c11,f11,z2,c20,f20,c21,f21⟩:=HF.out.xf5
   refine ?zc
  rotate_left
  focus
   obtain⟨ln,hln⟩:∃ln,ln=v:=⟨_,rfl⟩
   obtain⟨ld,hld⟩:∃ld:Nat,ld=0:=⟨_,rfl⟩;have dcm:=decide_eq_false hcm
   have HREL:Hid (dblV m.t.s m.ru own other (v,o)=if bvr m.ru (v,o)=true then (bev m.t.s m.ru own other (v,o)).map fun y=>if ltE (sq m.t.s) y.1 ⟨ln,ld⟩ then y.1 else ⟨ln,ld⟩ else some ⟨ln,ld⟩):=by
    unfold Hid
    have e:les (sq m.t.s) ⟨xn,xd⟩ (v,o)=⟨v,0⟩:=by rw[HLES.out,if_neg (by rw[<- HCS.out];exact hcm)]
    rw[HRE0.out,e,hln,hld]
   have HVL:Hid (Val (sq m.t.s) ⟨ln,ld⟩):=by rw[hln,hld];exact HVW.out
   have HLN:=h_ hln;have HLD:=h_ hld;clear HRE0 HLES HCS hln hld;have e0:=HI.out.tb 0 _ rfl;have e1:=HI.out.tb 1 _ rfl;have e2:=HI.out.tb 2 _ rfl;have e3:=HI.out.tb 3 _ rfl;have r0:=HI.out.ra.tb 0 _ rfl;have r1:=HI.out.ra.tb 1 _ rfl;have r2:=HI.out.ra.tb 2 _ rfl;have r3:=HI.out.ra.tb 3 _ rfl;have hbm:=HI.out.ltB;have hbt:=HI.out.ra.ltB;obtain⟨z0,c00,f00,c01,f01,z1,c10,f10,c11,f11,z2,c20,f20,c21,f21⟩:=HF.out.xf5
   refine ?zd
 rotate_left 2
 case' zc|zd=>
  first|refine ab (by kernel_rfl) (by kernel_rfl) ?_|refine ac (by kernel_rfl) (by kernel_rfl) ?_
  repeat (first|go_big_quiet_step ((go_at_call 166;exact more_call (COM1.out _)))|quiet_step ((go_at_call 166;exact more_call (COM1.out _))))
  refine wpQuiet_nil ?_
  intro _ hw'
 case' zc=>
  obtain⟨tr,hw''⟩:=hw';subst hw'';clear z0 c00 f00 c01 f01 z1 c10 f10 c11 f11 z2 c20 f20 c21 f21;clear e0 e1 e2 e3 r0 r1 r2 r3 hbm hbt;replace HF:=h_ (HF.out.more tr);replace HI:=h_ (HI.out.below (aa _ tr));replace HA:=h_ (HA.out.below (aa _ tr));replace HB:=h_ (HB.out.below (aa _ tr));replace g0:=keep_cell g0 (aa _ tr);replace g1:=keep_cell g1 (aa _ tr);replace gz:=Nat.lt_of_lt_of_le gz (ae _ tr);generalize more X0 tr=Y0 at *;clear COM1 hcm hcb1;obtain⟨z0,c00,f00,c01,f01,z1,c10,f10,c11,f11,z2,c20,f20,c21,f21⟩:=HF.out.xf5
  go_wp2_with (fail)
  clear z0 c00 f00 c01 f01 z1 c10 f10 c11 f11 z2 c20 f20 c21 f21;replace HF:=h_ ((HF.out.set 2 0 rfl rfl (.int .i64 xn)).set 2 1 rfl rfl (.int .i64 (xd:Int)))
  have hTb:T' (w.heap.size+2):=by rw[<- HTT.out];exact aG 2 rfl (by omega)
  have hfo:∀(X:World) (j:Nat) (u:Value),Frm T' X (X.setCell ⟨w.heap.size+2,j,none⟩ u):=fun X j u=>(Frm.set X (w.heap.size+2) j u).mono fun x hx=>by rw[hx];exact hTb
  replace HI:=h_ ((HI.out.stored (i:=0) (.int .i64 xn) hTb (HNS.out 2)).stored (i:=1) (.int .i64 (xd:Int)) hTb (HNS.out 2));replace HA:=h_ ((HA.out.frm (hfo _ 0 (.int .i64 xn))).frm (hfo _ 1 (.int .i64 (xd:Int))));replace HB:=h_ ((HB.out.frm (hfo _ 0 (.int .i64 xn))).frm (hfo _ 1 (.int .i64 (xd:Int))));clear hTb hfo g0 g1 gz;generalize (Y0.setCell ⟨w.heap.size+2,0,none⟩ (.int .i64 xn)).setCell ⟨w.heap.size+2,1,none⟩ (.int .i64 (xd:Int))=X at *
  replace HF:Hid (FrS m.S w X [[.int .i64 v,.int .i64 o],[.int .i64 0,.int .i64 0],[.int .i64 ln,.int .i64 (ld:Int)]]):=by rw[hln,hld];exact HF.out
  clear hln hld;obtain⟨z0,c00,f00,c01,f01,z1,c10,f10,c11,f11,z2,c20,f20,c21,f21⟩:=HF.out.xf5;have e0:=HI.out.tb 0 _ rfl;have e1:=HI.out.tb 1 _ rfl;have e2:=HI.out.tb 2 _ rfl;have e3:=HI.out.tb 3 _ rfl;have r0:=HI.out.ra.tb 0 _ rfl;have r1:=HI.out.ra.tb 1 _ rfl;have r2:=HI.out.ra.tb 2 _ rfl;have r3:=HI.out.ra.tb 3 _ rfl;have hbm:=HI.out.ltB;have hbt:=HI.out.ra.ltB
 case' zd=>
  obtain⟨tr,hw''⟩:=hw';subst hw'';clear z0 c00 f00 c01 f01 z1 c10 f10 c11 f11 z2 c20 f20 c21 f21;clear e0 e1 e2 e3 r0 r1 r2 r3 hbm hbt;replace HF:=h_ (HF.out.more tr);replace HI:=h_ (HI.out.below (aa _ tr));replace HA:=h_ (HA.out.below (aa _ tr));replace HB:=h_ (HB.out.below (aa _ tr));replace g0:=keep_cell g0 (aa _ tr);replace g1:=keep_cell g1 (aa _ tr);replace gz:=Nat.lt_of_lt_of_le gz (ae _ tr);generalize more X0 tr=Y0 at *;clear COM1 hcb1 hcm;obtain⟨z0,c00,f00,c01,f01,z1,c10,f10,c11,f11,z2,c20,f20,c21,f21⟩:=HF.out.xf5
  go_wp2_with (fail)
  clear z0 c00 f00 c01 f01 z1 c10 f10 c11 f11 z2 c20 f20 c21 f21;clear g0 g1 gz dcm;generalize Y0=X at *
  replace HF:Hid (FrS m.S w X [[.int .i64 v,.int .i64 o],[.int .i64 0,.int .i64 0],[.int .i64 ln,.int .i64 (ld:Int)]]):=by rw[HLN.out,HLD.out];exact HF.out
  clear HLN HLD;obtain⟨z0,c00,f00,c01,f01,z1,c10,f10,c11,f11,z2,c20,f20,c21,f21⟩:=HF.out.xf5;have e0:=HI.out.tb 0 _ rfl;have e1:=HI.out.tb 1 _ rfl;have e2:=HI.out.tb 2 _ rfl;have e3:=HI.out.tb 3 _ rfl;have r0:=HI.out.ra.tb 0 _ rfl;have r1:=HI.out.ra.tb 1 _ rfl;have r2:=HI.out.ra.tb 2 _ rfl;have r3:=HI.out.ra.tb 3 _ rfl;have hbm:=HI.out.ltB;have hbt:=HI.out.ra.ltB
 case zc|zd=>
  first|refine ab (by kernel_rfl) (by kernel_rfl) ?_|refine ac (by kernel_rfl) (by kernel_rfl) ?_
  repeat (first|go_big_quiet_step ((go_at_call 128;exact more_call (HPO.out _)))|quiet_step ((go_at_call 128;exact more_call (HPO.out _))))
  refine wpQuiet_nil ?_
  intro _ hw'
  obtain⟨tr,hw''⟩:=hw';subst hw'';clear z0 c00 f00 c01 f01 z1 c10 f10 c11 f11 z2 c20 f20 c21 f21;clear e0 e1 e2 e3 r0 r1 r2 r3 hbm hbt;replace HF:=h_ (HF.out.more tr);replace HI:=h_ (HI.out.below (aa _ tr));replace HA:=h_ (HA.out.below (aa _ tr));replace HB:=h_ (HB.out.below (aa _ tr));generalize more X tr=Y at *
  rcases hbv:bvr m.ru (v,o) with _|_
  ·have HRE:Hid (dblV m.t.s m.ru own other (v,o)=some ⟨ln,ld⟩):=by unfold Hid;rw[HREL.out,hbv];rfl
   clear hbv HREL HBV;obtain⟨z0,c00,f00,c01,f01,z1,c10,f10,c11,f11,z2,c20,f20,c21,f21⟩:=HF.out.xf5
   go_wp2_with (fail)
   refine bodyPost_ret (v:=.tuple #[.agg #[.int .i64 ln,.int .i64 (ld:Int)],.bool true]) (by simp[results,Tryz.results118,go_sem,c10,c11,z1,f10,f11]) rfl ?_
   rw[cw]
   refine RetMo.mkY HRE.out ?_ ?_
   ·refine MonI.less (T:=T') ?_ (fun k hk=>by rw[<- HTT.out];exact .inl hk) HSUB.out
    repeat (first|exact HI.out|refine MonI.alloc ?_ _|refine MonI.stored ?_ _ (by rw[<- HTT.out];exact aG 1 rfl (by omega)) (HNS.out 1))
   ·repeat (first|exact HF.out.f|refine Frm.alloc ?_ _|refine Frm.ownSet ?_ (by omega) _)
  ·have HRE0:Hid (∀z,bev m.t.s m.ru own other (v,o)=z->dblV m.t.s m.ru own other (v,o)=z.map fun y=>if ltE (sq m.t.s) y.1 ⟨ln,ld⟩ then y.1 else ⟨ln,ld⟩):=fun z hz=>by rw[HREL.out,hbv,<- hz];rfl
   have BV:=h_ (HBV.out hbv);clear hbv HREL HBV
   have hz3:w.heap.size+3<=Y.heap.size:=by have:=HF.out.z;simpa using this
   obtain⟨z0,c00,f00,c01,f01,z1,c10,f10,c11,f11,z2,c20,f20,c21,f21⟩:=HF.out.xf5
   go_wp2_with (fail)
   clear z0 c00 f00 c01 f01 z1 c10 f10 c11 f11 z2 c20 f20 c21 f21
   refine (BV.out T' A B ca cb Y (HTN.out Y hz3) HI.out HA.out hca HB.out hcb).mono ?_
   rintro e w4 ⟨hI,hf,hret⟩
   have hfT:=gr hf HTS.out;replace HF:=h_ (HF.out.frm hf);replace HI:=h_ hI;replace HA:=h_ (HA.out.frm hfT);replace HB:=h_ (HB.out.frm hfT);clear hI;have hz4:w.heap.size+3<=w4.heap.size:=Nat.le_trans hz3 hf.size;clear hf hfT BV
   rcases h8:bev m.t.s m.ru own other (v,o) with _|⟨⟨yn,yd⟩,yb⟩
   ·have HRE:Hid (dblV m.t.s m.ru own other (v,o)=none):=HRE0.out none h8
    rw[h8]at hret;obtain⟨ya,rfl⟩:=hret;clear h8 HRE0;obtain⟨z0,c00,f00,c01,f01,z1,c10,f10,c11,f11,z2,c20,f20,c21,f21⟩:=HF.out.xf5
    go_wp2_with (fail)
    refine bodyPost_ret (v:=.tuple #[.agg #[.int .i64 0,.int .i64 0],.bool false]) (by simp[results,Tryz.results118,go_sem,c10,c11,z1,f10,f11]) rfl ?_
    rw[cw]
    refine RetMo.mkN HRE.out ?_ ?_
    ·refine MonI.less (T:=T') ?_ (fun k hk=>by rw[<- HTT.out];exact .inl hk) HSUB.out
     repeat (first|exact HI.out|refine MonI.alloc ?_ _|refine MonI.stored ?_ _ (by rw[<- HTT.out];exact aG 1 rfl (by omega)) (HNS.out 1))
    ·repeat (first|exact HF.out.f|refine Frm.alloc ?_ _|refine Frm.ownSet ?_ (by omega) _)
   ·have HVY:Hid (Val (sq m.t.s) ⟨yn,yd⟩):=HBVV.out _ h8
    have HRE1:Hid (dblV m.t.s m.ru own other (v,o)=some (if ltE (sq m.t.s) ⟨yn,yd⟩ ⟨ln,ld⟩ then ⟨yn,yd⟩ else ⟨ln,ld⟩)):=HRE0.out _ h8
    have COM2:=h_ fun (W:World)=>COM.out ⟨yn,yd⟩ ⟨ln,ld⟩ W HVY.out HVL.out
    have HCS:Hid ((cmpE (sq m.t.s) ⟨yn,yd⟩ ⟨ln,ld⟩<0)=(ltE (sq m.t.s) ⟨yn,yd⟩ ⟨ln,ld⟩=true)):=gR;have hcb1:=eh (sq m.t.s) ⟨yn,yd⟩ ⟨ln,ld⟩;rw[h8]at hret
    obtain⟨ya,hya⟩:∃ya:Int,ya=(if yb then 4 else 3):=⟨_,rfl⟩
    simp only at hret
    rw[<- hya]at hret;subst hret;clear h8 HRE0 COM hya;obtain⟨z0,c00,f00,c01,f01,z1,c10,f10,c11,f11,z2,c20,f20,c21,f21⟩:=HF.out.xf5
    go_wp2_with (fail)
    clear z0 c00 f00 c01 f01 z1 c10 f10 c11 f11 z2 c20 f20 c21 f21;replace HF:=h_ (HF.out.alloc (.cells #[.int .i64 (yn),.int .i64 ((yd:Int))] 35));replace HI:=h_ (HI.out.alloc (.cells #[.int .i64 (yn),.int .i64 ((yd:Int))] 35));replace HA:=h_ (HA.out.below ((Below.refl _ _).alloc (Nat.le_refl _) (.cells #[.int .i64 (yn),.int .i64 ((yd:Int))] 35)));replace HB:=h_ (HB.out.below ((Below.refl _ _).alloc (Nat.le_refl _) (.cells #[.int .i64 (yn),.int .i64 ((yd:Int))] 35)))
    have y0:((w4).alloc (.cells #[.int .i64 (yn),.int .i64 ((yd:Int))] 35)).cell? ⟨(w4).heap.size,0,none⟩=some (.int .i64 (yn)):=by simp[go_sem]
    have y1:((w4).alloc (.cells #[.int .i64 (yn),.int .i64 ((yd:Int))] 35)).cell? ⟨(w4).heap.size,1,none⟩=some (.int .i64 ((yd:Int))):=by simp[go_sem]
    have yz:(w4).heap.size<((w4).alloc (.cells #[.int .i64 (yn),.int .i64 ((yd:Int))] 35)).heap.size:=by simp
    generalize w4.alloc (.cells #[.int .i64 yn,.int .i64 (yd:Int)] 35)=X2 at *;generalize cmpE (sq m.t.s) ⟨yn,yd⟩ ⟨ln,ld⟩=cm at *
    by_cases hcm:cm<0
    ·have HRE:Hid (dblV m.t.s m.ru own other (v,o)=some ⟨yn,yd⟩):=by
      unfold Hid
      rw[HRE1.out,if_pos (by rw[<- HCS.out];exact hcm)]
     clear HRE1 HCS;have e0:=HI.out.tb 0 _ rfl;have e1:=HI.out.tb 1 _ rfl;have e2:=HI.out.tb 2 _ rfl;have e3:=HI.out.tb 3 _ rfl;have r0:=HI.out.ra.tb 0 _ rfl;have r1:=HI.out.ra.tb 1 _ rfl;have r2:=HI.out.ra.tb 2 _ rfl;have r3:=HI.out.ra.tb 3 _ rfl;have hbm:=HI.out.ltB;have hbt:=HI.out.ra.ltB;obtain⟨z0,c00,f00,c01,f01,z1,c10,f10,c11,f11,z2,c20,f20,c21,f21⟩:=HF.out.xf5
     first|refine ab (by kernel_rfl) (by kernel_rfl) ?_|refine ac (by kernel_rfl) (by kernel_rfl) ?_
     repeat (first|go_big_quiet_step ((go_at_call 166;exact more_call (COM2.out _)))|quiet_step ((go_at_call 166;exact more_call (COM2.out _))))
     refine wpQuiet_nil ?_
     intro _ hw'
     obtain⟨tr,hw''⟩:=hw';subst hw'';clear z0 c00 f00 c01 f01 z1 c10 f10 c11 f11 z2 c20 f20 c21 f21;clear e0 e1 e2 e3 r0 r1 r2 r3 hbm hbt;replace HF:=h_ (HF.out.more tr);replace HI:=h_ (HI.out.below (aa _ tr));replace HA:=h_ (HA.out.below (aa _ tr));replace HB:=h_ (HB.out.below (aa _ tr));replace y0:=keep_cell y0 (aa _ tr);replace y1:=keep_cell y1 (aa _ tr);replace yz:=Nat.lt_of_lt_of_le yz (ae _ tr);generalize more X2 tr=Y2 at *;obtain⟨z0,c00,f00,c01,f01,z1,c10,f10,c11,f11,z2,c20,f20,c21,f21⟩:=HF.out.xf5
     go_wp2_with (fail)
     refine bodyPost_ret (v:=.tuple #[.agg #[.int .i64 yn,.int .i64 (yd:Int)],.bool true]) (by simp[results,Tryz.results118,go_sem,c10,c11,z1,f10,f11]) rfl ?_
     rw[cw]
     refine RetMo.mkY HRE.out ?_ ?_
     ·refine MonI.less (T:=T') ?_ (fun k hk=>by rw[<- HTT.out];exact .inl hk) HSUB.out
      repeat (first|exact HI.out|refine MonI.alloc ?_ _|refine MonI.stored ?_ _ (by rw[<- HTT.out];exact aG 1 rfl (by omega)) (HNS.out 1)|refine MonI.stored ?_ _ (by rw[<- HTT.out];exact aG 2 rfl (by omega)) (HNS.out 2))
     ·repeat (first|exact HF.out.f|refine Frm.alloc ?_ _|refine Frm.ownSet ?_ (by omega) _)
    ·have HRE:Hid (dblV m.t.s m.ru own other (v,o)=some ⟨ln,ld⟩):=by
      unfold Hid
      rw[HRE1.out,if_neg (by rw[<- HCS.out];exact hcm)]
     have dcm:=decide_eq_false hcm;clear HRE1 HCS;have e0:=HI.out.tb 0 _ rfl;have e1:=HI.out.tb 1 _ rfl;have e2:=HI.out.tb 2 _ rfl;have e3:=HI.out.tb 3 _ rfl;have r0:=HI.out.ra.tb 0 _ rfl;have r1:=HI.out.ra.tb 1 _ rfl;have r2:=HI.out.ra.tb 2 _ rfl;have r3:=HI.out.ra.tb 3 _ rfl;have hbm:=HI.out.ltB;have hbt:=HI.out.ra.ltB;obtain⟨z0,c00,f00,c01,f01,z1,c10,f10,c11,f11,z2,c20,f20,c21,f21⟩:=HF.out.xf5
     first|refine ab (by kernel_rfl) (by kernel_rfl) ?_|refine ac (by kernel_rfl) (by kernel_rfl) ?_
     repeat (first|go_big_quiet_step ((go_at_call 166;exact more_call (COM2.out _)))|quiet_step ((go_at_call 166;exact more_call (COM2.out _))))
     refine wpQuiet_nil ?_
     intro _ hw'
     obtain⟨tr,hw''⟩:=hw';subst hw'';clear z0 c00 f00 c01 f01 z1 c10 f10 c11 f11 z2 c20 f20 c21 f21;clear e0 e1 e2 e3 r0 r1 r2 r3 hbm hbt;replace HF:=h_ (HF.out.more tr);replace HI:=h_ (HI.out.below (aa _ tr));replace HA:=h_ (HA.out.below (aa _ tr));replace HB:=h_ (HB.out.below (aa _ tr));replace y0:=keep_cell y0 (aa _ tr);replace y1:=keep_cell y1 (aa _ tr);replace yz:=Nat.lt_of_lt_of_le yz (ae _ tr);generalize more X2 tr=Y2 at *;obtain⟨z0,c00,f00,c01,f01,z1,c10,f10,c11,f11,z2,c20,f20,c21,f21⟩:=HF.out.xf5
     go_wp2_with (fail)
     refine bodyPost_ret (v:=.tuple #[.agg #[.int .i64 ln,.int .i64 (ld:Int)],.bool true]) (by simp[results,Tryz.results118,go_sem,c10,c11,z1,f10,f11]) rfl ?_
     rw[cw]
     refine RetMo.mkY HRE.out ?_ ?_
     ·refine MonI.less (T:=T') ?_ (fun k hk=>by rw[<- HTT.out];exact .inl hk) HSUB.out
      repeat (first|exact HI.out|refine MonI.alloc ?_ _|refine MonI.stored ?_ _ (by rw[<- HTT.out];exact aG 1 rfl (by omega)) (HNS.out 1))
     ·repeat (first|exact HF.out.f|refine Frm.alloc ?_ _|refine Frm.ownSet ?_ (by omega) _)
end Go.Proofs.YtkaiilmgemaljaaGreat

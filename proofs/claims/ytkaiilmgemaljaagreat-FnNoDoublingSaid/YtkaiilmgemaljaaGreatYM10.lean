/- Part of one proof. There are no conditions. -/
import Derived.Test.YtkaiilmgemaljaaGreatYM9
set_option maxHeartbeats 0
set_option linter.unusedVariables false
set_option linter.unusedSimpArgs false
set_option maxRecDepth 100000
namespace Go.Proofs.YtkaiilmgemaljaaGreat
open Go.RowKit Ps Ra Ex Go.Maps Mo
theorem gt {m:MT} {T:Nat->Prop} {w w':World} (h:Frm m.S w w') (hs:∀k,m.S k->T k):Frm T w w':=h.mono hs
theorem up4 {K:Nat} {v o:Int} {b:Bool} (hc:CbOk K (v,o)) (h:bvr ⟨two K,b⟩ (v,o)=true):CbOk K (4*v,2):=by
 unfold bvr at h
 simp only[Bool.and_eq_true]at h
 exact hc.up (j:=2) (by omega) (of_decide_eq_true h.2)
theorem up8 {K:Nat} {v o:Int} {b:Bool} (hc:CbOk K (v,o)) (h:rcn ⟨two K,b⟩ (v,o)=true):CbOk K (8*v,2):=by
 unfold rcn at h
 simp only[Bool.and_eq_true]at h
 exact hc.up (j:=3) (by omega) (of_decide_eq_true h.2)
theorem up2 {K:Nat} {v o:Int} {b:Bool} (hc:CbOk K (v,o)) (h:may ⟨two K,b⟩ (v,o)=true):CbOk K (2*v,2):=by
 have h':=of_decide_eq_true h
 exact hc.up (j:=1) (by omega) h'.2
theorem beaver_any (m:MT) (hm:m.Ok) {own other:List Int} {c:Cb} (hc:CbOk m.K c) (hbv:bvr m.ru c=true) (hR:∀c,CbOk m.K c->RolC m own other c):BevC m own other c:=by
 intro T A B ca cb w hT hI hA hca hB hcb
 obtain⟨v,o⟩:=c;have hv:=ak hm.t.v
 have hs1:1<=m.t.s:=by omega
 have hs6:m.t.s<=6:=by omega
 obtain⟨hq1,hq36,_⟩:=sq_bd hs1 hs6;have hcv:1<=v/\v<=1024/\0<=o/\o<=2:=hc.v1 hm.k;have R4:=h_ (hR _ (up4 hc hbv))
 have R8:Hid (rcn m.ru (v,o)=true->RolC m own other (8*v,2)):=fun h=>hR _ (up8 hc h)
 have HBV:Hid (∀x,rol m.t.s m.ru own other (4*v,2)=x->bev m.t.s m.ru own other (v,o)=x.bind fun x=>if rcn m.ru (v,o) then (rol m.t.s m.ru own other (8*v,2)).map fun y=>if ltE (sq m.t.s) x y then (y,true) else (x,false) else some (x,false)):=fun x hx=>by unfold bev bevG;rw[hx]
 have HV4:Hid (∀e,rol m.t.s m.ru own other (4*v,2)=some e->Val (sq m.t.s) e):=fun e h=>eA hq1 h
 have HV8:Hid (∀e,rol m.t.s m.ru own other (8*v,2)=some e->Val (sq m.t.s) e):=fun e h=>eA hq1 h
 have hlow:=hI.ltS;have HSUB:=h_ hI.sub
 have HNS:Hid (∀j,¬m.S (w.heap.size+j)):=fun j h=>by have:=hlow _ h;omega
 have hb0:Below w.heap.size w ((w.alloc (.cells #[.int .i64 v,.int .i64 o] 55)).alloc (.cells #[.int .i64 0,.int .i64 0] 35)):=((Below.refl _ _).alloc (Nat.le_refl _) _).alloc (by simp) _
 have HF:Hid (FrS m.S w ((w.alloc (.cells #[.int .i64 v,.int .i64 o] 55)).alloc (.cells #[.int .i64 0,.int .i64 0] 35)) [[.int .i64 v,.int .i64 o],[.int .i64 0,.int .i64 0]]):=((FrS.start w hlow).allocT (by simp) _ _).allocT (by simp) _ _
 have HI:=h_ ((hI.wide 2).below hb0);have HA:=h_ ((hA.wide 2).below hb0);have HB:=h_ ((hB.wide 2).below hb0)
 have HTN:Hid (∀W:World,w.heap.size+2<=W.heap.size->∀k,W.heap.size<=k->¬ownT T w 2 k):=fun W hz=>ce hT hz
 have HPO:=h_ fun (W:World)=>dw (two m.K) m.bv m.jc v o 4 W (by omega) (by omega)
 have hrc:posA ⟨two m.K,m.bv⟩ (v,o) 4=rcn m.ru (v,o):=rfl
 have CA3:=h_ fun (W:World)=>eo v o 3 W (by omega) (by omega)
 have CA4:=h_ fun (W:World)=>eo v o 4 W (by omega) (by omega)
 rw[hrc]at HPO
 have COM:=h_ fun (x y:E) (W:World) (hx:Val (sq m.t.s) x) (hy:Val (sq m.t.s) y)=>bI m.t.p m.t.c m.t.h x.num y.num m.t.s x.depth y.depth W hs1 hs6 hx hy
 clear hT hI hA hB hv hm hR hc hbv hb0 hlow hrc;generalize hTT:ownT T w 2=T' at *;replace hTT:=h_ hTT;have HTT:=hTT;have HTS:Hid (∀k,m.S k->T' k):=HI.out.sub;clear hTT;generalize rcn m.ru (v,o)=rc at *
 go_enter Tryz.func198,Tryz.ntmps198
 go_wp2_with (go_at_call 197;(with_reducible refine (more_first (CA3.out _)).mono ?_);rintro e w' ⟨rfl,tr,rfl⟩)
 replace HF:=h_ (HF.out.more tr);replace HI:=h_ (HI.out.below (aa _ tr));replace HA:=h_ (HA.out.below (aa _ tr));replace HB:=h_ (HB.out.below (aa _ tr));generalize more ((w.alloc (.cells #[.int .i64 v,.int .i64 o] 55)).alloc (.cells #[.int .i64 0,.int .i64 0] 35)) tr=W1 at *
 have hz1:w.heap.size+2<=W1.heap.size:=by have:=HF.out.z;simpa using this
 refine (R4.out T' A B ca cb W1 (HTN.out W1 hz1) HI.out HA.out hca HB.out hcb).mono ?_
 rintro e w2 ⟨rfl,hI,hf⟩
 have hfT:=gt hf HTS.out;replace HF:=h_ (HF.out.frm hf);replace HI:=h_ hI;replace HA:=h_ (HA.out.frm hfT);replace HB:=h_ (HB.out.frm hfT);clear hI;have hz2:w.heap.size+2<=w2.heap.size:=Nat.le_trans hz1 hf.size;clear hf hfT R4 CA3
 rcases h4:rol m.t.s m.ru own other (4*v,2) with _|⟨xn,xd⟩
 focus
  have HRE:Hid (bev m.t.s m.ru own other (v,o)=none):=HBV.out none h4
  clear h4 HBV;unfold exV
  refine ?zm
 rotate_left
 focus
  have HVX:Hid (Val (sq m.t.s) ⟨xn,xd⟩):=HV4.out _ h4
  have HRE0:Hid (bev m.t.s m.ru own other (v,o)=if rc=true then (rol m.t.s m.ru own other (8*v,2)).map fun y=>if ltE (sq m.t.s) ⟨xn,xd⟩ y then (y,true) else (⟨xn,xd⟩,false) else some (⟨xn,xd⟩,false)):=HBV.out _ h4
  clear h4 HBV HV4;unfold exV
  simp only[Option.getD_some,Option.isSome_some]
  obtain⟨z0,c00,f00,c01,f01,z1,c10,f10,c11,f11⟩:=HF.out.xf4
  go_wp2_with (fail)
  clear z0 c00 f00 c01 f01 z1 c10 f10 c11 f11;replace HF:=h_ (HF.out.alloc (.cells #[.int .i64 (xn),.int .i64 ((xd:Int))] 35));replace HI:=h_ (HI.out.alloc (.cells #[.int .i64 (xn),.int .i64 ((xd:Int))] 35));replace HA:=h_ (HA.out.below ((Below.refl _ _).alloc (Nat.le_refl _) (.cells #[.int .i64 (xn),.int .i64 ((xd:Int))] 35)));replace HB:=h_ (HB.out.below ((Below.refl _ _).alloc (Nat.le_refl _) (.cells #[.int .i64 (xn),.int .i64 ((xd:Int))] 35)))
  have g0:((w2).alloc (.cells #[.int .i64 (xn),.int .i64 ((xd:Int))] 35)).cell? ⟨(w2).heap.size,0,none⟩=some (.int .i64 (xn)):=by simp[go_sem]
  have g1:((w2).alloc (.cells #[.int .i64 (xn),.int .i64 ((xd:Int))] 35)).cell? ⟨(w2).heap.size,1,none⟩=some (.int .i64 ((xd:Int))):=by simp[go_sem]
  have gz:(w2).heap.size<((w2).alloc (.cells #[.int .i64 (xn),.int .i64 ((xd:Int))] 35)).heap.size:=by simp
  generalize w2.alloc (.cells #[.int .i64 xn,.int .i64 (xd:Int)] 35)=X at *
  cases rc
  focus
   have HRE:Hid (bev m.t.s m.ru own other (v,o)=some (⟨xn,xd⟩,false)):=HRE0.out
   clear HRE0;have e0:=HI.out.tb 0 _ rfl;have e1:=HI.out.tb 1 _ rfl;have e2:=HI.out.tb 2 _ rfl;have e3:=HI.out.tb 3 _ rfl;have r0:=HI.out.ra.tb 0 _ rfl;have r1:=HI.out.ra.tb 1 _ rfl;have r2:=HI.out.ra.tb 2 _ rfl;have r3:=HI.out.ra.tb 3 _ rfl;have hbm:=HI.out.ltB;have hbt:=HI.out.ra.ltB;obtain⟨z0,c00,f00,c01,f01,z1,c10,f10,c11,f11⟩:=HF.out.xf4
   refine ?zc
  rotate_left
  focus
   have HRE1:Hid (∀z,rol m.t.s m.ru own other (8*v,2)=z->bev m.t.s m.ru own other (v,o)=z.map fun y=>if ltE (sq m.t.s) ⟨xn,xd⟩ y then (y,true) else (⟨xn,xd⟩,false)):=fun z hz=>by rw[HRE0.out,hz];rfl
   have R8':=h_ (R8.out rfl);clear HRE0 R8;have e0:=HI.out.tb 0 _ rfl;have e1:=HI.out.tb 1 _ rfl;have e2:=HI.out.tb 2 _ rfl;have e3:=HI.out.tb 3 _ rfl;have r0:=HI.out.ra.tb 0 _ rfl;have r1:=HI.out.ra.tb 1 _ rfl;have r2:=HI.out.ra.tb 2 _ rfl;have r3:=HI.out.ra.tb 3 _ rfl;have hbm:=HI.out.ltB;have hbt:=HI.out.ra.ltB;obtain⟨z0,c00,f00,c01,f01,z1,c10,f10,c11,f11⟩:=HF.out.xf4
   refine ?zd
 rotate_left 2
 case' zc|zd=>
  first|refine ac (by kernel_rfl) (by kernel_rfl) ?_|refine ad (by kernel_rfl) (by kernel_rfl) ?_
  repeat (first|go_big_quiet_step ((go_at_call 128;exact more_call (HPO.out _)))|quiet_step ((go_at_call 128;exact more_call (HPO.out _))))
  refine wpQuiet_nil ?_
  intro _ hw'
  obtain⟨tr,hw''⟩:=hw';subst hw'';clear z0 c00 f00 c01 f01 z1 c10 f10 c11 f11;clear e0 e1 e2 e3 r0 r1 r2 r3 hbm hbt;replace HF:=h_ (HF.out.more tr);replace HI:=h_ (HI.out.below (aa _ tr));replace HA:=h_ (HA.out.below (aa _ tr));replace HB:=h_ (HB.out.below (aa _ tr));replace g0:=ab g0 (aa _ tr);replace g1:=ab g1 (aa _ tr);replace gz:=Nat.lt_of_lt_of_le gz (aj _ tr);generalize more X tr=Y at *;obtain⟨z0,c00,f00,c01,f01,z1,c10,f10,c11,f11⟩:=HF.out.xf4
 case' zd=>
  go_wp2_with (go_at_call 197;(with_reducible refine (more_first (CA4.out _)).mono ?_);rintro e w' ⟨rfl,tr,rfl⟩)
  clear z0 c00 f00 c01 f01 z1 c10 f10 c11 f11;replace HF:=h_ (HF.out.more tr);replace HI:=h_ (HI.out.below (aa _ tr));replace HA:=h_ (HA.out.below (aa _ tr));replace HB:=h_ (HB.out.below (aa _ tr));replace g0:=ab g0 (aa _ tr);replace g1:=ab g1 (aa _ tr);replace gz:=Nat.lt_of_lt_of_le gz (aj _ tr);generalize more Y tr=Z at *
  have hz3:w.heap.size+2<=Z.heap.size:=by have:=HF.out.z;simpa using this
  have hgS:¬m.S w2.heap.size:=fun h=>by have:=HF.out.low _ h;omega
  refine (R8'.out T' A B ca cb Z (HTN.out Z hz3) HI.out HA.out hca HB.out hcb).mono ?_
  rintro e w4 ⟨rfl,hI,hf⟩
  have hfT:=gt hf HTS.out;replace HF:=h_ (HF.out.frm hf);replace HI:=h_ hI;replace HA:=h_ (HA.out.frm hfT);replace HB:=h_ (HB.out.frm hfT);clear hI;replace g0:=hf.cell' g0 hgS;replace g1:=hf.cell' g1 hgS;have hz4:Z.heap.size<=w4.heap.size:=hf.size;replace gz:=Nat.lt_of_lt_of_le gz hf.size
  have gn:¬w2.heap.size=w4.heap.size:=by omega
  clear hf hfT R8' CA4 HPO
  rcases h8:rol m.t.s m.ru own other (8*v,2) with _|⟨yn,yd⟩
  focus
   have HRE:Hid (bev m.t.s m.ru own other (v,o)=none):=HRE1.out none h8
   clear h8 HRE1;unfold exV
   refine ?zn
  rotate_left
  focus
   have HVY:Hid (Val (sq m.t.s) ⟨yn,yd⟩):=HV8.out _ h8
   have HRE0:Hid (bev m.t.s m.ru own other (v,o)=some (if ltE (sq m.t.s) ⟨xn,xd⟩ ⟨yn,yd⟩ then (⟨yn,yd⟩,true) else (⟨xn,xd⟩,false))):=HRE1.out _ h8
   have COM2:=h_ fun (W:World)=>COM.out ⟨yn,yd⟩ ⟨xn,xd⟩ W HVY.out HVX.out
   have HCS:Hid ((0<cmpE (sq m.t.s) ⟨yn,yd⟩ ⟨xn,xd⟩)=(ltE (sq m.t.s) ⟨xn,xd⟩ ⟨yn,yd⟩=true)):=dy;have hcb1:=dz (sq m.t.s) ⟨yn,yd⟩ ⟨xn,xd⟩;clear h8 HRE1 COM HV8;unfold exV
   simp only[Option.getD_some,Option.isSome_some]
   obtain⟨z0,c00,f00,c01,f01,z1,c10,f10,c11,f11⟩:=HF.out.xf4
   go_wp2_with (fail)
   clear z0 c00 f00 c01 f01 z1 c10 f10 c11 f11;replace HF:=h_ (HF.out.alloc (.cells #[.int .i64 (yn),.int .i64 ((yd:Int))] 35));replace HI:=h_ (HI.out.alloc (.cells #[.int .i64 (yn),.int .i64 ((yd:Int))] 35));replace HA:=h_ (HA.out.below ((Below.refl _ _).alloc (Nat.le_refl _) (.cells #[.int .i64 (yn),.int .i64 ((yd:Int))] 35)));replace HB:=h_ (HB.out.below ((Below.refl _ _).alloc (Nat.le_refl _) (.cells #[.int .i64 (yn),.int .i64 ((yd:Int))] 35)))
   have y0:((w4).alloc (.cells #[.int .i64 (yn),.int .i64 ((yd:Int))] 35)).cell? ⟨(w4).heap.size,0,none⟩=some (.int .i64 (yn)):=by simp[go_sem]
   have y1:((w4).alloc (.cells #[.int .i64 (yn),.int .i64 ((yd:Int))] 35)).cell? ⟨(w4).heap.size,1,none⟩=some (.int .i64 ((yd:Int))):=by simp[go_sem]
   have yz:(w4).heap.size<((w4).alloc (.cells #[.int .i64 (yn),.int .i64 ((yd:Int))] 35)).heap.size:=by simp
   replace g0:=ab g0 ((Below.refl _ _).alloc (Nat.le_refl _) (.cells #[.int .i64 yn,.int .i64 (yd:Int)] 35));replace g1:=ab g1 ((Below.refl _ _).alloc (Nat.le_refl _) (.cells #[.int .i64 yn,.int .i64 (yd:Int)] 35))
   replace gz:w2.heap.size<(w4.alloc (.cells #[.int .i64 yn,.int .i64 (yd:Int)] 35)).heap.size:=Nat.lt_of_lt_of_le gz (by simp)
   generalize w4.alloc (.cells #[.int .i64 yn,.int .i64 (yd:Int)] 35)=X2 at *;generalize cmpE (sq m.t.s) ⟨yn,yd⟩ ⟨xn,xd⟩=cm at *
   by_cases hcm:0<cm
   focus
    have HRE:Hid (bev m.t.s m.ru own other (v,o)=some (⟨yn,yd⟩,true)):=by
     unfold Hid
     rw[HRE0.out,if_pos (by rw[<- HCS.out];exact hcm)]
    clear HRE0 HCS;have e0:=HI.out.tb 0 _ rfl;have e1:=HI.out.tb 1 _ rfl;have e2:=HI.out.tb 2 _ rfl;have e3:=HI.out.tb 3 _ rfl;have r0:=HI.out.ra.tb 0 _ rfl;have r1:=HI.out.ra.tb 1 _ rfl;have r2:=HI.out.ra.tb 2 _ rfl;have r3:=HI.out.ra.tb 3 _ rfl;have hbm:=HI.out.ltB;have hbt:=HI.out.ra.ltB;obtain⟨z0,c00,f00,c01,f01,z1,c10,f10,c11,f11⟩:=HF.out.xf4
    refine ?za
   rotate_left
   focus
    have HRE:Hid (bev m.t.s m.ru own other (v,o)=some (⟨xn,xd⟩,false)):=by
     unfold Hid
     rw[HRE0.out,if_neg (by rw[<- HCS.out];exact hcm)]
    have dcm:=decide_eq_false hcm;clear HRE0 HCS;have e0:=HI.out.tb 0 _ rfl;have e1:=HI.out.tb 1 _ rfl;have e2:=HI.out.tb 2 _ rfl;have e3:=HI.out.tb 3 _ rfl;have r0:=HI.out.ra.tb 0 _ rfl;have r1:=HI.out.ra.tb 1 _ rfl;have r2:=HI.out.ra.tb 2 _ rfl;have r3:=HI.out.ra.tb 3 _ rfl;have hbm:=HI.out.ltB;have hbt:=HI.out.ra.ltB;obtain⟨z0,c00,f00,c01,f01,z1,c10,f10,c11,f11⟩:=HF.out.xf4
    refine ?zb
 case' za|zb=>
  first|refine ac (by kernel_rfl) (by kernel_rfl) ?_|refine ad (by kernel_rfl) (by kernel_rfl) ?_
  repeat (first|go_big_quiet_step ((go_at_call 166;exact more_call (COM2.out _)))|quiet_step ((go_at_call 166;exact more_call (COM2.out _))))
  refine wpQuiet_nil ?_
  intro _ hw'
  obtain⟨tr,hw''⟩:=hw';subst hw'';clear z0 c00 f00 c01 f01 z1 c10 f10 c11 f11;clear e0 e1 e2 e3 r0 r1 r2 r3 hbm hbt;replace HF:=h_ (HF.out.more tr);replace HI:=h_ (HI.out.below (aa _ tr));replace HA:=h_ (HA.out.below (aa _ tr));replace HB:=h_ (HB.out.below (aa _ tr));replace g0:=ab g0 (aa _ tr);replace g1:=ab g1 (aa _ tr);replace gz:=Nat.lt_of_lt_of_le gz (aj _ tr);replace y0:=ab y0 (aa _ tr);replace y1:=ab y1 (aa _ tr);replace yz:=Nat.lt_of_lt_of_le yz (aj _ tr);generalize more X2 tr=Y2 at *;obtain⟨z0,c00,f00,c01,f01,z1,c10,f10,c11,f11⟩:=HF.out.xf4
  go_wp2_with (fail)
 case' za=>
  refine bodyPost_ret (v:=.tuple #[.agg #[.int .i64 yn,.int .i64 (yd:Int)],.int .i64 4,.bool true]) (by simp[results,Tryz.results198,go_sem,c10,c11,z1,f10,f11]) rfl ?_
 case' zc=>
  go_wp2_with (fail)
 case' zc|zb=>
  refine bodyPost_ret (v:=.tuple #[.agg #[.int .i64 xn,.int .i64 (xd:Int)],.int .i64 3,.bool true]) (by simp[results,Tryz.results198,go_sem,c10,c11,z1,f10,f11]) rfl ?_
 case zc|za|zb=>
  rw[HRE.out]
  refine⟨?_,?_,rfl⟩
  ·refine MonI.less (T:=T') ?_ (fun k hk=>by rw[<- HTT.out];exact .inl hk) HSUB.out
   repeat (first|exact HI.out|refine MonI.alloc ?_ _|refine MonI.stored ?_ _ (by rw[<- HTT.out];exact aw 1 rfl (by omega)) (HNS.out 1))
  ·repeat (first|exact HF.out.f|refine Frm.alloc ?_ _|refine Frm.ownSet ?_ (by omega) _)
 case' zm|zn=>
  simp only[Option.getD_none,Option.isSome_none]
  obtain⟨z0,c00,f00,c01,f01,z1,c10,f10,c11,f11⟩:=HF.out.xf4
  go_wp2_with (fail)
 case' zm=>
  clear z0 c00 f00 c01 f01 z1 c10 f10 c11 f11;replace HF:=h_ (HF.out.alloc (.cells #[.int .i64 (0),.int .i64 (0)] 35));replace HI:=h_ (HI.out.alloc (.cells #[.int .i64 (0),.int .i64 (0)] 35));replace HA:=h_ (HA.out.below ((Below.refl _ _).alloc (Nat.le_refl _) (.cells #[.int .i64 (0),.int .i64 (0)] 35)));replace HB:=h_ (HB.out.below ((Below.refl _ _).alloc (Nat.le_refl _) (.cells #[.int .i64 (0),.int .i64 (0)] 35)))
  have g0:((w2).alloc (.cells #[.int .i64 (0),.int .i64 (0)] 35)).cell? ⟨(w2).heap.size,0,none⟩=some (.int .i64 (0)):=by simp[go_sem]
  have g1:((w2).alloc (.cells #[.int .i64 (0),.int .i64 (0)] 35)).cell? ⟨(w2).heap.size,1,none⟩=some (.int .i64 (0)):=by simp[go_sem]
  have gz:(w2).heap.size<((w2).alloc (.cells #[.int .i64 (0),.int .i64 (0)] 35)).heap.size:=by simp
  generalize w2.alloc (.cells #[.int .i64 0,.int .i64 0] 35)=X at *;obtain⟨z0,c00,f00,c01,f01,z1,c10,f10,c11,f11⟩:=HF.out.xf4
  first|refine ac (by kernel_rfl) (by kernel_rfl) ?_|refine ad (by kernel_rfl) (by kernel_rfl) ?_
  repeat (first|go_big_quiet_step (fail)|quiet_step (fail))
  refine wpQuiet_nil ?_
  intro _ hw'
  obtain⟨tr,hw''⟩:=hw';subst hw'';clear z0 c00 f00 c01 f01 z1 c10 f10 c11 f11;replace HF:=h_ (HF.out.more tr);replace HI:=h_ (HI.out.below (aa _ tr));replace HA:=h_ (HA.out.below (aa _ tr));replace HB:=h_ (HB.out.below (aa _ tr));replace g0:=ab g0 (aa _ tr);replace g1:=ab g1 (aa _ tr);replace gz:=Nat.lt_of_lt_of_le gz (aj _ tr);generalize more X tr=Y at *;obtain⟨z0,c00,f00,c01,f01,z1,c10,f10,c11,f11⟩:=HF.out.xf4
  go_wp2_with (fail)
  refine bodyPost_ret (v:=.tuple #[.agg #[.int .i64 0,.int .i64 0],.int .i64 3,.bool false]) (by simp[results,Tryz.results198,go_sem,c10,c11,z1,f10,f11]) rfl ?_
  rw[HRE.out]
  refine⟨?_,?_,3,rfl⟩
  rotate_left
  ·repeat (first|exact HF.out.f|refine Frm.alloc ?_ _|refine Frm.ownSet ?_ (by omega) _)
 case' zn=>
  refine bodyPost_ret (v:=.tuple #[.agg #[.int .i64 0,.int .i64 0],.int .i64 0,.bool false]) (by simp[results,Tryz.results198,go_sem,c10,c11,z1,f10,f11]) rfl ?_
  rw[HRE.out]
  refine⟨?_,?_,0,rfl⟩
  rotate_left
  ·repeat (first|exact HF.out.f|refine Frm.alloc ?_ _|refine Frm.ownSet ?_ (by omega) _)
 case zm|zn=>
  refine MonI.less (T:=T') ?_ (fun k hk=>by rw[<- HTT.out];exact .inl hk) HSUB.out
  repeat (first|exact HI.out|refine MonI.alloc ?_ _|refine MonI.stored ?_ _ (by rw[<- HTT.out];exact aw 1 rfl (by omega)) (HNS.out 1))
end Go.Proofs.YtkaiilmgemaljaaGreat

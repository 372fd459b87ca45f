/- Part of one proof. There are no conditions. -/
import Derived.Test.YtkaiilmgemaljaaGreatRM16
set_option maxHeartbeats 0
set_option linter.unusedVariables false
set_option linter.unusedSimpArgs false
set_option maxRecDepth 100000
namespace Go.Proofs.YtkaiilmgemaljaaGreat
open Go.RowKit Ps Ra Ex Mo
theorem TbI.eqf {t:WT} {a b:Bool} {w:World} (h:TbI t a w) (e:a=b):TbI t b w:=by rw[<- e];exact h
theorem kB (t:WT) (ht:t.Ok) {own other:List Int} {c:Cb} (hc:CbOk t.K c) (hbv:bvr t.ru c=true) (hR:∀c,CbOk t.K c->RolT t own other c):BevT t own other c:=by
 intro fl A B ca cb w hI hA hca hB hcb
 obtain⟨v,o⟩:=c;have hv:=aj ht.v
 have hs1:1<=t.s:=by omega
 have hs6:t.s<=6:=by omega
 obtain⟨hq1,hq36,_⟩:=sq_bd hs1 hs6
 have hnr1:0<t.nr:=by
  have h1:=aU t.s
  have h2:1*2<=t.s*(t.s+1):=Nat.mul_le_mul (by omega) (by omega)
  have:=ht.r
  omega
 have hcv:1<=v/\v<=1024/\0<=o/\o<=2:=hc.v1 ht.k;have R4:=h_ (hR _ (up4 hc hbv))
 have R8:Hid (rcn t.ru (v,o)=true->RolT t own other (8*v,2)):=fun h=>hR _ (up8 hc h)
 have HBV:Hid (∀x,rol t.s t.ru own other (4*v,2)=x->bev t.s t.ru own other (v,o)=x.bind fun x=>if rcn t.ru (v,o) then (rol t.s t.ru own other (8*v,2)).map fun y=>if ltE (sq t.s) x y then (y,true) else (x,false) else some (x,false)):=fun x hx=>by unfold bev bevG;rw[hx]
 have hlow:=hI.ltS;have hlr:=hI.ltR hnr1
 have HNS:Hid (∀j,¬t.S (w.heap.size+j)):=fun j h=>by have:=hlow _ h;omega
 have HNR:Hid (∀j,¬t.rb (w.heap.size+j)):=fun j h=>by have:=hlr _ h;omega
 have hb0:Below w.heap.size w ((w.alloc (.cells #[.int .i64 v,.int .i64 o] 55)).alloc (.cells #[.int .i64 0,.int .i64 0] 35)):=((Below.refl _ _).alloc (Nat.le_refl _) _).alloc (by simp) _
 have HF:Hid (FrS t.S w ((w.alloc (.cells #[.int .i64 v,.int .i64 o] 55)).alloc (.cells #[.int .i64 0,.int .i64 0] 35)) [[.int .i64 v,.int .i64 o],[.int .i64 0,.int .i64 0]]):=((FrS.start w hlow).allocT (by simp) _ _).allocT (by simp) _ _
 have HIa:=h_ (hI.below hb0);have HA:=h_ (hA.below hb0);have HB:=h_ (hB.below hb0)
 have HPO:=h_ fun (W:World)=>eE (two t.K) t.bv t.jc v o 4 W (by omega) (by omega)
 have hrc:posA ⟨two t.K,t.bv⟩ (v,o) 4=rcn t.ru (v,o):=rfl;rw[hrc]at HPO
 have COM:=h_ fun (x y:E) (W:World) (hx:Val (sq t.s) x) (hy:Val (sq t.s) y)=>bU t.p t.c t.h x.num y.num t.s x.depth y.depth W hs1 hs6 hx hy
 clear hI hA hB hv ht hR hc hbv hb0 hlow hlr hrc;generalize rcn t.ru (v,o)=rc at *
 go_enter Tryz.func233,Tryz.ntmps233
 go_wp2_with (fail)
 generalize (w.alloc (.cells #[.int .i64 v,.int .i64 o] 55)).alloc (.cells #[.int .i64 0,.int .i64 0] 35)=W1 at *
 have hz1:w.heap.size+2<=W1.heap.size:=by have:=HF.out.z;simpa using this
 refine (R4.out fl A B ca cb W1 HIa.out HA.out hca HB.out hcb).mono ?_
 rintro e w2 ⟨⟨xn,xd⟩,rfl,hvx,hI,hf,him⟩
 replace HF:=h_ (HF.out.frm hf);have HI:=h_ hI;replace HA:=h_ (HA.out.frm hf);replace HB:=h_ (HB.out.frm hf);clear hI;have HVX:=h_ hvx;have HIM:=h_ him;have hz2:w.heap.size+2<=w2.heap.size:=Nat.le_trans hz1 hf.size;clear hf R4 hvx him HIa;obtain⟨z0,c00,f00,c01,f01,z1,c10,f10,c11,f11⟩:=HF.out.xf4
 go_wp2_with (fail)
 clear z0 c00 f00 c01 f01 z1 c10 f10 c11 f11;replace HF:=h_ (HF.out.alloc (.cells #[.int .i64 (xn),.int .i64 ((xd:Int))] 35));replace HI:=h_ (HI.out.alloc (.cells #[.int .i64 (xn),.int .i64 ((xd:Int))] 35));replace HA:=h_ (HA.out.below ((Below.refl _ _).alloc (Nat.le_refl _) (.cells #[.int .i64 (xn),.int .i64 ((xd:Int))] 35)));replace HB:=h_ (HB.out.below ((Below.refl _ _).alloc (Nat.le_refl _) (.cells #[.int .i64 (xn),.int .i64 ((xd:Int))] 35)))
 have g0:((w2).alloc (.cells #[.int .i64 (xn),.int .i64 ((xd:Int))] 35)).cell? ⟨(w2).heap.size,0,none⟩=some (.int .i64 (xn)):=by simp[go_sem]
 have g1:((w2).alloc (.cells #[.int .i64 (xn),.int .i64 ((xd:Int))] 35)).cell? ⟨(w2).heap.size,1,none⟩=some (.int .i64 ((xd:Int))):=by simp[go_sem]
 have gz:(w2).heap.size<((w2).alloc (.cells #[.int .i64 (xn),.int .i64 ((xd:Int))] 35)).heap.size:=by simp
 generalize w2.alloc (.cells #[.int .i64 xn,.int .i64 (xd:Int)] 35)=X at *;obtain⟨o4,ho4⟩:∃o4,o4=rol t.s t.ru own other (4*v,2):=⟨_,rfl⟩;rw[<- ho4]at HI HIM;have HB1:=h_ (HBV.out o4 ho4.symm);have HO4:=h_ ho4;clear HBV ho4
 cases rc
 focus
  have HFE:Hid ((fl||o4.isNone)=(fl||(bev t.s t.ru own other (v,o)).isNone)):=by unfold Hid;rw[HB1.out];cases o4<;>rfl
  have HRI:Hid ((fl||(bev t.s t.ru own other (v,o)).isNone)=false->bev t.s t.ru own other (v,o)=some (⟨xn,xd⟩,false)):=fun h=>by
   rw[<- HFE.out]at h
   rw[HB1.out,HIM.out h];rfl
  generalize (fl||o4.isNone)=f1 at *
  cases f1
  focus
   refine ?zb
  rotate_left
  focus
   refine ?zc
 rotate_left 2
 focus
  by_cases hf1:(fl||o4.isNone)=true
  focus
   have HFE:Hid (true=(fl||(bev t.s t.ru own other (v,o)).isNone)):=by
    unfold Hid;rw[HB1.out]
    cases fl
    ·cases o4
     ·rfl
     ·cases hf1
    ·rfl
   have HRI:Hid ((fl||(bev t.s t.ru own other (v,o)).isNone)=false->bev t.s t.ru own other (v,o)=some (⟨xn,xd⟩,false)):=fun h=>by
    rw[<- HFE.out]at h;cases h
   rw[hf1]at HI;clear hf1;have e0:=HI.out.tb 0 _ rfl;have e1:=HI.out.tb 1 _ rfl;have e2:=HI.out.tb 2 _ rfl;have e3:=HI.out.tb 3 _ rfl;have e4:=HI.out.tb 4 _ rfl;have e5:=HI.out.tb 5 _ rfl;have e6:=HI.out.tb 6 _ rfl;have ea:=HI.out.fa;have hbt:=HI.out.ltB;obtain⟨z0,c00,f00,c01,f01,z1,c10,f10,c11,f11⟩:=HF.out.xf4
   refine ?za
  rotate_left
  focus
   have hf1':(fl||o4.isNone)=false:=Bool.eq_false_iff.2 hf1
   rw[hf1']at HI;have h4:=HIM.out hf1'
   have hfl:fl=false:=by cases fl;rfl;cases hf1'
   subst hfl
   have HB2:Hid (∀z,rol t.s t.ru own other (8*v,2)=z->bev t.s t.ru own other (v,o)=z.map fun y=>if ltE (sq t.s) ⟨xn,xd⟩ y then (y,true) else (⟨xn,xd⟩,false)):=fun z hz=>by rw[HB1.out,h4,<- hz];rfl
   have R8':=h_ (R8.out rfl);clear hf1 hf1' h4 HIM HB1 HO4 R8;have e0:=HI.out.tb 0 _ rfl;have e1:=HI.out.tb 1 _ rfl;have e2:=HI.out.tb 2 _ rfl;have e3:=HI.out.tb 3 _ rfl;have e4:=HI.out.tb 4 _ rfl;have e5:=HI.out.tb 5 _ rfl;have e6:=HI.out.tb 6 _ rfl;have ea:=HI.out.fa;have hbt:=HI.out.ltB;obtain⟨z0,c00,f00,c01,f01,z1,c10,f10,c11,f11⟩:=HF.out.xf4
   refine ?zd
 rotate_left 2
 case' zb|zc=>
  have e0:=HI.out.tb 0 _ rfl;have e1:=HI.out.tb 1 _ rfl;have e2:=HI.out.tb 2 _ rfl;have e3:=HI.out.tb 3 _ rfl;have e4:=HI.out.tb 4 _ rfl;have e5:=HI.out.tb 5 _ rfl;have e6:=HI.out.tb 6 _ rfl;have ea:=HI.out.fa;have hbt:=HI.out.ltB;obtain⟨z0,c00,f00,c01,f01,z1,c10,f10,c11,f11⟩:=HF.out.xf4
 case' zd|za|zb|zc=>
  first|refine ab (by kernel_rfl) (by kernel_rfl) ?_|refine ac (by kernel_rfl) (by kernel_rfl) ?_
  repeat (first|go_big_quiet_step ((go_at_call 232;exact more_call (HPO.out _)))|quiet_step ((go_at_call 232;exact more_call (HPO.out _))))
  refine wpQuiet_nil ?_
  intro _ hw'
  obtain⟨tr,hw''⟩:=hw';subst hw'';clear z0 c00 f00 c01 f01 z1 c10 f10 c11 f11;clear e0 e1 e2 e3 e4 e5 e6 ea hbt;replace HF:=h_ (HF.out.more tr);replace HI:=h_ (HI.out.more tr);replace HA:=h_ (HA.out.below (aa _ tr));replace HB:=h_ (HB.out.below (aa _ tr));replace g0:=keep_cell g0 (aa _ tr);replace g1:=keep_cell g1 (aa _ tr);replace gz:=Nat.lt_of_lt_of_le gz (ae _ tr);generalize more X tr=Y at *;obtain⟨z0,c00,f00,c01,f01,z1,c10,f10,c11,f11⟩:=HF.out.xf4
  go_wp2_with (fail)
 case' zd=>
  clear z0 c00 f00 c01 f01 z1 c10 f10 c11 f11
  have hgS:¬t.S w2.heap.size:=fun h=>by have:=HF.out.low _ h;omega
  have HIb:=HI;clear HI
  refine (R8'.out false A B ca cb Y HIb.out HA.out hca HB.out hcb).mono ?_
  rintro e w4 ⟨⟨yn,yd⟩,rfl,hvy,hI,hf,him⟩
  replace HF:=h_ (HF.out.frm hf);have HI:=h_ hI;replace HA:=h_ (HA.out.frm hf);replace HB:=h_ (HB.out.frm hf);clear hI;have HVY:=h_ hvy;have HIM:=h_ him;replace g0:=hf.cell' g0 hgS;replace g1:=hf.cell' g1 hgS;replace gz:=Nat.lt_of_lt_of_le gz hf.size
  have gn:¬w2.heap.size=w4.heap.size:=by omega
  clear hf R8' HPO hvy him HIb;obtain⟨z0,c00,f00,c01,f01,z1,c10,f10,c11,f11⟩:=HF.out.xf4
  go_wp2_with (fail)
  clear z0 c00 f00 c01 f01 z1 c10 f10 c11 f11;replace HF:=h_ (HF.out.alloc (.cells #[.int .i64 (yn),.int .i64 ((yd:Int))] 35));replace HI:=h_ (HI.out.alloc (.cells #[.int .i64 (yn),.int .i64 ((yd:Int))] 35));replace HA:=h_ (HA.out.below ((Below.refl _ _).alloc (Nat.le_refl _) (.cells #[.int .i64 (yn),.int .i64 ((yd:Int))] 35)));replace HB:=h_ (HB.out.below ((Below.refl _ _).alloc (Nat.le_refl _) (.cells #[.int .i64 (yn),.int .i64 ((yd:Int))] 35)))
  have y0:((w4).alloc (.cells #[.int .i64 (yn),.int .i64 ((yd:Int))] 35)).cell? ⟨(w4).heap.size,0,none⟩=some (.int .i64 (yn)):=by simp[go_sem]
  have y1:((w4).alloc (.cells #[.int .i64 (yn),.int .i64 ((yd:Int))] 35)).cell? ⟨(w4).heap.size,1,none⟩=some (.int .i64 ((yd:Int))):=by simp[go_sem]
  have yz:(w4).heap.size<((w4).alloc (.cells #[.int .i64 (yn),.int .i64 ((yd:Int))] 35)).heap.size:=by simp
  replace g0:=keep_cell g0 ((Below.refl _ _).alloc (Nat.le_refl _) (.cells #[.int .i64 yn,.int .i64 (yd:Int)] 35));replace g1:=keep_cell g1 ((Below.refl _ _).alloc (Nat.le_refl _) (.cells #[.int .i64 yn,.int .i64 (yd:Int)] 35))
  replace gz:w2.heap.size<(w4.alloc (.cells #[.int .i64 yn,.int .i64 (yd:Int)] 35)).heap.size:=Nat.lt_of_lt_of_le gz (by simp)
  generalize w4.alloc (.cells #[.int .i64 yn,.int .i64 (yd:Int)] 35)=X2 at *;obtain⟨o8,ho8⟩:∃o8,o8=rol t.s t.ru own other (8*v,2):=⟨_,rfl⟩;rw[<- ho8]at HI HIM;have HB3:=h_ (HB2.out o8 ho8.symm);clear HB2 ho8
  rcases o8 with _|⟨zn,zd⟩
  focus
   have HFE:Hid (true=(false||(bev t.s t.ru own other (v,o)).isNone)):=by unfold Hid;rw[HB3.out];rfl
   have HRI:Hid ((false||(bev t.s t.ru own other (v,o)).isNone)=false->bev t.s t.ru own other (v,o)=some (⟨xn,xd⟩,false)):=fun h=>by rw[<- HFE.out]at h;cases h
   replace HI:Hid (TbI t true X2):=HI.out;clear HB3 HIM;have e0:=HI.out.tb 0 _ rfl;have e1:=HI.out.tb 1 _ rfl;have e2:=HI.out.tb 2 _ rfl;have e3:=HI.out.tb 3 _ rfl;have e4:=HI.out.tb 4 _ rfl;have e5:=HI.out.tb 5 _ rfl;have e6:=HI.out.tb 6 _ rfl;have ea:=HI.out.fa;have hbt:=HI.out.ltB;obtain⟨z0,c00,f00,c01,f01,z1,c10,f10,c11,f11⟩:=HF.out.xf4
   first|refine ab (by kernel_rfl) (by kernel_rfl) ?_|refine ac (by kernel_rfl) (by kernel_rfl) ?_
   repeat (first|go_big_quiet_step (fail)|quiet_step (fail))
   refine ?ze
  rotate_left
  focus
   have he:(⟨zn,zd⟩:E)=⟨yn,yd⟩:=by have:=HIM.out rfl;injection this
   injection he with he1 he2;subst he1 he2;replace HI:Hid (TbI t false X2):=HI.out
   have HB4:Hid (bev t.s t.ru own other (v,o)=some (if ltE (sq t.s) ⟨xn,xd⟩ ⟨zn,zd⟩ then (⟨zn,zd⟩,true) else (⟨xn,xd⟩,false))):=HB3.out
   have COM2:=h_ fun (W:World)=>COM.out ⟨zn,zd⟩ ⟨xn,xd⟩ W HVY.out HVX.out
   have HCS:Hid ((0<cmpE (sq t.s) ⟨zn,zd⟩ ⟨xn,xd⟩)=(ltE (sq t.s) ⟨xn,xd⟩ ⟨zn,zd⟩=true)):=eZ;have hcb1:=eh (sq t.s) ⟨zn,zd⟩ ⟨xn,xd⟩;clear HB3 HIM COM;generalize cmpE (sq t.s) ⟨zn,zd⟩ ⟨xn,xd⟩=cm at *
   by_cases hcm:0<cm
   focus
    have HRE:Hid (bev t.s t.ru own other (v,o)=some (⟨zn,zd⟩,true)):=by
     unfold Hid
     rw[HB4.out,if_pos (by rw[<- HCS.out];exact hcm)]
    clear HB4 HCS;have e0:=HI.out.tb 0 _ rfl;have e1:=HI.out.tb 1 _ rfl;have e2:=HI.out.tb 2 _ rfl;have e3:=HI.out.tb 3 _ rfl;have e4:=HI.out.tb 4 _ rfl;have e5:=HI.out.tb 5 _ rfl;have e6:=HI.out.tb 6 _ rfl;have ea:=HI.out.fa;have hbt:=HI.out.ltB;obtain⟨z0,c00,f00,c01,f01,z1,c10,f10,c11,f11⟩:=HF.out.xf4
    refine ?zg
   rotate_left
   focus
    have HRE:Hid (bev t.s t.ru own other (v,o)=some (⟨xn,xd⟩,false)):=by
     unfold Hid
     rw[HB4.out,if_neg (by rw[<- HCS.out];exact hcm)]
    have dcm:=decide_eq_false hcm;clear HB4 HCS;have e0:=HI.out.tb 0 _ rfl;have e1:=HI.out.tb 1 _ rfl;have e2:=HI.out.tb 2 _ rfl;have e3:=HI.out.tb 3 _ rfl;have e4:=HI.out.tb 4 _ rfl;have e5:=HI.out.tb 5 _ rfl;have e6:=HI.out.tb 6 _ rfl;have ea:=HI.out.fa;have hbt:=HI.out.ltB;obtain⟨z0,c00,f00,c01,f01,z1,c10,f10,c11,f11⟩:=HF.out.xf4
    refine ?zf
 case' zg|zf=>
  first|refine ab (by kernel_rfl) (by kernel_rfl) ?_|refine ac (by kernel_rfl) (by kernel_rfl) ?_
  repeat (first|go_big_quiet_step ((go_at_call 176;exact more_call (COM2.out _)))|quiet_step ((go_at_call 176;exact more_call (COM2.out _))))
 case' zg=>
  refine wpQuiet_nil ?_
  intro _ hw'
  obtain⟨tr,hw''⟩:=hw';subst hw'';clear z0 c00 f00 c01 f01 z1 c10 f10 c11 f11;clear e0 e1 e2 e3 e4 e5 e6 ea hbt;replace HF:=h_ (HF.out.more tr);replace HI:=h_ (HI.out.more tr);replace HA:=h_ (HA.out.below (aa _ tr));replace HB:=h_ (HB.out.below (aa _ tr));replace y0:=keep_cell y0 (aa _ tr);replace y1:=keep_cell y1 (aa _ tr);replace yz:=Nat.lt_of_lt_of_le yz (ae _ tr);generalize more X2 tr=Y2 at *;obtain⟨z0,c00,f00,c01,f01,z1,c10,f10,c11,f11⟩:=HF.out.xf4
  go_wp2_with (fail)
  refine bodyPost_ret (v:=.tuple #[.agg #[.int .i64 zn,.int .i64 (zd:Int)],.bool true]) (by simp[results,Tryz.results233,go_sem,c10,c11,z1,f10,f11]) rfl ?_
  refine⟨⟨zn,zd⟩,true,rfl,HVY.out,?_,?_,fun _=>HRE.out⟩
  rotate_left
  ·repeat (first|exact HF.out.f|refine Frm.alloc ?_ _|refine Frm.ownSet ?_ (by omega) _)
 case' ze|zf=>
  refine wpQuiet_nil ?_
  intro _ hw'
  obtain⟨tr,hw''⟩:=hw';subst hw'';clear z0 c00 f00 c01 f01 z1 c10 f10 c11 f11;clear e0 e1 e2 e3 e4 e5 e6 ea hbt;replace HF:=h_ (HF.out.more tr);replace HI:=h_ (HI.out.more tr);replace HA:=h_ (HA.out.below (aa _ tr));replace HB:=h_ (HB.out.below (aa _ tr));replace g0:=keep_cell g0 (aa _ tr);replace g1:=keep_cell g1 (aa _ tr);replace gz:=Nat.lt_of_lt_of_le gz (ae _ tr);generalize more X2 tr=Y2 at *;obtain⟨z0,c00,f00,c01,f01,z1,c10,f10,c11,f11⟩:=HF.out.xf4
  go_wp2_with (fail)
 case' ze|zf|za|zb|zc=>
  refine bodyPost_ret (v:=.tuple #[.agg #[.int .i64 xn,.int .i64 (xd:Int)],.bool false]) (by simp[results,Tryz.results233,go_sem,c10,c11,z1,f10,f11]) rfl ?_
 case' zf=>
  refine⟨⟨xn,xd⟩,false,rfl,HVX.out,?_,?_,fun _=>HRE.out⟩
  rotate_left
  ·repeat (first|exact HF.out.f|refine Frm.alloc ?_ _|refine Frm.ownSet ?_ (by omega) _)
 case za|zb|zc|ze=>
  refine⟨⟨xn,xd⟩,false,rfl,HVX.out,?_,?_,HRI.out⟩
  ·refine TbI.eqf ?_ HFE.out
   repeat (first|exact HI.out|refine TbI.alloc ?_ _|refine TbI.stored ?_ _ (HNS.out 1) (HNR.out 1))
  ·repeat (first|exact HF.out.f|refine Frm.alloc ?_ _|refine Frm.ownSet ?_ (by omega) _)
 case zf|zg=>
  refine TbI.eqf ?_ (show false=(false||(bev t.s t.ru own other (v,o)).isNone) by rw[HRE.out];rfl)
  repeat (first|exact HI.out|refine TbI.alloc ?_ _|refine TbI.stored ?_ _ (HNS.out 1) (HNR.out 1))
end Go.Proofs.YtkaiilmgemaljaaGreat

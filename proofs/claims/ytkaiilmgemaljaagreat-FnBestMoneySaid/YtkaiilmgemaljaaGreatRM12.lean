/- Part of one proof. There are no conditions. -/
import Derived.Test.YtkaiilmgemaljaaGreatRM11
set_option maxHeartbeats 0
set_option linter.unusedVariables false
set_option linter.unusedSimpArgs false
set_option maxRecDepth 100000
namespace Go.Proofs.YtkaiilmgemaljaaGreat
open Go.RowKit Ps Ra Ex Go.Maps Mo
theorem eqv_own {s:Nat} {r:Ru} {own other:List Int} {c:Cb} (h:own.sum=0):eqv s r own other c=some ⟨c.1,0⟩:=by unfold eqv eqG;rw[if_pos h];rfl
theorem eqv_other {s:Nat} {r:Ru} {own other:List Int} {c:Cb} (h:own.sum≠0) (h2:other.sum=0):eqv s r own other c=some ⟨-c.1,0⟩:=by unfold eqv eqG;rw[if_neg h,if_pos h2];rfl
theorem eqv_no {s:Nat} {r:Ru} {own other:List Int} {c:Cb} (h:own.sum≠0) (h2:other.sum≠0) (hx:rol s r own other c=none):eqv s r own other c=none:=by unfold eqv eqG;rw[if_neg h,if_neg h2,hx];rfl
theorem eqv_stay {s:Nat} {r:Ru} {own other:List Int} {c:Cb} {x:E} (h:own.sum≠0) (h2:other.sum≠0) (hx:rol s r own other c=some x) (hm:may r c=false):eqv s r own other c=some x:=by unfold eqv eqG;rw[if_neg h,if_neg h2,hx,hm];rfl
theorem eqv_dbl {s:Nat} {r:Ru} {own other:List Int} {c:Cb} {x:E} (h:own.sum≠0) (h2:other.sum≠0) (hx:rol s r own other c=some x) (hm:may r c=true):eqv s r own other c=(dblV s r own other c).map fun y=>if ltE (sq s) x y then y else x:=by
 rw[<- cw];unfold eqv eqG dbl;rw[if_neg h,if_neg h2,hx,hm]
 simp only[Option.bind_some,if_true,Option.map_map]
 rfl
theorem dblV_val {s:Nat} (hB:1<=sq s) {r:Ru} {own other:List Int} {c:Cb} (h0 : -100000<=c.1) (h1:c.1<=100000) {y:E} (h:dblV s r own other c=some y):Val (sq s) y:=by
 rw[<- cw]at h;unfold dbl at h
 cases hd:dblG (sq s) r (rol s r) own other c with
 | none=>rw[hd]at h;cases h
 | some z =>
   rw [hd] at h
   simp only [Option.map_some, Option.some.injEq] at h
   subst h
   exact dblG_val (fun c e h => ew hB h) (dR h0 h1) hd
theorem jO (m:MT) (hm:m.Ok) {own other:List Int} (hq:PosP m.t.h m.t.c own) (hq2:PosP m.t.h m.t.c other) {c:Cb} (hc:CbOk m.K c) (hR:own.sum≠0->other.sum≠0->∀c,CbOk m.K c->RolC m own other c):EqvC m own other c:=by
 intro T A B ca cb w hT hI hA hca hB hcb
 have hm':=hm;have hc':=hc;obtain⟨v,o⟩:=c;have hv:=aj hm.t.v
 have hs1:1<=m.t.s:=by omega
 have hs6:m.t.s<=6:=by omega
 obtain⟨hq1,hq36,_⟩:=sq_bd hs1 hs6;have hcv:1<=v/\v<=1024/\0<=o/\o<=2:=hc.v1 hm.k;have hlow:=hI.ltS;have HSUB:=h_ hI.sub
 have HNS:Hid (∀j,¬m.S (w.heap.size+j)):=fun j h=>by have:=hlow _ h;omega
 have hb0:Below w.heap.size w ((w.alloc (.cells #[.int .i64 v,.int .i64 o] 55)).alloc (.cells #[.int .i64 0,.int .i64 0] 35)):=((Below.refl _ _).alloc (Nat.le_refl _) _).alloc (by simp) _
 have HF:Hid (FrS m.S w ((w.alloc (.cells #[.int .i64 v,.int .i64 o] 55)).alloc (.cells #[.int .i64 0,.int .i64 0] 35)) [[.int .i64 v,.int .i64 o],[.int .i64 0,.int .i64 0]]):=((FrS.start w hlow).allocT (by simp) _ _).allocT (by simp) _ _
 have HI:=h_ ((hI.wide 2).below hb0);have HIW:=h_ (hI.wide 2);have HA:=h_ ((hA.wide 2).below hb0);have HB:=h_ ((hB.wide 2).below hb0)
 have HTN:Hid (∀W:World,w.heap.size+2<=W.heap.size->∀k,W.heap.size<=k->¬ownT T w 2 k):=fun W hz=>dW hT hz
 have TOA:=h_ (cP A m.t.h ca own _ HA.out.1 hq.2.1 (by have:=hq.2.2;omega) (by omega))
 have TOB:=h_ (cP B m.t.h cb other _ HB.out.1 hq2.2.1 (by have:=hq2.2.2;omega) (by omega))
 generalize hTT:ownT T w 2=T' at *;replace hTT:=h_ hTT;have HTT:=hTT;have HTS:Hid (∀k,m.S k->T' k):=HI.out.sub;clear hTT
 by_cases hs0:own.sum=0
 focus
  have HRE:Hid (eqv m.t.s m.ru own other (v,o)=some ⟨v,0⟩):=eqv_own hs0
  have b0:(own.sum == 0)=true:=by simp[hs0]
  clear hT hI hA hB hv hm hR hc hb0 hlow hq hq2 hs0 TOB hm' hc';obtain⟨z0,c00,f00,c01,f01,z1,c10,f10,c11,f11⟩:=HF.out.xf4
  go_enter Tryz.func104,Tryz.ntmps104
  go_wp2_with (go_at_call 74;(with_reducible refine TOA.out.mono ?_);rintro e w' ⟨rfl,rfl⟩)
  refine bodyPost_ret (v:=.tuple #[.agg #[.int .i64 v,.int .i64 ((0:Nat):Int)],.bool true]) (by simp[results,Tryz.results104,go_sem,c10,c11,z1,f10,f11]) rfl ?_
  refine ?zw
 rotate_left
 focus
  have b0:(own.sum == 0)=false:=by simp[hs0]
  by_cases ht0:other.sum=0
  focus
   have HRE:Hid (eqv m.t.s m.ru own other (v,o)=some ⟨-v,0⟩):=eqv_other hs0 ht0
   have b1:(other.sum == 0)=true:=by simp[ht0]
   clear hT hI hA hB hv hm hR hc hb0 hlow hq hq2 hs0 ht0 hm' hc';obtain⟨z0,c00,f00,c01,f01,z1,c10,f10,c11,f11⟩:=HF.out.xf4
   go_enter Tryz.func104,Tryz.ntmps104
   go_wp2_with (first|(go_at_call 74;(with_reducible refine TOA.out.mono ?_);rintro e w' ⟨rfl,rfl⟩)|(go_at_call 74;(with_reducible refine TOB.out.mono ?_);rintro e w' ⟨rfl,rfl⟩))
   refine bodyPost_ret (v:=.tuple #[.agg #[.int .i64 (-v),.int .i64 ((0:Nat):Int)],.bool true]) (by simp[results,Tryz.results104,go_sem,c10,c11,z1,f10,f11]) rfl ?_
   refine ?zx
  rotate_left
  focus
   have b1:(other.sum == 0)=false:=by simp[ht0]
   have R1:=h_ (hR hs0 ht0 _ hc')
   have HDB:Hid (may m.ru (v,o)=true->DblC m own other (v,o)):=fun h=>doubled_any m hm' hc' h (hR hs0 ht0)
   have HNO:Hid (rol m.t.s m.ru own other (v,o)=none->eqv m.t.s m.ru own other (v,o)=none):=fun h=>eqv_no hs0 ht0 h
   have HST:Hid (∀x,rol m.t.s m.ru own other (v,o)=some x->may m.ru (v,o)=false->eqv m.t.s m.ru own other (v,o)=some x):=fun x h1 h2=>eqv_stay hs0 ht0 h1 h2
   have HDV:Hid (∀x,rol m.t.s m.ru own other (v,o)=some x->may m.ru (v,o)=true->eqv m.t.s m.ru own other (v,o)=(dblV m.t.s m.ru own other (v,o)).map fun y=>if ltE (sq m.t.s) x y then y else x):=fun x h1 h2=>eqv_dbl hs0 ht0 h1 h2
   have HV1:Hid (∀e,rol m.t.s m.ru own other (v,o)=some e->Val (sq m.t.s) e):=fun e h=>ew hq1 h
   have HV2:Hid (∀e,dblV m.t.s m.ru own other (v,o)=some e->Val (sq m.t.s) e):=fun e h=>dblV_val hq1 (by show -100000<=v;omega) (by show v<=100000;omega) h
   have HMY:=h_ fun (W:World)=>ay (two m.K) m.bv m.jc v o W (by omega) (by omega)
   have hrc:may ⟨two m.K,m.bv⟩ (v,o)=may m.ru (v,o):=rfl;rw[hrc]at HMY
   have COM:=h_ fun (x y:E) (W:World) (hx:Val (sq m.t.s) x) (hy:Val (sq m.t.s) y)=>bW m.t.p m.t.c m.t.h x.num y.num m.t.s x.depth y.depth W hs1 hs6 hx hy
   clear hT hI hA hB hv hm hR hc hb0 hlow hq hq2 hs0 ht0 hm' hc' hrc
   go_enter Tryz.func104,Tryz.ntmps104
   go_wp2_with (first|(go_at_call 74;(with_reducible refine TOA.out.mono ?_);rintro e w' ⟨rfl,rfl⟩)|(go_at_call 74;(with_reducible refine TOB.out.mono ?_);rintro e w' ⟨rfl,rfl⟩))
   clear TOA TOB;generalize (w.alloc (.cells #[.int .i64 v,.int .i64 o] 55)).alloc (.cells #[.int .i64 0,.int .i64 0] 35)=W1 at *
   have hz1:w.heap.size+2<=W1.heap.size:=by have:=HF.out.z;simpa using this
   refine (R1.out T' A B ca cb W1 (HTN.out W1 hz1) HI.out HA.out hca HB.out hcb).mono ?_
   rintro e w2 ⟨rfl,hI,hf⟩
   have hfT:=gr hf HTS.out;replace HF:=h_ (HF.out.frm hf);replace HI:=h_ hI;replace HA:=h_ (HA.out.frm hfT);replace HB:=h_ (HB.out.frm hfT);clear hI;have hz2:w.heap.size+2<=w2.heap.size:=Nat.le_trans hz1 hf.size;clear hf hfT R1
   rcases h1:rol m.t.s m.ru own other (v,o) with _|⟨xn,xd⟩
   focus
    have HRE:Hid (eqv m.t.s m.ru own other (v,o)=none):=HNO.out h1
    clear h1 HNO HST HDV;unfold exV
    refine ?zy
   rotate_left
   focus
    have HVX:Hid (Val (sq m.t.s) ⟨xn,xd⟩):=HV1.out _ h1
    have HST1:Hid (may m.ru (v,o)=false->eqv m.t.s m.ru own other (v,o)=some ⟨xn,xd⟩):=HST.out _ h1
    have HDV1:Hid (may m.ru (v,o)=true->eqv m.t.s m.ru own other (v,o)=(dblV m.t.s m.ru own other (v,o)).map fun y=>if ltE (sq m.t.s) ⟨xn,xd⟩ y then y else ⟨xn,xd⟩):=HDV.out _ h1
    clear h1 HNO HST HDV HV1;unfold exV
    simp only[Option.getD_some,Option.isSome_some]
    obtain⟨z0,c00,f00,c01,f01,z1,c10,f10,c11,f11⟩:=HF.out.xf4
    go_wp2_with (fail)
    clear z0 c00 f00 c01 f01 z1 c10 f10 c11 f11;replace HF:=h_ (HF.out.alloc (.cells #[.int .i64 (xn),.int .i64 ((xd:Int))] 35));replace HI:=h_ (HI.out.alloc (.cells #[.int .i64 (xn),.int .i64 ((xd:Int))] 35));replace HA:=h_ (HA.out.below ((Below.refl _ _).alloc (Nat.le_refl _) (.cells #[.int .i64 (xn),.int .i64 ((xd:Int))] 35)));replace HB:=h_ (HB.out.below ((Below.refl _ _).alloc (Nat.le_refl _) (.cells #[.int .i64 (xn),.int .i64 ((xd:Int))] 35)))
    have g0:((w2).alloc (.cells #[.int .i64 (xn),.int .i64 ((xd:Int))] 35)).cell? ⟨(w2).heap.size,0,none⟩=some (.int .i64 (xn)):=by simp[go_sem]
    have g1:((w2).alloc (.cells #[.int .i64 (xn),.int .i64 ((xd:Int))] 35)).cell? ⟨(w2).heap.size,1,none⟩=some (.int .i64 ((xd:Int))):=by simp[go_sem]
    have gz:(w2).heap.size<((w2).alloc (.cells #[.int .i64 (xn),.int .i64 ((xd:Int))] 35)).heap.size:=by simp
    generalize w2.alloc (.cells #[.int .i64 xn,.int .i64 (xd:Int)] 35)=X at *;generalize may m.ru (v,o)=mb at *
    cases mb
    focus
     have HRE:=h_ (HST1.out rfl)
     clear HST1 HDV1;have e0:=HI.out.tb 0 _ rfl;have e1:=HI.out.tb 1 _ rfl;have e2:=HI.out.tb 2 _ rfl;have e3:=HI.out.tb 3 _ rfl;have r0:=HI.out.ra.tb 0 _ rfl;have r1:=HI.out.ra.tb 1 _ rfl;have r2:=HI.out.ra.tb 2 _ rfl;have r3:=HI.out.ra.tb 3 _ rfl;have hbm:=HI.out.ltB;have hbt:=HI.out.ra.ltB;obtain⟨z0,c00,f00,c01,f01,z1,c10,f10,c11,f11⟩:=HF.out.xf4
     refine ?zs
    rotate_left
    focus
     have HRE0:=h_ (HDV1.out rfl)
     have R2:=h_ (HDB.out rfl);clear HST1 HDV1 HDB;have e0:=HI.out.tb 0 _ rfl;have e1:=HI.out.tb 1 _ rfl;have e2:=HI.out.tb 2 _ rfl;have e3:=HI.out.tb 3 _ rfl;have r0:=HI.out.ra.tb 0 _ rfl;have r1:=HI.out.ra.tb 1 _ rfl;have r2:=HI.out.ra.tb 2 _ rfl;have r3:=HI.out.ra.tb 3 _ rfl;have hbm:=HI.out.ltB;have hbt:=HI.out.ra.ltB;obtain⟨z0,c00,f00,c01,f01,z1,c10,f10,c11,f11⟩:=HF.out.xf4
     refine ?zt
 rotate_left 4
 case' zs|zt=>
  first|refine ab (by kernel_rfl) (by kernel_rfl) ?_|refine ac (by kernel_rfl) (by kernel_rfl) ?_
  repeat (first|go_big_quiet_step ((go_at_call 120;exact more_call (HMY.out _)))|quiet_step ((go_at_call 120;exact more_call (HMY.out _))))
  refine wpQuiet_nil ?_
  intro _ hw'
 case' zt=>
  obtain⟨tr,hw''⟩:=hw';subst hw'';clear z0 c00 f00 c01 f01 z1 c10 f10 c11 f11;clear e0 e1 e2 e3 r0 r1 r2 r3 hbm hbt;replace HF:=h_ (HF.out.more tr);replace HI:=h_ (HI.out.below (aa _ tr));replace HA:=h_ (HA.out.below (aa _ tr));replace HB:=h_ (HB.out.below (aa _ tr));replace g0:=keep_cell g0 (aa _ tr);replace g1:=keep_cell g1 (aa _ tr);replace gz:=Nat.lt_of_lt_of_le gz (ae _ tr);generalize more X tr=Y at *
  have hz3:w.heap.size+2<=Y.heap.size:=by have:=HF.out.z;simpa using this
  have hgS:¬m.S w2.heap.size:=fun h=>by have:=HF.out.low _ h;omega
  obtain⟨z0,c00,f00,c01,f01,z1,c10,f10,c11,f11⟩:=HF.out.xf4
  go_wp2_with (fail)
  clear z0 c00 f00 c01 f01 z1 c10 f10 c11 f11
  refine (R2.out T' A B ca cb Y (HTN.out Y hz3) HI.out HA.out hca HB.out hcb).mono ?_
  rintro e w4 ⟨rfl,hI,hf⟩
  have hfT:=gr hf HTS.out;replace HF:=h_ (HF.out.frm hf);replace HI:=h_ hI;replace HA:=h_ (HA.out.frm hfT);replace HB:=h_ (HB.out.frm hfT);clear hI;replace g0:=hf.cell' g0 hgS;replace g1:=hf.cell' g1 hgS;replace gz:=Nat.lt_of_lt_of_le gz hf.size
  have gn:¬w2.heap.size=w4.heap.size:=by omega
  clear hf hfT R2 HMY;rw[cw]
  rcases h8:dblV m.t.s m.ru own other (v,o) with _|⟨yn,yd⟩
  focus
   have HRE:Hid (eqv m.t.s m.ru own other (v,o)=none):=by unfold Hid;rw[HRE0.out,h8];rfl
   clear h8 HRE0;unfold exV
   refine ?zj
  rotate_left
  focus
   have HVY:Hid (Val (sq m.t.s) ⟨yn,yd⟩):=HV2.out _ h8
   have HRE1:Hid (eqv m.t.s m.ru own other (v,o)=some (if ltE (sq m.t.s) ⟨xn,xd⟩ ⟨yn,yd⟩ then ⟨yn,yd⟩ else ⟨xn,xd⟩)):=by unfold Hid;rw[HRE0.out,h8];rfl
   have COM2:=h_ fun (W:World)=>COM.out ⟨yn,yd⟩ ⟨xn,xd⟩ W HVY.out HVX.out
   have HCS:Hid ((0<cmpE (sq m.t.s) ⟨yn,yd⟩ ⟨xn,xd⟩)=(ltE (sq m.t.s) ⟨xn,xd⟩ ⟨yn,yd⟩=true)):=eZ;have hcb1:=eh (sq m.t.s) ⟨yn,yd⟩ ⟨xn,xd⟩;clear h8 HRE0 COM HV2;unfold exV
   simp only[Option.getD_some,Option.isSome_some]
   obtain⟨z0,c00,f00,c01,f01,z1,c10,f10,c11,f11⟩:=HF.out.xf4
   go_wp2_with (fail)
   clear z0 c00 f00 c01 f01 z1 c10 f10 c11 f11;replace HF:=h_ (HF.out.alloc (.cells #[.int .i64 (yn),.int .i64 ((yd:Int))] 35));replace HI:=h_ (HI.out.alloc (.cells #[.int .i64 (yn),.int .i64 ((yd:Int))] 35));replace HA:=h_ (HA.out.below ((Below.refl _ _).alloc (Nat.le_refl _) (.cells #[.int .i64 (yn),.int .i64 ((yd:Int))] 35)));replace HB:=h_ (HB.out.below ((Below.refl _ _).alloc (Nat.le_refl _) (.cells #[.int .i64 (yn),.int .i64 ((yd:Int))] 35)))
   have y0:((w4).alloc (.cells #[.int .i64 (yn),.int .i64 ((yd:Int))] 35)).cell? ⟨(w4).heap.size,0,none⟩=some (.int .i64 (yn)):=by simp[go_sem]
   have y1:((w4).alloc (.cells #[.int .i64 (yn),.int .i64 ((yd:Int))] 35)).cell? ⟨(w4).heap.size,1,none⟩=some (.int .i64 ((yd:Int))):=by simp[go_sem]
   have yz:(w4).heap.size<((w4).alloc (.cells #[.int .i64 (yn),.int .i64 ((yd:Int))] 35)).heap.size:=by simp
   replace g0:=keep_cell g0 ((Below.refl _ _).alloc (Nat.le_refl _) (.cells #[.int .i64 yn,.int .i64 (yd:Int)] 35));replace g1:=keep_cell g1 ((Below.refl _ _).alloc (Nat.le_refl _) (.cells #[.int .i64 yn,.int .i64 (yd:Int)] 35))
   replace gz:w2.heap.size<(w4.alloc (.cells #[.int .i64 yn,.int .i64 (yd:Int)] 35)).heap.size:=Nat.lt_of_lt_of_le gz (by simp)
   generalize w4.alloc (.cells #[.int .i64 yn,.int .i64 (yd:Int)] 35)=X2 at *;generalize cmpE (sq m.t.s) ⟨yn,yd⟩ ⟨xn,xd⟩=cm at *
   by_cases hcm:0<cm
   focus
    have HRE:Hid (eqv m.t.s m.ru own other (v,o)=some ⟨yn,yd⟩):=by
     unfold Hid
     rw[HRE1.out,if_pos (by rw[<- HCS.out];exact hcm)]
    clear HRE1 HCS;have e0:=HI.out.tb 0 _ rfl;have e1:=HI.out.tb 1 _ rfl;have e2:=HI.out.tb 2 _ rfl;have e3:=HI.out.tb 3 _ rfl;have r0:=HI.out.ra.tb 0 _ rfl;have r1:=HI.out.ra.tb 1 _ rfl;have r2:=HI.out.ra.tb 2 _ rfl;have r3:=HI.out.ra.tb 3 _ rfl;have hbm:=HI.out.ltB;have hbt:=HI.out.ra.ltB;obtain⟨z0,c00,f00,c01,f01,z1,c10,f10,c11,f11⟩:=HF.out.xf4
    refine ?za
   rotate_left
   focus
    have HRE:Hid (eqv m.t.s m.ru own other (v,o)=some ⟨xn,xd⟩):=by
     unfold Hid
     rw[HRE1.out,if_neg (by rw[<- HCS.out];exact hcm)]
    have dcm:=decide_eq_false hcm;clear HRE1 HCS;have e0:=HI.out.tb 0 _ rfl;have e1:=HI.out.tb 1 _ rfl;have e2:=HI.out.tb 2 _ rfl;have e3:=HI.out.tb 3 _ rfl;have r0:=HI.out.ra.tb 0 _ rfl;have r1:=HI.out.ra.tb 1 _ rfl;have r2:=HI.out.ra.tb 2 _ rfl;have r3:=HI.out.ra.tb 3 _ rfl;have hbm:=HI.out.ltB;have hbt:=HI.out.ra.ltB;obtain⟨z0,c00,f00,c01,f01,z1,c10,f10,c11,f11⟩:=HF.out.xf4
    refine ?zb
 case' za|zb=>
  first|refine ab (by kernel_rfl) (by kernel_rfl) ?_|refine ac (by kernel_rfl) (by kernel_rfl) ?_
  repeat (first|go_big_quiet_step ((go_at_call 166;exact more_call (COM2.out _)))|quiet_step ((go_at_call 166;exact more_call (COM2.out _))))
  refine wpQuiet_nil ?_
  intro _ hw'
  obtain⟨tr,hw''⟩:=hw';subst hw'';clear z0 c00 f00 c01 f01 z1 c10 f10 c11 f11;clear e0 e1 e2 e3 r0 r1 r2 r3 hbm hbt;replace HF:=h_ (HF.out.more tr);replace HI:=h_ (HI.out.below (aa _ tr));replace HA:=h_ (HA.out.below (aa _ tr));replace HB:=h_ (HB.out.below (aa _ tr));replace g0:=keep_cell g0 (aa _ tr);replace g1:=keep_cell g1 (aa _ tr);replace gz:=Nat.lt_of_lt_of_le gz (ae _ tr);replace y0:=keep_cell y0 (aa _ tr);replace y1:=keep_cell y1 (aa _ tr);replace yz:=Nat.lt_of_lt_of_le yz (ae _ tr);generalize more X2 tr=Y2 at *;obtain⟨z0,c00,f00,c01,f01,z1,c10,f10,c11,f11⟩:=HF.out.xf4
  go_wp2_with (fail)
 case' za=>
  refine bodyPost_ret (v:=.tuple #[.agg #[.int .i64 yn,.int .i64 (yd:Int)],.bool true]) (by simp[results,Tryz.results104,go_sem,c10,c11,z1,f10,f11]) rfl ?_
 case zw|zx=>
  refine RetMo.mkY HRE.out ?_ ?_
  ·refine MonI.less (T:=T') ?_ (fun k hk=>by rw[<- HTT.out];exact .inl hk) HSUB.out
   repeat (first|exact HIW.out|refine MonI.alloc ?_ _)
  ·repeat (first|exact Frm.refl _ _|refine Frm.alloc ?_ _)
 case' zs=>
  obtain⟨tr,hw''⟩:=hw';subst hw'';clear z0 c00 f00 c01 f01 z1 c10 f10 c11 f11;clear e0 e1 e2 e3 r0 r1 r2 r3 hbm hbt;replace HF:=h_ (HF.out.more tr);replace HI:=h_ (HI.out.below (aa _ tr));replace HA:=h_ (HA.out.below (aa _ tr));replace HB:=h_ (HB.out.below (aa _ tr));replace g0:=keep_cell g0 (aa _ tr);replace g1:=keep_cell g1 (aa _ tr);replace gz:=Nat.lt_of_lt_of_le gz (ae _ tr);generalize more X tr=Y at *;obtain⟨z0,c00,f00,c01,f01,z1,c10,f10,c11,f11⟩:=HF.out.xf4
  go_wp2_with (fail)
 case' zs|zb=>
  refine bodyPost_ret (v:=.tuple #[.agg #[.int .i64 xn,.int .i64 (xd:Int)],.bool true]) (by simp[results,Tryz.results104,go_sem,c10,c11,z1,f10,f11]) rfl ?_
 case zs|za|zb=>
  refine RetMo.mkY HRE.out ?_ ?_
  ·refine MonI.less (T:=T') ?_ (fun k hk=>by rw[<- HTT.out];exact .inl hk) HSUB.out
   repeat (first|exact HI.out|refine MonI.alloc ?_ _|refine MonI.stored ?_ _ (by rw[<- HTT.out];exact aG 1 rfl (by omega)) (HNS.out 1))
  ·repeat (first|exact HF.out.f|refine Frm.alloc ?_ _|refine Frm.ownSet ?_ (by omega) _)
 case' zy|zj=>
  simp only[Option.getD_none,Option.isSome_none]
  obtain⟨z0,c00,f00,c01,f01,z1,c10,f10,c11,f11⟩:=HF.out.xf4
 case' zy=>
  go_wp2_with (fail)
  clear z0 c00 f00 c01 f01 z1 c10 f10 c11 f11;replace HF:=h_ (HF.out.alloc (.cells #[.int .i64 (0),.int .i64 (0)] 35));replace HI:=h_ (HI.out.alloc (.cells #[.int .i64 (0),.int .i64 (0)] 35));replace HA:=h_ (HA.out.below ((Below.refl _ _).alloc (Nat.le_refl _) (.cells #[.int .i64 (0),.int .i64 (0)] 35)));replace HB:=h_ (HB.out.below ((Below.refl _ _).alloc (Nat.le_refl _) (.cells #[.int .i64 (0),.int .i64 (0)] 35)))
  have g0:((w2).alloc (.cells #[.int .i64 (0),.int .i64 (0)] 35)).cell? ⟨(w2).heap.size,0,none⟩=some (.int .i64 (0)):=by simp[go_sem]
  have g1:((w2).alloc (.cells #[.int .i64 (0),.int .i64 (0)] 35)).cell? ⟨(w2).heap.size,1,none⟩=some (.int .i64 (0)):=by simp[go_sem]
  have gz:(w2).heap.size<((w2).alloc (.cells #[.int .i64 (0),.int .i64 (0)] 35)).heap.size:=by simp
  generalize w2.alloc (.cells #[.int .i64 0,.int .i64 0] 35)=X at *;obtain⟨z0,c00,f00,c01,f01,z1,c10,f10,c11,f11⟩:=HF.out.xf4
  first|refine ab (by kernel_rfl) (by kernel_rfl) ?_|refine ac (by kernel_rfl) (by kernel_rfl) ?_
  repeat (first|go_big_quiet_step (fail)|quiet_step (fail))
  refine wpQuiet_nil ?_
  intro _ hw'
  obtain⟨tr,hw''⟩:=hw';subst hw'';clear z0 c00 f00 c01 f01 z1 c10 f10 c11 f11;replace HF:=h_ (HF.out.more tr);replace HI:=h_ (HI.out.below (aa _ tr));replace HA:=h_ (HA.out.below (aa _ tr));replace HB:=h_ (HB.out.below (aa _ tr));replace g0:=keep_cell g0 (aa _ tr);replace g1:=keep_cell g1 (aa _ tr);replace gz:=Nat.lt_of_lt_of_le gz (ae _ tr);generalize more X tr=Y at *;obtain⟨z0,c00,f00,c01,f01,z1,c10,f10,c11,f11⟩:=HF.out.xf4
 case zy|zj=>
  go_wp2_with (fail)
  refine bodyPost_ret (v:=.tuple #[.agg #[.int .i64 0,.int .i64 0],.bool false]) (by simp[results,Tryz.results104,go_sem,c10,c11,z1,f10,f11]) rfl ?_
  refine RetMo.mkN HRE.out ?_ ?_
  ·refine MonI.less (T:=T') ?_ (fun k hk=>by rw[<- HTT.out];exact .inl hk) HSUB.out
   repeat (first|exact HI.out|refine MonI.alloc ?_ _|refine MonI.stored ?_ _ (by rw[<- HTT.out];exact aG 1 rfl (by omega)) (HNS.out 1))
  ·repeat (first|exact HF.out.f|refine Frm.alloc ?_ _|refine Frm.ownSet ?_ (by omega) _)
end Go.Proofs.YtkaiilmgemaljaaGreat

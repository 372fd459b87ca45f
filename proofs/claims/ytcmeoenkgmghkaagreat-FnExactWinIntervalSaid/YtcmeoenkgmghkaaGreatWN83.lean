/- Part of one proof. There are no conditions. -/
import Derived.Test.YtcmeoenkgmghkaaGreatWN44
import Derived.Test.YtcmeoenkgmghkaaGreatWN81
set_option maxHeartbeats 0
set_option linter.unusedVariables false
set_option linter.unusedSimpArgs false
set_option maxRecDepth 100000
open Go.Value renaming int->r,slice->C,pointer->F,bool->I,agg->J,tuple->L
open Go.IntKind renaming i64->y
open Go.Obj renaming cells->D
namespace Go.Proofs.YtcmeoenkgmghkaaGreat
open Go.RowKit Ps Ra Ex
theorem fq (i:Nat):13<=v13d i:=by
 unfold v13d
 split
 ·omega
 ·split
  ·omega
  ·split<;>omega
theorem lS (t:RT2) (ht:t.Ok) {own other:List Int} (hq:PosP t.h t.c own) (hq2:PosP t.h t.c other) (hval:own.sum≠0->∀q,PosP t.h t.c q->pips q<pips own->ValC t other q):ValC t own other:=by
 intro A B ca cb w hI hA hca hB hcb
 obtain⟨i0,hi,hz0,hz1,hz2⟩:=info_parts Tryz.infoE;have hv:=aC ht.v
 have hs1:1<=t.s:=by omega
 have hs6:t.s<=6:=by omega
 have hh24:t.h<=24:=by omega
 have hh1:0<t.h:=by omega
 have hc15:t.c<=15:=by omega
 obtain⟨hq1,hq36,_⟩:=sq_bd hs1 hs6;have hlow:=hI.ltS;have HLOW:=h_ hlow
 have HNS:Hid (¬t.S w.heap.size):=fun h=>by have:=hlow _ h;omega
 have HNB:Hid (t.bt≠w.heap.size):=fun h=>by have:=hI.ltB;omega
 have HF0:Hid (FrS t.S w (w.alloc (D #[r y 0,r y 0] 45)) [[r y 0,r y 0]]):=(FrS.start w hlow).allocT (by simp) _ _
 have hb0:Below w.heap.size w (w.alloc (D #[r y 0,r y 0] 45)):=(Below.refl _ _).alloc (Nat.le_refl _) _;have HI0:Hid (TabI t (w.alloc (D #[r y 0,r y 0] 45))):=hI.below hb0;have HIW:=h_ hI;have HA:=h_ (hA.below hb0);have HB:=h_ (hB.below hb0)
 have SUA:=h_ (dS A t.h ca own _ HA.out.1 hq.2.1 (by have:=hq.2.2;omega) (by omega))
 have SUB:=h_ (dS B t.h cb other _ HB.out.1 hq2.2.1 (by have:=hq2.2.2;omega) (by omega))
 by_cases hs0:own.sum=0
 ·have HRE:Hid (win t.s own other=some ⟨1,0⟩):=win_own hs0
  have b0:(own.sum == 0)=true:=by simp[hs0]
  clear hI hA hB hv hlow hb0 hq hq2 hval hs0 ht HA HB SUB
  go_enter Tryz.func90,Tryz.ntmps90
  go_wp2_with (first
   | (go_at_call 161;(with_reducible refine SUA.out.mono ?_);rintro e w' ⟨rfl,rfl⟩)
   | (go_at_call 142; (with_reducible refine (more_first (cw _)).mono ?_); rintro e w' ⟨rfl, tr, rfl⟩
      have HZ := h_ (HF0.out.more tr); have HIz := h_ (HI0.out.more tr); clear HF0 HI0 SUA; generalize more (w.alloc (D #[r y 0, r y 0] 45)) tr = Z at *; obtain ⟨z0, c00, f00, c01, f01⟩ := HZ.out.xf4
      ))
  refine bodyPost_ret (v:=L #[J #[r y 1,r y ((0:Nat):Int)],I true]) (by simp[results,Tryz.results90,go_sem,c00,c01,z0,f00,f01]) rfl (RetTn.mkY HRE.out ?_ ?_)
  ·repeat (first|exact HIz.out|refine TabI.alloc ?_ _|refine TabI.drew ?_|refine TabI.stored ?_ _ HNS.out HNB.out)
  ·repeat (first|exact HZ.out.f|refine Frm.alloc ?_ _|refine Frm.drew ?_|refine Frm.ownSet ?_ (by omega) _)
 ·have b0:(own.sum == 0)=false:=by simp[hs0]
  by_cases ht0:other.sum=0
  ·have HRE:Hid (win t.s own other=some ⟨0,0⟩):=jh hs0 ht0
   have b1:(other.sum == 0)=true:=by simp[ht0]
   clear hI hA hB hv hlow hb0 hq hq2 hval hs0 ht0 ht HA HB
   go_enter Tryz.func90,Tryz.ntmps90
   go_wp2_with (first|(go_at_call 161;(with_reducible refine SUA.out.mono ?_);rintro e w' ⟨rfl,rfl⟩)|(go_at_call 161;(with_reducible refine SUB.out.mono ?_);rintro e w' ⟨rfl,rfl⟩))
   refine bodyPost_ret (v:=L #[J #[r y 0,r y ((0:Nat):Int)],I true]) (by simp[results,Tryz.results90,go_sem]) rfl (RetTn.mkY HRE.out ?_ ?_)
   ·repeat (first|exact HIW.out|refine TabI.alloc ?_ _)
   ·repeat (first|exact Frm.refl _ _|refine Frm.alloc ?_ _)
  ·have b1:(other.sum == 0)=false:=by simp[ht0]
   have HQ:=h_ hq;have HQ2:=h_ hq2;have hn1:num t.c own<t.N:=dA hq;have hn2:num t.c other<t.N:=dA hq2;have hN5:=ht.n
   have hw6:wys t.h t.c<=1000000:=Nat.le_trans hN5 (by omega)
   have CN1:=h_ fun (W:World) (hx:SL W A t.h own)=>gI t.p t.s t.c t.h A t.h ca own W hx hq hc15 hh24 hw6
   have CN2:=h_ fun (W:World) (hx:SL W B t.h other)=>gI t.p t.s t.c t.h B t.h cb other W hx hq2 hc15 hh24 hw6
   have hmul:num t.c own*t.N<=500*500:=Nat.mul_le_mul (by omega) hN5
   have hw1:IntKind.i64.wrap ((num t.c own:Int)*(t.N:Int))=((num t.c own*t.N:Nat):Int):=by
    rw[<- Int.natCast_mul];exact IntWalk.i64_in _ (by omega)
   have hw2:IntKind.i64.wrap (((num t.c own*t.N:Nat):Int)+(num t.c other:Int))=((num t.c own*t.N+num t.c other:Nat):Int):=by
    rw[<- Int.natCast_add];exact IntWalk.i64_in _ (by omega)
   have HK2:Hid (t.key own other=num t.c own*t.N+num t.c other):=rfl;have hKM:num t.c own*t.N+num t.c other<t.M:=RT2.key_lt hq hq2;have hM:t.M<=250000:=Nat.mul_le_mul hN5 hN5;have HT:=h_ ht;have HVV:=h_ (hval hs0);have HWIN:Hid (win t.s own other=(allS (rollE t.s own other) (ah t.s)).bind (meanE (sq t.s) (ah t.s))):=win_eq hq hq2 hs0 ht0;have HRV:=h_ (rollE_val hq1 own other);have HS0:=h_ hs0;have HT0:=h_ ht0;generalize hKK:num t.c own*t.N+num t.c other=K at *;generalize hMM:num t.c own*t.N=M at *;generalize num t.c own=na at *;generalize num t.c other=nb at *;clear hMM hKK hmul hw6
   have hzz:w.heap.size+1<=(w.alloc (D #[r y 0,r y 0] 45)).heap.size:=by simp
   clear hI hA hB hv hlow hb0 hq hq2 hval hs0 ht0 ht
   go_enter Tryz.func90,Tryz.ntmps90
   go_wp2_with (first|(go_at_call 161;(with_reducible refine SUA.out.mono ?_);rintro e w' ⟨rfl,rfl⟩)|(go_at_call 161;(with_reducible refine SUB.out.mono ?_);rintro e w' ⟨rfl,rfl⟩))
   generalize w.alloc (D #[r y 0,r y 0] 45)=W0 at *;have e0:=HI0.out.tb 0 _ rfl;have e1:=HI0.out.tb 1 _ rfl;have e2:=HI0.out.tb 2 _ rfl;have e3:=HI0.out.tb 3 _ rfl;have e4:=HI0.out.tb 4 _ rfl;have hbt:=HI0.out.ltB;clear SUA SUB
   first|refine ag (by kernel_rfl) (by kernel_rfl) ?_|refine ae (by kernel_rfl) (by kernel_rfl) ?_
   repeat (first|go_big_quiet_step (first|(go_at_call_of 162 A;exact more_call (CN1.out _ (HA.out.1.more _)))|(go_at_call_of 162 B;exact more_call (CN2.out _ (HB.out.1.more _))))|quiet_step (first|(go_at_call_of 162 A;exact more_call (CN1.out _ (HA.out.1.more _)))|(go_at_call_of 162 B;exact more_call (CN2.out _ (HB.out.1.more _)))))
   refine wpQuiet_nil ?_
   intro _ hw'
   obtain⟨tr,hw''⟩:=hw';subst hw'';have HF1:=h_ (HF0.out.more tr);have HI1:=h_ (HI0.out.more tr);have HA1:=h_ (HA.out.below (aa _ tr));have HB1:=h_ (HB.out.below (aa _ tr));have hzW1:=Nat.le_trans hzz (ai _ tr);clear HF0 HI0 HA HB hzz e0 e1 e2 e3 e4 hbt CN1 CN2 hw1 hw2 hn1 hn2;generalize more W0 tr=W1 at *;have hbt:=HI1.out.ltB;obtain⟨kf,ef,hC,hM2⟩:=HI1.out;have HC:=h_ hC;have HM2:=h_ hM2;clear hC hM2;have e5:=HI1.out.tb 5 _ rfl;have e6:=HI1.out.tb 6 _ rfl;have ek:=HC.out.k K hKM
   have hKi0:(0:Int)<=(K:Int):=by omega
   have hKi:(K:Int)<(t.M:Int):=by omega
   rcases hkf:kf K with _|_
   ·rw[hkf]at ek
    clear hkf HC HM2;have e0:=HI1.out.tb 0 _ rfl;have e1:=HI1.out.tb 1 _ rfl;have e2:=HI1.out.tb 2 _ rfl;have e3:=HI1.out.tb 3 _ rfl
    go_wp2_with (fail)
    refine (eK t.p t.c t.h t.s _ hs6).mono ?_
    rintro e W2 ⟨vr,rfl,hor,hb2⟩
    have hsz1:∀x,W1.heap.size<=x->¬t.S x:=fun x hx h=>by have:=HLOW.out x h;omega
    obtain⟨Ar,cr,rfl,hRL,hcr⟩:=hor.read (S:=t.S) hsz1
    have hnr1:0<(ah t.s).length:=by
     have h1:=bV t.s
     have h2:1*2<=t.s*(t.s+1):=Nat.mul_le_mul (by omega) (by omega)
     omega
    have hnr21:(ah t.s).length<=21:=cJ hs6;obtain⟨rb,ro,rfl,_,_,_⟩:=hRL.at hnr1;have HRL:=h_ hRL;have HF2:=h_ (HF1.out.below hb2);have HI2:=h_ (HI1.out.below hb2);have HA2:=h_ (HA1.out.below hb2);have HB2:=h_ (HB1.out.below hb2);have hzW2:w.heap.size+1<=W2.heap.size:=Nat.le_trans hzW1 hb2.size
    have hncr:((ah t.s).length:Int)<=(cr:Int):=by omega
    clear hor hb2 hRL HF1 HI1 HA1 HB1 e0 e1 e2 e3 e5 e6 ek hbt hsz1
    have HO0:Hid (OwnE (W2.alloc (D #[] 45)) W2.heap.size (C (some ⟨W2.heap.size,0,none⟩) 0 0) []):=by
     have:=lm W2 (base:=W2.heap.size) 45 (z:=2) (n:=0) #[] (Nat.le_refl _) (by unfold maxLen;omega) rfl
     exact this
    have HI3:Hid (TabI t (W2.alloc (D #[] 45))):=HI2.out.alloc _;have hfa:Frm t.S W2 (W2.alloc (D #[] 45)):=(Frm.refl _ _).alloc _;have HFA:=h_ hfa;clear hfa
    go_wp2_with (fail)
    go_loopw [10,11] (fun v10 v11 wr=>∃(k:Nat) (xs:List E),k<=(ah t.s).length/\v11 = r y k/\Hid (allS (rollE t.s own other) ((ah t.s).take k)=some xs/\xs.length=k)/\(∃vx,vx=v10/\Hid (OwnE wr W2.heap.size vx xs))/\Hid (TabI t wr)/\Hid (Frm t.S W2 wr)) (fun _ v11 _=>(ah t.s).length-(intOf v11).toNat)
    case atStart=>exact⟨0,[],by omega,rfl,⟨rfl,rfl⟩,⟨_,rfl,HO0.out⟩,HI3.out,HFA.out⟩
    case round=>
     clear HO0 HI3 HFA;obtain⟨k,xs,hk,rfl,hxs,⟨vx,rfl,HO⟩,HI,HFw⟩:=hrel;have HXK:=h_ hxs.out.2
     by_cases hlt:k<(ah t.s).length
     focus
      have hki:(k:Int)<((ah t.s).length:Int):=by omega
      have hrl:=HRL.out.frm HFw.out;obtain⟨_,_,hA',hzr,q1,q2⟩:=hrl.at hlt;injection hA' with hA';injection hA' with hA1' hA2';subst hA1' hA2'
      have hrbS:Hid (¬t.S rb):=by
       obtain⟨_,_,hA'',_,hs'',_⟩:=hrl.2.2 (by omega)
       injection hA'' with hA'';injection hA'' with h1'' h2'';subst h1''
       exact hs''
      have hrm:=bp.1 (aj (ah t.s) (0,0) hlt);have HLK:=h_ hlt
      rcases hab:(ah t.s).getD k (0,0) with⟨a,b⟩
      rw[hab]at q1 q2 hrm;obtain⟨r1,r2,r3⟩:=hrm
      simp only at q1 q2 r1 r2 r3
      have HQ1:=h_ q1;have HQ2':=h_ q2;have hzwr:W2.heap.size<=wr.heap.size:=HFw.out.size
      have hlowr:Hid (∀x,t.S x->x<wr.heap.size):=fun x hx=>by have:=HLOW.out x hx;omega
      have HAr:=h_ (HA2.out.frm HFw.out);have HBr:=h_ (HB2.out.frm HFw.out)
      have HRES:=h_ fun (W:World) (hx:SQ t.S W A t.h own) (hS:∀x,W.heap.size<=x->¬t.S x)=>j6 t.S t.p t.c t.h t.s A t.h ca a b own W hx.1 hca ⟨HQ.out.1,HQ.out.2.1,by have:=HQ.out.2.2;omega⟩ hh24 hh1 r1 r2 (by omega) hS
      have HBST0:=fun (A':Option Addr) (n c:Nat) (W:World) (hI:TabI t W) (hpl:PL t.S W A' n (resultsL own a b)) (hB:SQ t.S W B t.h other)=>l12Best_any t HT.out (resultsL own a b) (fun q h=>(bf (by omega) r1 HQ.out q h).1) (fun q h=>l12After_any t HT.out (bf (by omega) r1 HQ.out q h).1 HT0.out (HVV.out q (bf (by omega) r1 HQ.out q h).1 ((bf (by omega) r1 HQ.out q h).2.2 HS0.out))) A' B n c cb W (by rw[<- hpl.len];exact Nat.le_trans (js (by omega) r1 HQ.out hh24) (by omega)) hI hpl hB hcb
      clear q1 q2 hrl r1 r2 r3
      rcases hbs:bestS (sq t.s) (sec t.s other) (resultsL own a b) with _|⟨cnt,at',⟨xn,xd⟩⟩
      focus
       have HRE:Hid (win t.s own other=none):=by
        unfold Hid
        rw[HWIN.out,allS_stop HLK.out hxs.out.1 (by rw[hab,dM,hbs];rfl)];rfl
       refine ?ze
      rotate_left
      focus
       have HXS:Hid (allS (rollE t.s own other) ((ah t.s).take (k+1))=some (xs++[⟨xn,xd⟩])):=allS_go HLK.out hxs.out.1 (by rw[hab,dM,hbs];rfl)
       refine ?zf
     rotate_left 2
     ·have hke:k=(ah t.s).length:=by omega
      have HALL:Hid (allS (rollE t.s own other) (ah t.s)=some xs):=by
       have h:=hxs.out.1
       rwa [List.take_of_length_le (by omega)]at h
      have HRE0:Hid (win t.s own other=meanE (sq t.s) (ah t.s) xs):=by
       unfold Hid
       rw[HWIN.out,HALL.out];rfl
      obtain⟨Av,cv,hvx,hel,_⟩:=HO.out.el
      have hxl:xs.length=(ah t.s).length:=by rw[HXK.out,hke]
      rw[hxl]at hvx hel;have MEAN:=h_ (fR t.p t.c t.h t.s (ah t.s).length cv Av xs wr hs1 hs6 hel rfl (allS_val HRV.out HALL.out));subst hvx;have e0:=HI.out.tb 0 _ rfl;have e1:=HI.out.tb 1 _ rfl;have e2:=HI.out.tb 2 _ rfl;have e3:=HI.out.tb 3 _ rfl;have hbt:=HI.out.ltB;have HFr:=h_ (HF2.out.frm HFw.out);have hzwr:W2.heap.size<=wr.heap.size:=HFw.out.size;clear hel hxl HO hxs HRL HF2 HI2 HA2 HB2 HFw;generalize meanE (sq t.s) (ah t.s) xs=o at *
      rcases o with _|⟨m,d⟩
      ·go_wp2_with (fail)
       refine MEAN.out.mono ?_
       rintro e w5 ⟨rfl,hb5⟩
       simp only[Option.getD_none,Option.isSome_none]
       have HF5:=h_ (HFr.out.below hb5);have HI5:=h_ (HI.out.below hb5);clear HFr HI hb5 e0 e1 e2 e3 hbt MEAN;obtain⟨z0,c00,f00,c01,f01⟩:=HF5.out.xf4
       go_wp2_with (fail)
       refine bodyPost_ret (v:=L #[J #[r y 0,r y 0],I false]) (by simp[results,Tryz.results90,go_sem,c00,c01,z0,f00,f01]) rfl (RetTn.mkN HRE0.out ?_ ?_)
       ·repeat (first|exact HI5.out|refine TabI.alloc ?_ _|refine TabI.drew ?_|refine TabI.stored ?_ _ HNS.out HNB.out)
       ·repeat (first|exact HF5.out.f|refine Frm.alloc ?_ _|refine Frm.drew ?_|refine Frm.ownSet ?_ (by omega) _)
      ·go_wp2_with (fail)
       refine MEAN.out.mono ?_
       rintro e w5 ⟨rfl,hb5⟩
       simp only[Option.getD_some,Option.isSome_some]
       have HFx:Hid (FrS t.S w (w5.alloc (D #[r y m,r y (d:Int)] 45)) [[r y 0,r y 0]]):=(HFr.out.below hb5).alloc _;have HIx:Hid (TabI t (w5.alloc (D #[r y m,r y (d:Int)] 45))):=(HI.out.below hb5).alloc _;have hz5:wr.heap.size<=w5.heap.size:=hb5.size
       have g0:(w5.alloc (D #[r y m,r y (d:Int)] 45)).cell? ⟨w5.heap.size,0,none⟩=some (r y m):=by simp[go_sem]
       have g1:(w5.alloc (D #[r y m,r y (d:Int)] 45)).cell? ⟨w5.heap.size,1,none⟩=some (r y (d:Int)):=by simp[go_sem]
       have gz:w5.heap.size<(w5.alloc (D #[r y m,r y (d:Int)] 45)).heap.size:=by simp
       clear HFr HI hb5 e0 e1 e2 e3 hbt MEAN
       go_upto_region 18 with (fail)
       generalize w5.alloc (D #[r y m,r y (d:Int)] 45)=X at *;obtain⟨kf,ef,hC,hM2⟩:=HIx.out;have HM2:=h_ hM2;have HC:=h_ hC;have HC1:=h_ (hC.setK hKM);have e5:=hC.tb 5 _ rfl;have ek:=hC.k K hKM;have fk:=hC.fk K;have hbk:=hC.ltK;have hbt:=hC.ltB
       have hgk:¬w5.heap.size=t.bk:=fun h=>by have:=HLOW.out t.bk (.inl rfl);omega
       have hgk2:¬t.bk=w5.heap.size:=fun h=>hgk h.symm
       have hgS:¬t.S w5.heap.size:=fun h=>by have:=HLOW.out _ h;omega
       have hbb:¬t.bt=t.bk:=fun h=>hC.nt (.inl h)
       have hbb2:¬t.bk=t.bt:=fun h=>hbb h.symm
       have k0:=(Frm.set X t.bk K (I true)).cell' g0 hgk;have k1:=(Frm.set X t.bk K (I true)).cell' g1 hgk
       have kz:w5.heap.size<(X.setCell ⟨t.bk,K,none⟩ (I true)).heap.size:=by simpa using gz
       have HFk:Hid (Frm t.S w (X.setCell ⟨t.bk,K,none⟩ (I true))):=HFx.out.f.trans ((Frm.set X t.bk K (I true)).mono fun x hx=>by rw[hx];exact .inl rfl)
       have HFk2:Hid (FrS t.S w (X.setCell ⟨t.bk,K,none⟩ (I true)) [[r y 0,r y 0]]):=HFx.out.frm ((Frm.set X t.bk K (I true)).mono fun x hx=>by rw[hx];exact .inl rfl)
       clear hC hM2
       go_wp2_with (fail)
       clear g0 g1 gz e5 ek fk hbk;generalize X.setCell ⟨t.bk,K,none⟩ (I true)=X1 at *;have e6:=HC1.out.tb 6 _ rfl;have hbt1:=HC1.out.ltB
       first|refine ak 7 (by kernel_rfl) (by kernel_rfl) ?_|refine am 7 (by kernel_rfl) (by kernel_rfl) ?_
       simp only[List.take_succ_cons,List.take_zero,List.drop_succ_cons,List.drop_zero]
       repeat (first|go_big_quiet_step (fail)|quiet_step (fail))
       refine wpQuiet_nil ?_
       intro _ hw'
       obtain⟨tr,hw''⟩:=hw';subst hw'';have HC2:=h_ (HC1.out.below (aa _ tr));have HF6:=h_ (HFk2.out.more tr);have j0:=ac k0 (aa _ tr);have j1:=ac k1 (aa _ tr);have jz:=Nat.lt_of_lt_of_le kz (ai _ tr);clear k0 k1 kz e6 hbt1 hbt HC1 HFk HFk2 HFx HIx HC;generalize more X1 tr=Z at *;obtain⟨v1,v2⟩:=HC2.out.e K hKM;have fv1:=HC2.out.fv (K*2);have fv2:=HC2.out.fv (K*2+1);have hbv:=HC2.out.ltV
       have hgv:¬w5.heap.size=t.bv:=fun h=>hgS (.inr h)
       have hgv2:¬t.bv=w5.heap.size:=fun h=>hgv h.symm
       have hwv:¬w.heap.size=t.bv:=fun h=>HNS.out (.inr h)
       have hwv2:¬t.bv=w.heap.size:=fun h=>hwv h.symm
       have HI7:Hid (TabI t ((Z.setCell ⟨t.bv,K*2,none⟩ (r y m)).setCell ⟨t.bv,K*2+1,none⟩ (r y (d:Int)))):=by
        refine⟨_,_,HC2.out.setV hKM m (d:Int),?_⟩
        have:=HM2.out.put HQ.out HQ2.out (e:=⟨m,d⟩) HRE0.out;rw[HK2.out]at this
        exact this
       have HF7:Hid (FrS t.S w ((Z.setCell ⟨t.bv,K*2,none⟩ (r y m)).setCell ⟨t.bv,K*2+1,none⟩ (r y (d:Int))) [[r y 0,r y 0]]):=HF6.out.frm (((Frm.set _ _ _ _).trans (Frm.set _ _ _ _)).mono fun x hx=>by rw[hx];exact .inr rfl)
       have h2:∀(c:Nat) (v:Value),Z.cell? ⟨w5.heap.size,c,none⟩=some v->((Z.setCell ⟨t.bv,K*2,none⟩ (r y m)).setCell ⟨t.bv,K*2+1,none⟩ (r y (d:Int))).cell? ⟨w5.heap.size,c,none⟩=some v:=fun c v h=>(Frm.set _ _ _ _).cell' ((Frm.set _ _ _ _).cell' h hgv) hgv
       have q0:=h2 0 _ j0;have q1:=h2 1 _ j1;have e6:=HC2.out.tb 6 _ rfl;clear h2 HF6 HM2
       have z0:=HF7.out.ltA (b:=w.heap.size) 0 rfl (by simp)
       have c00:=HF7.out.cellA (b:=w.heap.size) 0 0 rfl rfl;have f00:=HF7.out.frozA (b:=w.heap.size) 0 0 rfl rfl;have c01:=HF7.out.cellA (b:=w.heap.size) 0 1 rfl rfl;have f01:=HF7.out.frozA (b:=w.heap.size) 0 1 rfl rfl
       go_wp2_with (fail)
       refine bodyPost_ret (v:=L #[J #[r y m,r y (d:Int)],I true]) (by simp[results,Tryz.results90,go_sem,c00,c01,z0,f00,f01]) rfl (RetTn.mkY HRE0.out ?_ ?_)
       ·repeat (first|exact HI7.out|refine TabI.alloc ?_ _|refine TabI.drew ?_|refine TabI.stored ?_ _ HNS.out HNB.out)
       ·repeat (first|exact HF7.out.f|refine Frm.alloc ?_ _|refine Frm.drew ?_|refine Frm.ownSet ?_ (by omega) _)
     case' ze|zf=>
      rw[hbs]at HBST0;have HBST:=h_ HBST0;clear hbs hab HBST0
      go_wp2_with (fail)
     case' ze=>
      refine bH 18 (fun i=>i == 15||i == 16) v13d (Frm t.S) (TabI t) (v13G t wr A B ca cb rb ro cr k a b own (L #[r y 0,J #[r y 0,r y 0],I false]) (r y 0) (J #[r y 0,r y 0]) (I false)) (by kernel_rfl) (by kernel_rfl) (fun _ _ _ _ _ h=>h) (fun _ _ _ h1 h2=>h1.trans h2) (fun _=>Frm.refl _ _) (v13_stab hlowr.out) (Frm.refl _ _).drew HI.out.drew ?_ ?_ ?_
      ·intro i o hi hX ho a' W hW hIW hfar hdep
       have hi8:i=15\/i=16:=by simpa using hX
       clear hfar
       rcases hi8 with rfl|rfl
       all_goals
        simp at ho
        subst ho
       ·have d1:a'.tmps.getD 69 undef=_:=dp hdep 13
        exact⟨J #[r y 0,r y 0],fun W'=>by simp only[execOp,Act.eval,d1];go_simp,rfl⟩
       ·have d1:a'.tmps.getD 69 undef=_:=dp hdep 13
        exact⟨I false,fun W'=>by simp only[execOp,Act.eval,d1];go_simp,rfl⟩
      focus
       refine ?za
     case' zf=>
      refine bH 18 (fun i=>i == 15||i == 16) v13d (Frm t.S) (TabI t) (v13G t wr A B ca cb rb ro cr k a b own (L #[r y (at':Int),J #[r y xn,r y (xd:Int)],I true]) (r y (at':Int)) (J #[r y xn,r y (xd:Int)]) (I true)) (by kernel_rfl) (by kernel_rfl) (fun _ _ _ _ _ h=>h) (fun _ _ _ h1 h2=>h1.trans h2) (fun _=>Frm.refl _ _) (v13_stab hlowr.out) (Frm.refl _ _).drew HI.out.drew ?_ ?_ ?_
      ·intro i o hi hX ho a' W hW hIW hfar hdep
       have hi8:i=15\/i=16:=by simpa using hX
       clear hfar
       rcases hi8 with rfl|rfl
       all_goals
        simp at ho
        subst ho
       ·have d1:a'.tmps.getD 69 undef=_:=dp hdep 13
        exact⟨J #[r y xn,r y (xd:Int)],fun W'=>by simp only[execOp,Act.eval,d1];go_simp,rfl⟩
       ·have d1:a'.tmps.getD 69 undef=_:=dp hdep 13
        exact⟨I true,fun W'=>by simp only[execOp,Act.eval,d1];go_simp,rfl⟩
      focus
       refine ?zb
     case za|zb=>
      intro i o hi hX ho a' W hW hIW hfar hdep
      have e0:a'.tmps.getD 0 undef = F (some ⟨t.bt,0,none⟩):=(hfar 0 (fun j _=>by have:=fq j;omega)).trans rfl
      have e1:a'.tmps.getD 1 undef = C A t.h ca:=(hfar 1 (fun j _=>by have:=fq j;omega)).trans rfl
      have e2:a'.tmps.getD 2 undef = C B t.h cb:=(hfar 2 (fun j _=>by have:=fq j;omega)).trans rfl
      have e9:a'.tmps.getD 9 undef = C (some ⟨rb,ro,none⟩) (ah t.s).length cr:=(hfar 9 (fun j _=>by have:=fq j;omega)).trans rfl
      have e11:a'.tmps.getD 11 undef = r y (k:Int):=(hfar 11 (fun j _=>by have:=fq j;omega)).trans rfl
      have hX2:i≠15/\i≠16:=by simpa using hX
      have hi8:i=0\/i=1\/i=2\/i=3\/i=4\/i=5\/i=6\/i=7\/i=8\/i=9\/i=10\/i=11\/i=12\/i=13\/i=14\/i=17:=by omega
      clear hfar
      rcases hi8 with rfl|rfl|rfl|rfl|rfl|rfl|rfl|rfl|rfl|rfl|rfl|rfl|rfl|rfl|rfl|rfl
      all_goals
       simp at ho
       subst ho
      ·refine ilF ?_;simp only[execOp,Act.eval,e0];go_simp
      ·refine ilF ?_;simp only[execOp,Act.eval,e0];go_simp
      ·have d1:a'.tmps.getD 71 undef=_:=dp hdep 1
       refine ilF ?_;simp only[execOp,Act.eval,d1];go_simp
      ·have d1:a'.tmps.getD 72 undef=_:=dp hdep 2
       refine ilF ?_;simp only[execOp,Act.eval,d1];go_simp
      ·have d1:a'.tmps.getD 73 undef=_:=dp hdep 3
       have q0:=hIW.tb 0 _ rfl;have q1:=hIW.tb 1 _ rfl;have q2:=hIW.tb 2 _ rfl;have q3:=hIW.tb 3 _ rfl
       refine ilF ?_;simp only[execOp,Act.eval,d1];go_simp
      ·refine ilF ?_;simp only[execOp,Act.eval,e1];go_simp
      ·refine ilF ?_;simp only[execOp,Act.eval,e9];go_simp
      ·refine ilF ?_;simp only[execOp,Act.eval,e11];go_simp
      ·have d1:a'.tmps.getD 76 undef=_:=dp hdep 6
       have d2:a'.tmps.getD 77 undef=_:=dp hdep 7
       refine ilF ?_;simp only[execOp,Act.eval,d1,d2];go_simp
      ·have d1:a'.tmps.getD 78 undef=_:=dp hdep 8
       have q1:=hW.cell' HQ1.out hrbS.out;have q2:=hW.cell' HQ2'.out hrbS.out
       refine ilF ?_;simp only[execOp,Act.eval,d1];go_simp
      ·have d1:a'.tmps.getD 74 undef=_:=dp hdep 4
       have d2:a'.tmps.getD 75 undef=_:=dp hdep 5
       have d3:a'.tmps.getD 79 undef=_:=dp hdep 9
       refine .inr ⟨164,#[J #[r y t.p,r y t.c,r y t.h,r y t.s],C A t.h ca,J #[r y (a:Int),r y (b:Int)]],by simp only[execOp,Act.eval,d1,d2,d3];go_simp,?_⟩
       refine (HRES.out W (HAr.out.frm hW) (fun x hx h=>by have:=hlowr.out x h;have:=hW.size;omega)).mono ?_
       rintro e W' ⟨b',off,n',c',rfl,hpl,hc,hb'⟩
       exact⟨_,rfl,Frm.of_below' _ hb',hIW.below hb',b',off,n',c',rfl,hpl,hc⟩
      ·refine ilF ?_;simp only[execOp,Act.eval,e2];go_simp
      ·have d1:a'.tmps.getD 70 undef=_:=dp hdep 0
       obtain⟨b',off,n',c',d2,hpl,hc⟩:∃b' off n c,a'.tmps.getD 80 undef = C (some ⟨b',off,none⟩) n c/\PL t.S W (some ⟨b',off,none⟩) n (resultsL own a b)/\n<=c:=dp hdep 10
       have d3:a'.tmps.getD 81 undef=_:=dp hdep 11
       refine .inr ⟨163,#[F (some ⟨t.bt,0,none⟩),C (some ⟨b',off,none⟩) n' c',C B t.h cb],by simp only[execOp,Act.eval,d1,d2,d3];go_simp,?_⟩
       refine (HBST.out (some ⟨b',off,none⟩) n' c' W hIW hpl (HBr.out.frm hW)).mono ?_
       rintro e W' ⟨hI',hf',rfl⟩
       exact⟨_,rfl,hf',hI',rfl⟩
      ·have d1:a'.tmps.getD 82 undef=_:=dp hdep 12
       refine ilF ?_;simp only[execOp,Act.eval,d1];go_simp
      ·have d1:a'.tmps.getD 69 undef=_:=dp hdep 13
       refine ilF ?_;simp only[execOp,Act.eval,d1];go_simp
      ·refine .inl ⟨F (some ⟨W.heap.size,0,none⟩),W.alloc (D #[r y 0,r y 0] 45),by kernel_rfl,(Frm.refl _ _).alloc _,hIW.alloc _,W.heap.size,rfl,hW.size,?_,?_,?_,?_⟩<;>simp[go_sem]
     case' ze|zf=>
      intro v W hW hIW hg
      have g0:v 0=_:=gq hg 0
      have g1:v 1=_:=gq hg 1
      have g2:v 2=_:=gq hg 2
      have g3:v 3=_:=gq hg 3
      have g4:v 4=_:=gq hg 4
      have g5:v 5=_:=gq hg 5
      have g6:v 6=_:=gq hg 6
      have g7:v 7=_:=gq hg 7
      have g8:v 8=_:=gq hg 8
      have g9:v 9=_:=gq hg 9
      obtain⟨_,_,_,_,g10,_,_⟩:∃b' off n c,v 10 = C (some ⟨b',off,none⟩) n c/\PL t.S W (some ⟨b',off,none⟩) n (resultsL own a b)/\n<=c:=hg 10 (by omega)
      have g11:v 11=_:=gq hg 11
      have g12:v 12=_:=gq hg 12
      have g13:v 13=_:=gq hg 13
      have g14:v 14=_:=gq hg 14
      have g15:v 15=_:=gq hg 15
      have g16:v 16=_:=gq hg 16
      obtain⟨g,g17,gl,y0,y1,y2,y3⟩:∃g,v 17 = F (some ⟨g,0,none⟩)/\wr.heap.size<=g/\W.cell? ⟨g,0,none⟩=some (r y 0)/\W.cell? ⟨g,1,none⟩=some (r y 0)/\W.frozen? ⟨g,0,none⟩=false/\W.frozen? ⟨g,1,none⟩=false:=hg 17 (by omega)
      simp only[List.drop_succ_cons,List.drop_zero,putV,v13d,g0,g1,g2,g3,g4,g5,g6,g7,g8,g9,g10,g11,g12,g13,g14,g15,g16,g17,Act.put]
      clear g0 g1 g2 g3 g4 g5 g6 g7 g8 g9 g10 g11 g12 g13 g14 g15 g16 g17 hg;have HW:=h_ hW;have HIw:=h_ hIW;have yz:=World.block_lt_of_cell? W _ y0;clear hW hIW
      have hgS:¬t.S g:=fun h=>by have:=hlowr.out g h;omega
      have hgB:t.bt≠g:=fun h=>by have:=HI.out.ltB;omega
     case ze=>
      have hgn:¬g=w.heap.size:=by omega
      have hgn2:¬w.heap.size=g:=by omega
      have HF4:=h_ ((HF2.out.frm HFw.out).frm HW.out);clear HO;obtain⟨z0,c00,f00,c01,f01⟩:=HF4.out.xf4
      go_wp2_with (fail)
      refine bodyPost_ret (v:=L #[J #[r y 0,r y 0],I false]) (by simp[results,Tryz.results90,go_sem,c00,c01,z0,f00,f01,y0,y1,y2,y3,yz,hgn,hgn2]) rfl (RetTn.mkN HRE.out ?_ ?_)
      ·repeat (first|exact HIw.out|refine TabI.alloc ?_ _|refine TabI.stored ?_ _ HNS.out HNB.out|refine TabI.stored ?_ _ hgS hgB)
      ·repeat (first|exact HF4.out.f|refine Frm.alloc ?_ _|refine Frm.ownSet ?_ (by omega) _)
     case zf=>
      have HVL:=h_ fun (j:Nat) (hj:vx.ownBlock=some j)=>World.ownsRow.lt HO.out j hj
      have hzW:wr.heap.size<=W.heap.size:=HW.out.size
      have HV:Hid (∀o:Obj,Frm t.S W2 (((W.setCell ⟨g,0,none⟩ (r y xn)).setCell ⟨g,1,none⟩ (r y (xd:Int))).alloc o)/\TabI t (((W.setCell ⟨g,0,none⟩ (r y xn)).setCell ⟨g,1,none⟩ (r y (xd:Int))).alloc o)):=fun o=>
       ⟨((((HFw.out.trans HW.out).ownSet (by omega) _).ownSet (by omega) _).alloc o),((HIw.out.stored _ hgS hgB).stored _ hgS hgB).alloc o⟩
      have HROW:Hid ((((W.setCell ⟨g,0,none⟩ (r y xn)).setCell ⟨g,1,none⟩ (r y (xd:Int))).alloc (D #[r y xn,r y (xd:Int)] 45)).ownsRow W2.heap.size 45 2 vx xs.length (exC xs)):=by
       refine row_alloc ?_ _
       refine Frm.row (S:=fun x=>x=g) ((Frm.set _ _ _ _).trans (Frm.set _ _ _ _)) (HW.out.row HO.out fun j hj h=>?_) (fun j hj h=>?_)
       ·have:=(HVL.out j hj).1;have:=HLOW.out j h;omega
       ·have:=(HVL.out j hj).2;omega
      have hTN:Hid (∀j u,[Value.int y xn,r y (xd:Int)][j]? = some u->(((W.setCell ⟨g,0,none⟩ (r y xn)).setCell ⟨g,1,none⟩ (r y (xd:Int))).alloc (D #[r y xn,r y (xd:Int)] 45)).cell? ((⟨W.heap.size,0,none⟩:Addr).add j)=some u):=by
       have h:=ez ((W.setCell ⟨g,0,none⟩ (r y xn)).setCell ⟨g,1,none⟩ (r y (xd:Int))) xn (xd:Int) 45
       rw[show ((W.setCell ⟨g,0,none⟩ (r y xn)).setCell ⟨g,1,none⟩ (r y (xd:Int))).heap.size=W.heap.size by simp]at h
       exact h
      clear HO HW HIw HI
      go_wp2_with (at_builtin;(refine wpList_append_own_at _ rfl _ _ 78 rfl W2.heap.size 45 i0 (J #[r y 0,r y 0]) 2 16 Tryz.underlying78 hi hz0 hz1 hz2 rfl (by decide) _ _ _ rfl HROW.out ⟨W.heap.size,0,none⟩ 1 1 [r y xn,r y (xd:Int)] rfl rfl hTN.out (gh _ _) (by have:=HXK.out;unfold maxLen;omega) (by have:=HXK.out;omega) (by simp;omega) ?_);intro v' w4 hown hgrow _ hat)
      have hgO:∀x,some x=vx.ownBlock->W2.heap.size<=x:=fun x hx=>(HVL.out x hx.symm).1
      have HFw4:Hid (Frm t.S W2 w4):=(HV.out _).1.outs (Frm.of_grown hgrow) hgO
      have HI4:Hid (TabI t w4):=(HV.out _).2.frm (Frm.of_grown hgrow) (fun x hx h=>by have:=hgO x hx;have:=HLOW.out x h;omega) (fun h=>by have:=hgO _ h;have:=HI2.out.ltB;omega)
      have HO4:Hid (OwnE w4 W2.heap.size v' (xs++[⟨xn,xd⟩])):=by
       unfold Hid OwnE;rw[fh,List.length_append]
       exact hown
      have HL4:Hid ((xs++[(⟨xn,xd⟩:E)]).length=k+1):=by unfold Hid;rw[List.length_append,HXK.out];rfl
      clear hown hgrow hat HROW HV hgO
      go_wp2_with (fail)
      go_roundw
      case rel=>exact⟨k+1,xs++[⟨xn,xd⟩],by omega,by go_num,⟨HXS.out,HL4.out⟩,⟨_,rfl,HO4⟩,HI4,HFw4⟩
      case measure=>(simp[intOf])<;>omega
   ·obtain⟨⟨m,d⟩,hwe,hee⟩:=HM2.out own other HQ.out HQ2.out (by rw[HK2.out];exact hkf)
    rw[HK2.out]at hee;obtain⟨ev1,ev2⟩:=HC.out.e K hKM;rw[hee]at ev1 ev2;rw[hkf]at ek;have HRE:=h_ hwe;have hbv:=HC.out.ltV;have hbk:=HC.out.ltK;clear hkf hwe hee HC HM2;obtain⟨z0,c00,f00,c01,f01⟩:=HF1.out.xf4
    go_wp2_with (fail)
    refine bodyPost_ret (v:=L #[J #[r y m,r y (d:Int)],I true]) (by simp[results,Tryz.results90,go_sem,c00,c01,z0,f00,f01]) rfl (RetTn.mkY HRE.out ?_ ?_)
    ·repeat (first|exact HI1.out|refine TabI.alloc ?_ _|refine TabI.drew ?_|refine TabI.stored ?_ _ HNS.out HNB.out)
    ·repeat (first|exact HF1.out.f|refine Frm.alloc ?_ _|refine Frm.drew ?_|refine Frm.ownSet ?_ (by omega) _)
open Go.RowKit Ps
def PLx (w:World) (A:Option Addr) (n:Nat) (ps:List (List Int)):Prop:=
 ps.length=n/\(0<n->∃b off,A=some ⟨b,off,none⟩/\b<w.heap.size/\∀k,k<n->∃B m c,w.cell? ⟨b,off+k,none⟩=some (C B m c)/\SL w B m (ps.getD k []))
theorem PLx.below {w w':World} {A:Option Addr} {n:Nat} {ps:List (List Int)} (h:PLx w A n ps) (hb:Below w.heap.size w w'):PLx w' A n ps:=by
 refine⟨h.1,fun hn=>?_⟩
 obtain⟨b,off,hA,hlt,hc⟩:=h.2 hn
 refine⟨b,off,hA,Nat.lt_of_lt_of_le hlt hb.size,fun k hk=>?_⟩
 obtain⟨B,m,c,h1,h2⟩:=hc k hk
 exact⟨B,m,c,ac h1 hb,h2.below hb⟩
theorem iG (t:RT2) (ht:t.Ok):∀(f:Nat) {own other:List Int},PosP t.h t.c own->PosP t.h t.c other->pips own+pips other<f->ValC t own other
 | 0,own,other,hq,hq2,h=>by have:=ax hq.2.1;have:=ax hq2.2.1;omega
 | f+1,own,other,hq,hq2,h=>lS t ht hq hq2 fun _ q hp hlt=>iG t ht f hq2 hp (by omega)
theorem l12Value_all (t:RT2) (ht:t.Ok) {own other:List Int} (hq:PosP t.h t.c own) (hq2:PosP t.h t.c other):ValC t own other:=by
 have h1:=ax hq.2.1;have h2:=ax hq2.2.1
 exact iG t ht ((pips own+pips other).toNat+1) hq hq2 (by omega)
noncomputable def chS (s h:Nat) (own other:List Int):Option E:=if own.sum=0 then some ⟨1,0⟩ else if other.sum=0 then some ⟨0,0⟩ else win s (own.take h) (other.take h)
theorem eX {h c:Nat} {xs:List Int} (hl:h<=xs.length) (h0:∀x∈xs,0<=x) (hs:xs.sum<=c):PosP h c (xs.take h):=
 ⟨by rw[List.length_take];omega,fun x hx=>h0 x (List.mem_of_mem_take hx),Int.le_trans (cj xs h h0) hs⟩
theorem SL.take {w:World} {A:Option Addr} {n h:Nat} {xs:List Int} (hx:SL w A n xs) (hl:h<=n):SL w A h (xs.take h):=by
 refine⟨by rw[List.length_take,hx.1];omega,fun hn=>?_⟩
 obtain⟨b,off,hA,hlt,hc⟩:=hx.2 (by omega)
 exact⟨b,off,hA,hlt,fun i hi=>by rw[hc i (by omega)];simp[List.getD,List.getElem?_take,hi]⟩
theorem SQ.take {S:Nat->Prop} {w:World} {A:Option Addr} {n h:Nat} {xs:List Int} (hx:SQ S w A n xs) (hl:h<=n):SQ S w A h (xs.take h):=⟨hx.1.take hl,fun hn b off s hA=>hx.2 (by omega) b off s hA⟩
theorem stb_eqF {S:Nat->Prop} {l:List Value}:∀i v W W',GL (l.map Eqv) i v W->Frm S W W'->GL (l.map Eqv) i v W':=by
 intro i v W W' h _
 unfold GL at *
 by_cases hi:i<l.length
 ·rw[List.getD_eq_getElem?_getD,List.getElem?_map,List.getElem?_eq_getElem hi]at h ⊢
  exact h
 ·rw[List.getD_eq_getElem?_getD,List.getElem?_map,List.getElem?_eq_none (by omega)]at h ⊢
  trivial
def dsSolv:Nat->Nat
 | 0=>18
 | 1=>19
 | 2=>20
 | 3=>21
 | 4=>22
 | 5=>23
 | 6=>24
 | 7=>25
 | 8=>26
 | 9=>27
 | 10=>28
 | 11=>29
 | 12=>30
 | 13=>31
 | 14=>32
 | 15=>33
 | 16=>34
 | 17=>35
 | 18=>36
 | 19=>37
 | _=>0
theorem jF (p:Int) (c h s:Nat) (b1 o1 n c1:Nat) (xs:List Int) (w:World) (hx:SL w (some ⟨b1,o1,none⟩) n xs) (hl:h<=n) (hc:n<=c1) (hn:n<=2000):
  Calls Tryz.prog 172 #[J #[r y p,r y (c:Int),r y (h:Int),r y (s:Int)],C (some ⟨b1,o1,none⟩) n c1] w fun e w'=>∃A cc,e = .returned (C A h cc)/\OwnS w' w.heap.size 2 (C A h cc) (xs.take h)/\Below w.heap.size w w':=by
 obtain⟨i0,hi,hz0,hz1,hz2⟩:=info_parts Tryz.infoI;have hy:=hx.take hl;have hll:(xs.take h).length=h:=hy.1;generalize hys:xs.take h=ys at *
 have hnews:∀j u,(ys.map (Value.int y))[j]? = some u->w.cell? ((⟨b1,o1,none⟩:Addr).add j)=some u:=by
  intro j u hu
  have hj:j<ys.length:=by have:=(List.getElem?_eq_some_iff.1 hu).1;simpa using this
  obtain⟨b,off,h',_,hc'⟩:=hy.2 (by omega)
  injection h' with h'
  rw[h',Addr.add_lit,hc' j (by omega),<- getD_map_int ys j hj,hu]
 have HN:Hid (∀j u,(ys.map (Value.int y))[j]? = some u->((w.alloc (D #[r y p,r y (c:Int),r y (h:Int),r y (s:Int)] 33)).alloc (D #[] 2)).cell? ((⟨b1,o1,none⟩:Addr).add j)=some u):=by
  intro j u hu
  have h1:=hnews j u hu;have h2:=(World.cell?_alloc_lt w (D #[r y p,r y (c:Int),r y (h:Int),r y (s:Int)] 33) _ (World.block_lt_of_cell? w _ h1)).trans h1
  exact (World.cell?_alloc_lt _ _ _ (World.block_lt_of_cell? _ _ h2)).trans h2
 have HO:Hid (((w.alloc (D #[r y p,r y (c:Int),r y (h:Int),r y (s:Int)] 33)).alloc (D #[] 2)).ownsRow w.heap.size 2 1 (C (some ⟨w.heap.size+1,0,none⟩) 0 0) 0 []):=by
  have:=World.ownsRow_made (w.alloc (D #[r y p,r y (c:Int),r y (h:Int),r y (s:Int)] 33)) (base:=w.heap.size) (e:=2) (size:=1) #[] 0 (by simp) (by decide) rfl
  unfold Hid
  simpa using this
 have HB:Hid (Below w.heap.size w ((w.alloc (D #[r y p,r y (c:Int),r y (h:Int),r y (s:Int)] 33)).alloc (D #[] 2))):=((Below.refl _ _).alloc (Nat.le_refl _) _).alloc (by simp) _
 have HL:=h_ hll
 have hc9:h<=c1:=by omega
 have hci:(h:Int)<=(c1:Int):=by omega
 have hni:(h:Int)<=(n:Int):=by omega
 clear hx hy hll hys hnews
 go_enter Tryz.func172,Tryz.ntmps172
 go_wp2_with (at_builtin;refine wpList_append_own _ rfl _ _ 24 rfl w.heap.size 2 i0 (r y 0) 1 8 Tryz.underlying24 hi hz0 hz1 hz2 rfl (by decide) _ 0 [] rfl HO.out ⟨b1,o1,none⟩ h c1 (ys.map (Value.int y)) rfl ?c1 HN.out ?c2 ?c3 ?c4 ?c5 ?_)
 case c1=>rw[List.length_map,HL.out,Nat.mul_one]
 case c2=>exact ints_oneCell _ _
 case c3=>unfold maxLen;omega
 case c4=>omega
 case c5=>simp;omega
 ·intro v' w1 hown hgrow _
  have hb:Below w.heap.size w w1:=HB.out.grown hgrow (by simp;omega) (by simp[Value.ownBlock])
  have H:∃A cc,v' = C A h cc/\OwnS w1 w.heap.size 2 (C A h cc) ys:=by
   have ho:OwnS w1 w.heap.size 2 v' ys:=by
    unfold OwnS;rw[HL.out]
    simpa using hown
   obtain⟨A,cc,rfl,_⟩:=ho.read;have hL:=HL.out;rw[hL]at ho
   exact⟨A,cc,by rw[hL],ho⟩
  have H':=h_ H;have HB':=h_ hb;clear H hb hown hgrow
  go_wp2
  go_ret
  obtain⟨A,cc,rfl,ho⟩:=H'.out
  exact⟨A,cc,rfl,ho,HB'.out⟩
def CpQ (S:Nat->Prop) (h:Nat) (xs:List Int):RP:=fun v W=>∃X k,v = C X h k/\SQ S W X h (xs.take h)/\h<=k
def gCh (S:Nat->Prop) (h:Nat) (own other:List Int) (l:List Value) (i:Nat):RP:=match i with
 | 7=>CpQ S h own
 | 14=>CpQ S h other
 | i=>Eqv (l.getD i undef)
theorem stb_gCh {S:Nat->Prop} {h:Nat} {own other:List Int} {l:List Value}:∀i v W W',gCh S h own other l i v W->Frm S W W'->gCh S h own other l i v W':=by
 intro i v W W' hg hf
 unfold gCh at *
 split at hg
 ·obtain⟨X,k,h1,h2,h3⟩:=hg;exact⟨X,k,h1,h2.frm hf,h3⟩
 ·obtain⟨X,k,h1,h2,h3⟩:=hg;exact⟨X,k,h1,h2.frm hf,h3⟩
 ·exact hg
def dsCh:Nat->Nat
 | 0=>16
 | 1=>17
 | 2=>18
 | 3=>19
 | 4=>20
 | 5=>21
 | 6=>22
 | 7=>23
 | 8=>24
 | 9=>25
 | 10=>26
 | 11=>27
 | 12=>28
 | 13=>29
 | 14=>30
 | 15=>31
 | 16=>32
 | 17=>33
 | _=>0
theorem lR (t:RT2) (ht:t.Ok) {own other:List Int} (b1 o1 n1 c1 b2 o2 n2 c2:Nat) (w:World) (hI:TabI t w) (hA:SQ t.S w (some ⟨b1,o1,none⟩) n1 own) (hB:SQ t.S w (some ⟨b2,o2,none⟩) n2 other)
  (hn1:t.h<=n1) (hn2:t.h<=n2) (hc1:n1<=c1) (hc2:n2<=c2) (hn3:n1<=2000) (hn4:n2<=2000) (hq1:∀x∈own,0<=x) (hq2:∀x∈other,0<=x) (hm1:own.sum<=t.c) (hm2:other.sum<=t.c):
  Calls Tryz.prog 105 #[F (some ⟨t.bt,0,none⟩),J #[C (some ⟨b1,o1,none⟩) n1 c1,C (some ⟨b2,o2,none⟩) n2 c2]] w (RetTn t w (chS t.s t.h own other)):=by
 have hv:=aC ht.v;have hlow:=hI.ltS
 have HF:Hid (FrS t.S w ((w.alloc (D #[C (some ⟨b1,o1,none⟩) n1 c1,C (some ⟨b2,o2,none⟩) n2 c2] 35)).alloc (D #[r y 0,r y 0] 45)) [[C (some ⟨b1,o1,none⟩) n1 c1,C (some ⟨b2,o2,none⟩) n2 c2],[r y 0,r y 0]]):=((FrS.start w hlow).allocT (by simp) _ _).allocT (by simp) _ _
 have hb0:Below w.heap.size w ((w.alloc (D #[C (some ⟨b1,o1,none⟩) n1 c1,C (some ⟨b2,o2,none⟩) n2 c2] 35)).alloc (D #[r y 0,r y 0] 45)):=((Below.refl _ _).alloc (Nat.le_refl _) _).alloc (by simp) _
 have HI0:=h_ (hI.below hb0);have HA:=h_ (hA.below hb0);have HBo:=h_ (hB.below hb0)
 have HNS:Hid (∀j,¬t.S (w.heap.size+j)):=fun j h=>by have:=hlow _ h;omega
 have HNB:Hid (∀j,t.bt≠w.heap.size+j):=fun j h=>by have:=hI.ltB;omega
 have hl1:own.length=n1:=hA.1.1;have hl2:other.length=n2:=hB.1.1
 have CT1:=h_ (cG (some ⟨b1,o1,none⟩) n1 c1 own _ HA.out.1 hq1 (by omega) (by omega))
 have CT2:=h_ (cG (some ⟨b2,o2,none⟩) n2 c2 other _ HBo.out.1 hq2 (by omega) (by omega))
 have HP1:=h_ (eX (h:=t.h) (c:=t.c) (by omega) hq1 hm1)
 have HP2:=h_ (eX (h:=t.h) (c:=t.c) (by omega) hq2 hm2)
 have hs1:own.sum<=15:=by omega
 have hs2:other.sum<=15:=by omega
 have hs3:=bi own hq1;have hs4:=bi other hq2
 have hh24:t.h<=24:=by omega
 have HC:Hid (chS t.s t.h own other=if own.sum=0 then some ⟨1,0⟩ else if other.sum=0 then some ⟨0,0⟩ else win t.s (own.take t.h) (other.take t.h)):=rfl
 generalize chS t.s t.h own other=R at *;generalize ho:win t.s (own.take t.h) (other.take t.h)=o at *;obtain⟨xn,hxn⟩:∃x:Int,x=(o.getD ⟨0,0⟩).num:=⟨_,rfl⟩;obtain⟨xd,hxd⟩:∃x:Int,x=((o.getD ⟨0,0⟩).depth:Int):=⟨_,rfl⟩;obtain⟨ok,hok⟩:∃x:Bool,x=o.isSome:=⟨_,rfl⟩
 have CW:Hid (∀(W:World) (X1:Option Addr) (k1:Nat) (X2:Option Addr) (k2:Nat),TabI t W->SQ t.S W X1 t.h (own.take t.h)->t.h<=k1->SQ t.S W X2 t.h (other.take t.h)->t.h<=k2->
   Calls Tryz.prog 90 #[F (some ⟨t.bt,0,none⟩),C X1 t.h k1,C X2 t.h k2] W fun e W'=>e = .returned (L #[J #[r y xn,r y xd],I ok])/\TabI t W'/\Frm t.S W W'):=fun W X1 k1 X2 k2 hI hA h1 hB h2=>by
  have:=l12Value_all t ht HP1.out HP2.out X1 X2 k1 k2 W hI hA h1 hB h2;rw[ho]at this;rw[hxn,hxd,hok]
  exact this
 have HXN:=h_ hxn;have HXD:=h_ hxd;have HOK:=h_ hok;clear hI hA hB hlow hb0 hq1 hq2 hm1 hm2 hl1 hl2 hv ht hxn hxd hok ho HP1 HP2
 go_enter Tryz.func105,Tryz.ntmps105
 go_wp2_with (fail)
 generalize ((w.alloc (D #[C (some ⟨b1,o1,none⟩) n1 c1,C (some ⟨b2,o2,none⟩) n2 c2] 35)).alloc (D #[r y 0,r y 0] 45))=V at *
 refine CT1.out.mono ?_
 rintro e w' ⟨rfl,rfl⟩
 clear CT1;generalize own.sum=S1 at *;generalize other.sum=S2 at *
 by_cases hz1:S1=0
 ·have HR:Hid (R=some ⟨1,0⟩):=by unfold Hid;rw[HC.out,if_pos hz1]
  have b1':(S1 == 0)=true:=by simp[hz1]
  clear hz1
  go_wp2_with (fail)
  refine (cw _).mono ?_
  rintro e V1 ⟨rfl,hb⟩
  have HFZ:=h_ (HF.out.below hb);have HIZ:=h_ (HI0.out.below hb);clear hb HF HI0;obtain⟨z0,c00,f00,c01,f01,z1,c10,f10,c11,f11⟩:=HFZ.out.xf2
  go_wp2_with (fail)
  refine bodyPost_ret (v:=L #[J #[r y 1,r y 0],I true]) (by simp[results,Tryz.results105,go_sem,c10,c11,z1,f10,f11]) rfl ⟨by rw[HR.out];rfl,?_,?_⟩
  ·repeat (first|exact HIZ.out|refine TabI.alloc ?_ _|refine TabI.stored ?_ _ (HNS.out 1) (HNB.out 1))
  ·repeat (first|exact HFZ.out.f|refine Frm.alloc ?_ _|refine Frm.ownSet ?_ (by omega) _)
 have b1':(S1 == 0)=false:=by simp[hz1]
 have HZ1:=h_ hz1;clear hz1;obtain⟨z0,c00,f00,c01,f01,z1,c10,f10,c11,f11⟩:=HF.out.xf2
 go_wp2_with (fail)
 refine CT2.out.mono ?_
 rintro e w' ⟨rfl,rfl⟩
 clear CT2
 by_cases hz2:S2=0
 ·have HR:Hid (R=some ⟨0,0⟩):=by unfold Hid;rw[HC.out,if_neg HZ1.out,if_pos hz2]
  have b2':(S2 == 0)=true:=by simp[hz2]
  have HFZ:=HF;clear hz2
  go_wp2_with (fail)
  refine bodyPost_ret (v:=L #[J #[r y 0,r y 0],I true]) (by simp[results,Tryz.results105,go_sem,c10,c11,z1,f10,f11]) rfl ⟨by rw[HR.out];rfl,?_,?_⟩
  ·repeat (first|exact HI0.out|refine TabI.alloc ?_ _|refine TabI.stored ?_ _ (HNS.out 1) (HNB.out 1))
  ·repeat (first|exact HFZ.out.f|refine Frm.alloc ?_ _|refine Frm.ownSet ?_ (by omega) _)
 have b2':(S2 == 0)=false:=by simp[hz2]
 have HR:Hid (R=o):=by unfold Hid;rw[HC.out,if_neg HZ1.out,if_neg hz2]
 clear hz2
 go_wp2_with (fail)
 clear z0 c00 f00 c01 f01 z1 c10 f10 c11 f11
 refine bH 18 (fun i=>i == 17) dsCh (Frm t.S) (fun W=>TabI t W) (gCh t.S t.h own other [F (some ⟨t.bt,0,none⟩),F (some ⟨t.bt,0,none⟩),F (some ⟨t.bt,0,none⟩),F (some ⟨t.bt,0,none⟩),J #[r y t.p,r y (t.c:Int),r y (t.h:Int),r y (t.s:Int)],F (some ⟨w.heap.size,0,none⟩),C (some ⟨b1,o1,none⟩) n1 c1,undef,F (some ⟨t.bt,0,none⟩),F (some ⟨t.bt,0,none⟩),F (some ⟨t.bt,0,none⟩),J #[r y t.p,r y (t.c:Int),r y (t.h:Int),r y (t.s:Int)],F (some ⟨w.heap.size,1,none⟩),C (some ⟨b2,o2,none⟩) n2 c2,undef,L #[J #[r y xn,r y xd],I ok],J #[r y xn,r y xd],I ok]) (by kernel_rfl) (by kernel_rfl) (fun _ _ _ _ _ h=>h) (fun _ _ _ h1 h2=>Frm.trans h1 h2) (fun _=>Frm.refl _ _) stb_gCh ((Frm.refl _ _).drew) HI0.out.drew ?_ ?_ ?_
 focus
  refine ?za
 rotate_left
 focus
  refine ?zb
 rotate_left
 focus
  intro v W hW hIW hg
  have g0:v 0=_:=gq hg 0
  have g1:v 1=_:=gq hg 1
  have g2:v 2=_:=gq hg 2
  have g3:v 3=_:=gq hg 3
  have g4:v 4=_:=gq hg 4
  have g5:v 5=_:=gq hg 5
  have g6:v 6=_:=gq hg 6
  obtain⟨_,_,g7,_,_⟩:CpQ t.S t.h own (v 7) W:=hg 7 (by omega)
  have g8:v 8=_:=gq hg 8
  have g9:v 9=_:=gq hg 9
  have g10:v 10=_:=gq hg 10
  have g11:v 11=_:=gq hg 11
  have g12:v 12=_:=gq hg 12
  have g13:v 13=_:=gq hg 13
  obtain⟨_,_,g14,_,_⟩:CpQ t.S t.h other (v 14) W:=hg 14 (by omega)
  have g15:v 15=_:=gq hg 15
  have g16:v 16=_:=gq hg 16
  have g17:v 17=_:=gq hg 17
  simp only[List.drop_succ_cons,List.drop_zero,putV,dsCh,g0,g1,g2,g3,g4,g5,g6,g7,g8,g9,g10,g11,g12,g13,g14,g15,g16,g17,Act.put]
  clear g0 g1 g2 g3 g4 g5 g6 g7 g8 g9 g10 g11 g12 g13 g14 g15 g16 g17 hg;have HIW:=h_ hIW;have HFZ:=h_ (HF.out.frm hW);clear hIW hW HF HI0 CW HA HBo;obtain⟨z0,c00,f00,c01,f01,z1,c10,f10,c11,f11⟩:=HFZ.out.xf2
  go_wp2_with (fail)
  refine bodyPost_ret (v:=L #[J #[r y xn,r y xd],I ok]) (by simp[results,Tryz.results105,go_sem,c10,c11,z1,f10,f11]) rfl ⟨by rw[HR.out,HXN.out,HXD.out,HOK.out];rfl,?_,?_⟩
  ·repeat (first|exact HIW.out|refine TabI.alloc ?_ _|refine TabI.stored ?_ _ (HNS.out 1) (HNB.out 1))
  ·repeat (first|exact HFZ.out.f|refine Frm.alloc ?_ _|refine Frm.ownSet ?_ (by omega) _)
 case' za|zb=>
  intro i op hi hX ho a' W hW hIW hfar hdep
  have e0:a'.tmps.getD 0 undef = F (some ⟨t.bt,0,none⟩):=(fr hfar 0).trans rfl
  have e3:a'.tmps.getD 3 undef = F (some ⟨w.heap.size,0,none⟩):=(fr hfar 3).trans rfl
 case za=>
  have hi8:i=17:=by simpa using hX
  clear hfar hX hi;subst hi8
  simp at ho
  subst ho
  ·have d31:a'.tmps.getD 31 undef=_:=dp hdep 15
   exact⟨I ok,fun W'=>by simp only[execOp,Act.eval,d31];go_simp,rfl⟩
 case zb=>
  have hi8:i=0\/i=1\/i=2\/i=3\/i=4\/i=5\/i=6\/i=7\/i=8\/i=9\/i=10\/i=11\/i=12\/i=13\/i=14\/i=15\/i=16:=by simp at hX;omega
  clear hfar hX hi
  rcases hi8 with rfl|rfl|rfl|rfl|rfl|rfl|rfl|rfl|rfl|rfl|rfl|rfl|rfl|rfl|rfl|rfl|rfl
  all_goals (simp at ho;subst ho)
  ·refine ilF ?_;simp only[execOp,Act.eval,e0];go_simp
  ·refine ilF ?_;simp only[execOp,Act.eval,e0];go_simp
  ·have d17:a'.tmps.getD 17 undef=_:=dp hdep 1
   refine ilF ?_;simp only[execOp,Act.eval,d17];go_simp
  ·have d18:a'.tmps.getD 18 undef=_:=dp hdep 2
   refine ilF ?_;simp only[execOp,Act.eval,d18];go_simp
  ·have d19:a'.tmps.getD 19 undef=_:=dp hdep 3
   have z0:=hIW.tb 0 _ rfl;have z1:=hIW.tb 1 _ rfl;have z2:=hIW.tb 2 _ rfl;have z3:=hIW.tb 3 _ rfl
   refine ilF ?_;simp only[execOp,Act.eval,d19];go_simp
  ·refine ilF ?_;simp only[execOp,Act.eval,e3];go_simp
  ·have d21:a'.tmps.getD 21 undef=_:=dp hdep 5
   have zz:=HF.out.frm hW;have z0:=zz.c0 0 rfl
   refine ilF ?_;simp only[execOp,Act.eval,d21];go_simp
  ·have d20:a'.tmps.getD 20 undef=_:=dp hdep 4
   have d22:a'.tmps.getD 22 undef=_:=dp hdep 6
   refine .inr ⟨172,#[J #[r y t.p,r y (t.c:Int),r y (t.h:Int),r y (t.s:Int)],C (some ⟨b1,o1,none⟩) n1 c1],by simp only[execOp,Act.eval,d20,d22];go_simp,?_⟩
   refine (jF t.p t.c t.h t.s b1 o1 n1 c1 own W (HA.out.frm hW).1 hn1 hc1 hn3).mono ?_
   rintro e W' ⟨Ac,cc,rfl,ho,hb⟩
   have q:=ho.sla (S:=t.S) rfl (fun k hk h=>by have:=hIW.ltS k h;omega)
   exact⟨_,rfl,Frm.of_below' _ hb,hIW.below hb,Ac,cc,rfl,⟨q.1.1,fun _=>q.1.2⟩,q.2⟩
  ·refine ilF ?_;simp only[execOp,Act.eval,e0];go_simp
  ·have d24:a'.tmps.getD 24 undef=_:=dp hdep 8
   refine ilF ?_;simp only[execOp,Act.eval,d24];go_simp
  ·have d25:a'.tmps.getD 25 undef=_:=dp hdep 9
   refine ilF ?_;simp only[execOp,Act.eval,d25];go_simp
  ·have d26:a'.tmps.getD 26 undef=_:=dp hdep 10
   have z0:=hIW.tb 0 _ rfl;have z1:=hIW.tb 1 _ rfl;have z2:=hIW.tb 2 _ rfl;have z3:=hIW.tb 3 _ rfl
   refine ilF ?_;simp only[execOp,Act.eval,d26];go_simp
  ·refine ilF ?_;simp only[execOp,Act.eval,e3];go_simp
  ·have d28:a'.tmps.getD 28 undef=_:=dp hdep 12
   have zz:=HF.out.frm hW;have z0:=zz.c0 1 rfl
   refine ilF ?_;simp only[execOp,Act.eval,d28];go_simp
  ·have d27:a'.tmps.getD 27 undef=_:=dp hdep 11
   have d29:a'.tmps.getD 29 undef=_:=dp hdep 13
   refine .inr ⟨172,#[J #[r y t.p,r y (t.c:Int),r y (t.h:Int),r y (t.s:Int)],C (some ⟨b2,o2,none⟩) n2 c2],by simp only[execOp,Act.eval,d27,d29];go_simp,?_⟩
   refine (jF t.p t.c t.h t.s b2 o2 n2 c2 other W (HBo.out.frm hW).1 hn2 hc2 hn4).mono ?_
   rintro e W' ⟨Ac,cc,rfl,ho,hb⟩
   have q:=ho.sla (S:=t.S) rfl (fun k hk h=>by have:=hIW.ltS k h;omega)
   exact⟨_,rfl,Frm.of_below' _ hb,hIW.below hb,Ac,cc,rfl,⟨q.1.1,fun _=>q.1.2⟩,q.2⟩
  ·have d16:a'.tmps.getD 16 undef=_:=dp hdep 0
   obtain⟨X1,k1,d23,s1,l1⟩:CpQ t.S t.h own (a'.tmps.getD 23 undef) W:=dp hdep 7
   obtain⟨X2,k2,d30,s2,l2⟩:CpQ t.S t.h other (a'.tmps.getD 30 undef) W:=dp hdep 14
   refine .inr ⟨90,#[F (some ⟨t.bt,0,none⟩),C X1 t.h k1,C X2 t.h k2],by simp only[execOp,Act.eval,d16,d23,d30];go_simp,?_⟩
   refine (CW.out W X1 k1 X2 k2 hIW s1 l1 s2 l2).mono ?_
   rintro e W' ⟨rfl,hI',hf'⟩
   exact⟨_,rfl,hf',hI',rfl⟩
  ·have d31:a'.tmps.getD 31 undef=_:=dp hdep 15
   refine ilF ?_;simp only[execOp,Act.eval,d31];go_simp
end Go.Proofs.YtcmeoenkgmghkaaGreat

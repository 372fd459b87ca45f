/- Part of one proof. There are no conditions. -/
import Derived.Test.YtkaiilmgemaljaaGreatRM18
set_option maxHeartbeats 0
set_option linter.unusedVariables false
set_option linter.unusedSimpArgs false
set_option maxRecDepth 100000
namespace Go.Proofs.YtkaiilmgemaljaaGreat
open Go.RowKit Ps Ra Ex Mo
theorem TbI.put {t:WT} {fl:Bool} {w w1:World} {q r:List Int} {c:Cb} {e:E} (h:TbI t fl w) (hq:PosP t.h t.c q) (hr:PosP t.h t.c r) (hc:CbOk t.K c) (hv:Val (sq t.s) e) (he:fl=false->eqv t.s t.ru q r c=some e)
  (hb:Below w.heap.size (w.setCell ⟨t.bk,t.key q r c,none⟩ (.bool true)) w1):TbI t fl ((w1.setCell ⟨t.bw,t.key q r c*2,none⟩ (.int .i64 e.num)).setCell ⟨t.bw,t.key q r c*2+1,none⟩ (.int .i64 (e.depth:Int))):=by
 obtain⟨kf,ef,h1,h2,h3⟩:=h;have hK:=WT.key_lt hq hr hc
 have hb':Below (w.setCell ⟨t.bk,t.key q r c,none⟩ (.bool true)).heap.size (w.setCell ⟨t.bk,t.key q r c,none⟩ (.bool true)) w1:=by rw[show (w.setCell ⟨t.bk,t.key q r c,none⟩ (.bool true)).heap.size=w.heap.size by simp];exact hb
 have x1:=((h1.setK hK).below hb').setV hK e
 refine⟨_,_,x1,fun i hi=>?_,fun hf=>(h3 hf).put hq hr hc (he hf)⟩
 by_cases ei:i=t.key q r c
 ·rw[ei,fQ];exact hv
 ·rw[dA ef ei];exact h2 i hi
theorem TbI.setk {t:WT} {fl:Bool} {w:World} {K:Nat} (h:TbI t fl w) (hK:K<t.M):∃kf ef,TabX t fl (w.setCell ⟨t.bk,K,none⟩ (.bool true)) kf ef:=let ⟨_,_,h1,_⟩:=h;⟨_,_,h1.setK hK⟩
theorem gh (t:WT) (ht:t.Ok) {own other:List Int} (hq:PosP t.h t.c own) (hq2:PosP t.h t.c other) {c:Cb} (hc:CbOk t.K c) (hR:own.sum≠0->other.sum≠0->∀c,CbOk t.K c->RolT t own other c):EqT t own other c:=by
 intro fl A B ca cb w hI hA hca hB hcb
 obtain⟨v,o⟩:=c;have hc':=hc;have ht':=ht;have hv:=aj ht.v
 have hs1:1<=t.s:=by omega
 have hs6:t.s<=6:=by omega
 have hh24:t.h<=24:=by omega
 have hc15:t.c<=15:=by omega
 obtain⟨hq1,hq36,_⟩:=sq_bd hs1 hs6
 have hnr1:0<t.nr:=by
  have h1:=aU t.s
  have h2:1*2<=t.s*(t.s+1):=Nat.mul_le_mul (by omega) (by omega)
  have:=ht.r
  omega
 have hcv:1<=v/\v<=1024/\0<=o/\o<=2:=hc.v1 ht.k;have hlow:=hI.ltS;have hlr:=hI.ltR hnr1
 have HNS:Hid (∀j,¬t.S (w.heap.size+j)):=fun j h=>by have:=hlow _ h;omega
 have HNR:Hid (∀j,¬t.rb (w.heap.size+j)):=fun j h=>by have:=hlr _ h;omega
 have hb0:Below w.heap.size w ((w.alloc (.cells #[.int .i64 v,.int .i64 o] 55)).alloc (.cells #[.int .i64 0,.int .i64 0] 35)):=((Below.refl _ _).alloc (Nat.le_refl _) _).alloc (by simp) _
 have HF:Hid (FrS t.S w ((w.alloc (.cells #[.int .i64 v,.int .i64 o] 55)).alloc (.cells #[.int .i64 0,.int .i64 0] 35)) [[.int .i64 v,.int .i64 o],[.int .i64 0,.int .i64 0]]):=((FrS.start w hlow).allocT (by simp) _ _).allocT (by simp) _ _
 have HIa:=h_ (hI.below hb0);have HA:=h_ (hA.below hb0);have HB:=h_ (hB.below hb0)
 have WH:=h_ fun (n:Int) (W:World)=>whole_any n W
 have DOA:=h_ (ct A t.h ca own _ HA.out.1 hq.2.1 (by omega))
 have DOB:=h_ (ct B t.h cb other _ HB.out.1 hq2.2.1 (by omega))
 by_cases hs0:own.sum=0
 focus
  have HRE:Hid (eqv t.s t.ru own other (v,o)=some ⟨v,0⟩):=eqv_own hs0
  have b0:decide (own.sum=0)=true:=decide_eq_true hs0
  have HVW:Hid (Val (sq t.s) ⟨v,0⟩):=dR (by omega) (by omega)
  clear hI hA hB hv ht hR hc hb0 hlow hlr hq hq2 hs0 DOB hc' ht'
  go_enter Tryz.func108,Tryz.ntmps108
  go_wp2_with (go_at_call 106;(with_reducible refine DOA.out.mono ?_);rintro e w' ⟨rfl,rfl⟩)
  refine (WH.out (v) _).mono ?_
  refine ?zt
 rotate_left
 focus
  have b0:decide (own.sum=0)=false:=decide_eq_false hs0
  by_cases ht0:other.sum=0
  focus
   have HRE:Hid (eqv t.s t.ru own other (v,o)=some ⟨-v,0⟩):=eqv_other hs0 ht0
   have b1:decide (other.sum=0)=true:=decide_eq_true ht0
   have HVW:Hid (Val (sq t.s) ⟨-v,0⟩):=dR (by omega) (by omega)
   clear hI hA hB hv ht hR hc hb0 hlow hlr hq hq2 hs0 ht0 hc' ht'
   go_enter Tryz.func108,Tryz.ntmps108
   go_wp2_with (first|(go_at_call 106;(with_reducible refine DOA.out.mono ?_);rintro e w' ⟨rfl,rfl⟩)|(go_at_call 106;(with_reducible refine DOB.out.mono ?_);rintro e w' ⟨rfl,rfl⟩))
   refine (WH.out (-v) _).mono ?_
   refine ?zu
  rotate_left
  focus
   have b1:decide (other.sum=0)=false:=decide_eq_false ht0
   have R1:=h_ (hR hs0 ht0 _ hc')
   have HDB:Hid (may t.ru (v,o)=true->DblT t own other (v,o)):=fun h=>kA t ht' hc' h (hR hs0 ht0)
   have HNO:Hid (rol t.s t.ru own other (v,o)=none->eqv t.s t.ru own other (v,o)=none):=fun h=>eqv_no hs0 ht0 h
   have HST:Hid (∀x,rol t.s t.ru own other (v,o)=some x->may t.ru (v,o)=false->eqv t.s t.ru own other (v,o)=some x):=fun x h1 h2=>eqv_stay hs0 ht0 h1 h2
   have HDV:Hid (∀x,rol t.s t.ru own other (v,o)=some x->may t.ru (v,o)=true->eqv t.s t.ru own other (v,o)=(dbl t.s t.ru own other (v,o)).map fun y=>if ltE (sq t.s) x y.1 then y.1 else x):=fun x h1 h2=>by
    rw[eqv_dbl hs0 ht0 h1 h2,<- cw,Option.map_map];rfl
   have HMY:=h_ fun (W:World)=>aO (two t.K) t.bv t.jc v o W (by omega) (by omega)
   have hrc:may ⟨two t.K,t.bv⟩ (v,o)=may t.ru (v,o):=rfl;rw[hrc]at HMY
   have COM:=h_ fun (x y:E) (W:World) (hx:Val (sq t.s) x) (hy:Val (sq t.s) y)=>bU t.p t.c t.h x.num y.num t.s x.depth y.depth W hs1 hs6 hx hy
   have hN141:wys t.h t.c<=141:=ht.n
   have CN1:=h_ fun (W:World) (hx:SL W A t.h own)=>gj t.p t.s t.c t.h A t.h ca own W hx hq hc15 hh24 (by omega)
   have CN2:=h_ fun (W:World) (hx:SL W B t.h other)=>gj t.p t.s t.c t.h B t.h cb other W hx hq2 hc15 hh24 (by omega)
   have CC:=h_ fun (W:World)=>du t.K t.bv t.jc W ht.k
   have CI:=h_ fun (W:World)=>l17Index_any t.K t.bv t.jc v o W ht.k hc
   have HQ:=h_ hq;have HQ2:=h_ hq2;have HC:=h_ hc;have hn1:=dj hq;have hn2:=dj hq2;have hix:=kP hc;have hkey:t.key own other (v,o)=(num t.c own*t.N+num t.c other)*(1+2*t.K)+cIdx t.K (v,o):=rfl;have hkm:=WT.key_lt hq hq2 hc;have hM2:=ht.m;have hK10:=ht.k;have hNN:t.N=wys t.h t.c:=rfl;obtain⟨N,hN⟩:∃N,N=t.N:=⟨_,rfl⟩;obtain⟨na,hna⟩:∃na,na=num t.c own:=⟨_,rfl⟩;obtain⟨nb,hnb⟩:∃nb,nb=num t.c other:=⟨_,rfl⟩;obtain⟨ix,hixe⟩:∃ix,ix=cIdx t.K (v,o):=⟨_,rfl⟩;obtain⟨K,hKe⟩:∃K,K=t.key own other (v,o):=⟨_,rfl⟩;have HKE:=h_ hKe;have HNT:=h_ hN;rw[<- hKe]at hkey hkm;rw[<- hN,<- hna,<- hnb,<- hixe]at hkey;rw[<- hNN,<- hN]at hN141;rw[<- hna]at CN1 hn1;rw[<- hnb]at CN2 hn2;rw[<- hixe]at CI hix;rw[<- hNN,<- hN]at hn1 hn2
   have m1:na*N<=141*141:=Nat.mul_le_mul (by omega) hN141
   obtain⟨M1,hM1⟩:∃M1,M1=na*N:=⟨_,rfl⟩
   have hw1:IntKind.i64.wrap ((na:Int)*(N:Int))=(M1:Int):=by rw[hM1,<- Int.natCast_mul];exact IntWalk.i64_in _ (by omega)
   obtain⟨M2,hM2e⟩:∃M2,M2=M1+nb:=⟨_,rfl⟩
   have hw2:IntKind.i64.wrap ((M1:Int)+(nb:Int))=(M2:Int):=by rw[hM2e,<- Int.natCast_add];exact IntWalk.i64_in _ (by omega)
   have m3:M2*(1+2*t.K)<=20022*21:=Nat.mul_le_mul (by omega) (by omega)
   obtain⟨M3,hM3⟩:∃M3,M3=M2*(1+2*t.K):=⟨_,rfl⟩
   have hcc:cntC t.K=((1+2*t.K:Nat):Int):=by unfold cntC;omega
   have hw3:IntKind.i64.wrap ((M2:Int)*cntC t.K)=(M3:Int):=by rw[hM3,hcc,<- Int.natCast_mul];exact IntWalk.i64_in _ (by omega)
   have hKf:K=M3+ix:=by rw[hkey,hM3,hM2e,hM1]
   have hw4:IntKind.i64.wrap ((M3:Int)+(ix:Int))=(K:Int):=by rw[hKf,<- Int.natCast_add];exact IntWalk.i64_in _ (by omega)
   have HKM:=h_ hkm
   have hKi:(K:Int)<(t.M:Int):=by omega
   have hKi0:(0:Int)<=(K:Int):=by omega
   generalize cntC t.K=cn at *;clear hI hA hB hv ht hR hc hb0 hlow hlr hq hq2 hs0 ht0 hc' ht' hkey hkm hKe hN hna hnb hixe hNN m1 m3 hM1 hM2e hM3 hcc hKf hrc hn1 hn2 hix hN141 hM2
   go_enter Tryz.func108,Tryz.ntmps108
   go_wp2_with (first|(go_at_call 106;(with_reducible refine DOA.out.mono ?_);rintro e w' ⟨rfl,rfl⟩)|(go_at_call 106;(with_reducible refine DOB.out.mono ?_);rintro e w' ⟨rfl,rfl⟩))
   clear DOA DOB WH;generalize (w.alloc (.cells #[.int .i64 v,.int .i64 o] 55)).alloc (.cells #[.int .i64 0,.int .i64 0] 35)=W1 at *;have HI:=HIa;clear HIa;have HG:Hid (FrS t.S W1 W1 []):=FrS.start W1 HI.out.ltS;have e0:=HI.out.tb 0 _ rfl;have e1:=HI.out.tb 1 _ rfl;have e2:=HI.out.tb 2 _ rfl;have e3:=HI.out.tb 3 _ rfl;have e4:=HI.out.tb 4 _ rfl;have e5:=HI.out.tb 5 _ rfl;have e6:=HI.out.tb 6 _ rfl;have ea:=HI.out.fa;have hbt:=HI.out.ltB
   have e7:W1.cell? ⟨t.bt,7,none⟩=some (.int .i64 (N:Int)):=by rw[HNT.out];exact HI.out.tb 7 _ rfl
   obtain⟨z0,c00,f00,c01,f01,z1,c10,f10,c11,f11⟩:=HF.out.xf4
   first|refine ab (by kernel_rfl) (by kernel_rfl) ?_|refine ac (by kernel_rfl) (by kernel_rfl) ?_
   repeat (first|go_big_quiet_step (first|(go_at_call_of 192 A;exact more_call (CN1.out _ (HA.out.1.more _)))|(go_at_call_of 192 B;exact more_call (CN2.out _ (HB.out.1.more _)))|(go_at_call 191;exact more_call (CC.out _))|(go_at_call 193;exact more_call (CI.out _)))|quiet_step (first|(go_at_call_of 192 A;exact more_call (CN1.out _ (HA.out.1.more _)))|(go_at_call_of 192 B;exact more_call (CN2.out _ (HB.out.1.more _)))|(go_at_call 191;exact more_call (CC.out _))|(go_at_call 193;exact more_call (CI.out _))))
   refine wpQuiet_nil ?_
   intro _ hw'
   obtain⟨tr,hw''⟩:=hw';subst hw'';clear z0 c00 f00 c01 f01 z1 c10 f10 c11 f11;clear e0 e1 e2 e3 e4 e5 e6 ea hbt;replace HF:=h_ (HF.out.more tr);replace HG:=h_ (HG.out.more tr);replace HI:=h_ (HI.out.more tr);replace HA:=h_ (HA.out.below (aa _ tr));replace HB:=h_ (HB.out.below (aa _ tr));generalize more W1 tr=Y1 at *;clear e7 hw1 hw2 hw3 hw4 CN1 CN2 CC CI HG;obtain⟨kf,ef,hx,hxv,hxy⟩:=HI.out;have e9:=HI.out.tb 9 _ rfl;have e10:=HI.out.tb 10 _ rfl;have ea:=HI.out.fa;have hbt:=HI.out.ltB;have HD:Hid (t.bt≠t.bk/\t.bt≠t.bw):=⟨hx.d1,hx.d2⟩;have hk1:=hx.k K HKM.out;have hkz:=hx.ltK;obtain⟨he1,he2⟩:=hx.e K HKM.out;have hez:=hx.ltV;have HVE:=h_ (hxv K HKM.out)
   have HKY:Hid (fl=false->kf K=true->eqv t.s t.ru own other (v,o)=some (ef K)):=fun h1 h2=>by
    have h:=hxy h1 own other (v,o) HQ.out HQ2.out HC.out;rw[<- HKE.out]at h
    exact h h2
   clear hx hxv hxy;generalize ef K=ek at *;generalize kf K=kk at *
   by_cases hstop:kk=true\/fl=true
   focus
    have HFE:Hid (fl=(fl||(eqv t.s t.ru own other (v,o)).isNone)):=by
     unfold Hid
     cases fl
     ·have hkk:kk=true:=by
       rcases hstop with h|h
       ·exact h
       ·cases h
      rw[HKY.out rfl hkk];rfl
     ·rfl
    have HOUT:Hid ((fl||(eqv t.s t.ru own other (v,o)).isNone)=false->eqv t.s t.ru own other (v,o)=some ek):=fun h=>by
     cases fl
     ·have hkk:kk=true:=by
       rcases hstop with h|h
       ·exact h
       ·cases h
      exact HKY.out rfl hkk
     ·cases h
    clear HKY
    cases kk
    focus
     have hfl:fl=true:=by
      rcases hstop with h|h
      ·cases h
      ·exact h
     subst hfl;clear hstop;obtain⟨z0,c00,f00,c01,f01,z1,c10,f10,c11,f11⟩:=HF.out.xf4
     refine ?zn
    rotate_left
    focus
     clear hstop
     obtain⟨z0,c00,f00,c01,f01,z1,c10,f10,c11,f11⟩:=HF.out.xf4
     refine ?zo
   rotate_left 2
   focus
    have hkk:kk=false:=by cases kk;rfl;exact absurd (.inl rfl) hstop
    have hfl:fl=false:=by cases fl;rfl;exact absurd (.inr rfl) hstop
    subst hkk;subst hfl;clear hstop HKY;obtain⟨z0,c00,f00,c01,f01,z1,c10,f10,c11,f11⟩:=HF.out.xf4
    go_wp2_with (fail)
    clear z0 c00 f00 c01 f01 z1 c10 f10 c11 f11;clear e9 e10 ea hbt hk1 hkz he1 he2 hez;have HIb:=HI;clear HI
    refine (R1.out false A B ca cb Y1 HIb.out HA.out hca HB.out hcb).mono ?_
    rintro e w2 ⟨⟨xn,xd⟩,rfl,hvx,hI,hf,him⟩
    replace HF:=h_ (HF.out.frm hf);have HI:=h_ hI;replace HA:=h_ (HA.out.frm hf);replace HB:=h_ (HB.out.frm hf);have HVX:=h_ hvx;have HIM:=h_ him;clear hf R1 hvx him HIb hI
    have HG:Hid (FrS t.S w2 (w2.alloc (.cells #[.int .i64 xn,.int .i64 (xd:Int)] 35)) [[.int .i64 xn,.int .i64 (xd:Int)]]):=(FrS.start w2 HI.out.ltS).allocT (by simp) _ _
    have HZ3:Hid (w.heap.size+2<=w2.heap.size):=by unfold Hid;have:=HF.out.z;simpa using this
    have HZ2:Hid (w.heap.size<=w2.heap.size):=by have:=HZ3.out;unfold Hid;omega
    obtain⟨z0,c00,f00,c01,f01,z1,c10,f10,c11,f11⟩:=HF.out.xf4
    go_wp2_with (fail)
    clear z0 c00 f00 c01 f01 z1 c10 f10 c11 f11;replace HF:=h_ (HF.out.alloc (.cells #[.int .i64 xn,.int .i64 (xd:Int)] 35));replace HI:=h_ (HI.out.alloc (.cells #[.int .i64 xn,.int .i64 (xd:Int)] 35));replace HA:=h_ (HA.out.below ((Below.refl _ _).alloc (Nat.le_refl _) (.cells #[.int .i64 xn,.int .i64 (xd:Int)] 35)));replace HB:=h_ (HB.out.below ((Below.refl _ _).alloc (Nat.le_refl _) (.cells #[.int .i64 xn,.int .i64 (xd:Int)] 35)));generalize w2.alloc (.cells #[.int .i64 xn,.int .i64 (xd:Int)] 35)=X0 at *;obtain⟨o1,ho1⟩:∃o1,o1=rol t.s t.ru own other (v,o):=⟨_,rfl⟩;rw[<- ho1]at HI HIM HNO HST HDV;clear ho1
    rcases o1 with _|⟨rn,rd⟩
    focus
     have HE:=h_ (HNO.out rfl)
     clear HNO HST HDV HDB HIM HMY COM;replace HI:Hid (TbI t true X0):=HI.out;have e0:=HI.out.tb 0 _ rfl;have e1:=HI.out.tb 1 _ rfl;have e2:=HI.out.tb 2 _ rfl;have e3:=HI.out.tb 3 _ rfl;have e4:=HI.out.tb 4 _ rfl;have e5:=HI.out.tb 5 _ rfl;have e6:=HI.out.tb 6 _ rfl;have ea:=HI.out.fa;have hbt:=HI.out.ltB;obtain⟨z0,c00,f00,c01,f01,z1,c10,f10,c11,f11⟩:=HF.out.xf4
     refine ?zr
    rotate_left
    focus
     have hee:(⟨rn,rd⟩:E)=⟨xn,xd⟩:=by have:=HIM.out rfl;injection this
     injection hee with he1 he2;subst he1 he2;have HST1:=h_ (HST.out _ rfl);have HDV1:=h_ (HDV.out _ rfl);replace HI:Hid (TbI t false X0):=HI.out;clear HNO HST HDV HIM;generalize may t.ru (v,o)=mb at *
     cases mb
     focus
      have HE:=h_ (HST1.out rfl)
      clear HST1 HDV1 HDB COM;have e0:=HI.out.tb 0 _ rfl;have e1:=HI.out.tb 1 _ rfl;have e2:=HI.out.tb 2 _ rfl;have e3:=HI.out.tb 3 _ rfl;have e4:=HI.out.tb 4 _ rfl;have e5:=HI.out.tb 5 _ rfl;have e6:=HI.out.tb 6 _ rfl;have ea:=HI.out.fa;have hbt:=HI.out.ltB;obtain⟨z0,c00,f00,c01,f01,z1,c10,f10,c11,f11⟩:=HF.out.xf4
      refine ?zj
     rotate_left
     focus
      have HE0:=h_ (HDV1.out rfl)
      have R2:=h_ (HDB.out rfl);clear HST1 HDV1 HDB;have e0:=HI.out.tb 0 _ rfl;have e1:=HI.out.tb 1 _ rfl;have e2:=HI.out.tb 2 _ rfl;have e3:=HI.out.tb 3 _ rfl;have e4:=HI.out.tb 4 _ rfl;have e5:=HI.out.tb 5 _ rfl;have e6:=HI.out.tb 6 _ rfl;have ea:=HI.out.fa;have hbt:=HI.out.ltB;obtain⟨z0,c00,f00,c01,f01,z1,c10,f10,c11,f11⟩:=HF.out.xf4
      refine ?zk
 rotate_left 6
 case' zj|zk=>
  first|refine ab (by kernel_rfl) (by kernel_rfl) ?_|refine ac (by kernel_rfl) (by kernel_rfl) ?_
  repeat (first|go_big_quiet_step ((go_at_call 194;exact more_call (HMY.out _)))|quiet_step ((go_at_call 194;exact more_call (HMY.out _))))
  refine wpQuiet_nil ?_
  intro _ hw'
 case' zk=>
  obtain⟨tr,hw''⟩:=hw';subst hw'';clear z0 c00 f00 c01 f01 z1 c10 f10 c11 f11;clear e0 e1 e2 e3 e4 e5 e6 ea hbt;replace HF:=h_ (HF.out.more tr);replace HG:=h_ (HG.out.more tr);replace HI:=h_ (HI.out.more tr);replace HA:=h_ (HA.out.below (aa _ tr));replace HB:=h_ (HB.out.below (aa _ tr));generalize more X0 tr=Y0 at *;obtain⟨z0,c00,f00,c01,f01,z1,c10,f10,c11,f11⟩:=HF.out.xf4;obtain⟨qz0,qc00,qf00,qc01,qf01⟩:=HG.out.xf3
  go_wp2_with (fail)
  clear z0 c00 f00 c01 f01 z1 c10 f10 c11 f11;clear qz0 qc00 qf00 qc01 qf01;have HIb:=HI;clear HI
  refine (R2.out false A B ca cb Y0 HIb.out HA.out hca HB.out hcb).mono ?_
  rintro e w4 ⟨⟨yn,yd⟩,ya,rfl,hvy,hI,hf,him⟩
  replace HF:=h_ (HF.out.frm hf);replace HG:=h_ (HG.out.frm hf);have HI:=h_ hI;replace HA:=h_ (HA.out.frm hf);replace HB:=h_ (HB.out.frm hf);clear hI;have HVY:=h_ hvy;have HIM:=h_ him;clear hf R2 hvy him HIb HMY;obtain⟨z0,c00,f00,c01,f01,z1,c10,f10,c11,f11⟩:=HF.out.xf4;obtain⟨qz0,qc00,qf00,qc01,qf01⟩:=HG.out.xf3
  go_wp2_with (fail)
  clear z0 c00 f00 c01 f01 z1 c10 f10 c11 f11;clear qz0 qc00 qf00 qc01 qf01;replace HF:=h_ (HF.out.alloc (.cells #[.int .i64 (yn),.int .i64 ((yd:Int))] 35));replace HG:=h_ (HG.out.alloc (.cells #[.int .i64 (yn),.int .i64 ((yd:Int))] 35));replace HI:=h_ (HI.out.alloc (.cells #[.int .i64 (yn),.int .i64 ((yd:Int))] 35));replace HA:=h_ (HA.out.below ((Below.refl _ _).alloc (Nat.le_refl _) (.cells #[.int .i64 (yn),.int .i64 ((yd:Int))] 35)));replace HB:=h_ (HB.out.below ((Below.refl _ _).alloc (Nat.le_refl _) (.cells #[.int .i64 (yn),.int .i64 ((yd:Int))] 35)))
  have y0:((w4).alloc (.cells #[.int .i64 (yn),.int .i64 ((yd:Int))] 35)).cell? ⟨(w4).heap.size,0,none⟩=some (.int .i64 (yn)):=by simp[go_sem]
  have y1:((w4).alloc (.cells #[.int .i64 (yn),.int .i64 ((yd:Int))] 35)).cell? ⟨(w4).heap.size,1,none⟩=some (.int .i64 ((yd:Int))):=by simp[go_sem]
  have yz:(w4).heap.size<((w4).alloc (.cells #[.int .i64 (yn),.int .i64 ((yd:Int))] 35)).heap.size:=by simp
  generalize w4.alloc (.cells #[.int .i64 yn,.int .i64 (yd:Int)] 35)=X2 at *;obtain⟨o8,ho8⟩:∃o8,o8=dbl t.s t.ru own other (v,o):=⟨_,rfl⟩;rw[<- ho8]at HI HIM HE0;clear ho8
  rcases o8 with _|⟨⟨zn,zd⟩,za⟩
  focus
   have HE:Hid (eqv t.s t.ru own other (v,o)=none):=HE0.out
   replace HI:Hid (TbI t true X2):=HI.out;clear HE0 HIM COM;have e0:=HI.out.tb 0 _ rfl;have e1:=HI.out.tb 1 _ rfl;have e2:=HI.out.tb 2 _ rfl;have e3:=HI.out.tb 3 _ rfl;have e4:=HI.out.tb 4 _ rfl;have e5:=HI.out.tb 5 _ rfl;have e6:=HI.out.tb 6 _ rfl;have ea:=HI.out.fa;have hbt:=HI.out.ltB;obtain⟨z0,c00,f00,c01,f01,z1,c10,f10,c11,f11⟩:=HF.out.xf4;obtain⟨qz0,qc00,qf00,qc01,qf01⟩:=HG.out.xf3
   refine ?zs
  rotate_left
  focus
   have he:((⟨zn,zd⟩:E),za)=(⟨yn,yd⟩,ya):=by have:=HIM.out rfl;injection this
   injection he with he0 he3;injection he0 with he1 he2;subst he1 he2 he3;replace HI:Hid (TbI t false X2):=HI.out
   have HE1:Hid (eqv t.s t.ru own other (v,o)=some (if ltE (sq t.s) ⟨rn,rd⟩ ⟨zn,zd⟩ then ⟨zn,zd⟩ else ⟨rn,rd⟩)):=HE0.out
   have COM2:=h_ fun (W:World)=>COM.out ⟨zn,zd⟩ ⟨rn,rd⟩ W HVY.out HVX.out
   have HCS:Hid ((0<cmpE (sq t.s) ⟨zn,zd⟩ ⟨rn,rd⟩)=(ltE (sq t.s) ⟨rn,rd⟩ ⟨zn,zd⟩=true)):=eZ;have hcb1:=eh (sq t.s) ⟨zn,zd⟩ ⟨rn,rd⟩;clear HE0 HIM COM;generalize cmpE (sq t.s) ⟨zn,zd⟩ ⟨rn,rd⟩=cm at *
   by_cases hcm:0<cm
   focus
    have HE:Hid (eqv t.s t.ru own other (v,o)=some ⟨zn,zd⟩):=by
     unfold Hid
     rw[HE1.out,if_pos (by rw[<- HCS.out];exact hcm)]
    clear HE1 HCS;have e0:=HI.out.tb 0 _ rfl;have e1:=HI.out.tb 1 _ rfl;have e2:=HI.out.tb 2 _ rfl;have e3:=HI.out.tb 3 _ rfl;have e4:=HI.out.tb 4 _ rfl;have e5:=HI.out.tb 5 _ rfl;have e6:=HI.out.tb 6 _ rfl;have ea:=HI.out.fa;have hbt:=HI.out.ltB;obtain⟨z0,c00,f00,c01,f01,z1,c10,f10,c11,f11⟩:=HF.out.xf4;obtain⟨qz0,qc00,qf00,qc01,qf01⟩:=HG.out.xf3
    refine ?zl
   rotate_left
   focus
    have HE:Hid (eqv t.s t.ru own other (v,o)=some ⟨rn,rd⟩):=by
     unfold Hid
     rw[HE1.out,if_neg (by rw[<- HCS.out];exact hcm)]
    have dcm:=decide_eq_false hcm;clear HE1 HCS;have e0:=HI.out.tb 0 _ rfl;have e1:=HI.out.tb 1 _ rfl;have e2:=HI.out.tb 2 _ rfl;have e3:=HI.out.tb 3 _ rfl;have e4:=HI.out.tb 4 _ rfl;have e5:=HI.out.tb 5 _ rfl;have e6:=HI.out.tb 6 _ rfl;have ea:=HI.out.fa;have hbt:=HI.out.ltB;obtain⟨z0,c00,f00,c01,f01,z1,c10,f10,c11,f11⟩:=HF.out.xf4;obtain⟨qz0,qc00,qf00,qc01,qf01⟩:=HG.out.xf3
    refine ?zm
 case' zj=>
  obtain⟨tr,hw''⟩:=hw';subst hw'';clear z0 c00 f00 c01 f01 z1 c10 f10 c11 f11;clear e0 e1 e2 e3 e4 e5 e6 ea hbt;replace HF:=h_ (HF.out.more tr);replace HG:=h_ (HG.out.more tr);replace HI:=h_ (HI.out.more tr);replace HA:=h_ (HA.out.below (aa _ tr));replace HB:=h_ (HB.out.below (aa _ tr));generalize more X0 tr=X at *;have HVL:=HVX;have HEQ:=HE
 case' zl|zm=>
  first|refine ab (by kernel_rfl) (by kernel_rfl) ?_|refine ac (by kernel_rfl) (by kernel_rfl) ?_
  repeat (first|go_big_quiet_step ((go_at_call 176;exact more_call (COM2.out _)))|quiet_step ((go_at_call 176;exact more_call (COM2.out _))))
  refine wpQuiet_nil ?_
  intro _ hw'
 case' zm=>
  obtain⟨tr,hw''⟩:=hw';subst hw'';clear z0 c00 f00 c01 f01 z1 c10 f10 c11 f11;clear qz0 qc00 qf00 qc01 qf01;clear e0 e1 e2 e3 e4 e5 e6 ea hbt;replace HF:=h_ (HF.out.more tr);replace HG:=h_ (HG.out.more tr);replace HI:=h_ (HI.out.more tr);replace HA:=h_ (HA.out.below (aa _ tr));replace HB:=h_ (HB.out.below (aa _ tr));clear y0 y1 yz;generalize more X2 tr=X at *;have HVL:=HVX;have HEQ:=HE
 case zn|zo=>
  go_wp2_with (fail)
  refine bodyPost_ret (v:=.agg #[.int .i64 ek.num,.int .i64 (ek.depth:Int)]) (by simp[results,Tryz.results108,go_sem,c10,c11,z1,f10,f11]) rfl ?_
  refine⟨ek,rfl,HVE.out,?_,?_,HOUT.out⟩
  ·refine TbI.eqf ?_ HFE.out
   repeat (first|exact HI.out|refine TbI.alloc ?_ _|refine TbI.stored ?_ _ (HNS.out 1) (HNR.out 1))
  ·repeat (first|exact HF.out.f|refine Frm.alloc ?_ _|refine Frm.ownSet ?_ (by omega) _)
 case' zr|zs=>
  first|refine ab (by kernel_rfl) (by kernel_rfl) ?_|refine ac (by kernel_rfl) (by kernel_rfl) ?_
  repeat (first|go_big_quiet_step (fail)|quiet_step (fail))
  refine wpQuiet_nil ?_
  intro _ hw'
 case' zt|zu=>
  rintro e w1 ⟨rfl,hb⟩
  replace HF:=h_ (HF.out.below hb);have HI:=h_ (HIa.out.below hb);clear hb HIa WH;obtain⟨z0,c00,f00,c01,f01,z1,c10,f10,c11,f11⟩:=HF.out.xf4
  go_wp2_with (fail)
 case' zt=>
  refine bodyPost_ret (v:=.agg #[.int .i64 (v),.int .i64 ((0:Nat):Int)]) (by simp[results,Tryz.results108,go_sem,c10,c11,z1,f10,f11]) rfl ?_
  refine⟨⟨v,0⟩,rfl,HVW.out,?_,?_,fun _=>HRE.out⟩
  focus
   refine ?zv
  rotate_left
  focus
   refine ?zz
 case' zu=>
  refine bodyPost_ret (v:=.agg #[.int .i64 (-v),.int .i64 ((0:Nat):Int)]) (by simp[results,Tryz.results108,go_sem,c10,c11,z1,f10,f11]) rfl ?_
  refine⟨⟨-v,0⟩,rfl,HVW.out,?_,?_,fun _=>HRE.out⟩
  focus
   refine ?zw
  rotate_left
  focus
   refine ?zA
 case zv|zw=>
  refine TbI.eqf ?_ (show fl=(fl||(eqv t.s t.ru own other (v,o)).isNone) by rw[HRE.out];cases fl<;>rfl)
  repeat (first|exact HI.out|refine TbI.alloc ?_ _|refine TbI.stored ?_ _ (HNS.out 1) (HNR.out 1))
 case' zl=>
  obtain⟨tr,hw''⟩:=hw';subst hw'';clear z0 c00 f00 c01 f01 z1 c10 f10 c11 f11;clear qz0 qc00 qf00 qc01 qf01;clear e0 e1 e2 e3 e4 e5 e6 ea hbt;replace HF:=h_ (HF.out.more tr);replace HG:=h_ (HG.out.more tr);replace HI:=h_ (HI.out.more tr);replace HA:=h_ (HA.out.below (aa _ tr));replace HB:=h_ (HB.out.below (aa _ tr));replace y0:=keep_cell y0 (aa _ tr);replace y1:=keep_cell y1 (aa _ tr);replace yz:=Nat.lt_of_lt_of_le yz (ae _ tr);generalize more X2 tr=Y2 at *;obtain⟨z0,c00,f00,c01,f01,z1,c10,f10,c11,f11⟩:=HF.out.xf4;obtain⟨qz0,qc00,qf00,qc01,qf01⟩:=HG.out.xf3;have hn1:=HG.out.low;have hw2t:t.bt<w2.heap.size:=HG.out.low _ (.inl rfl);have hw2k:t.bk<w2.heap.size:=HG.out.low _ (.inr (.inl rfl))
  have n1:¬w2.heap.size=t.bt:=by omega
  have n2:¬t.bt=w2.heap.size:=by omega
  have n3:¬w2.heap.size=t.bk:=by omega
  have n4:¬t.bk=w2.heap.size:=by omega
  clear hn1
  have HNS2:Hid (¬t.S w2.heap.size):=fun h=>by have:=HG.out.low _ h;omega
  have HNR2:Hid (¬t.rb w2.heap.size):=by
   have hz:w.heap.size<=w2.heap.size:=HZ2.out;have h:=HNR.out (w2.heap.size-w.heap.size)
   rwa [show w.heap.size+(w2.heap.size-w.heap.size)=w2.heap.size by omega]at h
  have e9:=HI.out.tb 9 _ rfl;have hbt:=HI.out.ltB;obtain⟨kf',ef',hx,hx2,hx3⟩:=HI.out;have hkc:=hx.k K HKM.out;have hkf:=hx.fk K;have hbk:=hx.ltK;clear hx hx2 hx3;obtain⟨z0,c00,f00,c01,f01,z1,c10,f10,c11,f11⟩:=HF.out.xf4;obtain⟨qz0,qc00,qf00,qc01,qf01⟩:=HG.out.xf3
  go_wp2_with (fail)
  clear z0 c00 f00 c01 f01 z1 c10 f10 c11 f11;clear qz0 qc00 qf00 qc01 qf01;clear e9 hkc hkf;clear n1 n2 n3 n4 y0 y1 yz
  have hfs:Frm (fun k=>k=w2.heap.size) Y2 ((Y2.setCell ⟨w2.heap.size,0,none⟩ (.int .i64 zn)).setCell ⟨w2.heap.size,1,none⟩ (.int .i64 (zd:Int))):=(Frm.set _ _ _ _).trans (Frm.set _ _ _ _)
  replace HG:=h_ ((HG.out.set 0 0 rfl rfl (.int .i64 zn)).set 0 1 rfl rfl (.int .i64 (zd:Int)));have hw2s:w.heap.size+2<=w2.heap.size:=HZ3.out
  replace HF:=h_ (HF.out.out hfs fun k hk=>by rw[hk];exact hw2s)
  replace HI:=h_ (HI.out.out hfs (fun k hk=>by rw[hk];exact HNS2.out) fun k hk=>by rw[hk];exact HNR2.out)
  replace hbt:t.bt<((Y2.setCell ⟨w2.heap.size,0,none⟩ (.int .i64 zn)).setCell ⟨w2.heap.size,1,none⟩ (.int .i64 (zd:Int))).heap.size:=by simpa using hbt
  clear hfs HNS2 HNR2;have HVL:=HVY;have HEQ:=HE
 case' zl|zm|zj=>
  have HFE:Hid (false=(false||(eqv t.s t.ru own other (v,o)).isNone)):=by unfold Hid;rw[HE.out];rfl
 case' zm|zj=>
  have HOUT:Hid ((false||(eqv t.s t.ru own other (v,o)).isNone)=false->eqv t.s t.ru own other (v,o)=some ⟨rn,rd⟩):=fun _=>HE.out
  clear HE;have e9:=HI.out.tb 9 _ rfl;have hbt:=HI.out.ltB;obtain⟨kf',ef',hx,hx2,hx3⟩:=HI.out;have hkc:=hx.k K HKM.out;have hkf:=hx.fk K;have hbk:=hx.ltK;clear hx hx2 hx3;obtain⟨z0,c00,f00,c01,f01,z1,c10,f10,c11,f11⟩:=HF.out.xf4;obtain⟨qz0,qc00,qf00,qc01,qf01⟩:=HG.out.xf3
 case' zr=>
  obtain⟨tr,hw''⟩:=hw';subst hw'';clear z0 c00 f00 c01 f01 z1 c10 f10 c11 f11;clear e0 e1 e2 e3 e4 e5 e6 ea hbt;replace HF:=h_ (HF.out.more tr);replace HG:=h_ (HG.out.more tr);replace HI:=h_ (HI.out.more tr);replace HA:=h_ (HA.out.below (aa _ tr));replace HB:=h_ (HB.out.below (aa _ tr));generalize more X0 tr=X at *;have HVL:=HVX
 case' zs=>
  obtain⟨tr,hw''⟩:=hw';subst hw'';clear z0 c00 f00 c01 f01 z1 c10 f10 c11 f11;clear qz0 qc00 qf00 qc01 qf01;clear e0 e1 e2 e3 e4 e5 e6 ea hbt;replace HF:=h_ (HF.out.more tr);replace HG:=h_ (HG.out.more tr);replace HI:=h_ (HI.out.more tr);replace HA:=h_ (HA.out.below (aa _ tr));replace HB:=h_ (HB.out.below (aa _ tr));clear y0 y1 yz;generalize more X2 tr=X at *;have HVL:=HVX
 case' zr|zs=>
  have HFE:Hid (true=(false||(eqv t.s t.ru own other (v,o)).isNone)):=by unfold Hid;rw[HE.out];rfl
 case' zr=>
  have HOUT:Hid ((false||(eqv t.s t.ru own other (v,o)).isNone)=false->eqv t.s t.ru own other (v,o)=some ⟨xn,xd⟩):=fun h=>by rw[<- HFE.out]at h;cases h
  clear HE;have e9:=HI.out.tb 9 _ rfl;have hbt:=HI.out.ltB;obtain⟨kf',ef',hx,hx2,hx3⟩:=HI.out;have hkc:=hx.k K HKM.out;have hkf:=hx.fk K;have hbk:=hx.ltK;clear hx hx2 hx3;obtain⟨z0,c00,f00,c01,f01,z1,c10,f10,c11,f11⟩:=HF.out.xf4;obtain⟨qz0,qc00,qf00,qc01,qf01⟩:=HG.out.xf3
 case' zs=>
  have HOUT:Hid ((false||(eqv t.s t.ru own other (v,o)).isNone)=false->eqv t.s t.ru own other (v,o)=some ⟨rn,rd⟩):=fun h=>by rw[<- HFE.out]at h;cases h
  clear HE;have e9:=HI.out.tb 9 _ rfl;have hbt:=HI.out.ltB;obtain⟨kf',ef',hx,hx2,hx3⟩:=HI.out;have hkc:=hx.k K HKM.out;have hkf:=hx.fk K;have hbk:=hx.ltK;clear hx hx2 hx3;obtain⟨z0,c00,f00,c01,f01,z1,c10,f10,c11,f11⟩:=HF.out.xf4;obtain⟨qz0,qc00,qf00,qc01,qf01⟩:=HG.out.xf3
 case' zr|zj|zs|zm=>
  go_wp2_with (fail)
  clear z0 c00 f00 c01 f01 z1 c10 f10 c11 f11;clear qz0 qc00 qf00 qc01 qf01;clear e9 hkc hkf
  have hfk:Frm t.S (X) ((X).setCell ⟨t.bk,K,none⟩ (.bool true)):=(Frm.set _ _ _ _).mono fun k hk=>.inr (.inl hk)
 case' zl=>
  have HOUT:Hid ((false||(eqv t.s t.ru own other (v,o)).isNone)=false->eqv t.s t.ru own other (v,o)=some ⟨zn,zd⟩):=fun _=>HE.out
  clear HE
  have hfk:Frm t.S ((Y2.setCell ⟨w2.heap.size,0,none⟩ (.int .i64 zn)).setCell ⟨w2.heap.size,1,none⟩ (.int .i64 (zd:Int))) (((Y2.setCell ⟨w2.heap.size,0,none⟩ (.int .i64 zn)).setCell ⟨w2.heap.size,1,none⟩ (.int .i64 (zd:Int))).setCell ⟨t.bk,K,none⟩ (.bool true)):=(Frm.set _ _ _ _).mono fun k hk=>.inr (.inl hk)
 case' zr|zj|zs|zm|zl=>
  have HFk:=h_ (HF.out.frm hfk);have HGk:=h_ (HG.out.frm hfk);have hn1:¬t.bt=t.bk:=HD.out.1
 case' zr|zj|zs|zm=>
  have e10:((X).setCell ⟨t.bk,K,none⟩ (.bool true)).cell? ⟨t.bt,10,none⟩=some (.slice (some ⟨t.bw,0,none⟩) t.M t.M):=(World.cell?_setCell_other _ _ _ _ (by intro e';simp only[Addr.mk.injEq]at e';omega)).trans (HI.out.tb 10 _ rfl)
  have hbt':t.bt<((X).setCell ⟨t.bk,K,none⟩ (.bool true)).heap.size:=by simpa using hbt
 case' zr=>
  have HPUT0:Hid (∀w1,Below ((X).setCell ⟨t.bk,K,none⟩ (.bool true)).heap.size ((X).setCell ⟨t.bk,K,none⟩ (.bool true)) w1->TbI t true ((w1.setCell ⟨t.bw,K*2,none⟩ (.int .i64 xn)).setCell ⟨t.bw,K*2+1,none⟩ (.int .i64 (xd:Int)))):=fun w1 hb=>by
   have hb':Below (X).heap.size ((X).setCell ⟨t.bk,K,none⟩ (.bool true)) w1:=hb.mono (by simp)
   rw[HKE.out]at hb' ⊢
   exact TbI.put (e:=⟨xn,xd⟩) HI.out HQ.out HQ2.out HC.out HVL.out (fun h=>by cases h) hb'
 case' zs=>
  have HPUT0:Hid (∀w1,Below ((X).setCell ⟨t.bk,K,none⟩ (.bool true)).heap.size ((X).setCell ⟨t.bk,K,none⟩ (.bool true)) w1->TbI t true ((w1.setCell ⟨t.bw,K*2,none⟩ (.int .i64 rn)).setCell ⟨t.bw,K*2+1,none⟩ (.int .i64 (rd:Int)))):=fun w1 hb=>by
   have hb':Below (X).heap.size ((X).setCell ⟨t.bk,K,none⟩ (.bool true)) w1:=hb.mono (by simp)
   rw[HKE.out]at hb' ⊢
   exact TbI.put (e:=⟨rn,rd⟩) HI.out HQ.out HQ2.out HC.out HVL.out (fun h=>by cases h) hb'
 case' zj|zm=>
  have HPUT0:Hid (∀w1,Below ((X).setCell ⟨t.bk,K,none⟩ (.bool true)).heap.size ((X).setCell ⟨t.bk,K,none⟩ (.bool true)) w1->TbI t false ((w1.setCell ⟨t.bw,K*2,none⟩ (.int .i64 rn)).setCell ⟨t.bw,K*2+1,none⟩ (.int .i64 (rd:Int)))):=fun w1 hb=>by
   have hb':Below (X).heap.size ((X).setCell ⟨t.bk,K,none⟩ (.bool true)) w1:=hb.mono (by simp)
   rw[HKE.out]at hb' ⊢
   exact TbI.put (e:=⟨rn,rd⟩) HI.out HQ.out HQ2.out HC.out HVL.out (fun _=>HEQ.out) hb'
 case' zr|zs|zj|zm=>
  have HSK:=h_ (HI.out.setk HKM.out);clear hfk hn1 HF HG HI hbk hbt;generalize (X).setCell ⟨t.bk,K,none⟩ (.bool true)=Xk at *;obtain⟨qz0,qc00,qf00,qc01,qf01⟩:=HGk.out.xf3
 case' zl=>
  have e10:(((Y2.setCell ⟨w2.heap.size,0,none⟩ (.int .i64 zn)).setCell ⟨w2.heap.size,1,none⟩ (.int .i64 (zd:Int))).setCell ⟨t.bk,K,none⟩ (.bool true)).cell? ⟨t.bt,10,none⟩=some (.slice (some ⟨t.bw,0,none⟩) t.M t.M):=(World.cell?_setCell_other _ _ _ _ (by intro e';simp only[Addr.mk.injEq]at e';omega)).trans (HI.out.tb 10 _ rfl)
  have hbt':t.bt<(((Y2.setCell ⟨w2.heap.size,0,none⟩ (.int .i64 zn)).setCell ⟨w2.heap.size,1,none⟩ (.int .i64 (zd:Int))).setCell ⟨t.bk,K,none⟩ (.bool true)).heap.size:=by simpa using hbt
  have HPUT0:Hid (∀w1,Below (((Y2.setCell ⟨w2.heap.size,0,none⟩ (.int .i64 zn)).setCell ⟨w2.heap.size,1,none⟩ (.int .i64 (zd:Int))).setCell ⟨t.bk,K,none⟩ (.bool true)).heap.size (((Y2.setCell ⟨w2.heap.size,0,none⟩ (.int .i64 zn)).setCell ⟨w2.heap.size,1,none⟩ (.int .i64 (zd:Int))).setCell ⟨t.bk,K,none⟩ (.bool true)) w1->TbI t false ((w1.setCell ⟨t.bw,K*2,none⟩ (.int .i64 zn)).setCell ⟨t.bw,K*2+1,none⟩ (.int .i64 (zd:Int)))):=fun w1 hb=>by
   have hb':Below ((Y2.setCell ⟨w2.heap.size,0,none⟩ (.int .i64 zn)).setCell ⟨w2.heap.size,1,none⟩ (.int .i64 (zd:Int))).heap.size (((Y2.setCell ⟨w2.heap.size,0,none⟩ (.int .i64 zn)).setCell ⟨w2.heap.size,1,none⟩ (.int .i64 (zd:Int))).setCell ⟨t.bk,K,none⟩ (.bool true)) w1:=hb.mono (by simp)
   rw[HKE.out]at hb' ⊢
   exact TbI.put (e:=⟨zn,zd⟩) HI.out HQ.out HQ2.out HC.out HVL.out (fun _=>HEQ.out) hb'
  have HSK:=h_ (HI.out.setk HKM.out);clear hfk hn1 HF HG HI hbk hbt;generalize ((Y2.setCell ⟨w2.heap.size,0,none⟩ (.int .i64 zn)).setCell ⟨w2.heap.size,1,none⟩ (.int .i64 (zd:Int))).setCell ⟨t.bk,K,none⟩ (.bool true)=Xk at *;obtain⟨qz0,qc00,qf00,qc01,qf01⟩:=HGk.out.xf3
 case' zl|zr|zj|zs|zm=>
  first|refine ag 7 (by kernel_rfl) (by kernel_rfl) ?_|refine ah 7 (by kernel_rfl) (by kernel_rfl) ?_
  simp only[List.take_succ_cons,List.take_zero,List.drop_succ_cons,List.drop_zero]
  repeat (first|go_big_quiet_step (fail)|quiet_step (fail))
  refine wpQuiet_nil ?_
  intro _ hw'
  obtain⟨tr,hw''⟩:=hw';subst hw'';clear qz0 qc00 qf00 qc01 qf01;have HPUT:=h_ (HPUT0.out _ (aa _ tr));have HF:=h_ (HFk.out.more tr);have HG:=h_ (HGk.out.more tr);obtain⟨kf',ef',hx0⟩:=HSK.out;have hx:=hx0.below (aa _ tr);clear hx0;obtain⟨he1,he2⟩:=hx.e K HKM.out;have hv1:=hx.fv (K*2);have hv2:=hx.fv (K*2+1);have hbw:=hx.ltV;clear hx HFk HGk e10 hbt' HPUT0 HSK;generalize more Xk tr=Z at *;have hw2z:t.bw<w2.heap.size:=HG.out.low _ (.inr (.inr rfl));have hw1z:t.bw<w.heap.size:=HF.out.low _ (.inr (.inr rfl))
  have nw1:¬w2.heap.size=t.bw:=by omega
  have nw2:¬t.bw=w2.heap.size:=by omega
  have nw3:¬w.heap.size+1=t.bw:=by omega
  have nw4:¬t.bw=w.heap.size+1:=by omega
  obtain⟨z0,c00,f00,c01,f01,z1,c10,f10,c11,f11⟩:=HF.out.xf4;obtain⟨qz0,qc00,qf00,qc01,qf01⟩:=HG.out.xf3
  go_wp2_with (fail)
  clear z0 c00 f00 c01 f01 z1 c10 f10 c11 f11;clear qz0 qc00 qf00 qc01 qf01;clear he1 he2 hv1 hv2
 case' zl=>
  have hfw:Frm t.S Z ((Z.setCell ⟨t.bw,K*2,none⟩ (.int .i64 zn)).setCell ⟨t.bw,K*2+1,none⟩ (.int .i64 (zd:Int))):=((Frm.set _ _ _ _).trans (Frm.set _ _ _ _)).mono fun k hk=>.inr (.inr hk)
  replace HF:=h_ (HF.out.frm hfw);replace HG:=h_ (HG.out.frm hfw);have HI:Hid (TbI t false ((Z.setCell ⟨t.bw,K*2,none⟩ (.int .i64 zn)).setCell ⟨t.bw,K*2+1,none⟩ (.int .i64 (zd:Int)))):=HPUT.out;clear hfw HPUT;generalize (Z.setCell ⟨t.bw,K*2,none⟩ (.int .i64 zn)).setCell ⟨t.bw,K*2+1,none⟩ (.int .i64 (zd:Int))=Z2 at *;obtain⟨z0,c00,f00,c01,f01,z1,c10,f10,c11,f11⟩:=HF.out.xf4
  refine bodyPost_ret (v:=.agg #[.int .i64 zn,.int .i64 (zd:Int)]) (by simp[results,Tryz.results108,go_sem,c10,c11,z1,f10,f11]) rfl ?_
  refine⟨⟨zn,zd⟩,rfl,HVL.out,?_,?_,HOUT.out⟩
  ·refine TbI.eqf ?_ HFE.out
   repeat (first|exact HI.out|refine TbI.alloc ?_ _|refine TbI.stored ?_ _ (HNS.out 1) (HNR.out 1))
 case' zr=>
  have hfw:Frm t.S Z ((Z.setCell ⟨t.bw,K*2,none⟩ (.int .i64 xn)).setCell ⟨t.bw,K*2+1,none⟩ (.int .i64 (xd:Int))):=((Frm.set _ _ _ _).trans (Frm.set _ _ _ _)).mono fun k hk=>.inr (.inr hk)
  replace HF:=h_ (HF.out.frm hfw);replace HG:=h_ (HG.out.frm hfw);have HI:Hid (TbI t true ((Z.setCell ⟨t.bw,K*2,none⟩ (.int .i64 xn)).setCell ⟨t.bw,K*2+1,none⟩ (.int .i64 (xd:Int)))):=HPUT.out;clear hfw HPUT;generalize (Z.setCell ⟨t.bw,K*2,none⟩ (.int .i64 xn)).setCell ⟨t.bw,K*2+1,none⟩ (.int .i64 (xd:Int))=Z2 at *;obtain⟨z0,c00,f00,c01,f01,z1,c10,f10,c11,f11⟩:=HF.out.xf4
  refine bodyPost_ret (v:=.agg #[.int .i64 xn,.int .i64 (xd:Int)]) (by simp[results,Tryz.results108,go_sem,c10,c11,z1,f10,f11]) rfl ?_
  refine⟨⟨xn,xd⟩,rfl,HVL.out,?_,?_,HOUT.out⟩
  ·refine TbI.eqf ?_ HFE.out
   repeat (first|exact HI.out|refine TbI.alloc ?_ _|refine TbI.stored ?_ _ (HNS.out 1) (HNR.out 1))
 case' zs|zj|zm=>
  have hfw:Frm t.S Z ((Z.setCell ⟨t.bw,K*2,none⟩ (.int .i64 rn)).setCell ⟨t.bw,K*2+1,none⟩ (.int .i64 (rd:Int))):=((Frm.set _ _ _ _).trans (Frm.set _ _ _ _)).mono fun k hk=>.inr (.inr hk)
 case' zs=>
  replace HF:=h_ (HF.out.frm hfw);replace HG:=h_ (HG.out.frm hfw);have HI:Hid (TbI t true ((Z.setCell ⟨t.bw,K*2,none⟩ (.int .i64 rn)).setCell ⟨t.bw,K*2+1,none⟩ (.int .i64 (rd:Int)))):=HPUT.out;clear hfw HPUT;generalize (Z.setCell ⟨t.bw,K*2,none⟩ (.int .i64 rn)).setCell ⟨t.bw,K*2+1,none⟩ (.int .i64 (rd:Int))=Z2 at *;obtain⟨z0,c00,f00,c01,f01,z1,c10,f10,c11,f11⟩:=HF.out.xf4
 case' zj|zm=>
  replace HF:=h_ (HF.out.frm hfw);replace HG:=h_ (HG.out.frm hfw);have HI:Hid (TbI t false ((Z.setCell ⟨t.bw,K*2,none⟩ (.int .i64 rn)).setCell ⟨t.bw,K*2+1,none⟩ (.int .i64 (rd:Int)))):=HPUT.out;clear hfw HPUT;generalize (Z.setCell ⟨t.bw,K*2,none⟩ (.int .i64 rn)).setCell ⟨t.bw,K*2+1,none⟩ (.int .i64 (rd:Int))=Z2 at *;obtain⟨z0,c00,f00,c01,f01,z1,c10,f10,c11,f11⟩:=HF.out.xf4
 case zs|zj|zm=>
  refine bodyPost_ret (v:=.agg #[.int .i64 rn,.int .i64 (rd:Int)]) (by simp[results,Tryz.results108,go_sem,c10,c11,z1,f10,f11]) rfl ?_
  refine⟨⟨rn,rd⟩,rfl,HVL.out,?_,?_,HOUT.out⟩
  ·refine TbI.eqf ?_ HFE.out
   repeat (first|exact HI.out|refine TbI.alloc ?_ _|refine TbI.stored ?_ _ (HNS.out 1) (HNR.out 1))
  ·repeat (first|exact HF.out.f|refine Frm.alloc ?_ _|refine Frm.ownSet ?_ (by omega) _)
 case zl|zr|zz|zA=>
  repeat (first|exact HF.out.f|refine Frm.alloc ?_ _|refine Frm.ownSet ?_ (by omega) _)
end Go.Proofs.YtkaiilmgemaljaaGreat

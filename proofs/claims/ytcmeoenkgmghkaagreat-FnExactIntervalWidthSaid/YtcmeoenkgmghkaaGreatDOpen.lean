/- Part of one proof. There are no conditions. -/
import Derived.Test.YtcmeoenkgmghkaaGreatDY34
import Derived.ProofKit
import Derived.OpenShut
import Derived.Lib.SmallJoins
import Derived.Deep.Slices
import Derived.Deep.Fields
import Derived.ChangeSame
import Derived.ChangeSlices
import Derived.Below
set_option linter.unusedVariables false
set_option linter.unusedSimpArgs false
set_option maxHeartbeats 0
set_option maxRecDepth 100000
open Go.IntKind renaming i64->j
open Go.Value renaming slice->l,agg->q,tuple->F,pointer->I
open Go.Obj renaming cells->C
open Go.Ending renaming returned->D
namespace Go.Proofs.YtcmeoenkgmghkaaGreat
open Go.RowKit Ps Ra Ex
def minE(B:Int)(x y:E):Option E:=addE B x (negE y)
theorem j4(p c h xn yn:Int)(s xd yd:Nat)(w:World)(hs1:1<=s)(hs6:s<=6)(hx:Val (sq s) ⟨xn,xd⟩)(hy:Val (sq s) ⟨yn,yd⟩):
  Calls Tryz.prog 76 #[q #[.int j p,.int j c,.int j h,.int j s],q #[.int j xn,.int j xd],q #[.int j yn,.int j yd]] w (RetE w (minE (sq s) ⟨xn,xd⟩ ⟨yn,yd⟩)):=by
 have hy1: -1000000000000000000<=yn:=hy.1;have hy2:yn<=1000000000000000000:=hy.2.1
 rcases hm:minE (sq s) ⟨xn,xd⟩ ⟨yn,yd⟩with _|⟨m,d⟩
 focus
  have AD:Hid (∀W:World,Calls Tryz.prog 147 #[q #[.int j p,.int j c,.int j h,.int j s],q #[.int j xn,.int j xd],q #[.int j (-yn),.int j yd]] W fun e w'=>e=D (F #[q #[.int j 0,.int j 0],.bool false])/\Below W.heap.size W w'):=fun W=>by
   have:=cw p c h xn (-yn) s xd yd W hs1 hs6 hx (ee hy);rw[show addE (sq s) ⟨xn,xd⟩ ⟨-yn,yd⟩=minE (sq s) ⟨xn,xd⟩ ⟨yn,yd⟩from rfl,hm]at this;exact this
  refine ?za
 rotate_left
 focus
  have AD:Hid (∀W:World,Calls Tryz.prog 147 #[q #[.int j p,.int j c,.int j h,.int j s],q #[.int j xn,.int j xd],q #[.int j (-yn),.int j yd]] W fun e w'=>e=D (F #[q #[.int j m,.int j d],.bool true])/\Below W.heap.size W w'):=fun W=>by
   have:=cw p c h xn (-yn) s xd yd W hs1 hs6 hx (ee hy);rw[show addE (sq s) ⟨xn,xd⟩ ⟨-yn,yd⟩=minE (sq s) ⟨xn,xd⟩ ⟨yn,yd⟩from rfl,hm]at this;exact this
  refine ?zb
 rotate_left
 case' za|zb=>
  have HF:Hid (Fr w ((((w.alloc (C #[.int j p,.int j c,.int j h,.int j s] 33)).alloc (C #[.int j xn,.int j xd] 45)).alloc (C #[.int j yn,.int j yd] 45)).alloc (C #[.int j 0,.int j 0] 45)) [[.int j p,.int j c,.int j h,.int j s],[.int j xn,.int j xd],[.int j yn,.int j yd],[.int j 0,.int j 0]]):=
   ((((Fr.start w).allocT (by simp) _ _).allocT (by simp) _ _).allocT (by simp) _ _).allocT (by simp) _ _
  clear hx hy hm
  go_enter Tryz.func76,Tryz.ntmps76
  go_wp2_with (fail)
  refine(more_first (AD.out _)).mono ?_
  rintro e w' ⟨rfl,t,rfl⟩
  have HZ:=h_ (HF.out.more t);generalize more ((((w.alloc (C #[.int j p,.int j c,.int j h,.int j s] 33)).alloc (C #[.int j xn,.int j xd] 45)).alloc (C #[.int j yn,.int j yd] 45)).alloc (C #[.int j 0,.int j 0] 45)) t=Z at *;have c30:=HZ.out.c3 0 rfl;have f30:=HZ.out.f3 0 rfl;have c31:=HZ.out.c3 1 rfl;have f31:=HZ.out.f3 1 rfl
  go_wp2_with (fail)
 case za=>
  refine bodyPost_ret (v:=F #[q #[.int j 0,.int j 0],.bool false]) (by simp[results,Tryz.results76,go_sem,c30,c31,f30,f31]) rfl (RetE.mkN rfl ?_)
  repeat (first|exact HZ.out.b|refine stw ?_ (by omega))
 case zb=>
  refine bodyPost_ret (v:=F #[q #[.int j m,.int j d],.bool true]) (by simp[results,Tryz.results76,go_sem,c30,c31,f30,f31]) rfl (RetE.mkY rfl ?_)
  repeat (first|exact HZ.out.b|refine stw ?_ (by omega))
open Go.RowKit Pl Ps Ra Ex
def wdP(s:Nat)(r:Int×Iv):Int×Int×Int:=if r.1=0 then(let z:=(addE (sq s) r.2.2 (negE r.2.1)).getD an;(z.num,(z.depth:Int),0))else(0,0,r.1)
noncomputable def wdR(p c h s:Int)(own other:List Int)(tu:Int):Int×Int×Int:=wdP s.toNat (iwR p c h s own other tu)
theorem iwR_ok(p c h s:Int)(own other:List Int)(tu:Int):
  (∃s':Nat,s=s'/\(iwR p c h s own other tu).1=0/\1<=s'/\s'<=3/\VI (sq s') (iwR p c h s own other tu).2/\GI (sq s') (iwR p c h s own other tu).2)\/
  ((iwR p c h s own other tu).1≠0/\(iwR p c h s own other tu).2=(an,an)):=by
 unfold iwR
 by_cases h0:cdT p c h s own other tu true=0
 ·left
  rw[if_pos h0];obtain⟨hbd,hin,_,hsm⟩:=cdT_yes h0;obtain⟨hvv,hsd1,hsd2,_,_⟩:=jP hbd;obtain⟨hl1,hq1,hms1⟩:=bO hsd1;obtain⟨hl2,hq2,hms2⟩:=bO hsd2;have hv8:=aA hvv;obtain⟨_,hp6,hc3,hs3⟩:=fM hsm;have hin2:0<=tu/\tu<=2:=of_decide_eq_true hin
  obtain⟨P,rfl⟩:∃P:Nat,p=P:=⟨p.toNat,by omega⟩
  obtain⟨c',rfl⟩:∃c':Nat,c=c':=⟨c.toNat,by omega⟩
  obtain⟨h',rfl⟩:∃h':Nat,h=h':=⟨h.toNat,by omega⟩
  obtain⟨s',rfl⟩:∃s':Nat,s=s':=⟨s.toNat,by omega⟩
  obtain⟨tu',rfl⟩:∃tu':Nat,tu=tu':=⟨tu.toNat,by omega⟩
  have hsd:Sd P c' (own,other):=⟨⟨hl1,hq1,hms1⟩,⟨hl2,hq2,hms2⟩⟩
  obtain⟨x,hx,_⟩:=ivE_ok (P:=P) (h:=h') (c:=c') (s:=s') (by omega) (by omega) (by omega) (by omega) (by omega) tu' (by omega) hsd
  obtain⟨hB,_,_⟩:=sq_bd (show 1<=s' by omega) (show s'<=6 by omega)
  simp only[Int.toNat_natCast]
  refine⟨s',rfl,trivial,by omega,by omega,?_,?_⟩
  ·rw[hx];exact lR hB hx
  ·rw[hx];exact lS hB hx
 ·right
  rw[if_neg h0]
  exact⟨h0,rfl⟩
theorem iz(p c h s tu:Int)(A1 A2:Option Addr)(n1 c1 n2 c2:Nat)(own other:List Int)(w:World)(hA:SL w A1 n1 own)(hB:SL w A2 n2 other)(hc1:n1<=c1)(hc2:n2<=c2)(hm1:n1<=2000000)(hm2:n2<=2000000):
  Calls Tryz.prog 26 #[q #[.int j p,.int j c,.int j h,.int j s],q #[l A1 n1 c1,l A2 n2 c2],.int j tu] w (RetN w (wdR p c h s own other tu)):=by
 obtain⟨PR,hPR⟩:∃PR,PR=iwR p c h s own other tu:=⟨_,rfl⟩;have HP0:=iwR_ok p c h s own other tu;rw[<-hPR]at HP0
 have HF:Hid (Fr w (((w.alloc (C #[.int j p,.int j c,.int j h,.int j s] 33)).alloc (C #[l A1 n1 c1,l A2 n2 c2] 35)).alloc (C #[.int j 0,.int j 0] 45)) [[.int j p,.int j c,.int j h,.int j s],[l A1 n1 c1,l A2 n2 c2],[.int j 0,.int j 0]]):=(((Fr.start w).allocT (by simp) _ _).allocT (by simp) _ _).allocT (by simp) _ _
 have CW:=h_ (jX p c h s tu A1 A2 n1 c1 n2 c2 own other _ (hA.below HF.out.b) (hB.below HF.out.b) hc1 hc2 hm1 hm2);rw[<-hPR]at CW
 have HCR:Hid (wdR p c h s own other tu=wdP s.toNat PR):=by unfold Hid wdR;rw[hPR]
 generalize wdR p c h s own other tu=RR at *;clear hPR hA hB;obtain⟨Z,⟨⟨xn,xd⟩,⟨yn,yd⟩⟩⟩:=PR
 rcases HP0 with⟨s',hss,hZ,hs1,hs3,hvi,hgi⟩|⟨hZ,hx⟩
 ·have hZ:Z=0:=hZ
  subst hZ hss;rw[Int.toNat_natCast]at HCR
  have hs6:s'<=6:=by omega
  obtain⟨hq1,_,_⟩:=sq_bd hs1 hs6;obtain⟨⟨zn,zd⟩,hz,_⟩:=wide_ok hq1 hvi hgi
  have CM:=h_ fun(W:World)=>j4 p c h yn xn s' yd xd W hs1 hs6 hvi.2 hvi.1
  have HWR:Hid (RR=(zn,(zd:Int),0)):=by
   unfold Hid;rw[HCR.out];unfold wdP
   simp only[hz,if_pos]
   rfl
  have hz2:minE (sq s') ⟨yn,yd⟩ ⟨xn,xd⟩=some ⟨zn,zd⟩:=hz;rw[hz2]at CM;clear HCR hz hz2 hvi hgi
  go_enter Tryz.func26,Tryz.ntmps26
  go_wp2_with (fail)
  refine CW.out.mono ?_
  intro e w2 hr
  obtain⟨he,hb⟩:=hr;replace he:e=D (F #[q #[.int j xn,.int j (xd:Int),.int j yn,.int j (yd:Int)],.int j 0]):=he;subst he;have HF2:=h_ (HF.out.below hb);clear hb HF CW
  have z0:=HF2.out.l0 (by simp)
  have c00:=HF2.out.c0 0 rfl;have c01:=HF2.out.c0 1 rfl;have c02:=HF2.out.c0 2 rfl;have c03:=HF2.out.c0 3 rfl
  go_wp2_with (fail)
  refine(CM.out _).mono ?_
  intro e w3 hr
  obtain⟨rfl,hb3⟩:=RetE.yes hr
  have HF3:=h_ (HF2.out.below (((Below.refl _ _).alloc (Nat.le_refl _) _).trans (hb3.mono (by simp))))
  clear z0 c00 c01 c02 c03;clear hb3 HF2 hr CM
  have z2:=HF3.out.l2 (by simp)
  have c20:=HF3.out.c2 0 rfl;have f20:=HF3.out.f2 0 rfl;have c21:=HF3.out.c2 1 rfl;have f21:=HF3.out.f2 1 rfl
  go_wp2_with (fail)
  refine bodyPost_ret (v:=F #[q #[.int j zn,.int j (zd:Int)],.int j 0]) (by simp[results,Tryz.results26,go_sem,c20,c21,z2,f20,f21]) rfl (RetN.mk' HWR.out ?_)
  repeat (first|with_reducible exact HF3.out.b|refine stw ?_ (by omega)|refine alw ?_ (by omega))
 ·have hZ1:Z≠0:=hZ
  have b0:(Z !=0)=true:=by simp[hZ1]
  have HWR:Hid (RR=(0,0,Z)):=by
   unfold Hid;rw[HCR.out];unfold wdP
   rw[if_neg (show ¬((Z,((⟨xn,xd⟩,⟨yn,yd⟩):Iv))).1=0 from hZ1)]
  clear hZ hZ1 HCR hx
  go_enter Tryz.func26,Tryz.ntmps26
  go_wp2_with (fail)
  refine CW.out.mono ?_
  intro e w2 hr
  obtain⟨he,hb⟩:=hr;replace he:e=D (F #[q #[.int j xn,.int j (xd:Int),.int j yn,.int j (yd:Int)],.int j Z]):=he;subst he;have HF2:=h_ (HF.out.below hb);clear hb HF CW
  have z2:=HF2.out.l2 (by simp)
  have c20:=HF2.out.c2 0 rfl;have f20:=HF2.out.f2 0 rfl;have c21:=HF2.out.c2 1 rfl;have f21:=HF2.out.f2 1 rfl
  go_wp2_with (fail)
  refine bodyPost_ret (v:=F #[q #[.int j 0,.int j 0],.int j Z]) (by simp[results,Tryz.results26,go_sem,c20,c21,z2,f20,f21]) rfl (RetN.mk' HWR.out ?_)
  repeat (first|with_reducible exact HF2.out.b|refine stw ?_ (by omega)|refine alw ?_ (by omega))
theorem gr(p c h s tu:Int)(A1 A2:Option Addr)(n1 c1 n2 c2:Nat)(own other:List Int)(w:World)(hA:SL w A1 n1 own)(hB:SL w A2 n2 other)(hc1:n1<=c1)(hc2:n2<=c2)(hm1:n1<=2000000)(hm2:n2<=2000000):
  Calls Tryz.prog 25 #[q #[.int j p,.int j c,.int j h,.int j s],q #[l A1 n1 c1,l A2 n2 c2],.int j tu] w (RetN w (wdR p c h s own other tu)):=by
 obtain⟨PR,hPR⟩:∃PR,PR=iwR p c h s own other tu:=⟨_,rfl⟩;have HP0:=iwR_ok p c h s own other tu;rw[<-hPR]at HP0
 have HF:Hid (Fr w (((w.alloc (C #[.int j p,.int j c,.int j h,.int j s] 33)).alloc (C #[l A1 n1 c1,l A2 n2 c2] 35)).alloc (C #[.int j 0,.int j 0] 45)) [[.int j p,.int j c,.int j h,.int j s],[l A1 n1 c1,l A2 n2 c2],[.int j 0,.int j 0]]):=(((Fr.start w).allocT (by simp) _ _).allocT (by simp) _ _).allocT (by simp) _ _
 have CW:=h_ (iQ p c h s tu A1 A2 n1 c1 n2 c2 own other _ (hA.below HF.out.b) (hB.below HF.out.b) hc1 hc2 hm1 hm2);rw[<-hPR]at CW
 have HCR:Hid (wdR p c h s own other tu=wdP s.toNat PR):=by unfold Hid wdR;rw[hPR]
 generalize wdR p c h s own other tu=RR at *;clear hPR hA hB;obtain⟨Z,⟨⟨xn,xd⟩,⟨yn,yd⟩⟩⟩:=PR
 rcases HP0 with⟨s',hss,hZ,hs1,hs3,hvi,hgi⟩|⟨hZ,hx⟩
 ·have hZ:Z=0:=hZ
  subst hZ hss;rw[Int.toNat_natCast]at HCR
  have hs6:s'<=6:=by omega
  obtain⟨hq1,_,_⟩:=sq_bd hs1 hs6;obtain⟨⟨zn,zd⟩,hz,_⟩:=wide_ok hq1 hvi hgi
  have CM:=h_ fun(W:World)=>cG p c h yn (-xn) s' yd xd W hs1 hs6 hvi.2 (ee hvi.1)
  have HWR:Hid (RR=(zn,(zd:Int),0)):=by
   unfold Hid;rw[HCR.out];unfold wdP
   simp only[hz,if_pos]
   rfl
  have hz2:addE (sq s') ⟨yn,yd⟩ ⟨-xn,xd⟩=some ⟨zn,zd⟩:=hz;rw[hz2]at CM;have hxb1: -1000000000000000000<=xn:=hvi.1.1;have hxb2:xn<=1000000000000000000:=hvi.1.2.1;clear HCR hz hz2 hvi hgi
  go_enter Tryz.func25,Tryz.ntmps25
  go_wp2_with (fail)
  refine CW.out.mono ?_
  intro e w2 hr
  obtain⟨he,hb⟩:=hr;replace he:e=D (F #[q #[.int j xn,.int j (xd:Int),.int j yn,.int j (yd:Int)],.int j 0]):=he;subst he;have HF2:=h_ (HF.out.below hb);clear hb HF CW
  have z0:=HF2.out.l0 (by simp)
  have c00:=HF2.out.c0 0 rfl;have c01:=HF2.out.c0 1 rfl;have c02:=HF2.out.c0 2 rfl;have c03:=HF2.out.c0 3 rfl
  go_wp2_with (fail)
  refine(CM.out _).mono ?_
  intro e w3 hr
  obtain⟨rfl,hb3⟩:=RetE.yes hr
  have HF3:=h_ (HF2.out.below (((Below.refl _ _).alloc (Nat.le_refl _) _).trans (hb3.mono (by simp))))
  clear z0 c00 c01 c02 c03;clear hb3 HF2 hr CM
  have z2:=HF3.out.l2 (by simp)
  have c20:=HF3.out.c2 0 rfl;have f20:=HF3.out.f2 0 rfl;have c21:=HF3.out.c2 1 rfl;have f21:=HF3.out.f2 1 rfl
  go_wp2_with (fail)
  refine bodyPost_ret (v:=F #[q #[.int j zn,.int j (zd:Int)],.int j 0]) (by simp[results,Tryz.results25,go_sem,c20,c21,z2,f20,f21]) rfl (RetN.mk' HWR.out ?_)
  repeat (first|with_reducible exact HF3.out.b|refine stw ?_ (by omega)|refine alw ?_ (by omega))
 ·have hZ1:Z≠0:=hZ
  have b0:(Z !=0)=true:=by simp[hZ1]
  have HWR:Hid (RR=(0,0,Z)):=by
   unfold Hid;rw[HCR.out];unfold wdP
   rw[if_neg (show ¬((Z,((⟨xn,xd⟩,⟨yn,yd⟩):Iv))).1=0 from hZ1)]
  clear hZ hZ1 HCR hx
  go_enter Tryz.func25,Tryz.ntmps25
  go_wp2_with (fail)
  refine CW.out.mono ?_
  intro e w2 hr
  obtain⟨he,hb⟩:=hr;replace he:e=D (F #[q #[.int j xn,.int j (xd:Int),.int j yn,.int j (yd:Int)],.int j Z]):=he;subst he;have HF2:=h_ (HF.out.below hb);clear hb HF CW
  have z2:=HF2.out.l2 (by simp)
  have c20:=HF2.out.c2 0 rfl;have f20:=HF2.out.f2 0 rfl;have c21:=HF2.out.c2 1 rfl;have f21:=HF2.out.f2 1 rfl
  go_wp2_with (fail)
  refine bodyPost_ret (v:=F #[q #[.int j 0,.int j 0],.int j Z]) (by simp[results,Tryz.results25,go_sem,c20,c21,z2,f20,f21]) rfl (RetN.mk' HWR.out ?_)
  repeat (first|with_reducible exact HF2.out.b|refine stw ?_ (by omega)|refine alw ?_ (by omega))
open Go.RowKit
theorem iM(A1 A2:Option Addr)(n c1 c2:Nat)(xs:List Int)(w:World)(h1:SL w A1 n xs)(h2:SL w A2 n xs)(hn:n<=2000000):
  Calls Tryz.prog 32 #[l A1 n c1,l A2 n c2] w fun e w'=>e=D (.bool true)/\Below w.heap.size w w':=by
 have H1:=h_ h1;have H2:=h_ h2;clear h1 h2
 go_enter Tryz.func32,Tryz.ntmps32
 go_wp2_with (fail)
 go_loopw [5] (fun i wr=>∃k:Nat,k<=n/\i= .int j k/\Below w.heap.size w wr) (fun i _=>n-(intOf i).toNat)
 case atStart=>exact⟨0,by omega,rfl,Below.refl _ _⟩
 case round=>
  obtain⟨k,hk,rfl,hb⟩:=hrel
  by_cases hlt:k<n
  ·obtain⟨x1,o1,rfl,hb1,hc1⟩:=(H1.out.keep (Nat.le_refl _) hb).2 (by omega)
   obtain⟨x2,o2,rfl,hb2,hc2⟩:=(H2.out.keep (Nat.le_refl _) hb).2 (by omega)
   have q1:=hc1 k hlt;have q2:=hc2 k hlt
   have hki:(k:Int)<(n:Int):=by omega
   have hk0:(0:Int)<=(k:Int):=by omega
   clear hc1 hc2;generalize xs.getD k 0=u at *
   go_wp2_with (fail)
   refine ae (by kernel_rfl) (by kernel_rfl) ?_
   repeat (first|go_big_quiet_step ((fail))|quiet_step ((fail)))
   refine wpQuiet_nil ?_
   intro _ hw'
   obtain⟨tq,hw''⟩:=hw';subst hw'';have hbm:=aa wr tq
   go_wp2
   go_roundw
   case rel=>exact⟨k+1,by omega,by go_num,hb.trans (hbm.mono hb.size)⟩
   case measure=>simp[intOf];omega
  ·go_wp2
   go_ret
   exact⟨rfl,hb⟩
theorem eqBoard_yes(A1 A2 B1 B2:Option Addr)(n1 c1 n2 c2 d1 d2:Nat)(xs ys:List Int)(w:World)(h1:SL w A1 n1 xs)(h2:SL w A2 n2 ys)(k1:SL w B1 n1 xs)(k2:SL w B2 n2 ys)(hn1:n1<=2000000)(hn2:n2<=2000000):
  Calls Tryz.prog 18 #[q #[l A1 n1 c1,l A2 n2 c2],q #[l B1 n1 d1,l B2 n2 d2]] w fun e w'=>e=D (.bool true)/\Below w.heap.size w w':=by
 have HB:Hid (Below w.heap.size w ((w.alloc (C #[l A1 n1 c1,l A2 n2 c2] 35)).alloc (C #[l B1 n1 d1,l B2 n2 d2] 35))):=((Below.refl _ _).alloc (Nat.le_refl _) _).alloc (by simp) _
 have C1:=h_ (iM A1 B1 n1 c1 d1 xs _ (h1.below HB.out) (k1.below HB.out) hn1)
 have C2:=h_ fun t=>iM A2 B2 n2 c2 d2 ys (more _ t) ((h2.below HB.out).more t) ((k2.below HB.out).more t) hn2
 clear h1 h2 k1 k2
 go_enter Tryz.func18,Tryz.ntmps18
 go_wp2_with (first|(go_at_call_of 32 A1;refine(more_first C1.out).mono ?_;rintro e w' ⟨rfl,t,rfl⟩)|(go_at_call_of 32 A2;refine(more_call (C2.out _)).mono ?_;rintro e w' ⟨rfl,t,rfl⟩))
 go_ret
 exact⟨rfl,HB.out.trans ((aa _ _).mono HB.out.size)⟩
def SBs(w:World)(A:Option Addr)(n:Nat)(bs:List (List Int×List Int)):Prop:=
 bs.length=n/\(0<n->∃b off,A=some ⟨b,off,none⟩/\b<w.heap.size/\∀i,i<n->∃A1 n1 c1 A2 n2 c2,w.cell? ⟨b,off+i*2,none⟩=some (l A1 n1 c1)/\w.cell? ⟨b,off+i*2+1,none⟩=some (l A2 n2 c2)/\
  SL w A1 n1 (bs.getD i ([],[])).1/\SL w A2 n2 (bs.getD i ([],[])).2/\n1<=maxLen/\n2<=maxLen)
theorem SBs.below{w w':World}{A:Option Addr}{n:Nat}{bs:List (List Int×List Int)}(h:SBs w A n bs)(hb:Below w.heap.size w w'):SBs w' A n bs:=by
 refine⟨h.1,fun hn=>?_⟩
 obtain⟨b,off,hA,hlt,hc⟩:=h.2 hn
 refine⟨b,off,hA,Nat.lt_of_lt_of_le hlt hb.size,fun i hi=>?_⟩
 obtain⟨A1,n1,c1,A2,n2,c2,h1,h2,h3,h4,h5,h6⟩:=hc i hi
 exact⟨A1,n1,c1,A2,n2,c2,ac h1 hb,ac h2 hb,h3.below hb,h4.below hb,h5,h6⟩
theorem SBs.more{w:World}{A:Option Addr}{n:Nat}{bs:List (List Int×List Int)}(h:SBs w A n bs)(t:World):SBs (more w t) A n bs:=h.below (aa w t)
theorem SBs.alloc{w:World}{A:Option Addr}{n:Nat}{bs:List (List Int×List Int)}(h:SBs w A n bs)(o:Obj):SBs (w.alloc o) A n bs:=h.below ((Below.refl _ _).alloc (Nat.le_refl _) o)
def RetZ(w:World)(left:Int)(tot:Nat)(en:Ending)(w':World):Prop:=∃r:Int,en=D (.int j r)/\-1<=r/\r<=left/\(0<=r->(tot:Int)<=left-r)/\Below w.heap.size w w'
theorem iD(A:Option Addr)(n c:Nat)(left:Int)(w:World)(hn:n<=9223372036854775807)(hl:0<=left)(hl2:left<=1048576):
  Calls Tryz.prog 64 #[l A n c,.int j left] w (RetZ w left n):=by
 by_cases h:left-n<0
 ·have HF:Hid (RetZ w left n (D (.int j (-1))) w):=⟨-1,rfl,by omega,by omega,by omega,Below.refl _ _⟩
  go_enter Tryz.func64,Tryz.ntmps64
  go_wp2
  go_ret
  exact HF.out
 ·have HF:Hid (RetZ w left n (D (.int j (left-n))) w):=⟨left-n,rfl,by omega,by omega,by omega,Below.refl _ _⟩
  go_enter Tryz.func64,Tryz.ntmps64
  go_wp2
  go_ret
  exact HF.out
theorem szBoard_any(A1 A2:Option Addr)(n1 c1 n2 c2:Nat)(left:Int)(w:World)(hn1:n1<=9223372036854775807)(hn2:n2<=9223372036854775807)(hl:0<=left)(hl2:left<=1048576):
  Calls Tryz.prog 11 #[q #[l A1 n1 c1,l A2 n2 c2],.int j left] w (RetZ w left (n1+n2)):=by
 have hb:Below w.heap.size w (w.alloc (C #[l A1 n1 c1,l A2 n2 c2] 26)):=(Below.refl _ _).alloc (Nat.le_refl _) _;have HB:=h_ hb;clear hb
 go_enter Tryz.func11,Tryz.ntmps11
 go_wp2_with (fail)
 refine(iD A1 n1 c1 left _ hn1 hl hl2).mono ?_
 rintro e w1 ⟨r,rfl,hr1,hr2,hr3,hb1⟩
 have d1:w1.cell? ⟨w.heap.size,1,none⟩=some (l A2 n2 c2):=ac (by simp[go_sem]) hb1
 have HB1:=h_ (HB.out.trans (hb1.mono HB.out.size));have H3:=h_ hr3;clear hb1 hr3
 by_cases h0:r<0
 ·have HF:Hid (∀W,Below w.heap.size w W->RetZ w left (n1+n2) (D (.int j (-1))) W):=fun W hW=>⟨-1,rfl,by omega,by omega,by omega,hW⟩
  go_wp2_with (fail)
  go_ret
  exact HF.out _ HB1.out
 ·go_wp2_with (fail)
  refine(iD A2 n2 c2 r _ hn2 (by omega) (by omega)).mono ?_
  rintro e w2 ⟨r2,rfl,hq1,hq2,hq3,hb2⟩
  have HB2:=h_ (HB1.out.trans (hb2.mono HB1.out.size))
  have HF:Hid (RetZ w left (n1+n2) (D (.int j r2)) w2):=⟨r2,rfl,hq1,by omega,fun h=>by have:=hq3 h;have:=H3.out (by omega);omega,HB2.out⟩
  have HF':Hid (RetZ w left (n1+n2) (D (.int j (-1))) w2):=⟨-1,rfl,by omega,by omega,by omega,HB2.out⟩
  clear hb2 hq3
  by_cases h2:r2<0
  ·go_wp2_with (fail)
   go_ret
   exact HF'.out
  ·go_wp2_with (fail)
   go_ret
   exact HF.out
theorem mixZ_step(xs:List Int)(n k:Nat)(hl:xs.length=n)(h:k<n):(xs.take k++List.replicate (n-k) (0:Int)).set k (xs.getD k 0)=xs.take (k+1)++List.replicate (n-(k+1)) 0:=by
 have hk:(xs.take k).length=k:=by rw[List.length_take];omega
 have e:n-k=(n-(k+1))+1:=by omega
 have h':k<xs.length:=by omega
 have g:xs.getD k 0=xs[k]:=by simp[List.getD,h']
 rw[List.set_append_right _ _ (by omega),hk,Nat.sub_self,e,List.replicate_succ,List.set_cons_zero,List.take_succ_eq_append_getElem h',List.append_assoc,g]
 rfl
theorem iB(A:Option Addr)(n c:Nat)(xs:List Int)(w:World)(hx:SL w A n xs)(hn:n<=2000000):
  Calls Tryz.prog 68 #[l A n c] w (RetO w 2 xs):=by
 obtain⟨i0,hi,hz0,hz1,hz2⟩:=info_parts Tryz.infoI;have HX:=h_ hx;clear hx
 go_enter Tryz.func68,Tryz.ntmps68
 go_wp2_with (at_make;refine wpList_make_full _ rfl _ _ 24 rfl w.heap.size 2 i0 (.int j 0) 1 Tryz.underlying24 hi hz0 hz1 _ _ _ _ n rfl rfl rfl rfl (by rw[hz2];omega) (by unfold maxLen;omega) (Nat.le_refl _) ?_;intro w1 hown hgrow)
 have hb:Below w.heap.size w w1:=(Below.refl _ _).grown hgrow (Nat.le_refl _) (by simp)
 have hO:OwnS w1 w.heap.size 2 (l (some ⟨w.heap.size,0,none⟩) n n) (xs.take 0++List.replicate (n-0) 0):=by
  unfold OwnS
  simp only[List.take_zero,List.nil_append,Nat.sub_zero,List.length_replicate,List.map_replicate]
  have e:(madeCells #[Value.int j 0] (n*1)).toList=List.replicate n (Value.int j 0):=by rw[Nat.mul_one];exact toList_madeCells_one _ _
  first|(rw[show(Value.int IntKind.i64 0).cells=#[Value.int j 0]from rfl,e]at hown;exact hown)|(rw[e]at hown;exact hown)|(rw[Nat.mul_one]at e;rw[e]at hown;exact hown)
 have HO:=h_ hO;have HB:=h_ hb;clear hown hgrow hb hO
 go_wp2_with (fail)
 go_loopw [4] (fun i wr=>∃k:Nat,k<=n/\i= .int j k/\OwnS wr w.heap.size 2 (l (some ⟨w.heap.size,0,none⟩) n n) (xs.take k++List.replicate (n-k) 0)/\Below w.heap.size w wr) (fun i _=>n-(intOf i).toNat)
 case atStart=>exact⟨0,by omega,rfl,HO.out,HB.out⟩
 case round=>
  obtain⟨k,hk,rfl,ho,hb⟩:=hrel
  by_cases hlt:k<n
  ·obtain⟨b,off,rfl,hbl,hc⟩:=(HX.out.keep (Nat.le_refl _) hb).2 (by omega)
   have q1:=hc k hlt
   obtain⟨b',off',hA',hbl',_⟩:=HX.out.2 (by omega)
   injection hA' with hA';injection hA' with hA1 hA2;subst hA1 hA2
   obtain⟨g,hg0,_,_,hcl,hfr⟩:=ao ho (by omega)
   injection hg0 with hg0;injection hg0 with hg0 _;subst hg0;have q2:=hcl k hlt;have q3:=hfr k
   have hki:(k:Int)<(n:Int):=by omega
   have hk0:(0:Int)<=(k:Int):=by omega
   have HN:=h_ (ho.stored k (xs.getD k 0));have HM:=h_ (mixZ_step xs n k HX.out.1 hlt);have HB2:=h_ (hb.setCell (p:=⟨w.heap.size,k,none⟩) (Nat.le_refl _) (.int j (xs.getD k 0)));clear hc hcl hfr ho hb;generalize (xs.take k++List.replicate (n-k) 0).getD k 0=u at *;generalize xs.getD k 0=x at *
   go_wp2_with (fail)
   go_roundw
   case rel=>exact⟨k+1,by omega,by go_num,by rw[<-HM.out];exact HN.out,HB2.out⟩
   case measure=>simp[intOf];omega
  ·obtain rfl:k=n:=by omega
   have HF:Hid (RetO w 2 xs (D (l (some ⟨w.heap.size,0,none⟩) k k)) wr):=by
    have h:=ho
    rw[List.take_of_length_le (by rw[HX.out.1];exact Nat.le_refl _),Nat.sub_self,List.replicate_zero,List.append_nil]at h
    exact RetO.mk h hb
   clear ho hb
   go_wp2_with (fail)
   go_ret
   exact HF.out
def RetBd(w:World)(own other:List Int)(en:Ending)(w':World):Prop:=∃A1 c1 A2 c2,en=D (q #[l A1 own.length c1,l A2 other.length c2])/\
 OwnS w' w.heap.size 2 (l A1 own.length c1) own/\OwnS w' w.heap.size 2 (l A2 other.length c2) other/\
 ((Value.slice A1 own.length c1).ownBlock=none\/(Value.slice A1 own.length c1).ownBlock≠(Value.slice A2 other.length c2).ownBlock)/\Below w.heap.size w w'
theorem fH(A1 A2:Option Addr)(n1 c1 n2 c2:Nat)(xs ys:List Int)(w:World)(h1:SL w A1 n1 xs)(h2:SL w A2 n2 ys)(hn1:n1<=2000000)(hn2:n2<=2000000):
  Calls Tryz.prog 14 #[q #[l A1 n1 c1,l A2 n2 c2]] w (RetBd w xs ys):=by
 have HB:Hid (Below w.heap.size w (((w.alloc (C #[l A1 n1 c1,l A2 n2 c2] 26)).alloc (C #[l none 0 0,l none 0 0] 35)).alloc (C #[l none 0 0,l none 0 0] 35))):=(((Below.refl _ _).alloc (Nat.le_refl _) _).alloc (by simp) _).alloc (by simp;omega) _
 have H1:=h_ (h1.below HB.out);have H2:=h_ h2;clear h1 h2
 go_enter Tryz.func14,Tryz.ntmps14
 go_wp2_with (fail)
 refine(iB A1 n1 c1 xs _ H1.out hn1).mono ?_
 rintro e w1 ⟨B1,k1,rfl,ho1,hb1⟩
 obtain⟨W0,hW0⟩:∃W,W=(((w.alloc (C #[l A1 n1 c1,l A2 n2 c2] 26)).alloc (C #[l none 0 0,l none 0 0] 35)).alloc (C #[l none 0 0,l none 0 0] 35)):=⟨_,rfl⟩;rw[<-hW0]at hb1 ho1
 have b1:w1.cell? ⟨w.heap.size,1,none⟩=some (l A2 n2 c2):=ac (by rw[hW0];simp[go_sem]) hb1
 have d0:w1.cell? ⟨w.heap.size+1+1,0,none⟩=some (l none 0 0):=ac (by rw[hW0];simp[go_sem]) hb1
 have d1:w1.cell? ⟨w.heap.size+1+1,1,none⟩=some (l none 0 0):=ac (by rw[hW0];simp[go_sem]) hb1
 have e0:w1.cell? ⟨w.heap.size+1,0,none⟩=some (l none 0 0):=ac (by rw[hW0];simp[go_sem]) hb1
 have e1:w1.cell? ⟨w.heap.size+1,1,none⟩=some (l none 0 0):=ac (by rw[hW0];simp[go_sem]) hb1
 have fd0:w1.frozen? ⟨w.heap.size+1+1,0,none⟩=false:=aS (w:=W0) (v:=l none 0 0) (by rw[hW0];simp[go_sem]) (by rw[hW0];simp[go_sem]) hb1
 have fd1:w1.frozen? ⟨w.heap.size+1+1,1,none⟩=false:=aS (w:=W0) (v:=l none 0 0) (by rw[hW0];simp[go_sem]) (by rw[hW0];simp[go_sem]) hb1
 have fe0:w1.frozen? ⟨w.heap.size+1,0,none⟩=false:=aS (w:=W0) (v:=l none 0 0) (by rw[hW0];simp[go_sem]) (by rw[hW0];simp[go_sem]) hb1
 have fe1:w1.frozen? ⟨w.heap.size+1,1,none⟩=false:=aS (w:=W0) (v:=l none 0 0) (by rw[hW0];simp[go_sem]) (by rw[hW0];simp[go_sem]) hb1
 have hz0:w.heap.size+2<W0.heap.size:=by rw[hW0];simp
 have HB1:=h_ ((by rw[hW0];exact HB.out:Below w.heap.size w W0).trans (hb1.mono (by omega)))
 have HO1:=h_ ho1;have hsz1:=hb1.size;clear hb1 ho1 hW0 H1 HB
 go_wp2_with (fail)
 have HBs:=h_ (HB1.out.setCell (p:=⟨w.heap.size+1+1,0,none⟩) (by simp;omega) (l B1 xs.length k1))
 have HOs:=h_ (HO1.out.setLow (a:=⟨w.heap.size+1+1,0,none⟩) (by exact hz0) (l B1 xs.length k1))
 refine(iB A2 n2 c2 ys _ (H2.out.keep (Nat.le_refl _) HBs.out) hn2).mono ?_
 rintro e w2 ⟨B2,k2,rfl,ho2,hb2⟩
 have q0:w2.cell? ⟨w.heap.size+1+1,0,none⟩=some (l B1 xs.length k1):=ac (by simp[go_sem,d0]) hb2
 have q1:w2.cell? ⟨w.heap.size+1+1,1,none⟩=some (l none 0 0):=ac (by simp[go_sem,d1]) hb2
 have r0:w2.cell? ⟨w.heap.size+1,0,none⟩=some (l none 0 0):=ac (by simp[go_sem,e0]) hb2
 have r1:w2.cell? ⟨w.heap.size+1,1,none⟩=some (l none 0 0):=ac (by simp[go_sem,e1]) hb2
 have fq1:w2.frozen? ⟨w.heap.size+1+1,1,none⟩=false:=aS (v:=l none 0 0) (by simp[go_sem,fd1]) (by simp[go_sem,d1]) hb2
 have fr0:w2.frozen? ⟨w.heap.size+1,0,none⟩=false:=aS (v:=l none 0 0) (by simp[go_sem,fe0]) (by simp[go_sem,e0]) hb2
 have fr1:w2.frozen? ⟨w.heap.size+1,1,none⟩=false:=aS (v:=l none 0 0) (by simp[go_sem,fe1]) (by simp[go_sem,e1]) hb2
 have HF:Hid (RetBd w xs ys (D (q #[l B1 xs.length k1,l B2 ys.length k2])) (((w2.setCell ⟨w.heap.size+1+1,1,none⟩ (l B2 ys.length k2)).setCell ⟨w.heap.size+1,0,none⟩ (l B1 xs.length k1)).setCell ⟨w.heap.size+1,1,none⟩ (l B2 ys.length k2))):=by
  have hz1:w.heap.size+2<(w1.setCell ⟨w.heap.size+1+1,0,none⟩ (l B1 xs.length k1)).heap.size:=by simp;omega
  refine⟨B1,k1,B2,k2,rfl,?_,?_,?_,?_⟩
  ·exact((((HOs.out.below hb2).setLow (a:=⟨w.heap.size+1+1,1,none⟩) (by exact hz0) _).setLow (a:=⟨w.heap.size+1,0,none⟩) (by show w.heap.size+1<W0.heap.size;omega) _).setLow (a:=⟨w.heap.size+1,1,none⟩) (by show w.heap.size+1<W0.heap.size;omega) _).mono (by omega)
  ·exact(((ho2.setLow (a:=⟨w.heap.size+1+1,1,none⟩) (by exact hz1) _).setLow (a:=⟨w.heap.size+1,0,none⟩) (Nat.lt_trans (by show w.heap.size+1<w.heap.size+2;omega) hz1) _).setLow (a:=⟨w.heap.size+1,1,none⟩) (Nat.lt_trans (by show w.heap.size+1<w.heap.size+2;omega) hz1) _).mono (by omega)
  ·exact own_apart HOs.out ho2 (Nat.le_refl _)
  ·exact((((HBs.out.trans (hb2.mono (by omega))).setCell (by simp;omega) _).setCell (by simp) _).setCell (by simp) _)
 clear hb2 ho2 hsz1
 go_wp2_with (fail)
 exact bodyPost_ret (v:=q #[l B1 xs.length k1,l B2 ys.length k2]) (by simp[results,Tryz.results14,go_sem,r0,r1]) rfl HF.out
theorem eqExact_yes(m d:Int)(w:World):
  Calls Tryz.prog 27 #[q #[.int j m,.int j d],q #[.int j m,.int j d]] w fun e w'=>e=D (.bool true)/\Below w.heap.size w w':=by
 go_enter Tryz.func27,Tryz.ntmps27
 go_wp2
 go_ret
 exact⟨rfl,((Below.refl _ _).alloc (Nat.le_refl _) _).alloc (by simp) _⟩
def CpB(xs ys:List Int):RP:=fun v W=>∃X1 k1 X2 k2,v=q #[l X1 xs.length k1,l X2 ys.length k2]/\SL W X1 xs.length xs/\xs.length<=k1/\SL W X2 ys.length ys/\ys.length<=k2
theorem stb_cpb(xs ys:List Int):Stb (CpB xs ys):=fun _ _ _ ⟨X1,k1,X2,k2,h1,h2,h3,h4,h5⟩ hb=>⟨X1,k1,X2,k2,h1,h2.below hb,h3,h4.below hb,h5⟩
def ew:Nat->Nat
 | 0=>19
 | 1=>20
 | 2=>21
 | 3=>22
 | 4=>23
 | 5=>24
 | 6=>18
 | 7=>25
 | 8=>26
 | 9=>8
 |_=>0
def eu:Nat->Nat
 | 0=>30
 | 1=>31
 | 2=>32
 | 3=>33
 | 4=>34
 | 5=>29
 | 6=>35
 | 7=>36
 | 8=>11
 |_=>0
def dU:Nat->Nat
 | 0=>46
 | 1=>47
 | 2=>48
 | 3=>49
 |_=>0
theorem im(p c h s:Int)(A1 A2:Option Addr)(n1 a1 n2 a2:Nat)(xs ys:List Int)(z:Int)(w:World)(hx:SL w A1 n1 xs)(hy:SL w A2 n2 ys)(hm1:n1<=maxLen)(hm2:n2<=maxLen):
  Calls Tryz.prog 5 #[q #[.int j p,.int j c,.int j h,.int j s],q #[l A1 n1 a1,l A2 n2 a2],.int j z] w fun e w'=>e=D (.bool true)/\Below w.heap.size w w':=by
 have hV0:Bel w ((w.alloc (C #[.int j p,.int j c,.int j h,.int j s] 23)).alloc (C #[l A1 n1 a1,l A2 n2 a2] 26)):=(Bel.trans (Bel.alloc _ _) (Bel.alloc _ _))
 have C0:Cel ((w.alloc (C #[.int j p,.int j c,.int j h,.int j s] 23)).alloc (C #[l A1 n1 a1,l A2 n2 a2] 26)) (w.heap.size) [.int j p,.int j c,.int j h,.int j s]:=(Cel.new' _ _ _ (by simp)).alloc _
 have C1:Cel ((w.alloc (C #[.int j p,.int j c,.int j h,.int j s] 23)).alloc (C #[l A1 n1 a1,l A2 n2 a2] 26)) (w.heap.size+1) [l A1 n1 a1,l A2 n2 a2]:=Cel.new' _ _ _ (by simp)
 have Sxs:=h_ (hx.below hV0);have Sys:=h_ (hy.below hV0);have Lx:=h_ hx.1;have Ly:=h_ hy.1;clear hx hy;have HB:=h_ hV0;clear hV0;replace C0:=h_ C0;replace C1:=h_ C1;obtain⟨r,hr⟩:∃r,r=wdR p c h s xs ys z:=⟨_,rfl⟩;obtain⟨r1,r2,r3⟩:=r
 have CZ:=h_ fun(W:World)=>szBoard_any A1 A2 n1 a1 n2 a2 1048576 W (by unfold maxLen at hm1;omega) (by unfold maxLen at hm2;omega) (by omega) (by omega)
 go_enter Tryz.func5,Tryz.ntmps5
 go_wp2_with (fail)
 generalize ((w.alloc (C #[.int j p,.int j c,.int j h,.int j s] 23)).alloc (C #[l A1 n1 a1,l A2 n2 a2] 26))=V at *
 refine(CZ.out _).mono ?_
 rintro e V1 ⟨r,rfl,hr1,hr2,hr3,hb⟩
 clear CZ;replace C0:=h_ (C0.out.below hb);replace C1:=h_ (C1.out.below hb);replace Sxs:=h_ (Sxs.out.below hb);replace Sys:=h_ (Sys.out.below hb);replace HB:=h_ (Bel.trans HB.out hb);clear hb
 by_cases hneg:r<0
 ·go_wp2_with (fail)
  go_ret
  exact⟨rfl,HB.out⟩
 have hsz:=hr3 (by omega)
 have hn1':n1<=2000000:=by omega
 have hn2':n2<=2000000:=by omega
 have ox:xs.length<=2000000:=by rw[Lx.out];exact hn1'
 have oy:ys.length<=2000000:=by rw[Ly.out];exact hn2'
 clear hr1 hr2 hr3 hsz
 have CS:Hid (∀(W:World) (X1 X2:Option Addr) (k1 k2:Nat),SL W X1 xs.length xs->SL W X2 ys.length ys->xs.length<=k1->ys.length<=k2->Calls Tryz.prog 25 #[q #[.int j p,.int j c,.int j h,.int j s],q #[l X1 xs.length k1,l X2 ys.length k2],.int j z] W fun e w'=>e=D (F #[q #[.int j r1,.int j r2],.int j r3])/\Below W.heap.size W w'):=fun W X1 X2 k1 k2 s1 s2 l1 l2=>by
  have:=gr p c h s z X1 X2 _ k1 _ k2 xs ys W s1 s2 l1 l2 ox oy;rw[<-hr]at this;exact this
 have CI:Hid (∀(W:World) (X1 X2:Option Addr) (k1 k2:Nat),SL W X1 xs.length xs->SL W X2 ys.length ys->xs.length<=k1->ys.length<=k2->Calls Tryz.prog 26 #[q #[.int j p,.int j c,.int j h,.int j s],q #[l X1 xs.length k1,l X2 ys.length k2],.int j z] W fun e w'=>e=D (F #[q #[.int j r1,.int j r2],.int j r3])/\Below W.heap.size W w'):=fun W X1 X2 k1 k2 s1 s2 l1 l2=>by
  have:=iz p c h s z X1 X2 _ k1 _ k2 xs ys W s1 s2 l1 l2 ox oy;rw[<-hr]at this;exact this
 clear hr
 go_wp2_with (fail)
 refine w_ 10 (fun i=>i==8) ew [Eqv (q #[.int j p,.int j c,.int j h,.int j s]),Eqv (q #[.int j p,.int j c,.int j h,.int j s]),Eqv (q #[l A1 n1 a1,l A2 n2 a2]),CpB xs ys,Eqv (.int j z),Eqv (F #[q #[.int j r1,.int j r2],.int j r3]),Eqv (F #[q #[.int j r1,.int j r2],.int j r3]),Eqv (q #[.int j r1,.int j r2]),Eqv (.int j r3),Alc V1.heap.size [.int j 0,.int j 0]] (by repeat (first|exact AllStb.nil|refine AllStb.cons (by first|exact bC _|exact stb_cpy _|exact stb_alc _ _|exact stb_cpb _ _) ?_)) ?_ ?_ ?_
 ·intro i o hi hX ho a' W hW hIW hfar hdep
  have hi8:i=8:=by simpa using hX
  clear hfar hX hi;subst hi8
  simp at ho
  subst ho
  ·have d1:a'.tmps.getD 18 undef=_:=dp hdep 6
   exact⟨.int j r3,fun W'=>by simp only[execOp,Act.eval,d1];go_simp,rfl⟩
 ·intro i o hi hX ho a' W hW hIW hfar hdep
  have e2:a'.tmps.getD 2 undef= .int j z:=(fr hfar 2).trans rfl
  have e3:a'.tmps.getD 3 undef=I (some ⟨w.heap.size,0,none⟩):=(fr hfar 3).trans rfl
  have e4:a'.tmps.getD 4 undef=I (some ⟨w.heap.size+1,0,none⟩):=(fr hfar 4).trans rfl
  have hi8:i=0\/i=1\/i=2\/i=3\/i=4\/i=5\/i=6\/i=7\/i=9:=by simp at hX;omega
  clear hfar hX hi
  rcases hi8 with rfl|rfl|rfl|rfl|rfl|rfl|rfl|rfl|rfl
  all_goals (simp at ho;subst ho)
  ·have zz:=C0.out.below hW
   have z0:=zz.cell 0 _ rfl;have z1:=zz.cell 1 _ rfl;have z2:=zz.cell 2 _ rfl;have z3:=zz.cell 3 _ rfl
   refine il ?_;simp only[execOp,Act.eval,e3];go_simp
  ·have d1:a'.tmps.getD 19 undef=_:=dp hdep 0
   refine .inr ⟨13,#[q #[.int j p,.int j c,.int j h,.int j s]],by simp only[execOp,Act.eval,d1];go_simp,?_⟩
   refine(gg _ _ _ _ _).mono ?_
   rintro e W' ⟨rfl,hb'⟩
   exact⟨_,rfl,hb',trivial,rfl⟩
  ·have zz:=C1.out.below hW
   have z0:=zz.cell 0 _ rfl;have z1:=zz.cell 1 _ rfl
   refine il ?_;simp only[execOp,Act.eval,e4];go_simp
  ·have d1:a'.tmps.getD 21 undef=_:=dp hdep 2
   refine .inr ⟨14,#[q #[l A1 n1 a1,l A2 n2 a2]],by simp only[execOp,Act.eval,d1];go_simp,?_⟩
   refine(fH _ _ _ _ _ _ _ _ _ (Sxs.out.below hW) (Sys.out.below hW) hn1' hn2').mono ?_
   rintro e W' ⟨X1,k1,X2,k2,rfl,ho1,ho2,_,hb'⟩
   exact⟨_,rfl,hb',trivial,X1,k1,X2,k2,rfl,(ho1.sl rfl).1,(ho1.sl rfl).2,(ho2.sl rfl).1,(ho2.sl rfl).2⟩
  ·refine il ?_;simp only[execOp,Act.eval,e2];go_simp
  ·have d20:a'.tmps.getD 20 undef=_:=dp hdep 1
   obtain⟨X1,k1,X2,k2,d22,s1,l1,s2,l2⟩:CpB xs ys (a'.tmps.getD 22 undef) W:=dp hdep 3
   have d23:a'.tmps.getD 23 undef=_:=dp hdep 4
   refine .inr ⟨25,#[q #[.int j p,.int j c,.int j h,.int j s],q #[l X1 xs.length k1,l X2 ys.length k2],.int j z],by simp only[execOp,Act.eval,d20,d22,d23];go_simp,?_⟩
   refine(CS.out W X1 X2 k1 k2 s1 s2 l1 l2).mono ?_
   rintro e W' ⟨rfl,hb'⟩
   exact⟨_,rfl,hb',trivial,rfl⟩
  ·have d1:a'.tmps.getD 24 undef=_:=dp hdep 5
   refine il ?_;simp only[execOp,Act.eval,d1];go_simp
  ·have d1:a'.tmps.getD 18 undef=_:=dp hdep 6
   refine il ?_;simp only[execOp,Act.eval,d1];go_simp
  ·exact .inl ⟨I (some ⟨W.heap.size,0,none⟩),W.alloc (C #[.int j 0,.int j 0] 45),by kernel_rfl,Bel.alloc _ _,trivial,alc_new _ _ _ (Below.size hW)⟩
 intro v V2 hW hIW hg
 have g0:v 0=_:=gq hg 0
 have g1:v 1=_:=gq hg 1
 have g2:v 2=_:=gq hg 2
 obtain⟨_,_,_,_,g3,_,_,_,_⟩:CpB xs ys (v 3) V2:=hg 3 (by omega)
 have g4:v 4=_:=gq hg 4
 have g5:v 5=_:=gq hg 5
 have g6:v 6=_:=gq hg 6
 have g7:v 7=_:=gq hg 7
 have g8:v 8=_:=gq hg 8
 obtain⟨gs0,g9,glgs0,Ags0⟩:Alc V1.heap.size [.int j 0,.int j 0] (v 9) V2:=hg 9 (by omega)
 simp only[List.drop_succ_cons,List.drop_zero,putV,ew,g0,g1,g2,g3,g4,g5,g6,g7,g8,g9,Act.put]
 clear g0 g1 g2 g3 g4 g5 g6 g7 g8 g9 hg hIW;replace hW:=h_ hW;have ygs0_0:=Ags0.cell 0 _ rfl;have xgs0_0:=Ags0.froz 0 _ rfl;have ygs0_1:=Ags0.cell 1 _ rfl;have xgs0_1:=Ags0.froz 1 _ rfl;replace Ags0:=h_ Ags0;have qC1:=C1.out.below hW.out;have cC1_0:=qC1.cell 0 _ rfl;have cC1_1:=qC1.cell 1 _ rfl
 have nC1gs0:w.heap.size+1<gs0:=by have:=C1.out.lt;omega
 go_wp2_with (fail)
 obtain⟨V3,hV⟩:∃V,V=((V2.setCell ⟨gs0,0,none⟩ (.int j r1)).setCell ⟨gs0,1,none⟩ (.int j r2)):=⟨_,rfl⟩;rw[<-hV]
 have hb:Below V1.heap.size V1 V3:=by rw[hV];exact(Below.setCell (p:=⟨gs0,1,none⟩) (Below.setCell (p:=⟨gs0,0,none⟩) hW.out glgs0 _) glgs0 _)
 have Ggs0:Hid (Cel V3 gs0 [.int j r1,.int j r2]):=by rw[hV];exact((Ags0.out.st (by simp)).st (by simp))
 clear cC1_0 cC1_1 qC1 nC1gs0;clear hV hW Ags0 ygs0_0 xgs0_0 ygs0_1 xgs0_1;replace C0:=h_ (C0.out.below hb);replace C1:=h_ (C1.out.below hb);replace Sxs:=h_ (Sxs.out.below hb);replace Sys:=h_ (Sys.out.below hb);replace HB:=h_ (Bel.trans HB.out hb);clear hb
 refine(fH _ _ _ _ _ _ _ _ _ Sxs.out Sys.out hn1' hn2').mono ?_
 rintro e V4 ⟨Y1,y1,Y2,y2,rfl,ho1,ho2,_,hb⟩
 have T1:=h_ (ho1.sl rfl).1;have T1k:=h_ (ho1.sl rfl).2;have T2:=h_ (ho2.sl rfl).1;have T2k:=h_ (ho2.sl rfl).2;clear ho1 ho2;replace C0:=h_ (C0.out.below hb);replace C1:=h_ (C1.out.below hb);replace Ggs0:=h_ (Ggs0.out.below hb);replace Sxs:=h_ (Sxs.out.below hb);replace Sys:=h_ (Sys.out.below hb);replace HB:=h_ (Bel.trans HB.out hb);clear hb
 go_wp2_with (fail)
 obtain⟨V5,hV⟩:∃V,V=V4.alloc (C #[l Y1 xs.length y1,l Y2 ys.length y2] 35):=⟨_,rfl⟩;rw[<-hV]
 have hb:Below V4.heap.size V4 V5:=by rw[hV];exact Bel.alloc _ _
 have CX:Hid (Cel V5 V4.heap.size [l Y1 xs.length y1,l Y2 ys.length y2]):=by rw[hV];exact Cel.new' _ _ _ rfl
 clear hV;replace C0:=h_ (C0.out.below hb);replace C1:=h_ (C1.out.below hb);replace Ggs0:=h_ (Ggs0.out.below hb);replace Sxs:=h_ (Sxs.out.below hb);replace Sys:=h_ (Sys.out.below hb);replace T1:=h_ (T1.out.below hb);replace T2:=h_ (T2.out.below hb);replace HB:=h_ (Bel.trans HB.out hb);clear hb
 refine w_ 9 (fun i=>i==7) eu [Eqv (q #[.int j p,.int j c,.int j h,.int j s]),Eqv (q #[.int j p,.int j c,.int j h,.int j s]),Eqv (q #[l Y1 xs.length y1,l Y2 ys.length y2]),Eqv (.int j z),Eqv (F #[q #[.int j r1,.int j r2],.int j r3]),Eqv (F #[q #[.int j r1,.int j r2],.int j r3]),Eqv (q #[.int j r1,.int j r2]),Eqv (.int j r3),Alc V5.heap.size [.int j 0,.int j 0]] (by repeat (first|exact AllStb.nil|refine AllStb.cons (by first|exact bC _|exact stb_cpy _|exact stb_alc _ _) ?_)) ?_ ?_ ?_
 ·intro i o hi hX ho a' W hW hIW hfar hdep
  have hi8:i=7:=by simpa using hX
  clear hfar hX hi;subst hi8
  simp at ho
  subst ho
  ·have d1:a'.tmps.getD 29 undef=_:=dp hdep 5
   exact⟨.int j r3,fun W'=>by simp only[execOp,Act.eval,d1];go_simp,rfl⟩
 ·intro i o hi hX ho a' W hW hIW hfar hdep
  have e2:a'.tmps.getD 2 undef= .int j z:=(fr hfar 2).trans rfl
  have e3:a'.tmps.getD 3 undef=I (some ⟨w.heap.size,0,none⟩):=(fr hfar 3).trans rfl
  have e10:a'.tmps.getD 10 undef=I (some ⟨V4.heap.size,0,none⟩):=(fr hfar 10).trans rfl
  have hi8:i=0\/i=1\/i=2\/i=3\/i=4\/i=5\/i=6\/i=8:=by simp at hX;omega
  clear hfar hX hi
  rcases hi8 with rfl|rfl|rfl|rfl|rfl|rfl|rfl|rfl
  all_goals (simp at ho;subst ho)
  ·have zz:=C0.out.below hW
   have z0:=zz.cell 0 _ rfl;have z1:=zz.cell 1 _ rfl;have z2:=zz.cell 2 _ rfl;have z3:=zz.cell 3 _ rfl
   refine il ?_;simp only[execOp,Act.eval,e3];go_simp
  ·have d1:a'.tmps.getD 30 undef=_:=dp hdep 0
   refine .inr ⟨13,#[q #[.int j p,.int j c,.int j h,.int j s]],by simp only[execOp,Act.eval,d1];go_simp,?_⟩
   refine(gg _ _ _ _ _).mono ?_
   rintro e W' ⟨rfl,hb'⟩
   exact⟨_,rfl,hb',trivial,rfl⟩
  ·have zz:=CX.out.below hW
   have z0:=zz.cell 0 _ rfl;have z1:=zz.cell 1 _ rfl
   refine il ?_;simp only[execOp,Act.eval,e10];go_simp
  ·refine il ?_;simp only[execOp,Act.eval,e2];go_simp
  ·have d31:a'.tmps.getD 31 undef=_:=dp hdep 1
   have d32:a'.tmps.getD 32 undef=_:=dp hdep 2
   have d33:a'.tmps.getD 33 undef=_:=dp hdep 3
   refine .inr ⟨26,#[q #[.int j p,.int j c,.int j h,.int j s],q #[l Y1 xs.length y1,l Y2 ys.length y2],.int j z],by simp only[execOp,Act.eval,d31,d32,d33];go_simp,?_⟩
   refine(CI.out W _ _ _ _ (T1.out.below hW) (T2.out.below hW) T1k.out T2k.out).mono ?_
   rintro e W' ⟨rfl,hb'⟩
   exact⟨_,rfl,hb',trivial,rfl⟩
  ·have d1:a'.tmps.getD 34 undef=_:=dp hdep 4
   refine il ?_;simp only[execOp,Act.eval,d1];go_simp
  ·have d1:a'.tmps.getD 29 undef=_:=dp hdep 5
   refine il ?_;simp only[execOp,Act.eval,d1];go_simp
  ·exact .inl ⟨I (some ⟨W.heap.size,0,none⟩),W.alloc (C #[.int j 0,.int j 0] 45),by kernel_rfl,Bel.alloc _ _,trivial,alc_new _ _ _ (Below.size hW)⟩
 intro v V6 hW hIW hg
 have g0:v 0=_:=gq hg 0
 have g1:v 1=_:=gq hg 1
 have g2:v 2=_:=gq hg 2
 have g3:v 3=_:=gq hg 3
 have g4:v 4=_:=gq hg 4
 have g5:v 5=_:=gq hg 5
 have g6:v 6=_:=gq hg 6
 have g7:v 7=_:=gq hg 7
 obtain⟨gi0,g8,glgi0,Agi0⟩:Alc V5.heap.size [.int j 0,.int j 0] (v 8) V6:=hg 8 (by omega)
 simp only[List.drop_succ_cons,List.drop_zero,putV,eu,g0,g1,g2,g3,g4,g5,g6,g7,g8,Act.put]
 clear g0 g1 g2 g3 g4 g5 g6 g7 g8 hg hIW;replace hW:=h_ hW;have ygi0_0:=Agi0.cell 0 _ rfl;have xgi0_0:=Agi0.froz 0 _ rfl;have ygi0_1:=Agi0.cell 1 _ rfl;have xgi0_1:=Agi0.froz 1 _ rfl;have qGgs0:=Ggs0.out.below hW.out;have cGgs0_0:=qGgs0.cell 0 _ rfl;have cGgs0_1:=qGgs0.cell 1 _ rfl
 have nGgs0gi0:gs0<gi0:=by have:=Ggs0.out.lt;omega
 go_wp2_with (fail)
 obtain⟨V7,hV⟩:∃V,V=((V6.setCell ⟨gi0,0,none⟩ (.int j r1)).setCell ⟨gi0,1,none⟩ (.int j r2)):=⟨_,rfl⟩;rw[<-hV]
 have hb:Below V5.heap.size V5 V7:=by rw[hV];exact(Below.setCell (p:=⟨gi0,1,none⟩) (Below.setCell (p:=⟨gi0,0,none⟩) hW.out glgi0 _) glgi0 _)
 clear cGgs0_0 cGgs0_1 qGgs0 nGgs0gi0;clear hV hW ygi0_0 xgi0_0 ygi0_1 xgi0_1;replace C1:=h_ (C1.out.below hb);replace CX:=h_ (CX.out.below hb);replace Sxs:=h_ (Sxs.out.below hb);replace Sys:=h_ (Sys.out.below hb);replace T1:=h_ (T1.out.below hb);replace T2:=h_ (T2.out.below hb);replace HB:=h_ (Bel.trans HB.out hb);clear hb
 refine(eqExact_yes _ _ _).mono ?_
 rintro e V8 ⟨rfl,hb⟩
 replace C1:=h_ (C1.out.below hb);replace CX:=h_ (CX.out.below hb);replace Sxs:=h_ (Sxs.out.below hb);replace Sys:=h_ (Sys.out.below hb);replace T1:=h_ (T1.out.below hb);replace T2:=h_ (T2.out.below hb);replace HB:=h_ (Bel.trans HB.out hb);clear hb
 go_wp2_with (fail)
 refine w_ 4 (fun _=>false) dU [Eqv (q #[l Y1 xs.length y1,l Y2 ys.length y2]),Eqv (q #[l A1 n1 a1,l A2 n2 a2]),CpB xs ys,Eqv (.bool true)] (by repeat (first|exact AllStb.nil|refine AllStb.cons (by first|exact bC _|exact stb_cpb _ _) ?_)) ?_ ?_ ?_
 ·intro i o hi hX ho a' W hW hIW hfar hdep
  exact absurd hX (by simp)
 ·intro i o hi hX ho a' W hW hIW hfar hdep
  have e1:a'.tmps.getD 10 undef=I (some ⟨V4.heap.size,0,none⟩):=(fr hfar 10).trans rfl
  have e2:a'.tmps.getD 4 undef=I (some ⟨w.heap.size+1,0,none⟩):=(fr hfar 4).trans rfl
  have hi8:=i_3 hi
  clear hfar hX hi
  rcases hi8 with rfl|rfl|rfl|rfl
  all_goals (simp at ho;subst ho)
  ·have zz:=CX.out.below hW
   have z0:=zz.cell 0 _ rfl;have z1:=zz.cell 1 _ rfl
   refine il ?_;simp only[execOp,Act.eval,e1];go_simp
  ·have zz:=C1.out.below hW
   have z0:=zz.cell 0 _ rfl;have z1:=zz.cell 1 _ rfl
   refine il ?_;simp only[execOp,Act.eval,e2];go_simp
  ·have d1:a'.tmps.getD 47 undef=_:=dp hdep 1
   refine .inr ⟨14,#[q #[l A1 n1 a1,l A2 n2 a2]],by simp only[execOp,Act.eval,d1];go_simp,?_⟩
   refine(fH _ _ _ _ _ _ _ _ _ (Sxs.out.below hW) (Sys.out.below hW) hn1' hn2').mono ?_
   rintro e W' ⟨X1,k1,X2,k2,rfl,ho1,ho2,_,hb'⟩
   exact⟨_,rfl,hb',trivial,X1,k1,X2,k2,rfl,(ho1.sl rfl).1,(ho1.sl rfl).2,(ho2.sl rfl).1,(ho2.sl rfl).2⟩
  ·have d1:a'.tmps.getD 46 undef=_:=dp hdep 0
   obtain⟨X1,k1,X2,k2,d2,s1,-,s2,-⟩:CpB xs ys (a'.tmps.getD 48 undef) W:=dp hdep 2
   refine .inr ⟨18,#[q #[l Y1 xs.length y1,l Y2 ys.length y2],q #[l X1 xs.length k1,l X2 ys.length k2]],by simp only[execOp,Act.eval,d1,d2];go_simp,?_⟩
   refine(eqBoard_yes _ _ _ _ _ _ _ _ _ _ _ _ _ (T1.out.below hW) (T2.out.below hW) s1 s2 ox oy).mono ?_
   rintro e W' ⟨rfl,hb'⟩
   exact⟨_,rfl,hb',trivial,rfl⟩
 intro v W hW hIW hg
 have g0:v 0=_:=gq hg 0
 have g1:v 1=_:=gq hg 1
 obtain⟨_,_,_,_,g2,_,_,_,_⟩:CpB xs ys (v 2) W:=hg 2 (by omega)
 have g3:v 3=_:=gq hg 3
 simp only[List.drop_succ_cons,List.drop_zero,putV,dU,g0,g1,g2,g3,Act.put]
 clear g0 g1 g2 g3 hg hIW;have HB2:Hid (Below w.heap.size w W):=Bel.trans HB.out hW;clear hW
 go_wp2_with (fail)
 go_ret
 exact⟨rfl,HB2.out⟩
open Go.ChangeShapes Go.WideShapes Go.ChangeAt Go.RowKit Go.Joins Go.Deep
theorem cellsV:Tryz.prog.cellsOf 23=4:=by kernel_rfl
theorem cellsB:Tryz.prog.cellsOf 26=2:=by kernel_rfl
theorem cellsS:Tryz.prog.cellsOf 24=1:=by kernel_rfl
theorem cellsI:Tryz.prog.cellsOf 2=1:=by kernel_rfl
section
variable {H:Type}{enc:TypeId×Value->H}{w:World}{base:Nat}{spare:Nat->Bool}{held:Bool}{fuel:Nat}
theorem fld{t:TypeId}{fs:Array Field}{cs:List Value}{x:DataW H×List MemPlace}(ht:Tryz.prog.underlying t=some (.struct fs))(h:DataW.trod enc Tryz.prog w base spare held fuel t cs=some x):
  cs.length=Tryz.prog.cellsOf t/\∃n,∀(i:Nat) (f:Field),fs[i]? =some f->∃y,DataW.trod enc Tryz.prog w base spare held n f.type ((cs.drop f.offset).take (Tryz.prog.cellsOf f.type))=some y:=by
 obtain⟨xs,n,_,_,hl,hx,hf⟩:=DataW.trod_struct ht h
 refine⟨hl,n,fun i f hi=>?_⟩
 have hlt:i<xs.length:=by rw[hx];exact(Array.getElem?_eq_some_iff.1 hi).1
 exact⟨_,(hf i f hi).trans (List.getElem?_eq_getElem hlt)⟩
theorem fldT{t:TypeId}{cs:List Value}{y0:DataW H×List MemPlace}{P:Program}{n:Nat}{t':TypeId}{cs':List Value}(h:DataW.trod enc P w base spare held n t cs=some y0)(e1:t=t')(e2:cs=cs'):DataW.trod enc P w base spare held n t' cs'=some y0:=by subst e1 e2;exact h
theorem lD{cs:List Value}{x:DataW H×List MemPlace}(h:DataW.trod enc Tryz.prog w base spare held fuel 2 cs=some x):∃n:Int,cs=[.int j n]/\(Lit.int j n).wf=true:=by
 obtain⟨n,h1,_,h2⟩:=DataW.trod_int Tryz.underlying2 h
 exact⟨n,h1,h2⟩
theorem openSL{cs:List Value}{x:DataW H×List MemPlace}(h:DataW.trod enc Tryz.prog w base spare held fuel 24 cs=some x):
  ∃A n c xs,cs=[l A n c]/\SL w A n xs/\n<=maxLen/\∀z∈xs,(Lit.int j z).wf=true:=by
 rcases open_ints Tryz.underlying24 Tryz.underlying2 cellsI h with⟨rfl,_⟩|⟨a,len,cap,zs,rfl,_,hl,hm,hz,_,hcell,hw⟩
 ·exact⟨none,0,0,[],rfl,SL.nil_ _,by simp[maxLen],by simp⟩
 ·have hle:len<=zs.length:=by rw[hz];split<;>omega
  refine⟨some a,len,cap,zs.take len,rfl,⟨by simp;omega,fun hn=>?_⟩,by omega,fun z hz'=>hw z (List.mem_of_mem_take hz')⟩
  obtain⟨b,off,spot⟩:=a
  have h0:=hcell 0 (by omega)
  have hspot:spot=none:=by simpa[Addr.add]using World.cell?_spot h0
  subst hspot
  refine⟨b,off,rfl,World.block_lt_of_cell? w _ h0,fun i hi=>?_⟩
  have h1:=hcell i (by omega)
  rw[add_plain]at h1;rw[h1]
  simp[List.getD,List.getElem?_take,hi]
theorem openBoard{cs:List Value}{x:DataW H×List MemPlace}(h:DataW.trod enc Tryz.prog w base spare held fuel 26 cs=some x):
  ∃A1 n1 c1 xs A2 n2 c2 ys,cs=[l A1 n1 c1,l A2 n2 c2]/\SL w A1 n1 xs/\n1<=maxLen/\SL w A2 n2 ys/\n2<=maxLen:=by
 obtain⟨hl,n,hf⟩:=fld Tryz.underlying26 h;obtain⟨y0,h0⟩:=hf 0 _ rfl;obtain⟨y1,h1⟩:=hf 1 _ rfl;rw[cellsB]at hl
 match cs,hl with
 | [v0,v1],_=>
  obtain⟨A1,n1,c1,xs,e1,s1,m1,_⟩:=openSL (fldT h0 (t':=24) (cs':=[v0]) rfl (by show List.take (Tryz.prog.cellsOf 24) _=_;rw[cellsS];rfl))
  obtain⟨A2,n2,c2,ys,e2,s2,m2,_⟩:=openSL (fldT h1 (t':=24) (cs':=[v1]) rfl (by show List.take (Tryz.prog.cellsOf 24) _=_;rw[cellsS];rfl))
  simp at e1 e2
  subst e1 e2
  exact⟨A1,n1,c1,xs,A2,n2,c2,ys,rfl,s1,m1,s2,m2⟩
theorem openVariant{cs:List Value}{x:DataW H×List MemPlace}(h:DataW.trod enc Tryz.prog w base spare held fuel 23 cs=some x):
  ∃p c g s:Int,cs=[.int j p,.int j c,.int j g,.int j s]/\(Lit.int j p).wf=true/\(Lit.int j c).wf=true/\(Lit.int j g).wf=true/\(Lit.int j s).wf=true:=by
 obtain⟨hl,n,hf⟩:=fld Tryz.underlying23 h;obtain⟨y0,h0⟩:=hf 0 _ rfl;obtain⟨y1,h1⟩:=hf 1 _ rfl;obtain⟨y2,h2⟩:=hf 2 _ rfl;obtain⟨y3,h3⟩:=hf 3 _ rfl;rw[cellsV]at hl
 match cs,hl with
 | [v0,v1,v2,v3],_=>
  obtain⟨p,e0,w0⟩:=lD (fldT h0 (t':=2) (cs':=[v0]) rfl (by show List.take (Tryz.prog.cellsOf 2) _=_;rw[cellsI];rfl))
  obtain⟨c,e1,w1⟩:=lD (fldT h1 (t':=2) (cs':=[v1]) rfl (by show List.take (Tryz.prog.cellsOf 2) _=_;rw[cellsI];rfl))
  obtain⟨g,e2,w2⟩:=lD (fldT h2 (t':=2) (cs':=[v2]) rfl (by show List.take (Tryz.prog.cellsOf 2) _=_;rw[cellsI];rfl))
  obtain⟨s,e3,w3⟩:=lD (fldT h3 (t':=2) (cs':=[v3]) rfl (by show List.take (Tryz.prog.cellsOf 2) _=_;rw[cellsI];rfl))
  simp at e0 e1 e2 e3
  subst e0 e1 e2 e3
  exact⟨p,c,g,s,rfl,w0,w1,w2,w3⟩
end
end Go.Proofs.YtcmeoenkgmghkaaGreat

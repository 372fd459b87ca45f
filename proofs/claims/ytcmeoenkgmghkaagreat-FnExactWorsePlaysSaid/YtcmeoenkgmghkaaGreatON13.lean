/- Part of one proof. There are no conditions. -/
import Derived.Test.YtcmeoenkgmghkaaGreatON9
import Derived.Test.YtcmeoenkgmghkaaGreatON32
set_option maxHeartbeats 0
set_option linter.unusedVariables false
set_option linter.unusedSimpArgs false
set_option maxRecDepth 10000
open Go.Value renaming int->l,agg->D,tuple->I,bool->J
open Go.IntKind renaming i64->o
open Go.Obj renaming cells->C
open Go.Ending renaming returned->F
open Go renaming World->jz,Calls->j0,bodyPost_ret->j1
open Nat renaming le_refl->j2
open List renaming length_append->qa,drop_succ_cons->qb,drop_zero->qc,take_succ_cons->qd,take_zero->qe
open Go.Proofs.Tryz renaming prog->qf
namespace Go.Proofs.YtcmeoenkgmghkaaGreat
open Go.RowKit Ps Ra Ex
theorem far_mul{B m:Int}(hB:1<=B)(h:4000000000000000000/B<(m.natAbs:Int)):4*ax<m*B\/m*B< -(4*ax):=by
 have h1:=(Int.ediv_lt_iff_lt_mul (by omega)).1 h
 have e:ax=1000000000000000000:=rfl
 rcases Int.le_total 0 m with h2|h2
 ·left;rw[show(m.natAbs:Int)=m by omega]at h1;omega
 ·right;rw[show(m.natAbs:Int)= -m by omega,Int.neg_mul]at h1;omega
theorem near_mul{B m:Int}(hB:1<=B)(h:(m.natAbs:Int)<=4000000000000000000/B): -4000000000000000000<=m*B/\m*B<=4000000000000000000:=by
 have h1:=Int.mul_le_of_le_ediv (by omega) h
 rcases Int.le_total 0 m with h2|h2
 ·have:0<=m*B:=Int.mul_nonneg h2 (by omega)
  rw[show(m.natAbs:Int)=m by omega]at h1;omega
 ·have:m*B<=0:=Int.mul_nonpos_of_nonpos_of_nonneg h2 (by omega)
  rw[show(m.natAbs:Int)= -m by omega,Int.neg_mul]at h1;omega
theorem dK(p c h xn yn:Int)(s xd yd:Nat)(w:jz)(hs1:1<=s)(hs6:s<=6)(hx:Val (sq s) ⟨xn,xd⟩)(hy:Val (sq s) ⟨yn,yd⟩):
  j0 qf 147 #[D #[l o p,l o c,l o h,l o s],D #[l o xn,l o xd],D #[l o yn,l o yd]] w (RetE w (addE (sq s) ⟨xn,xd⟩ ⟨yn,yd⟩)):=by
 obtain⟨hq1,hq36,_⟩:=sq_bd hs1 hs6
 have CB:=h_ fun(W:jz)=>ep p c h s W hs6
 have hxd:xd<50:=bP hq1 hx;have hyd:yd<50:=bP hq1 hy;have hx1: -1000000000000000000<=xn:=hx.1;have hx2:xn<=1000000000000000000:=hx.2.1;have hy1: -1000000000000000000<=yn:=hy.1;have hy2:yn<=1000000000000000000:=hy.2.1;have HX:=h_ hx;have HY:=h_ hy;clear hx hy
 have HF0:∀a b c' d:Int,Hid (Fr w ((((w.alloc (C #[l o p,l o c,l o h,l o s] 33)).alloc (C #[l o a,l o b] 45)).alloc (C #[l o c',l o d] 45)).alloc (C #[l o 0,l o 0] 45)) [[l o p,l o c,l o h,l o s],[l o a,l o b],[l o c',l o d],[l o 0,l o 0]]):=
  fun a b c' d=>((((Fr.start w).allocT (by simp) _ _).allocT (by simp) _ _).allocT (by simp) _ _).allocT (by simp) _ _
 by_cases hsw:(yd:Int)<xd
 ·go_enter Tryz.func147,Tryz.ntmps147
  go_wp2_with (fail)
  go_loopw [20] (fun i wr=>∃j:Nat,(j:Int)<=(xd:Int)-yd/\i=l o j/\-4000000000000000000<=yn*pw (sq s) j/\yn*pw (sq s) j<=4000000000000000000/\Fr w wr [[l o p,l o c,l o h,l o s],[l o (yn*pw (sq s) j),l o yd],[l o xn,l o xd],[l o 0,l o 0]]) (fun i _=>xd-yd-(intOf i).toNat)
  case atStart=>exact⟨0,by omega,rfl,by rw[bN];omega,by rw[bN];omega,by rw[bN,Int.mul_one];exact(HF0 yn yd xn xd).out⟩
  case round=>
   obtain⟨j,hj,rfl,hm1,hm2,hF⟩:=hrel;have HF:=h_ hF
   have HS:Hid (∀_:Int,pw (sq s) (j+1)=pw (sq s) j*sq s):=fun _=>rfl
   clear hF
   by_cases hlt:(j:Int)<(xd:Int)-yd
   focus
    obtain⟨m,hm⟩:∃m,yn*pw (sq s) j=m:=⟨_,rfl⟩;have HM:=h_ hm;rw[hm]at HF hm1 hm2;clear hm
    have z0:=HF.out.l0 (by simp)
    have c00:=HF.out.c0 0 rfl;have c01:=HF.out.c0 1 rfl;have c02:=HF.out.c0 2 rfl;have c03:=HF.out.c0 3 rfl
    have z1:=HF.out.l1 (by simp)
    have c10:=HF.out.c1 0 rfl;have f10:=HF.out.f1 0 rfl
    refine ?ze
   rotate_left
   focus
    have hjj:j=xd-yd:=by omega
    subst hjj;obtain⟨m,hm⟩:∃m,yn*pw (sq s) (xd-yd)=m:=⟨_,rfl⟩;have HM:=h_ hm;rw[hm]at HF hm1 hm2;clear hm
    have HR:Hid (addE (sq s) ⟨xn,xd⟩ ⟨yn,yd⟩=mk (sq s) (m+xn) xd):=by
     have:=iR (B:=sq s) (x:=⟨yn,yd⟩) (y:=⟨xn,xd⟩) (by show yd<=xd;omega)
     rw[show(⟨yn,yd⟩:E).num*pw (sq s) ((⟨xn,xd⟩:E).depth-(⟨yn,yd⟩:E).depth)=m from HM.out]at this
     rw[iz];exact this
    have z0:=HF.out.l0 (by simp)
    have c00:=HF.out.c0 0 rfl;have f00:=HF.out.f0 0 rfl;have c01:=HF.out.c0 1 rfl;have f01:=HF.out.f0 1 rfl;have c02:=HF.out.c0 2 rfl;have f02:=HF.out.f0 2 rfl;have c03:=HF.out.c0 3 rfl;have f03:=HF.out.f0 3 rfl
    have z1:=HF.out.l1 (by simp)
    have c10:=HF.out.c1 0 rfl;have f10:=HF.out.f1 0 rfl;have c11:=HF.out.c1 1 rfl;have f11:=HF.out.f1 1 rfl
    have z2:=HF.out.l2 (by simp)
    have c20:=HF.out.c2 0 rfl;have f20:=HF.out.f2 0 rfl;have c21:=HF.out.c2 1 rfl;have f21:=HF.out.f2 1 rfl
    refine ?zd
   rotate_left
   case' zd|ze=>
    have z3:=HF.out.l3 (by simp)
    have c30:=HF.out.c3 0 rfl;have f30:=HF.out.f3 0 rfl;have c31:=HF.out.c3 1 rfl;have f31:=HF.out.f3 1 rfl
   case' zd=>
    have CM:=fun(W:jz)=>bF p c h (m+xn) s xd W hs1 hs6 (by omega) (by omega) (by omega)
    rcases hmk:mk (sq s) (m+xn) xd with _|⟨num,dep⟩
    focus
     refine ?zc
    rotate_left
    focus
     refine ?zf
   case' ze=>
    by_cases hfar:4000000000000000000/sq s<(m.natAbs:Int)
    focus
     have HR:Hid (addE (sq s) ⟨xn,xd⟩ ⟨yn,yd⟩=none):=by
      have:=addE_far (B:=sq s) hq1 (x:=⟨yn,yd⟩) (y:=⟨xn,xd⟩) HX.out (j:=j) (by show j<xd-yd;omega) (by show 4*ax<yn*pw (sq s) j*sq s\/yn*pw (sq s) j*sq s< -(4*ax);rw[HM.out];exact far_mul hq1 hfar)
      rw[iz];exact this
     refine ?zb
    rotate_left
    focus
     have hnear:=near_mul (m:=m) hq1 (by omega)
     have hdq:decide (4000000000000000000/sq s<(m.natAbs:Int))=false:=by simp;omega
     have HN:=h_ hnear;obtain⟨hn1,hn2⟩:=hnear;clear hfar
     refine ?za
   case' za|zb=>
    go_wp2_with (fail)
    first|refine ag (by kernel_rfl) (by kernel_rfl) ?_|refine ac (by kernel_rfl) (by kernel_rfl) ?_
    repeat (first|go_big_quiet_step (first|(go_at_call 151;exact ab (absolute_any m _ (by omega) (by omega)))|(go_at_call 194;exact more_call (CB.out _)))|quiet_step (first|(go_at_call 151;exact ab (absolute_any m _ (by omega) (by omega)))|(go_at_call 194;exact more_call (CB.out _))))
    refine wpQuiet_nil ?_
    intro _ hw'
    obtain⟨tq,hw''⟩:=hw';subst hw''
    go_wp2_with (fail)
   case za=>
    first|refine am 6 (by kernel_rfl) (by kernel_rfl) ?_|refine an 6 (by kernel_rfl) (by kernel_rfl) ?_
    simp only[qd,qe,qb,qc]
    repeat (first|go_big_quiet_step ((go_at_call 194;exact more_call (CB.out _)))|quiet_step ((go_at_call 194;exact more_call (CB.out _))))
    refine wpQuiet_nil ?_
    intro _ hw'
    obtain⟨t2,hw''⟩:=hw';subst hw''
    go_wp2_with (fail)
    go_roundw
    case rel=>exact⟨j+1,by omega,by go_num,by rw[HS.out 0,<-Int.mul_assoc,HM.out];exact HN.out.1,by rw[HS.out 0,<-Int.mul_assoc,HM.out];exact HN.out.2,by rw[HS.out 0,<-Int.mul_assoc,HM.out];exact(HF.out.more _).set (b:=w.heap.size+1) 1 0 rfl rfl _⟩
    case measure=>simp[intOf];omega
   case' zc|zf=>
    rw[hmk]at CM HR;have CM':=h_ CM;clear CM hmk
    go_wp2_with (go_at_call 179;refine(more_first (CM'.out _)).mono ?_;rintro e w' ⟨rfl,t,rfl⟩)
   case zc|zb=>
    refine j1 (v:=I #[D #[l o 0,l o 0],J false]) (by simp[results,Tryz.results147,go_sem, *]) rfl (RetE.mkN HR.out ?_)
    exact stw (stw (HF.out.more _).b (by omega)) (by omega)
   case zf=>
    refine j1 (v:=I #[D #[l o num,l o dep],J true]) (by simp[results,Tryz.results147,go_sem, *]) rfl (RetE.mkY HR.out ?_)
    exact stw (stw (HF.out.more _).b (by omega)) (by omega)
 ·go_enter Tryz.func147,Tryz.ntmps147
  go_wp2_with (fail)
  go_loopw [20] (fun i wr=>∃j:Nat,(j:Int)<=(yd:Int)-xd/\i=l o j/\-4000000000000000000<=xn*pw (sq s) j/\xn*pw (sq s) j<=4000000000000000000/\Fr w wr [[l o p,l o c,l o h,l o s],[l o (xn*pw (sq s) j),l o xd],[l o yn,l o yd],[l o 0,l o 0]]) (fun i _=>yd-xd-(intOf i).toNat)
  case atStart=>exact⟨0,by omega,rfl,by rw[bN];omega,by rw[bN];omega,by rw[bN,Int.mul_one];exact(HF0 xn xd yn yd).out⟩
  case round=>
   obtain⟨j,hj,rfl,hm1,hm2,hF⟩:=hrel;have HF:=h_ hF
   have HS:Hid (∀_:Int,pw (sq s) (j+1)=pw (sq s) j*sq s):=fun _=>rfl
   clear hF
   by_cases hlt:(j:Int)<(yd:Int)-xd
   focus
    obtain⟨m,hm⟩:∃m,xn*pw (sq s) j=m:=⟨_,rfl⟩;have HM:=h_ hm;rw[hm]at HF hm1 hm2;clear hm
    have z0:=HF.out.l0 (by simp)
    have c00:=HF.out.c0 0 rfl;have c01:=HF.out.c0 1 rfl;have c02:=HF.out.c0 2 rfl;have c03:=HF.out.c0 3 rfl
    have z1:=HF.out.l1 (by simp)
    have c10:=HF.out.c1 0 rfl;have f10:=HF.out.f1 0 rfl
    refine ?zk
   rotate_left
   focus
    have hjj:j=yd-xd:=by omega
    subst hjj;obtain⟨m,hm⟩:∃m,xn*pw (sq s) (yd-xd)=m:=⟨_,rfl⟩;have HM:=h_ hm;rw[hm]at HF hm1 hm2;clear hm
    have HR:Hid (addE (sq s) ⟨xn,xd⟩ ⟨yn,yd⟩=mk (sq s) (m+yn) yd):=by
     have:=iR (B:=sq s) (x:=⟨xn,xd⟩) (y:=⟨yn,yd⟩) (by show xd<=yd;omega)
     rw[show(⟨xn,xd⟩:E).num*pw (sq s) ((⟨yn,yd⟩:E).depth-(⟨xn,xd⟩:E).depth)=m from HM.out]at this
     exact this
    have z0:=HF.out.l0 (by simp)
    have c00:=HF.out.c0 0 rfl;have f00:=HF.out.f0 0 rfl;have c01:=HF.out.c0 1 rfl;have f01:=HF.out.f0 1 rfl;have c02:=HF.out.c0 2 rfl;have f02:=HF.out.f0 2 rfl;have c03:=HF.out.c0 3 rfl;have f03:=HF.out.f0 3 rfl
    have z1:=HF.out.l1 (by simp)
    have c10:=HF.out.c1 0 rfl;have f10:=HF.out.f1 0 rfl;have c11:=HF.out.c1 1 rfl;have f11:=HF.out.f1 1 rfl
    have z2:=HF.out.l2 (by simp)
    have c20:=HF.out.c2 0 rfl;have f20:=HF.out.f2 0 rfl;have c21:=HF.out.c2 1 rfl;have f21:=HF.out.f2 1 rfl
    refine ?zj
   rotate_left
   case' zj|zk=>
    have z3:=HF.out.l3 (by simp)
    have c30:=HF.out.c3 0 rfl;have f30:=HF.out.f3 0 rfl;have c31:=HF.out.c3 1 rfl;have f31:=HF.out.f3 1 rfl
   case' zj=>
    have CM:=fun(W:jz)=>bF p c h (m+yn) s yd W hs1 hs6 (by omega) (by omega) (by omega)
    rcases hmk:mk (sq s) (m+yn) yd with _|⟨num,dep⟩
    focus
     refine ?zi
    rotate_left
    focus
     refine ?zl
   case' zk=>
    by_cases hfar:4000000000000000000/sq s<(m.natAbs:Int)
    focus
     have HR:Hid (addE (sq s) ⟨xn,xd⟩ ⟨yn,yd⟩=none):=by
      have:=addE_far (B:=sq s) hq1 (x:=⟨xn,xd⟩) (y:=⟨yn,yd⟩) HY.out (j:=j) (by show j<yd-xd;omega) (by show 4*ax<xn*pw (sq s) j*sq s\/xn*pw (sq s) j*sq s< -(4*ax);rw[HM.out];exact far_mul hq1 hfar)
      exact this
     refine ?zh
    rotate_left
    focus
     have hnear:=near_mul (m:=m) hq1 (by omega)
     have hdq:decide (4000000000000000000/sq s<(m.natAbs:Int))=false:=by simp;omega
     have HN:=h_ hnear;obtain⟨hn1,hn2⟩:=hnear;clear hfar
     refine ?zg
   case' zg|zh=>
    go_wp2_with (fail)
    first|refine ag (by kernel_rfl) (by kernel_rfl) ?_|refine ac (by kernel_rfl) (by kernel_rfl) ?_
    repeat (first|go_big_quiet_step (first|(go_at_call 151;exact ab (absolute_any m _ (by omega) (by omega)))|(go_at_call 194;exact more_call (CB.out _)))|quiet_step (first|(go_at_call 151;exact ab (absolute_any m _ (by omega) (by omega)))|(go_at_call 194;exact more_call (CB.out _))))
    refine wpQuiet_nil ?_
    intro _ hw'
    obtain⟨tq,hw''⟩:=hw';subst hw''
    go_wp2_with (fail)
   case zg=>
    first|refine am 6 (by kernel_rfl) (by kernel_rfl) ?_|refine an 6 (by kernel_rfl) (by kernel_rfl) ?_
    simp only[qd,qe,qb,qc]
    repeat (first|go_big_quiet_step ((go_at_call 194;exact more_call (CB.out _)))|quiet_step ((go_at_call 194;exact more_call (CB.out _))))
    refine wpQuiet_nil ?_
    intro _ hw'
    obtain⟨t2,hw''⟩:=hw';subst hw''
    go_wp2_with (fail)
    go_roundw
    case rel=>exact⟨j+1,by omega,by go_num,by rw[HS.out 0,<-Int.mul_assoc,HM.out];exact HN.out.1,by rw[HS.out 0,<-Int.mul_assoc,HM.out];exact HN.out.2,by rw[HS.out 0,<-Int.mul_assoc,HM.out];exact(HF.out.more _).set (b:=w.heap.size+1) 1 0 rfl rfl _⟩
    case measure=>simp[intOf];omega
   case' zi|zl=>
    rw[hmk]at CM HR;have CM':=h_ CM;clear CM hmk
    go_wp2_with (go_at_call 179;refine(more_first (CM'.out _)).mono ?_;rintro e w' ⟨rfl,t,rfl⟩)
   case zi|zh=>
    refine j1 (v:=I #[D #[l o 0,l o 0],J false]) (by simp[results,Tryz.results147,go_sem, *]) rfl (RetE.mkN HR.out ?_)
    exact stw (stw (HF.out.more _).b (by omega)) (by omega)
   case zl=>
    refine j1 (v:=I #[D #[l o num,l o dep],J true]) (by simp[results,Tryz.results147,go_sem, *]) rfl (RetE.mkY HR.out ?_)
    exact stw (stw (HF.out.more _).b (by omega)) (by omega)
theorem bW(lo y:Int)(w:jz)(h0:0<=lo)(h1:lo<10000000000000000000)(hy:1<=y)(hy2:y<=1000):
  j0 qf 205 #[.int .u64 0,.int .u64 lo,.int .u64 y] w fun e w'=>e=F (I #[.int .u64 (lo/y),.int .u64 (lo%y)])/\Below w.heap.size w w':=by
 have b1:(y==0)=false:=by simp;omega
 have b2:decide (y<=0)=false:=by simp;omega
 go_enter Tryz.func205,Tryz.ntmps205
 go_wp2
 go_quiet (fail)
 go_wp2
 go_ret2
 exact⟨rfl,below_drewN' (Below.refl _ _) _⟩
theorem Mul64_low(x k:Nat)(w:jz)(h:(x:Int)*k<=9000000000000000000)(hx:x<=9000000000000000000)(hk:k<=9000000000000000000):
  j0 qf 150 #[.int .u64 x,.int .u64 k] w fun e w'=>e=F (I #[.int .u64 0,.int .u64 ((x:Int)*k)])/\w=w':=by
 refine(Tryz.bits_Mul64 x k (by omega) (by omega) w).mono fun e w' ⟨he,hw⟩=>⟨?_,hw.symm⟩
 rw[he]
 have e1 : x * k < 18446744073709551616 := by have:((x*k:Nat):Int)≤9000000000000000000:=by rw [Int.natCast_mul];exact h
                                              omega
 rw[Nat.div_eq_of_lt e1,Nat.mod_eq_of_lt e1,Int.natCast_mul];rfl
theorem jJ(p c h xn:Int)(s d k:Nat)(w:jz)(hs1:1<=s)(hs6:s<=6)(hx:Val (sq s) ⟨xn,d⟩)(hk1:1<=k)(hk9:k<=1024)(hV:(xn.natAbs:Int)*k<=9000000000000000000):
  j0 qf 177 #[D #[l o p,l o c,l o h,l o s],D #[l o xn,l o d],l o k] w (RetE w (sclE (sq s) ⟨xn,d⟩ k)):=by
 obtain⟨hq1,hq36,_⟩:=sq_bd hs1 hs6
 have CB:=h_ fun(W:jz)=>ep p c h s W hs6
 have hd50:d<50:=bP hq1 hx;have hx1: -1000000000000000000<=xn:=hx.1;have hx2:xn<=1000000000000000000:=hx.2.1
 have hV0:0<=(xn.natAbs:Int)*k:=Int.mul_nonneg (by omega) (by omega)
 have CM0:=fun(W:jz)=>Mul64_low xn.natAbs k W hV (by omega) (by omega)
 have H0:Hid (sclE (sq s) ⟨xn,d⟩ k=mk (sq s) (sgP xn k*((xn.natAbs:Int)*k)) d):=by
  have:=sgP_mul xn k;unfold Hid sclE
  rw[show(k:Int).natAbs=k by omega]at this
  show mk _ (xn*k) d=_
  rw[this]
 obtain⟨V,hVV⟩:∃V,(xn.natAbs:Int)*k=V:=⟨_,rfl⟩;rw[hVV]at CM0 hV hV0 H0
 have CM:Hid (∀W:jz,j0 qf 150 #[.int .u64 (xn.natAbs:Int),.int .u64 ((k:Int).natAbs:Int)] W fun e w'=>e=F (I #[.int .u64 0,.int .u64 V])/\W=w'):=by
  intro W;rw[show(((k:Int).natAbs:Nat):Int)=(k:Int) by omega];exact CM0 W
 clear CM0 hVV hx
 have HF0:Hid (Fr w (((w.alloc (C #[l o p,l o c,l o h,l o s] 33)).alloc (C #[l o xn,l o d] 45)).alloc (C #[l o 0,l o 0] 45)) [[l o p,l o c,l o h,l o s],[l o xn,l o d],[l o 0,l o 0]]):=
  (((Fr.start w).allocT (by simp) _ _).allocT (by simp) _ _).allocT (by simp) _ _
 go_enter Tryz.func177,Tryz.ntmps177
 go_wp2_with (first|(go_at_call 194;refine(more_first (CB.out _)).mono ?_;rintro e w' ⟨rfl,t,rfl⟩)|(go_at_call 151;first|(refine(absolute_any xn _ (by omega) (by omega)).mono ?_;rintro e w' ⟨rfl,rfl⟩)|(refine(absolute_any (k:Int) _ (by omega) (by omega)).mono ?_;rintro e w' ⟨rfl,rfl⟩))|(go_at_call 150;refine(CM.out _).mono ?_;rintro e w' ⟨rfl,rfl⟩))
 go_loopw [9,10,11] (fun vh vl vd wr=>∃(j:Nat) (u:Int),j<=d/\vd=l o j/\vl= .int .u64 u/\vh= .int .u64 0/\0<=u/\u<=9000000000000000000/\Hid (sclE (sq s) ⟨xn,d⟩ k=mk (sq s) (sgP xn k*u) j)/\Fr w wr [[l o p,l o c,l o h,l o s],[l o xn,l o d],[l o 0,l o 0]]) (fun _ _ vd _=>(intOf vd).toNat)
 case atStart=>exact⟨d,V,j2 _,rfl,rfl,rfl,hV0,hV,H0,HF0.out.more _⟩
 case round=>
  obtain⟨j,u,hj,rfl,rfl,rfl,hu0,hu1,HS,hF⟩:=hrel;have HF:=h_ hF;clear hF
  have z0:=HF.out.l0 (by simp)
  have c00:=HF.out.c0 0 rfl;have c01:=HF.out.c0 1 rfl;have c02:=HF.out.c0 2 rfl;have c03:=HF.out.c0 3 rfl
  have z1:=HF.out.l1 (by simp)
  have c10:=HF.out.c1 0 rfl
  have z2:=HF.out.l2 (by simp)
  have c20:=HF.out.c2 0 rfl;have f20:=HF.out.f2 0 rfl;have c21:=HF.out.c2 1 rfl;have f21:=HF.out.f2 1 rfl
  by_cases hj0:j=0
  focus
   have hj2:¬0<(j:Int):=by omega
   have HJ:=h_ hj0;clear hj0
   by_cases hbig:1000000000000000000<u
   focus
    have HR:Hid (sclE (sq s) ⟨xn,d⟩ k=none):=by
     rw[Hid,HS.out]
     refine mk_far (.inl HJ.out) ?_
     have e:ax=1000000000000000000:=rfl
     rcases lO xn k with h'|h'<;>rw[h']<;>omega
    refine ?ze
   rotate_left
   focus
    by_cases hneg:xn<0
    focus
     refine ?zk
    rotate_left
    focus
     refine ?zn
  rotate_left 3
  focus
   have hj1:0<(j:Int):=by omega
   have hjN:0<j:=by omega
   clear hj0
   by_cases hdiv:sq s∣u
   focus
    have hm0:((u%sq s:Int) !=0)=false:=by simp[Int.emod_eq_zero_of_dvd hdiv]
    have h':Hid (sclE (sq s) ⟨xn,d⟩ k=mk (sq s) (sgP xn k*(u/sq s)) (j-1)):=by
     have e:=HS.out
     rw[show j=(j-1)+1 by omega,mk_down (lO xn k) hdiv]at e
     exact e
    have q0:0<=u/sq s:=Int.ediv_nonneg hu0 (by omega)
    have q1:u/sq s<=9000000000000000000:=Int.le_trans (Int.ediv_le_self _ hu0) hu1;clear hdiv
    refine ?zp
   rotate_left
   focus
    have hm0:((u%sq s:Int) !=0)=true:=by simp;intro h';exact hdiv (Int.dvd_of_emod_eq_zero h')
    have hnd:Hid (¬sq s∣sgP xn k*u):=fun h'=>hdiv ((sg_dvd (lO xn k)).1 h')
    clear hdiv
    by_cases hbig:1000000000000000000<u
    focus
     have HR:Hid (sclE (sq s) ⟨xn,d⟩ k=none):=by
      rw[Hid,HS.out]
      refine mk_far (.inr hnd.out) ?_
      have e:ax=1000000000000000000:=rfl
      rcases lO xn k with h'|h'<;>rw[h']<;>omega
     refine ?zf
    rotate_left
    focus
     have hdb:decide (1000000000000000000<u)=false:=by simp;omega
     by_cases hneg:xn<0
     focus
      refine ?zl
     rotate_left
     focus
      refine ?zo
  rotate_left 4
  case' zn|zo|zk|zl=>
   have hk0:decide ((k:Int)<0)=false:=decide_eq_false (by omega)
  case' zo=>
   have hn0:decide (xn<0)=false:=decide_eq_false (by omega)
  case' zo|zn=>
   have hsg:Hid (sclE (sq s) ⟨xn,d⟩ k=mk (sq s) u j):=by
    have e:=HS.out
    rw[show sgP xn k=1 by unfold sgP;rw[if_neg (by omega)],Int.one_mul]at e
    exact e
   have CE:=fun(W:jz)=>bF p c h u s j W hs1 hs6 (by omega) (by omega) (by omega)
  case' zo=>
   rcases hmk:mk (sq s) (u) j with _|⟨num,dep⟩
   focus
    refine ?zj
   rotate_left
   focus
    refine ?zh
  case' zn=>
   rcases hmk:mk (sq s) (u) j with _|⟨num,dep⟩
   focus
    refine ?zd
   rotate_left
   focus
    refine ?zb
  case' zb|zh=>
   have HR:=h_ (hsg.out.trans hmk)
   have CE':Hid (∀W:jz,j0 qf 179 #[D #[l o p,l o c,l o h,l o s],l o (u),l o j] W fun e w'=>e=F (I #[D #[l o num,l o dep],J true])/\Below W.heap.size W w'):=fun W=>by
    have:=CE W;rw[hmk]at this;exact this
  case' zd|zj=>
   have HR:=h_ (hsg.out.trans hmk)
   have CE':Hid (∀W:jz,j0 qf 179 #[D #[l o p,l o c,l o h,l o s],l o (u),l o j] W fun e w'=>e=F (I #[D #[l o 0,l o 0],J false])/\Below W.heap.size W w'):=fun W=>by
    have:=CE W;rw[hmk]at this;exact this
  case' zk|zl=>
   have hsg:Hid (sclE (sq s) ⟨xn,d⟩ k=mk (sq s) (-u) j):=by
    have e:=HS.out
    rw[show sgP xn k= -1 by unfold sgP;rw[if_pos (by omega)],Int.neg_mul,Int.one_mul]at e
    exact e
   have CE:=fun(W:jz)=>bF p c h (-u) s j W hs1 hs6 (by omega) (by omega) (by omega)
  case' zk=>
   rcases hmk:mk (sq s) (-u) j with _|⟨num,dep⟩
   focus
    refine ?zc
   rotate_left
   focus
    refine ?za
  case' zl=>
   rcases hmk:mk (sq s) (-u) j with _|⟨num,dep⟩
   focus
    refine ?zi
   rotate_left
   focus
    refine ?zg
  case' za|zg=>
   have HR:=h_ (hsg.out.trans hmk)
   have CE':Hid (∀W:jz,j0 qf 179 #[D #[l o p,l o c,l o h,l o s],l o (-u),l o j] W fun e w'=>e=F (I #[D #[l o num,l o dep],J true])/\Below W.heap.size W w'):=fun W=>by
    have:=CE W;rw[hmk]at this;exact this
  case' zc|zi=>
   have HR:=h_ (hsg.out.trans hmk)
   have CE':Hid (∀W:jz,j0 qf 179 #[D #[l o p,l o c,l o h,l o s],l o (-u),l o j] W fun e w'=>e=F (I #[D #[l o 0,l o 0],J false])/\Below W.heap.size W w'):=fun W=>by
    have:=CE W;rw[hmk]at this;exact this
  case' za|zb=>
   clear CE hmk
   go_wp2_with (first|(go_at_call 205;refine(more_first (bW u (sq s) _ hu0 (by omega) hq1 (by omega))).mono ?_;rintro e w' ⟨rfl,t,rfl⟩)|(go_at_call 179;((with_reducible refine(more_first (CE'.out _)).mono ?_);rintro e w' ⟨rfl,t2,rfl⟩)))
   refine j1 (v:=I #[D #[l o num,l o dep],J true]) (by simp[results,Tryz.results177,go_sem,c20,c21,z2,f20,f21]) rfl (RetE.mkY HR.out ?_)
  case' zc|zd=>
   clear CE hmk
   go_wp2_with (first|(go_at_call 205;refine(more_first (bW u (sq s) _ hu0 (by omega) hq1 (by omega))).mono ?_;rintro e w' ⟨rfl,t,rfl⟩)|(go_at_call 179;((with_reducible refine(more_first (CE'.out _)).mono ?_);rintro e w' ⟨rfl,t2,rfl⟩)))
   refine j1 (v:=I #[D #[l o 0,l o 0],J false]) (by simp[results,Tryz.results177,go_sem,c20,c21,z2,f20,f21]) rfl (RetE.mkN HR.out ?_)
  case' zg|zh=>
   clear CE hmk
   go_wp2_with (first|(go_at_call 205;refine(more_first (bW u (sq s) _ hu0 (by omega) hq1 (by omega))).mono ?_;rintro e w' ⟨rfl,t,rfl⟩)|(go_at_call 179;((with_reducible refine(more_call (CE'.out _)).mono ?_);rintro e w' ⟨rfl,t2,rfl⟩)))
   refine j1 (v:=I #[D #[l o num,l o dep],J true]) (by simp[results,Tryz.results177,go_sem,c20,c21,z2,f20,f21]) rfl (RetE.mkY HR.out ?_)
  case' zi|zj=>
   clear CE hmk
   go_wp2_with (first|(go_at_call 205;refine(more_first (bW u (sq s) _ hu0 (by omega) hq1 (by omega))).mono ?_;rintro e w' ⟨rfl,t,rfl⟩)|(go_at_call 179;((with_reducible refine(more_call (CE'.out _)).mono ?_);rintro e w' ⟨rfl,t2,rfl⟩)))
   refine j1 (v:=I #[D #[l o 0,l o 0],J false]) (by simp[results,Tryz.results177,go_sem,c20,c21,z2,f20,f21]) rfl (RetE.mkN HR.out ?_)
  case za|zb|zc|zd|zg|zh|zi|zj=>
   exact stw (stw (HF.out.more _).b (by omega)) (by omega)
  case' zp|ze|zf=>
   go_wp2_with (go_at_call 205;refine(more_first (bW u (sq s) _ hu0 (by omega) hq1 (by omega))).mono ?_;rintro e w' ⟨rfl,t,rfl⟩)
  case zp=>
   go_roundw
   case rel=>exact⟨j-1,u/sq s,by omega,by go_num,rfl,by simp,q0,q1,h',HF.out.more _⟩
   case measure=>simp[intOf];omega
  case ze|zf=>
   refine j1 (v:=I #[D #[l o 0,l o 0],J false]) (by simp[results,Tryz.results177,go_sem,c20,c21,z2,f20,f21]) rfl (RetE.mkN HR.out ?_)
   first|exact stw (stw HF.out.b (by omega)) (by omega)|exact stw (stw (HF.out.more _).b (by omega)) (by omega)
theorem kw(p c h xn:Int)(s d k:Nat)(w:jz)(hs1:1<=s)(hs6:s<=6)(hx:Val (sq s) ⟨xn,d⟩)(hk1:1<=k)(hk9:k<=9):
  j0 qf 177 #[D #[l o p,l o c,l o h,l o s],D #[l o xn,l o d],l o k] w (RetE w (sclE (sq s) ⟨xn,d⟩ k)):=by
 have hx1: -1000000000000000000<=xn:=hx.1;have hx2:xn<=1000000000000000000:=hx.2.1
 refine jJ p c h xn s d k w hs1 hs6 hx hk1 (by omega) ?_
 have:=Int.mul_le_mul (show(xn.natAbs:Int)<=1000000000000000000 by omega) (show(k:Int)<=9 by omega) (by omega) (by omega)
 omega
theorem Tryz.infoR:(Tryz.prog.info? 37).map (fun i=>(i.zero,i.size,i.bytes))=some (some (D #[l o 0,l o 0]),2,16):=by kernel_rfl
def rollC(rs:List (Nat×Nat)):List Value:=rs.flatMap fun r=>[l o r.1,l o r.2]
theorem kQ(rs:List (Nat×Nat))(a b:Nat):rollC (rs++[(a,b)])=rollC rs++[l o a,l o b]:=by simp[rollC]
theorem rollC_get:∀(rs:List (Nat×Nat)) (k:Nat),k<rs.length->(rollC rs).getD (k*2) undef=l o (rs.getD k (0,0)).1/\(rollC rs).getD (k*2+1) undef=l o (rs.getD k (0,0)).2
 | [],k,h=>by simp at h
 |r::rs,0,_=>by simp[rollC]
 |r::rs,k+1,h=>by
   have:=rollC_get rs k (by simpa using h)
   have e:rollC (r::rs)=l o r.1::l o r.2::rollC rs:=rfl
   rw [e,show(k+1)*2=k*2+1+1 by omega,show k*2+1+1+1=(k*2+1)+1+1 by omega]
   simpa using this
def OwnR(w:jz)(base:Nat)(v:Value)(rs:List (Nat×Nat)):Prop:=w.ownsRow base 37 2 v rs.length (rollC rs)
def RL(S:Nat->Prop)(w:jz)(A:Option Addr)(n:Nat)(rs:List (Nat×Nat)):Prop:=rs.length=n/\SLZ 2 S w A n (rollC rs)
theorem OwnR.read{S:Nat->Prop}{w:jz}{base:Nat}{v:Value}{rs:List (Nat×Nat)}(h:OwnR w base v rs)(hS:∀k,base<=k->¬S k):∃A c,v= .slice A rs.length c/\RL S w A rs.length rs/\rs.length<=c:=by
 obtain⟨A,c,hv,hs,hc⟩:=aY (S:=S) h (fun k hk=>hS k (World.ownsRow.lt h k hk).1) (by omega)
 exact⟨A,c,hv,⟨rfl,hs⟩,hc⟩
theorem RL.frm{S:Nat->Prop}{w w':jz}{A:Option Addr}{n:Nat}{rs:List (Nat×Nat)}(h:RL S w A n rs)(hf:Frm S w w'):RL S w' A n rs:=⟨h.1,h.2.frm hf⟩
theorem RL.below{S:Nat->Prop}{w w':jz}{A:Option Addr}{n:Nat}{rs:List (Nat×Nat)}(h:RL S w A n rs)(hb:Below w.heap.size w w'):RL S w' A n rs:=h.frm (Frm.of_below' S hb)
theorem RL.at{S:Nat->Prop}{w:jz}{A:Option Addr}{n:Nat}{rs:List (Nat×Nat)}(h:RL S w A n rs){k:Nat}(hk:k<n):∃b off,A=some ⟨b,off,none⟩/\b<w.heap.size/\
  w.cell? ⟨b,off+k*2,none⟩=some (l o (rs.getD k (0,0)).1)/\w.cell? ⟨b,off+k*2+1,none⟩=some (l o (rs.getD k (0,0)).2):=by
 obtain⟨hl,_,hc⟩:=h
 obtain⟨b,off,hA,hlt,_,hcell⟩:=hc (by omega)
 obtain⟨e1,e2⟩:=rollC_get rs k (by omega)
 exact⟨b,off,hA,hlt,by rw[hcell _ (by omega),e1],by rw[Nat.add_assoc,hcell _ (by omega),e2]⟩
def RetR(w:jz)(rs:List (Nat×Nat))(e:Ending)(w':jz):Prop:=∃v,e=F v/\OwnR w' w.heap.size v rs/\Below w.heap.size w w'
theorem eO(w:jz)(a b:Int)(e:TypeId):∀j u,[Value.int o a,l o b][j]? =some u->(w.alloc (C #[l o a,l o b] e)).cell? ((⟨w.heap.size,0,none⟩:Addr).add j)=some u:=by
 intro j u hu
 rw[Addr.add_lit];have hj:j<2:=(List.getElem?_eq_some_iff.1 hu).1
 obtain rfl|rfl:j=0\/j=1:=by omega
 all_goals (simp at hu;subst hu;simp[go_sem])
theorem gE(a b:Int):∀u∈[Value.int o a,l o b],u.oneCell'=true:=fun u hu=>by
 simp at hu
 rcases hu with rfl|rfl<;>rfl
theorem cN{a:Nat}(h:a<=6):(ah a).length<=21:=by
 have h1:=bY a
 have h2:a*(a+1)<=6*7:=Nat.mul_le_mul h (by omega)
 omega
theorem eZ(p c h:Int)(s:Nat)(w:jz)(hs6:s<=6):
  j0 qf 143 #[D #[l o p,l o c,l o h,l o s]] w (RetR w (ah s)):=by
 obtain⟨i0,hi,hz0,hz1,hz2⟩:=info_parts Tryz.infoR
 have HF0:=h_ (((Fr.start w).allocT (by simp) #[l o p,l o c,l o h,l o s] 33))
 have HF:Hid (Fr w ((w.alloc (C #[l o p,l o c,l o h,l o s] 33)).alloc (C #[] 37)) [[l o p,l o c,l o h,l o s]]):=HF0.out.alloc _
 have HO:Hid (OwnR ((w.alloc (C #[l o p,l o c,l o h,l o s] 33)).alloc (C #[] 37)) (w.heap.size+1) (.slice (some ⟨w.heap.size+1,0,none⟩) 0 0) (ah 0)):=by
  have:=lQ (w.alloc (C #[l o p,l o c,l o h,l o s] 33)) (base:=w.heap.size+1) 37 (z:=2) (n:=0) #[] (by simp) (by unfold maxLen;omega) rfl
  show World.ownsRow _ _ _ 2 _ 0 []
  simpa using this
 clear HF0
 go_enter Tryz.func143,Tryz.ntmps143
 go_wp2_with (fail)
 go_loopw [3,4,5] (fun v va vb wr=>∃a:Nat,a<=s/\va=l o ((a:Int)+1)/\OwnR wr (w.heap.size+1) v (ah a)/\Fr w wr [[l o p,l o c,l o h,l o s]]) (fun _ va _ _=>s+1-(intOf va).toNat)
 case atStart=>exact⟨0,Nat.zero_le _,rfl,HO.out,HF.out⟩
 case round=>
  obtain⟨a,ha,rfl,hO,hF⟩:=hrel;have HOa:=h_ hO;have HFa:=h_ hF;clear hO hF
  have z0:=HFa.out.l0 (by simp)
  have c00:=HFa.out.c0 0 rfl;have f00:=HFa.out.f0 0 rfl;have c01:=HFa.out.c0 1 rfl;have f01:=HFa.out.f0 1 rfl;have c02:=HFa.out.c0 2 rfl;have f02:=HFa.out.f0 2 rfl;have c03:=HFa.out.c0 3 rfl;have f03:=HFa.out.f0 3 rfl
  by_cases hlt:a<s
  ·
   have hlti:(a:Int)+1<=(s:Int):=by omega
   have HL:=h_ (cN (a:=a) (by omega))
   go_wp2_with (fail)
   obtain⟨wo,rfl⟩:∃wo:jz,wo=wr:=⟨_,rfl⟩
   go_loopw [3,5] (fun v vb wi=>∃b:Nat,b<=a+1/\vb=l o ((b:Int)+1)/\OwnR wi (w.heap.size+1) v (ah a++rowN (a+1) b)/\Fr w wi [[l o p,l o c,l o h,l o s]]) (fun _ vb _=>a+2-(intOf vb).toNat)
   case atStart=>exact⟨0,Nat.zero_le _,rfl,by rw[show ah a++rowN (a+1) 0=ah a by simp[rowN]];exact HOa.out,HFa.out⟩
   case round=>
    clear z0 c00 c01 c02 c03 f00 f01 f02 f03;obtain⟨b,hb,rfl,hO,hF⟩:=hrel;have HOb:=h_ hO;have HFb:=h_ hF;clear hO hF
    have z0:=HFb.out.l0 (by simp)
    by_cases hbl:b<a+1
    ·
     have hbi:(b:Int)+1<=(a:Int)+1:=by omega
     have HLb:Hid ((ah a++rowN (a+1) b).length<=28):=by unfold Hid;rw[qa,ez];have:=HL.out;omega
     go_wp2_with (at_builtin;refine wpList_append_own _ rfl _ _ 76 rfl (w.heap.size+1) 37 i0 (D #[l o 0,l o 0]) 2 16 Tryz.underlying76 hi hz0 hz1 hz2 rfl (by decide) _ _ _ rfl (row_alloc HOb.out _) ⟨wr.heap.size,0,none⟩ 1 1 [l o ((a:Int)+1),l o ((b:Int)+1)] rfl rfl (eO _ _ _ _) (gE _ _) (by have:=HLb.out;unfold maxLen;omega) (by have:=HLb.out;omega) (by have:=HFb.out.z;simp at this;simp;omega) ?_;intro v' w1 hown hgrow _)
     have HF2:=h_ ((HFb.out.alloc _).grow hgrow (row_alloc HOb.out _) (by simp))
     have HO2:Hid (OwnR w1 (w.heap.size+1) v' (ah a++rowN (a+1) (b+1))):=by
      unfold Hid OwnR
      rw[show rowN (a+1) (b+1)=rowN (a+1) b++[(a+1,b+1)]from rfl,<-List.append_assoc,kQ,qa]
      exact hown
     clear hown hgrow
     go_wp2_with (fail)
     go_roundw
     case rel=>exact⟨b+1,by omega,by go_num,HO2.out,HF2.out⟩
     case measure=>simp[intOf];omega
    ·
     have hba:b=a+1:=by omega
     subst hba
     go_wp2_with (fail)
     go_roundw
     case rel=>exact⟨a+1,by omega,by go_num,HOb.out,HFb.out⟩
     case measure=>simp[intOf];omega
  ·
   have has:a=s:=by omega
   subst has
   have HR:Hid (RetR w (ah a) (F _) wr):=⟨_,rfl,aB HOa.out (by omega),HFa.out.b⟩
   go_wp2_with (fail)
   go_ret
   exact HR.out
theorem ja(p c h:Int)(s:Nat)(w:jz)(hv:isVar p c h s=true):
  j0 qf 139 #[D #[l o p,l o c,l o h,l o s]] w (RetR w (ah s)):=by
 obtain⟨i0,hi,hz0,hz1,hz2⟩:=info_parts Tryz.infoR
 have hs6:s<=6:=by have:=(aA hv).2.2.2.2.2.2.2;omega
 have HF0:=h_ (((Fr.start w).allocT (by simp) #[l o p,l o c,l o h,l o s] 33))
 have CV:Hid (∀W:jz,j0 qf 113 #[D #[l o p,l o c,l o h,l o s]] W fun e w'=>e=F (J true)/\Below W.heap.size W w'):=fun W=>by
  have:=aC p c h s W;rwa [hv]at this
 clear hv
 go_enter Tryz.func139,Tryz.ntmps139
 go_wp2_with (go_at_call 113;((with_reducible refine(more_first (CV.out _)).mono ?_);rintro e w' ⟨rfl,t,rfl⟩))
 have HF:=h_ (HF0.out.more t);have HO:Hid (OwnR (more (w.alloc (C #[l o p,l o c,l o h,l o s] 33)) t) (w.heap.size+1) (.slice none 0 0) (ah 0)):=World.ownsRow_nil _ _ _ _
 go_loopw [3,4,5] (fun v va vb wr=>∃a:Nat,a<=s/\va=l o ((a:Int)+1)/\OwnR wr (w.heap.size+1) v (ah a)/\Fr w wr [[l o p,l o c,l o h,l o s]]) (fun _ va _ _=>s+1-(intOf va).toNat)
 case atStart=>exact⟨0,Nat.zero_le _,rfl,HO.out,HF.out⟩
 case round=>
  obtain⟨a,ha,rfl,hO,hF⟩:=hrel;have HOa:=h_ hO;have HFa:=h_ hF;clear hO hF
  have z0:=HFa.out.l0 (by simp)
  have c00:=HFa.out.c0 0 rfl;have f00:=HFa.out.f0 0 rfl;have c01:=HFa.out.c0 1 rfl;have f01:=HFa.out.f0 1 rfl;have c02:=HFa.out.c0 2 rfl;have f02:=HFa.out.f0 2 rfl;have c03:=HFa.out.c0 3 rfl;have f03:=HFa.out.f0 3 rfl
  by_cases hlt:a<s
  ·
   have hlti:(a:Int)+1<=(s:Int):=by omega
   have HL:=h_ (cN (a:=a) (by omega))
   go_wp2_with (fail)
   obtain⟨wo,rfl⟩:∃wo:jz,wo=wr:=⟨_,rfl⟩
   go_loopw [3,5] (fun v vb wi=>∃b:Nat,b<=a+1/\vb=l o ((b:Int)+1)/\OwnR wi (w.heap.size+1) v (ah a++rowN (a+1) b)/\Fr w wi [[l o p,l o c,l o h,l o s]]) (fun _ vb _=>a+2-(intOf vb).toNat)
   case atStart=>exact⟨0,Nat.zero_le _,rfl,by rw[show ah a++rowN (a+1) 0=ah a by simp[rowN]];exact HOa.out,HFa.out⟩
   case round=>
    clear z0 c00 c01 c02 c03 f00 f01 f02 f03;obtain⟨b,hb,rfl,hO,hF⟩:=hrel;have HOb:=h_ hO;have HFb:=h_ hF;clear hO hF
    have z0:=HFb.out.l0 (by simp)
    by_cases hbl:b<a+1
    ·
     have hbi:(b:Int)+1<=(a:Int)+1:=by omega
     have HLb:Hid ((ah a++rowN (a+1) b).length<=28):=by unfold Hid;rw[qa,ez];have:=HL.out;omega
     go_wp2_with (at_builtin;refine wpList_append_own _ rfl _ _ 76 rfl (w.heap.size+1) 37 i0 (D #[l o 0,l o 0]) 2 16 Tryz.underlying76 hi hz0 hz1 hz2 rfl (by decide) _ _ _ rfl (row_alloc HOb.out _) ⟨wr.heap.size,0,none⟩ 1 1 [l o ((a:Int)+1),l o ((b:Int)+1)] rfl rfl (eO _ _ _ _) (gE _ _) (by have:=HLb.out;unfold maxLen;omega) (by have:=HLb.out;omega) (by have:=HFb.out.z;simp at this;simp;omega) ?_;intro v' w1 hown hgrow _)
     have HF2:=h_ ((HFb.out.alloc _).grow hgrow (row_alloc HOb.out _) (by simp))
     have HO2:Hid (OwnR w1 (w.heap.size+1) v' (ah a++rowN (a+1) (b+1))):=by
      unfold Hid OwnR
      rw[show rowN (a+1) (b+1)=rowN (a+1) b++[(a+1,b+1)]from rfl,<-List.append_assoc,kQ,qa]
      exact hown
     clear hown hgrow
     go_wp2_with (fail)
     go_roundw
     case rel=>exact⟨b+1,by omega,by go_num,HO2.out,HF2.out⟩
     case measure=>simp[intOf];omega
    ·
     have hba:b=a+1:=by omega
     subst hba
     go_wp2_with (fail)
     go_roundw
     case rel=>exact⟨a+1,by omega,by go_num,HOb.out,HFb.out⟩
     case measure=>simp[intOf];omega
  ·
   have has:a=s:=by omega
   subst has
   have HR:Hid (RetR w (ah a) (F _) wr):=⟨_,rfl,aB HOa.out (by omega),HFa.out.b⟩
   go_wp2_with (fail)
   go_ret
   exact HR.out
def wgt(r:Nat×Nat):Nat:=if r.1=r.2 then 1 else 2
theorem iB(r:Nat×Nat):(wgt r:Int)=aL r:=by unfold wgt aL;split<;>rfl
theorem wgt_bd(r:Nat×Nat):1<=wgt r/\wgt r<=2:=by unfold wgt;split<;>omega
theorem IsRoll_yes(p c h:Int)(s a b:Nat)(w:jz)(hv:isVar p c h s=true)(hb:1<=b)(hba:b<=a)(has:a<=s):
  j0 qf 70 #[D #[l o p,l o c,l o h,l o s],D #[l o a,l o b]] w fun e w'=>e=F (J true)/\Below w.heap.size w w':=by
 have CV:Hid (∀W:jz,j0 qf 113 #[D #[l o p,l o c,l o h,l o s]] W fun e w'=>e=F (J true)/\Below W.heap.size W w'):=fun W=>by
  have:=aC p c h s W;rwa [hv]at this
 have e1:=bz (x:=(a:Int)) (lo:=1) (hi:=s) (by omega)
 have e2:=bz (x:=(b:Int)) (lo:=1) (hi:=a) (by omega)
 have HB:Hid (Below w.heap.size w ((w.alloc (C #[l o p,l o c,l o h,l o s] 33)).alloc (C #[l o a,l o b] 37))):=alw ((Below.refl _ _).alloc (j2 _) _) (j2 _);clear hv
 go_enter Tryz.func70,Tryz.ntmps70
 go_wp2_with (first|(go_at_call 113;((with_reducible refine(more_first (CV.out _)).mono ?_);rintro e w' ⟨rfl,t,rfl⟩))|(go_at_call 138;refine(within_any _ _ _ _).mono ?_;rintro e w' ⟨rfl,rfl⟩))
 go_ret
 exact⟨rfl,blw HB.out (j2 _)⟩
theorem kD(p c h:Int)(s a b:Nat)(w:jz)(hv:isVar p c h s=true)(hb:1<=b)(hba:b<=a)(has:a<=s):
  j0 qf 178 #[D #[l o p,l o c,l o h,l o s],D #[l o a,l o b]] w fun e w'=>e=F (l o (wgt (a,b)))/\Below w.heap.size w w':=by
 have CR:=h_ fun(W:jz)=>IsRoll_yes p c h s a b W hv hb hba has
 have HB:Hid (Below w.heap.size w ((w.alloc (C #[l o p,l o c,l o h,l o s] 33)).alloc (C #[l o a,l o b] 37))):=alw ((Below.refl _ _).alloc (j2 _) _) (j2 _);clear hv
 by_cases hab:a=b
 focus
  have e1:((a:Int)==(b:Int))=true:=by simp[hab]
  have HW:Hid (wgt (a,b)=1):=if_pos hab;clear hab
  refine ?za
 rotate_left
 focus
  have e1:((a:Int)==(b:Int))=false:=by simp;omega
  have HW:Hid (wgt (a,b)=2):=if_neg hab;clear hab
  refine ?zb
 rotate_left
 case za|zb=>
  go_enter Tryz.func178,Tryz.ntmps178
  go_wp2_with (go_at_call 70;((with_reducible refine(more_first (CR.out _)).mono ?_);rintro e w' ⟨rfl,t,rfl⟩))
  go_ret
  exact⟨by rw[HW.out];rfl,blw HB.out (j2 _)⟩
def exC(xs:List E):List Value:=xs.flatMap fun x=>[l o x.num,l o x.depth]
theorem fF(xs:List E)(x:E):exC (xs++[x])=exC xs++[l o x.num,l o x.depth]:=by simp[exC]
theorem exC_get:∀(xs:List E) (k:Nat),k<xs.length->(exC xs).getD (k*2) undef=l o (xs.getD k ⟨0,0⟩).num/\(exC xs).getD (k*2+1) undef=l o (xs.getD k ⟨0,0⟩).depth
 | [],k,h=>by simp at h
 |r::rs,0,_=>by simp[exC]
 |r::rs,k+1,h=>by
   have:=exC_get rs k (by simpa using h)
   have e:exC (r::rs)=l o r.num::l o r.depth::exC rs:=rfl
   rw [e,show(k+1)*2=k*2+1+1 by omega,show k*2+1+1+1=(k*2+1)+1+1 by omega]
   simpa using this
theorem SLZ.spare{z:Nat}{S0 S:Nat->Prop}{w:jz}{A:Option Addr}{n:Nat}{cs:List Value}(h:SLZ z S0 w A n cs)(hS:∀b,b<w.heap.size->¬S b):SLZ z S w A n cs:=by
 refine⟨h.1,fun hn=>?_⟩
 obtain⟨b,off,hA,hlt,_,hc⟩:=h.2 hn
 exact⟨b,off,hA,hlt,hS b hlt,hc⟩
def EL(S:Nat->Prop)(w:jz)(A:Option Addr)(n:Nat)(xs:List E):Prop:=xs.length=n/\SLZ 2 S w A n (exC xs)
theorem EL.frm{S:Nat->Prop}{w w':jz}{A:Option Addr}{n:Nat}{xs:List E}(h:EL S w A n xs)(hf:Frm S w w'):EL S w' A n xs:=⟨h.1,h.2.frm hf⟩
theorem EL.below{S:Nat->Prop}{w w':jz}{A:Option Addr}{n:Nat}{xs:List E}(h:EL S w A n xs)(hb:Below w.heap.size w w'):EL S w' A n xs:=h.frm (Frm.of_below' S hb)
theorem EL.spare{S0 S:Nat->Prop}{w:jz}{A:Option Addr}{n:Nat}{xs:List E}(h:EL S0 w A n xs)(hS:∀b,b<w.heap.size->¬S b):EL S w A n xs:=⟨h.1,h.2.spare hS⟩
theorem EL.at{S:Nat->Prop}{w:jz}{A:Option Addr}{n:Nat}{xs:List E}(h:EL S w A n xs){k:Nat}(hk:k<n):∃b off,A=some ⟨b,off,none⟩/\b<w.heap.size/\
  w.cell? ⟨b,off+k*2,none⟩=some (l o (xs.getD k ⟨0,0⟩).num)/\w.cell? ⟨b,off+k*2+1,none⟩=some (l o (xs.getD k ⟨0,0⟩).depth):=by
 obtain⟨hl,_,hc⟩:=h
 obtain⟨b,off,hA,hlt,_,hcell⟩:=hc (by omega)
 obtain⟨e1,e2⟩:=exC_get xs k (by omega)
 exact⟨b,off,hA,hlt,by rw[hcell _ (by omega),e1],by rw[Nat.add_assoc,hcell _ (by omega),e2]⟩
theorem lr{rs:List (Nat×Nat)}{xs:List E}{k:Nat}(h:k<rs.length)(hl:xs.length=rs.length):(rs.zip xs).take (k+1)=(rs.zip xs).take k++[(rs.getD k (0,0),xs.getD k ⟨0,0⟩)]:=by
 have hz:k<(rs.zip xs).length:=by rw[List.length_zip];omega
 rw[List.take_succ_eq_append_getElem hz,List.getElem_zip]
 simp[List.getD,h,show k<xs.length by omega]
theorem sum_step{B:Int}{rs:List (Nat×Nat)}{xs:List E}{k:Nat}{t:E}(h:k<rs.length)(hl:xs.length=rs.length)(hs:sumE B ((rs.zip xs).take k)=some t):
  sumE B ((rs.zip xs).take (k+1))=(sclE B (xs.getD k ⟨0,0⟩) (aL (rs.getD k (0,0)))).bind fun y=>addE B t y:=by
 rw[lr h hl,gF,hs];rfl
theorem fp{B:Int}{rs:List (Nat×Nat)}{xs:List E}{k:Nat}(hs:sumE B ((rs.zip xs).take k)=none):meanE B rs xs=none:=by
 have e:rs.zip xs=(rs.zip xs).take k++(rs.zip xs).drop k:=(List.take_append_drop k _).symm;unfold meanE
 rw[e,sumE_none hs];rfl
theorem sum_end{B:Int}{rs:List (Nat×Nat)}{xs:List E}{t:E}(hl:xs.length=rs.length)(hs:sumE B ((rs.zip xs).take rs.length)=some t):meanE B rs xs=mk B t.num (t.depth+1):=by
 rw[List.take_of_length_le (by rw[List.length_zip];omega)]at hs
 unfold meanE
 rw[hs];rfl
theorem eD(p c h:Int)(s n c0:Nat)(A:Option Addr)(xs:List E)(w:jz)(hv:isVar p c h s=true)(hx:EL (fun _=>False) w A n xs)(hn:(ah s).length=n)(hval:∀x∈xs,Val (sq s) x):
  j0 qf 111 #[D #[l o p,l o c,l o h,l o s],.slice A n c0] w (RetE w (meanE (sq s) (ah s) xs)):=by
 have hv':=aA hv
 have hs1:1<=s:=by omega
 have hs6:s<=6:=by omega
 obtain⟨hq1,-,_⟩:=sq_bd hs1 hs6
 have hn21:n<=21:=by rw[<-hn];exact cN hs6
 have HF0:Hid (Fr w (((w.alloc (C #[l o p,l o c,l o h,l o s] 33)).alloc (C #[l o 0,l o 0] 45)).alloc (C #[l o 0,l o 0] 45)) [[l o p,l o c,l o h,l o s],[l o 0,l o 0],[l o 0,l o 0]]):=
  (((Fr.start w).allocT (by simp) _ _).allocT (by simp) _ _).allocT (by simp) _ _
 obtain⟨S,hS⟩:∃S:Nat->Prop,S=fun b=>w.heap.size<=b/\b<w.heap.size+3:=⟨_,rfl⟩
 have HE0:Hid (EL S w A n xs):=hx.spare fun b hb=>by rw[hS];show ¬(_/\_);omega
 have hxl:xs.length=n:=hx.1;have HV:=h_ hval;have HVV:=h_ hv;have HSS:=h_ hS;have HXL:=h_ hxl;clear hx hval hv hv' hS hxl
 go_enter Tryz.func111,Tryz.ntmps111
 go_wp2_with (fail)
 refine(ja p c h s _ HVV.out).mono ?_
 rintro e w1 ⟨v1,rfl,ho,hb⟩
 obtain⟨A1,c1,rfl,hR,_⟩:=ho.read (S:=S) (fun k hk=>by rw[HSS.out];simp at hk;show ¬(_/\_);omega)
 have HF1:=h_ (HF0.out.below hb);have HE1:Hid (EL S w1 A n xs):=HE0.out.below HF1.out.b
 have HR1:Hid (RL S w1 A1 n (ah s)):=by rw[hn]at hR;exact hR
 clear ho hb hR
 go_wp2_with (fail)
 go_loopw [16] (fun vi wr=>∃(k:Nat) (tn:Int) (td:Nat),k<=n/\vi=l o k/\Hid (sumE (sq s) (((ah s).zip xs).take k)=some ⟨tn,td⟩)/\Fr w wr [[l o p,l o c,l o h,l o s],[l o 0,l o 0],[l o tn,l o td]]/\Hid (RL S wr A1 n (ah s)/\EL S wr A n xs)) (fun vi _=>n-(intOf vi).toNat)
 case atStart=>exact⟨0,0,0,Nat.zero_le _,rfl,rfl,HF1.out,HR1.out,HE1.out⟩
 case round=>
  obtain⟨k,tn,td,hk,rfl,hsum,hF,hRE⟩:=hrel;have HFr:=h_ hF;clear hF;have ht:Val (sq s) ⟨tn,td⟩:=lG hq1 hsum.out;have htd:td<50:=bP hq1 ht;have HT:=h_ ht;have ht1: -1000000000000000000<=tn:=ht.1;have ht2:tn<=1000000000000000000:=ht.2.1;clear ht;have c00:=HFr.out.c0 0 rfl;have c01:=HFr.out.c0 1 rfl;have c02:=HFr.out.c0 2 rfl;have c03:=HFr.out.c0 3 rfl;have c20:=HFr.out.c2 0 rfl;have c21:=HFr.out.c2 1 rfl
  by_cases hlt:k<n
  focus
   have hki:(k:Int)<(n:Int):=by omega
   obtain⟨b1,off1,rfl,_,q1,q2⟩:=hRE.out.1.at hlt;obtain⟨b2,off2,rfl,_,q3,q4⟩:=hRE.out.2.at hlt
   have hst:=h_ (sum_step (k:=k) (by rw[hn];exact hlt) (by rw[hn];exact HXL.out) hsum.out)
   have hxv:Hid (Val (sq s) (xs.getD k ⟨0,0⟩)):=HV.out _ (ak xs _ (by rw[HXL.out];exact hlt))
   have hrr:Hid (1<=((ah s).getD k (0,0)).2/\((ah s).getD k (0,0)).2<=((ah s).getD k (0,0)).1/\((ah s).getD k (0,0)).1<=s):=bC.1 (ak _ _ (by rw[hn];exact hlt))
   generalize (ah s).getD k (0,0)=r at *;generalize xs.getD k ⟨0,0⟩=x at *;obtain⟨a,b⟩:=r;obtain⟨xn,xd⟩:=x;obtain⟨r1,r2,r3⟩:=hrr.out
   simp only at r1 r2 r3 q1 q2 q3 q4
   have RW:=h_ fun(W:jz)=>kD p c h s a b W HVV.out r1 r2 r3
   have SC0:=fun(W:jz)=>kw p c h xn s xd (wgt (a,b)) W hs1 hs6 hxv.out (wgt_bd _).1 (by have:=(wgt_bd (a,b)).2;omega)
   rw[iB]at SC0
   rcases hsc:sclE (sq s) ⟨xn,xd⟩ (aL (a,b))with _|⟨yn,yd⟩
   focus
    have HR:Hid (meanE (sq s) (ah s) xs=none):=fp (k:=k+1) (by rw[hst.out,hsc];rfl)
    have SC:Hid (∀W:jz,j0 qf 177 #[D #[l o p,l o c,l o h,l o s],D #[l o xn,l o xd],l o (wgt (a,b))] W fun e w'=>e=F (I #[D #[l o 0,l o 0],J false])/\Below W.heap.size W w'):=fun W=>by
     have:=SC0 W;rw[hsc,<-iB]at this;exact this
    clear SC0 hsc hst
    refine ?ze
   rotate_left
   focus
    have SC:Hid (∀W:jz,j0 qf 177 #[D #[l o p,l o c,l o h,l o s],D #[l o xn,l o xd],l o (wgt (a,b))] W fun e w'=>e=F (I #[D #[l o yn,l o yd],J true])/\Below W.heap.size W w'):=fun W=>by
     have:=SC0 W;rw[hsc,<-iB]at this;exact this
    have hyv:Val (sq s) ⟨yn,yd⟩:=jj hq1 hsc;clear SC0;rw[hsc]at hst
    refine ?zf
  rotate_left 2
  focus
   have hkn:k=n:=by omega
   subst hkn
   have hse:=sum_end (by rw[HXL.out,hn]) (by rw[hn];exact hsum.out)
   rcases hm:meanE (sq s) (ah s) xs with _|⟨m,d⟩
   focus
    have MK:Hid (∀W:jz,j0 qf 179 #[D #[l o p,l o c,l o h,l o s],l o tn,l o ((td:Int)+1)] W fun e w'=>e=F (I #[D #[l o 0,l o 0],J false])/\Below W.heap.size W w'):=fun W=>by
     have:=bF p c h tn s (td+1) W hs1 hs6 (by omega) (by omega) (by omega)
     rw[<-show meanE (sq s) (ah s) xs=mk (sq s) tn (td+1)from hse,hm]at this;exact this
    refine ?zg
   rotate_left
   focus
    have MK:Hid (∀W:jz,j0 qf 179 #[D #[l o p,l o c,l o h,l o s],l o tn,l o ((td:Int)+1)] W fun e w'=>e=F (I #[D #[l o m,l o d],J true])/\Below W.heap.size W w'):=fun W=>by
     have:=bF p c h tn s (td+1) W hs1 hs6 (by omega) (by omega) (by omega)
     rw[<-show meanE (sq s) (ah s) xs=mk (sq s) tn (td+1)from hse,hm]at this;exact this
    refine ?zh
  rotate_left 2
  case' ze|zf=>
   go_wp2_with (fail)
   have HF:=h_ (HFr.out.alloc (C #[l o a,l o b] 37))
   have qr1:(wr.alloc (C #[l o a,l o b] 37)).cell? ⟨wr.heap.size,0,none⟩=some (l o a):=by simp[go_sem]
   have qr2:(wr.alloc (C #[l o a,l o b] 37)).cell? ⟨wr.heap.size,1,none⟩=some (l o b):=by simp[go_sem]
  case' ze=>
   have hbW:=h_ ((Below.refl wr.heap.size wr).alloc (j2 _) (C #[l o a,l o b] 37));replace q3:=ae q3 hbW.out;replace q4:=ae q4 hbW.out;clear q1 q2;clear c00 c01 c02 c03 c20 c21;generalize wr.alloc (C #[l o a,l o b] 37)=W at *;generalize hrb:wr.heap.size=rb at *
  case' zf=>
   have hbW:=h_ ((Below.refl wr.heap.size wr).alloc (j2 _) (C #[l o a,l o b] 37));replace q3:=ae q3 hbW.out;replace q4:=ae q4 hbW.out;clear q1 q2;clear c00 c01 c02 c03 c20 c21;generalize wr.alloc (C #[l o a,l o b] 37)=W at *;generalize hrb:wr.heap.size=rb at *;have hrb:=h_ hrb
  case' ze|zf=>
   refine aQ 12 11 9 _ _ (C #[l o 0,l o 0] 45) (by kernel_rfl) (by kernel_rfl) rfl rfl rfl (fun _ _=>by kernel_rfl) rfl (bc _ _ _ _ rfl rfl) (fun _ _ _ _ h=>h) (by kernel_rfl) ?_
   apply Exists.intro
   refine⟨fun X hX=>?_,fun t1 t2=>?_⟩
   ·have hXb:Below W.heap.size W X:=by obtain⟨t0,rfl⟩:=hX;exact aa W t0
    have HX:Hid (Fr w X [[l o p,l o c,l o h,l o s],[l o 0,l o 0],[l o tn,l o td]]):=HF.out.below hXb;have y1:X.cell? ⟨rb,0,none⟩=some (l o a):=ae qr1 hXb;have y2:X.cell? ⟨rb,1,none⟩=some (l o b):=ae qr2 hXb;have y3:X.cell? ⟨b2,off2+k*2,none⟩=some (l o xn):=ae q3 hXb;have y4:X.cell? ⟨b2,off2+k*2+1,none⟩=some (l o xd):=ae q4 hXb;have y5:b2<X.heap.size:=World.block_lt_of_cell? X _ y3;have y6:rb<X.heap.size:=World.block_lt_of_cell? X _ y1;clear hX hXb
    have z0:=HX.out.l0 (by simp)
    have c00:=HX.out.c0 0 rfl;have c01:=HX.out.c0 1 rfl;have c02:=HX.out.c0 2 rfl;have c03:=HX.out.c0 3 rfl
    simp only[qd,qe]
    repeat (first|go_big_quiet_step (first|(go_at_call 178;exact more_call (RW.out _))|(go_at_call 177;exact more_call (SC.out _)))|quiet_step (first|(go_at_call 178;exact more_call (RW.out _))|(go_at_call 177;exact more_call (SC.out _))))
    exact wpQuiet_nil rfl
   simp only[qb,qc,Act.put]
   have HU:Hid (Fr w (more ((more W t1).alloc (C #[l o 0,l o 0] 45)) t2) [[l o p,l o c,l o h,l o s],[l o 0,l o 0],[l o tn,l o td]]):=((HF.out.more t1).alloc _).more t2;have x0:=aW W t1 t2 #[l o 0,l o 0] 45 0 rfl;have x1:=aW W t1 t2 #[l o 0,l o 0] 45 1 rfl;have x0':=aV W t1 t2 #[l o 0,l o 0] 45 0;have x1':=aV W t1 t2 #[l o 0,l o 0] 45 1;have xz:=fT W t1 t2 (C #[l o 0,l o 0] 45);have xb:=(HF.out.more t1).z;have xw:=h_ (eo W t1 t2 (C #[l o 0,l o 0] 45));have xbw:=ai W t1
   simp only[List.length_cons,List.length_nil]at xb
  case ze=>
   generalize more ((more W t1).alloc (C #[l o 0,l o 0] 45)) t2=U at *;generalize (more W t1).heap.size=bb at *;have c10:=HU.out.c1 0 rfl;have f10:=HU.out.f1 0 rfl;have c11:=HU.out.c1 1 rfl;have f11:=HU.out.f1 1 rfl
   go_wp2_with (fail)
   refine j1 (v:=I #[D #[l o 0,l o 0],J false]) (by simp[results,Tryz.results111,go_sem,c10,c11,f10,f11,x0,x1,x0',x1',xz]) rfl (RetE.mkN HR.out ?_)
   repeat (first|exact HU.out.b|refine stw ?_ (by omega))
  case' zf=>
   generalize more ((more W t1).alloc (C #[l o 0,l o 0] 45)) t2=U at *;generalize (more W t1).heap.size=bb at *;have c00:=HU.out.c0 0 rfl;have c01:=HU.out.c0 1 rfl;have c02:=HU.out.c0 2 rfl;have c03:=HU.out.c0 3 rfl;have c20:=HU.out.c2 0 rfl;have c21:=HU.out.c2 1 rfl
   rcases hadd:addE (sq s) ⟨tn,td⟩ ⟨yn,yd⟩with _|⟨un,ud⟩
   focus
    have HR:Hid (meanE (sq s) (ah s) xs=none):=fp (k:=k+1) (by rw[hst.out];exact hadd)
    have AD:Hid (∀W:jz,j0 qf 147 #[D #[l o p,l o c,l o h,l o s],D #[l o tn,l o td],D #[l o yn,l o yd]] W fun e w'=>e=F (I #[D #[l o 0,l o 0],J false])/\Below W.heap.size W w'):=fun W=>by
     have:=dK p c h tn yn s td yd W hs1 hs6 HT.out hyv;rw[hadd]at this;exact this
    refine ?zc
   rotate_left
   focus
    have HR:Hid (sumE (sq s) (((ah s).zip xs).take (k+1))=some ⟨un,ud⟩):=by rw[hst.out];exact hadd
    have AD:Hid (∀W:jz,j0 qf 147 #[D #[l o p,l o c,l o h,l o s],D #[l o tn,l o td],D #[l o yn,l o yd]] W fun e w'=>e=F (I #[D #[l o un,l o ud],J true])/\Below W.heap.size W w'):=fun W=>by
     have:=dK p c h tn yn s td yd W hs1 hs6 HT.out hyv;rw[hadd]at this;exact this
    refine ?zd
  case' zc|zd=>
   go_wp2_with (fail)
   have HU2:Hid (Fr w ((U.setCell ⟨bb,0,none⟩ (l o yn)).setCell ⟨bb,1,none⟩ (l o yd)) [[l o p,l o c,l o h,l o s],[l o 0,l o 0],[l o tn,l o td]]):=(HU.out.setOut (by simp only[List.length_cons,List.length_nil];omega)).setOut (by simp only[List.length_cons,List.length_nil];omega)
   have xw2:=h_ (stw (v:=l o yd) (i:=1) (stw (v:=l o yn) (i:=0) xw.out xbw) xbw);clear HU x0 x1 x0' x1' xz xw;clear c00 c01 c02 c03 c20 c21;generalize (U.setCell ⟨bb,0,none⟩ (l o yn)).setCell ⟨bb,1,none⟩ (l o yd)=U2 at *
   refine(more_first (AD.out _)).mono ?_
   rintro e w' ⟨rfl,t,rfl⟩
   have HZ:=h_ (HU2.out.more t);have xw3:=h_ (blw (t:=t) xw2.out (j2 _));clear HU2 xw2;generalize more U2 t=Z at *
  case zd=>
   have z2:=HZ.out.l2 (by simp)
   have c20:=HZ.out.c2 0 rfl;have f20:=HZ.out.f2 0 rfl;have c21:=HZ.out.c2 1 rfl;have f21:=HZ.out.f2 1 rfl
   go_wp2_with (fail)
   have hF0:Frm S wr Z:=Frm.of_below' S (by have h1:=hbW.out;rw[<-hrb.out]at h1;exact h1.trans (xw3.out.mono h1.size))
   have hF1:Frm S wr ((Z.setCell ⟨w.heap.size+1+1,0,none⟩ (l o un)).setCell ⟨w.heap.size+1+1,1,none⟩ (l o ud)):=
    (hF0.trans ((Frm.set _ _ _ _).mono (fun q hq=>by rw[HSS.out];subst hq;show _/\_;omega))).trans ((Frm.set _ _ _ _).mono (fun q hq=>by rw[HSS.out];subst hq;show _/\_;omega))
   have hF2:=hF1.alloc (C #[l o un,l o ud] 45)
   refine⟨⟨k+1,un,ud,by omega,by simp,HR,?_,⟨hRE.out.1.frm hF2,hRE.out.2.frm hF2⟩⟩,by simp[intOf];omega⟩
   exact((HZ.out.set 2 0 rfl rfl _).set 2 1 rfl rfl _).alloc _
  case' zg|zh=>
   go_wp2_with (fail)
   refine(more_first (MK.out _)).mono ?_
   rintro e w' ⟨rfl,t,rfl⟩
   have HZ:=h_ (HFr.out.more t);clear c00 c01 c02 c03 c20 c21;generalize more wr t=Z at *;have c10:=HZ.out.c1 0 rfl;have f10:=HZ.out.f1 0 rfl;have c11:=HZ.out.c1 1 rfl;have f11:=HZ.out.f1 1 rfl
   go_wp2_with (fail)
  case' zc=>
   have z1:=HZ.out.l1 (by simp)
   have c10:=HZ.out.c1 0 rfl;have f10:=HZ.out.f1 0 rfl;have c11:=HZ.out.c1 1 rfl;have f11:=HZ.out.f1 1 rfl
   go_wp2_with (fail)
   refine j1 (v:=I #[D #[l o 0,l o 0],J false]) (by simp[results,Tryz.results111,go_sem,c10,c11,z1,f10,f11]) rfl (RetE.mkN HR.out ?_)
  case' zg=>
   refine j1 (v:=I #[D #[l o 0,l o 0],J false]) (by simp[results,Tryz.results111,go_sem,c10,c11,f10,f11]) rfl (RetE.mkN hm ?_)
  case' zh=>
   refine j1 (v:=I #[D #[l o m,l o d],J true]) (by simp[results,Tryz.results111,go_sem,c10,c11,f10,f11]) rfl (RetE.mkY hm ?_)
  case zc|zg|zh=>
   repeat (first|exact HZ.out.b|refine stw ?_ (by omega)|refine alw ?_ (by omega))
end Go.Proofs.YtcmeoenkgmghkaaGreat

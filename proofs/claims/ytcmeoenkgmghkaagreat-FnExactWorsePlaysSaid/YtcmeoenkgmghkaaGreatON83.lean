/- Part of one proof. There are no conditions. -/
import Derived.Test.YtcmeoenkgmghkaaGreatON42
import Derived.Test.YtcmeoenkgmghkaaGreatON81
set_option maxHeartbeats 0
set_option linter.unusedVariables false
set_option linter.unusedSimpArgs false
set_option maxRecDepth 100000
open Go.Value renaming int->D,slice->U,pointer->j2,bool->qa,agg->qb,tuple->qc
open Go.IntKind renaming i64->F
open Go.Obj renaming cells->J
open Go.Ending renaming returned->qd
open Go renaming execOp->qe,undef->qf,World->qg,Value->qh,Calls->qi,bodyPost_ret->qj
open Go.Act renaming eval->qk
open Nat renaming le_refl->ql,le_trans->qm,lt_of_lt_of_le->qn
open Go.RowKit.Below renaming refl->qo
open List renaming take_of_length_le->qp,length_append->qq,drop_succ_cons->qs,drop_zero->qt,take_succ_cons->qu,take_zero->qv,getD_eq_getElem?_getD->qx,getElem?_eq_none->qy
open Go.Proofs.Tryz renaming prog->qw
namespace Go.Proofs.YtcmeoenkgmghkaaGreat
open Go.RowKit Ps Ra Ex
def digs(B:Int)(x:E)(k:Nat):List Int:=(List.range k).map (dig B x)
theorem digs_len(B:Int)(x:E)(k:Nat):(digs B x k).length=k:=by simp[digs]
theorem digs_succ(B:Int)(x:E)(k:Nat):digs B x (k+1)=digs B x k++[dig B x k]:=by simp[digs,List.range_succ]
theorem digs_get(B:Int)(x:E){i k:Nat}(h:i<k):(digs B x k).getD i 0=dig B x i:=by simp[digs,List.getD,h]
theorem digs_low{B:Int}(hB:1<=B){x:E}{i:Nat}:(digs B x (x.depth+1)).getD i 0=dig B x i:=by
 by_cases h:i<x.depth+1
 ·exact digs_get B x h
 ·rw[mw hB (by omega)];simp[digs,List.getD,qy,h]
theorem whole_neg{n m:Int}(hm:1<=m)(h:n.tmod m<0):n.tdiv m-1=n/m/\n.tmod m+m=n%m:=by
 have e1:=Int.tdiv_eq_ediv (a:=n) (b:=m);have e2:=Int.tmod_eq_emod (a:=n) (b:=m)
 have h0:=Int.emod_nonneg n (show m≠0 by omega)
 rw[e2]at h
 by_cases hc:0<=n\/m∣n
 ·rw[if_pos hc]at h;omega
 ·rw[if_neg hc]at e1 e2
  have:m.sign=1:=Int.sign_eq_one_of_pos (by omega)
  have:(m.natAbs:Int)=m:=by omega
  omega
theorem whole_pos{n m:Int}(hm:1<=m)(h:0<=n.tmod m):n.tdiv m=n/m/\n.tmod m=n%m:=by
 have e1:=Int.tdiv_eq_ediv (a:=n) (b:=m);have e2:=Int.tmod_eq_emod (a:=n) (b:=m)
 have h1:=Int.emod_lt_of_pos n (show 0<m by omega)
 by_cases hc:0<=n\/m∣n
 ·rw[if_pos hc]at e1 e2;omega
 ·rw[if_neg hc]at e1 e2
  have:(m.natAbs:Int)=m:=by omega
  omega
theorem i5(p c h n:Int)(s d:Nat)(w:qg)(hs1:1<=s)(hs6:s<=6)(hx:Val (sq s) ⟨n,d⟩):
  qi qw 148 #[qb #[D F p,D F c,D F h,D F s],qb #[D F n,D F d]] w (RetO w 2 (digs (sq s) ⟨n,d⟩ (d+1))):=by
 obtain⟨hq1,hq36,_⟩:=sq_bd hs1 hs6;obtain⟨i0,hi,hz0,hz1,hz2⟩:=info_parts Tryz.infoI;have hd50:d<50:=bP hq1 hx;have hx1: -1000000000000000000<=n:=hx.1;have hx2:n<=1000000000000000000:=hx.2.1;have hp2:pw (sq s) d<=1000000000000000:=hx.2.2.1;have hp1:=az hq1 d
 have C:=fun(W:qg)=>bf p c h s d W hs1 hs6 (by omega)
 rw[(aX hp2).1,(aX hp2).2]at C;have CS:=h_ C
 have CB:=h_ fun(W:qg)=>eF p c h s W hs6
 have HF0:Hid (Fr w ((w.alloc (J #[D F p,D F c,D F h,D F s] 33)).alloc (J #[D F n,D F d] 45)) [[D F p,D F c,D F h,D F s],[D F n,D F d]]):=
  ((Fr.start w).allocT (by simp) _ _).allocT (by simp) _ _
 have hdm:Hid (∀j,dig (sq s) ⟨n,d⟩ 0=n/pw (sq s) d\/j<0):=fun j=>.inl (by show flo _ _ 0=_;rw[flo_low hq1 (by omega)];simp)
 clear C hx
 have t0:=Int.tmod_lt_of_pos n (show 0<pw (sq s) d by omega)
 have t1:=Int.lt_tmod_of_pos n (show 0<pw (sq s) d by omega)
 have t2: -1000000000000000000<=n.tdiv (pw (sq s) d)/\n.tdiv (pw (sq s) d)<=1000000000000000000:=by
  have h1:=Int.natAbs_tdiv n (pw (sq s) d);have h2:n.natAbs.div (pw (sq s) d).natAbs<=n.natAbs:=Nat.div_le_self _ _;rw[<-h1]at h2
  omega
 obtain⟨t2,t3⟩:=t2
 by_cases hneg:n.tmod (pw (sq s) d)<0
 focus
  obtain⟨e1,e2⟩:=whole_neg hp1 hneg
  have hwh:Hid ([n.tdiv (pw (sq s) d)-1]=digs (sq s) ⟨n,d⟩ 1):=by
   show _=[dig (sq s) ⟨n,d⟩ 0]
   rw[(hdm.out 0).resolve_right (by omega),e1]
  refine ?zc
 rotate_left
 focus
  obtain⟨e1,e2⟩:=whole_pos hp1 (Int.not_lt.1 hneg)
  have hwh:Hid ([n.tdiv (pw (sq s) d)]=digs (sq s) ⟨n,d⟩ 1):=by
   show _=[dig (sq s) ⟨n,d⟩ 0]
   rw[(hdm.out 0).resolve_right (by omega),e1]
  refine ?zd
 rotate_left
 case' zc|zd=>
  have hrs:=h_ e2;clear e1 e2
  go_enter Tryz.func148,Tryz.ntmps148
  go_wp2_with (go_at_call 145;((with_reducible refine(more_first (CS.out _)).mono ?_);rintro e w' ⟨rfl,t,rfl⟩))
 case' zc=>
  have HF:=h_ (HF0.out.more t);generalize more _ t=W at HF ⊢;generalize n.tdiv (pw (sq s) d)-1=wh at *;generalize n.tmod (pw (sq s) d)+pw (sq s) d=rs at *
 case' zd=>
  have HF:=h_ (HF0.out.more t);generalize more _ t=W at HF ⊢;generalize n.tdiv (pw (sq s) d)=wh at *;generalize n.tmod (pw (sq s) d)=rs at *
 case zc|zd=>
  have HO0:=h_ (OwnS.made W (base:=w.heap.size+2) 2 (digs (sq s) ⟨n,d⟩ 1) #[D F wh] (digs_len _ _ _) (by rw[<-hwh.out];rfl) (HF.out.z) (by unfold maxLen;omega))
  have HF1:=h_ (HF.out.alloc (J #[D F wh] 2))
  go_loopw [5,8,9,10] (fun sc rest out i wr=>∃k:Nat,k<=d/\i=D F k/\sc=D F (pw (sq s) (d-k))/\rest=D F (n%pw (sq s) (d-k))/\OwnS wr (w.heap.size+2) 2 out (digs (sq s) ⟨n,d⟩ (k+1))/\Fr w wr [[D F p,D F c,D F h,D F s],[D F n,D F d]]) (fun _ _ _ i _=>d-(intOf i).toNat)
  case atStart=>exact⟨0,Nat.zero_le _,rfl,rfl,by rw[Nat.sub_zero,<-hrs.out],HO0.out,HF1.out⟩
  case round=>
   obtain⟨k,hk,rfl,rfl,rfl,hO,hF⟩:=hrel;have HOr:=h_ hO;have HFr:=h_ hF;clear hO hF;have c00:=HFr.out.c0 0 rfl;have c01:=HFr.out.c0 1 rfl;have c02:=HFr.out.c0 2 rfl;have c03:=HFr.out.c0 3 rfl;have c11:=HFr.out.c1 1 rfl
   by_cases hlt:k<d
   ·have hki:(k:Int)<(d:Int):=by omega
    have hS:Hid (pw (sq s) (d-k)=pw (sq s) (d-(k+1))*sq s):=by rw[Hid,<-bK];congr 1;omega
    have hD:Hid (n%pw (sq s) (d-k)/pw (sq s) (d-(k+1))=dig (sq s) ⟨n,d⟩ (k+1)):=dig_low hq1 (x:=⟨n,d⟩) hlt
    have hM:Hid (n%pw (sq s) (d-k)%pw (sq s) (d-(k+1))=n%pw (sq s) (d-(k+1))):=by
     rw[Hid,hS.out,Int.emod_emod_of_dvd _ (Int.dvd_mul_right _ _)]
    have p1:=az hq1 (d-(k+1));have p0:=az hq1 (d-k)
    have p2:pw (sq s) (d-k)<=1000000000000000:=Int.le_trans (bV hq1 (by omega)) hp2
    have r0:=Int.emod_nonneg n (show pw (sq s) (d-k)≠0 by omega)
    have r1:=Int.emod_lt_of_pos n (show 0<pw (sq s) (d-k) by omega)
    obtain⟨S1,hS1⟩:∃S1,pw (sq s) (d-(k+1))=S1:=⟨_,rfl⟩;rw[hS1]at hS hD hM p1;have HS1:=h_ hS1;clear hS1;generalize n%pw (sq s) (d-k)=r at *;generalize pw (sq s) (d-k)=S0 at *
    have hq:S0/sq s=S1:=by rw[hS.out];exact Int.mul_ediv_cancel _ (by omega)
    go_wp2_with (first|(go_at_call 186;((with_reducible refine(more_first (CB.out _)).mono ?_);rintro e w' ⟨rfl,t,rfl⟩))|(at_builtin;refine wpList_append_own _ rfl _ _ 24 rfl (w.heap.size+2) 2 i0 (D F 0) 1 8 Tryz.underlying24 hi hz0 hz1 hz2 rfl (by decide) _ _ _ rfl (row_alloc (row_more HOr.out t) _) ⟨(more wr t).heap.size,0,none⟩ 1 1 [D F (r/S1)] rfl rfl (one_new _ _ _) (int_cell _) (by rw[digs_len];unfold maxLen;omega) (by rw[digs_len];omega) (by have:=(HFr.out.more t).z;simp at this;simp;omega) ?_;intro v' w1 hown hgrow _))
    have HF2:=h_ (((HFr.out.more t).alloc _).grow hgrow (row_alloc (row_more HOr.out t) _) (by simp))
    have HO2:Hid (OwnS w1 (w.heap.size+2) 2 v' (digs (sq s) ⟨n,d⟩ (k+1+1))):=by
     unfold Hid OwnS;rw[digs_succ _ _ (k+1),<-hD.out,qq,List.map_append]
     exact hown
    clear hown hgrow
    go_wp2_with (fail)
    go_roundw
    case rel=>exact⟨k+1,by omega,by go_num,by rw[HS1.out],by rw[HS1.out,hM.out],HO2.out,HF2.out⟩
    case measure=>simp[intOf];omega
   ·have hkd:k=d:=by omega
    subst hkd
    have HR:Hid (∀v,OwnS wr (w.heap.size+2) 2 v (digs (sq s) ⟨n,k⟩ (k+1))->RetO w 2 (digs (sq s) ⟨n,k⟩ (k+1)) (qd v) wr):=fun v hv=>RetO.mk (hv.mono (by omega)) HFr.out.b
    go_wp2_with (fail)
    go_ret
    exact HR.out _ HOr.out
theorem cQ(p c h xn yn:Int)(s xd yd:Nat)(w:qg)(hs1:1<=s)(hs6:s<=6)(hx:Val (sq s) ⟨xn,xd⟩)(hy:Val (sq s) ⟨yn,yd⟩):
  qi qw 77 #[qb #[D F p,D F c,D F h,D F s],qb #[D F xn,D F xd],qb #[D F yn,D F yd]] w fun e w'=>e=qd (D F (cmpE (sq s) ⟨xn,xd⟩ ⟨yn,yd⟩))/\Below w.heap.size w w':=by
 obtain⟨hq1,-,_⟩:=sq_bd hs1 hs6;have hxd:xd<50:=bP hq1 hx;have hyd:yd<50:=bP hq1 hy
 have CX:=h_ fun(W:qg)=>i5 p c h xn s xd W hs1 hs6 hx
 have CY:=h_ fun(W:qg)=>i5 p c h yn s yd W hs1 hs6 hy
 have HX:=h_ fun i=>digs_low hq1 (x:=⟨xn,xd⟩) (i:=i)
 have HY:=h_ fun i=>digs_low hq1 (x:=⟨yn,yd⟩) (i:=i)
 have lx:=digs_len (sq s) ⟨xn,xd⟩ (xd+1);have ly:=digs_len (sq s) ⟨yn,yd⟩ (yd+1)
 have HF0:Hid (Fr w (((w.alloc (J #[D F p,D F c,D F h,D F s] 33)).alloc (J #[D F xn,D F xd] 45)).alloc (J #[D F yn,D F yd] 45)) [[D F p,D F c,D F h,D F s],[D F xn,D F xd],[D F yn,D F yd]]):=
  (((Fr.start w).allocT (by simp) _ _).allocT (by simp) _ _).allocT (by simp) _ _
 clear hx hy
 go_enter Tryz.func77,Tryz.ntmps77
 go_wp2_with (fail)
 refine(CX.out _).mono ?_
 rintro e w1 ⟨A1,c1,rfl,ho1,hb1⟩
 have HF1:=h_ (HF0.out.below hb1);have HO1:=h_ ho1;clear ho1 hb1;have c00:=HF1.out.c0 0 rfl;have c01:=HF1.out.c0 1 rfl;have c02:=HF1.out.c0 2 rfl;have c03:=HF1.out.c0 3 rfl;have c20:=HF1.out.c2 0 rfl;have c21:=HF1.out.c2 1 rfl
 go_wp2_with (fail)
 refine(CY.out _).mono ?_
 rintro e w2 ⟨A2,c2,rfl,ho2,hb2⟩
 have HF2:=h_ (HF1.out.below hb2);have HS1:=h_ ((HO1.out.below hb2).sl rfl).1;have HS2:=h_ (ho2.sl rfl).1;clear ho2 hb2 HO1;clear HF1 c00 c01 c02 c03 c20 c21
 go_wp2_with (fail)
 go_loop [9] (fun v=>∃k:Nat,v=D F k/\k<=max xd yd+1/\Hid (∀i,i<k->flo (sq s) ⟨xn,xd⟩ i=flo (sq s) ⟨yn,yd⟩ i)) (fun v=>max xd yd+1-(intOf v).toNat)
 case atStart=>exact⟨0,rfl,by omega,fun i hi=>absurd hi (by omega)⟩
 case round=>
  obtain⟨k,rfl,hk,hall⟩:=hrel
  have hk51:k<=51:=by omega
  by_cases h1:k<xd+1
  focus
   have h1i:(k:Int)<(xd:Int)+1:=by omega
   obtain⟨b1,off1,rfl,_,hc1⟩:=HS1.out.2 (by rw[lx];omega)
   have q1:=hc1 k (by rw[lx];exact h1)
   have HP:Hid ((digs (sq s) ⟨xn,xd⟩ (xd+1)).getD k 0=dig (sq s) ⟨xn,xd⟩ k):=HX.out k;clear hc1
   by_cases h2:k<yd+1
   focus
    refine ?zj
   rotate_left
   focus
    have h2i:¬(k:Int)<(yd:Int)+1:=by omega
    have HQ:Hid ((0:Int)=dig (sq s) ⟨yn,yd⟩ k):=(mw hq1 (by show yd<k;omega)).symm
    generalize (digs (sq s) ⟨xn,xd⟩ (xd+1)).getD k 0=P at *
    by_cases hlt:(P:Int)<0
    focus
     refine ?ze
    rotate_left
    focus
     by_cases hgt:(0:Int)<P
     focus
      refine ?zh
     rotate_left
     focus
      refine ?zb
  rotate_left 4
  focus
   have h1i:¬(k:Int)<(xd:Int)+1:=by omega
   have HP:Hid ((0:Int)=dig (sq s) ⟨xn,xd⟩ k):=(mw hq1 (by show xd<k;omega)).symm
   by_cases h2:k<yd+1
   focus
    refine ?zk
   rotate_left
   focus
    have h2i:¬(k:Int)<(yd:Int)+1:=by omega
    have HC:Hid (cmpE (sq s) ⟨xn,xd⟩ ⟨yn,yd⟩=0):=cmp_eq hq1 (j:=max xd yd) (Nat.le_max_left _ _) (Nat.le_max_right _ _) (hall.out _ (by omega))
    refine ?zl
  rotate_left 2
  case' zj|zk=>
   have h2i:(k:Int)<(yd:Int)+1:=by omega
   obtain⟨b2,off2,rfl,_,hc2⟩:=HS2.out.2 (by rw[ly];omega)
   have q2:=hc2 k (by rw[ly];exact h2)
  case' zj=>
   have HQ:Hid ((digs (sq s) ⟨yn,yd⟩ (yd+1)).getD k 0=dig (sq s) ⟨yn,yd⟩ k):=HY.out k;clear hc2;generalize (digs (sq s) ⟨xn,xd⟩ (xd+1)).getD k 0=P at *;generalize (digs (sq s) ⟨yn,yd⟩ (yd+1)).getD k 0=Q at *
   by_cases hlt:(P:Int)<Q
   focus
    refine ?zd
   rotate_left
   focus
    by_cases hgt:(Q:Int)<P
    focus
     refine ?zg
    rotate_left
    focus
     refine ?za
  case' zk=>
   have HQ:Hid ((digs (sq s) ⟨yn,yd⟩ (yd+1)).getD k 0=dig (sq s) ⟨yn,yd⟩ k):=HY.out k;clear hc2;generalize (digs (sq s) ⟨yn,yd⟩ (yd+1)).getD k 0=Q at *
   by_cases hlt:(0:Int)<Q
   focus
    refine ?zf
   rotate_left
   focus
    by_cases hgt:(Q:Int)<0
    focus
     refine ?zi
    rotate_left
    focus
     refine ?zc
  case za|zb|zc=>
   have hall':Hid (∀i,i<k+1->flo (sq s) ⟨xn,xd⟩ i=flo (sq s) ⟨yn,yd⟩ i):=dig_eq hall.out (by rw[<-HP.out,<-HQ.out];omega)
   have hk':k+1<=max xd yd+1:=by omega
   go_wp2_with (fail)
   go_round
   case rel=>exact⟨k+1,by go_num,hk',hall'⟩
   case measure=>simp[intOf];omega
  case' zd|ze|zf=>
   have HC:Hid (cmpE (sq s) ⟨xn,xd⟩ ⟨yn,yd⟩= -1):=dig_lt hq1 hall.out (by rw[<-HP.out,<-HQ.out];exact hlt)
  case' zg|zh|zi=>
   have HC:Hid (cmpE (sq s) ⟨xn,xd⟩ ⟨yn,yd⟩=1):=dig_gt hq1 hall.out (by rw[<-HP.out,<-HQ.out];exact hgt)
  case zl|zd|ze|zf|zg|zh|zi=>
   go_wp2_with (fail)
   go_ret
   exact⟨by rw[HC.out];rfl,HF2.out.b⟩
def RetB2(t:RT2)(w:qg)(o:Option (Nat×Nat×E))(e:Ending)(w':qg):Prop:=
 TabI t w'/\Frm t.S w w'/\match o with
  |none=>e=qd (qc #[D F 0,qb #[D F 0,D F 0],qa false])
  |some (_,a,x)=>e=qd (qc #[D F (a:Int),qb #[D F x.num,D F (x.depth:Int)],qa true])
theorem l12Best_any(t:RT2)(ht:t.Ok){other:List Int}(L:List (List Int))(hL:∀q∈L,PosP t.h t.c q)(haft:∀q∈L,AftC t q other)(A B:Option Addr)(n cl cb:Nat)(w:qg)(hn:n<=1000000)
  (hI:TabI t w) (hpl:PL t.S w A n L) (hB:SQ t.S w B t.h other) (hcb:t.h<=cb):
  qi qw 163 #[j2 (some ⟨t.bt,0,none⟩),U A n cl,U B t.h cb] w (RetB2 t w (bestS (sq t.s) (sec t.s other) L)):=by
 have hv:=aA ht.v
 have hs1:1<=t.s:=by omega
 have hs6:t.s<=6:=by omega
 obtain⟨hq1,-,_⟩:=sq_bd hs1 hs6;have hlow:=hI.ltS
 have HNS:Hid (∀j,¬t.S (w.heap.size+j)):=fun j h=>by have:=hlow _ h;omega
 have HNB:Hid (∀j,t.bt≠w.heap.size+j):=fun j h=>by have:=hI.ltB;omega
 have HF0:Hid (FrS t.S w ((w.alloc (J #[D F 0,D F 0] 45)).alloc (J #[D F 0,D F 0] 45)) [[D F 0,D F 0],[D F 0,D F 0]]):=((FrS.start w hlow).allocT (by simp) _ _).allocT (by simp) _ _
 have HI0:Hid (TabI t ((w.alloc (J #[D F 0,D F 0] 45)).alloc (J #[D F 0,D F 0] 45))):=(hI.alloc _).alloc _;have HPL:=h_ hpl;have HNL:=h_ hpl.len;have HBB:=h_ hB;have HLP:=h_ hL;have HAFT:=h_ haft
 have HSV:=h_ fun(q:List Int) (x:E) (h:sec t.s other q=some x)=>sec_val hq1 h
 have HST:Hid (bestS (sq t.s) (sec t.s other) (L.take 0)=some (0,0,⟨0,0⟩)):=rfl;clear hI hpl hB hL haft hv hlow ht
 go_enter Tryz.func163,Tryz.ntmps163
 go_wp2_with (fail)
 go_loopw [9,11] (fun v9 v11 wr=>∃(k a:Nat) (xn:Int) (xd:Nat),k<=n/\v11=D F k/\v9=D F a/\Hid (bestS (sq t.s) (sec t.s other) (L.take k)=some (k,a,⟨xn,xd⟩))/\Hid (FrS t.S w wr [[D F 0,D F 0],[D F xn,D F (xd:Int)]])/\Hid (TabI t wr)) (fun _ v11 _=>n-(intOf v11).toNat)
 case atStart=>exact⟨0,0,0,0,by omega,rfl,rfl,HST.out,HF0.out,HI0.out⟩
 case round=>
  clear HF0 HI0 HST;obtain⟨k,a,xn,xd,hk,rfl,rfl,hbs,HF,HI⟩:=hrel
  by_cases hlt:k<n
  focus
   have hki:(k:Int)<(n:Int):=by omega
   obtain⟨bl,ol,Bq,mq,cq,rfl,hzl,hcq,hsq,hmq⟩:=(HPL.out.frm HF.out.f).at hlt
   have hmem:=ak L [] (k:=k) (by rw[HNL.out];exact hlt)
   have hqp:=HLP.out _ hmem
   have hmh:t.h=mq:=by rw[<-hsq.1.1];exact hqp.1.symm
   subst hmh;have CAF:=h_ (HAFT.out _ hmem Bq B cq cb wr HI.out hsq hmq (HBB.out.frm HF.out.f) hcb)
   have HLL:Hid (k<L.length):=by unfold Hid;rw[HNL.out];exact hlt
   have ha9:a<=1000000:=by
    have:=bestS_count hbs.out
    rcases this.2 with h|h
    ·simp only at h;omega
    ·have h3:=hbs.out
     rw[h,fh]at h3;injection h3 with h3;injection h3 with _ h3;injection h3 with h3 _
     omega
   rcases hso:sec t.s other (L.getD k [])with _|⟨yn,yd⟩
   focus
    have HR:Hid (bestS (sq t.s) (sec t.s other) L=none):=lk HLL.out hbs.out hso
    refine ?zh
   rotate_left
   focus
    have HYV:Hid (Val (sq t.s) ⟨yn,yd⟩):=HSV.out _ _ hso
    have HXV:Hid (Val (sq t.s) ⟨xn,xd⟩):=kj hq1 HSV.out hbs.out
    have HGO:Hid (k=0\/ltE (sq t.s) ⟨xn,xd⟩ ⟨yn,yd⟩=true->bestS (sq t.s) (sec t.s other) (L.take (k+1))=some (k+1,k,⟨yn,yd⟩)):=fun h=>bestS_go HLL.out hbs.out hso h
    have HKP:Hid (k≠0->ltE (sq t.s) ⟨xn,xd⟩ ⟨yn,yd⟩=false->bestS (sq t.s) (sec t.s other) (L.take (k+1))=some (k+1,a,⟨xn,xd⟩)):=fun h1 h2=>ll HLL.out hbs.out hso h1 h2
    refine ?zg
  rotate_left 2
  focus
   have hke:k=n:=by omega
   have HR:Hid (bestS (sq t.s) (sec t.s other) L=some (k,a,⟨xn,xd⟩)):=by
    have h:=hbs.out
    rwa [qp (by rw[HNL.out];omega)]at h
   have z1:=HF.out.l1 (by simp)
   have c10:=HF.out.c1 0 rfl;have c11:=HF.out.c1 1 rfl
   go_wp2_with (fail)
   first|refine am 3 (by kernel_rfl) (by kernel_rfl) ?_|refine an 3 (by kernel_rfl) (by kernel_rfl) ?_
   simp only[qu,qv,qs,qt]
   repeat (first|go_big_quiet_step (fail)|quiet_step (fail))
   refine wpQuiet_nil ?_
   intro _ hw'
   obtain⟨tr,hw''⟩:=hw';subst hw'';clear z1 c10 c11;have HF2:=h_ (HF.out.more tr);have HI2:=h_ (HI.out.more tr);clear HF HI;generalize more wr tr=Y at *;have c00:=HF2.out.c0 0 rfl;have f00:=HF2.out.f0 0 rfl;have c01:=HF2.out.c0 1 rfl;have f01:=HF2.out.f0 1 rfl
   go_wp2_with (fail)
   refine qj (v:=qc #[D F (a:Int),qb #[D F xn,D F (xd:Int)],qa true]) (by simp[results,Tryz.results163,go_sem,c00,c01,f00,f01]) rfl ?_
   refine ?ze
  rotate_left
  case' zg|zh=>
   rw[hso]at CAF;clear hqp hsq hso hmem
   go_wp2_with (fail)
   refine CAF.out.mono ?_
   rintro e w2 ⟨rfl,hI2,hf2⟩
  case' zg=>
   have HF2:Hid (FrS t.S w (w2.alloc (J #[D F yn,D F (yd:Int)] 45)) [[D F 0,D F 0],[D F xn,D F (xd:Int)]]):=(HF.out.frm hf2).alloc _;have HI2:Hid (TabI t (w2.alloc (J #[D F yn,D F (yd:Int)] 45))):=hI2.alloc _
   have g0:(w2.alloc (J #[D F yn,D F (yd:Int)] 45)).cell? ⟨w2.heap.size,0,none⟩=some (D F yn):=by simp[go_sem]
   have g1:(w2.alloc (J #[D F yn,D F (yd:Int)] 45)).cell? ⟨w2.heap.size,1,none⟩=some (D F (yd:Int)):=by simp[go_sem]
   have gz:w2.heap.size<(w2.alloc (J #[D F yn,D F (yd:Int)] 45)).heap.size:=by simp
   unfold exV
   simp only[Option.getD_some,Option.isSome_some]
   have e0:=HI2.out.tb 0 _ rfl;have e1:=HI2.out.tb 1 _ rfl;have e2:=HI2.out.tb 2 _ rfl;have e3:=HI2.out.tb 3 _ rfl;have hbt:=HI2.out.ltB;clear hI2 hf2 HF HI CAF
   by_cases hk0:k=0
   focus
    have HR:=h_ (HGO.out (.inl hk0))
    have b0:((k:Int)==0)=true:=by simp[hk0]
    clear hk0 HGO HKP
    refine ?zi
   rotate_left
   focus
    have b0:((k:Int)==0)=false:=by simp[hk0]
    have COMP:=h_ fun(W:qg)=>cQ t.p t.c t.h yn xn t.s yd xd W hs1 hs6 HYV.out HXV.out
    have HCS:Hid ((0<cmpE (sq t.s) ⟨yn,yd⟩ ⟨xn,xd⟩)=(ltE (sq t.s) ⟨xn,xd⟩ ⟨yn,yd⟩=true)):=cmp_swap;have hcb1:=cmp_bd (sq t.s) ⟨yn,yd⟩ ⟨xn,xd⟩;generalize cmpE (sq t.s) ⟨yn,yd⟩ ⟨xn,xd⟩=cm at *
    by_cases hcm:0<cm
    focus
     have HR:=h_ (HGO.out (.inr (by rw[<-HCS.out];exact hcm)))
     refine ?zc
    rotate_left
    focus
     have HR:=h_ (HKP.out hk0 (by
      cases hl:ltE (sq t.s) ⟨xn,xd⟩ ⟨yn,yd⟩with
      |false=>rfl
      |true=>exact absurd (by rw[HCS.out];exact hl) hcm))
     refine ?zd
  case' zh=>
   have HF2:=h_ (HF.out.frm hf2);have HI2:=h_ hI2;unfold exV
   simp only[Option.getD_none,Option.isSome_none]
   clear hI2 hf2 HF HI CAF
   have z0:=HF2.out.l0 (by simp)
   have c00:=HF2.out.c0 0 rfl;have f00:=HF2.out.f0 0 rfl;have c01:=HF2.out.c0 1 rfl;have f01:=HF2.out.f0 1 rfl
   go_wp2_with (fail)
   refine qj (v:=qc #[D F 0,qb #[D F 0,D F 0],qa false]) (by simp[results,Tryz.results163,go_sem,c00,c01,z0,f00,f01]) rfl ?_
  case ze|zh=>
   rw[HR.out]
   refine⟨?_,?_,rfl⟩
   ·repeat (first|exact HI2.out|refine TabI.alloc ?_ _|refine TabI.stored ?_ _ (HNS.out 0) (HNB.out 0))
   ·repeat (first|exact HF2.out.f|refine Frm.alloc ?_ _|refine Frm.ownSet ?_ (by omega) _)
  case' zc|zd=>
   clear HGO HKP
  case' zi|zc|zd=>
   go_wp2_with (fail)
   generalize w2.alloc (J #[D F yn,D F (yd:Int)] 45)=W2 at *
  case' zi=>
   first|refine ag (by kernel_rfl) (by kernel_rfl) ?_|refine ac (by kernel_rfl) (by kernel_rfl) ?_
   repeat (first|go_big_quiet_step (fail)|quiet_step (fail))
   refine wpQuiet_nil ?_
   intro _ hw'
   obtain⟨tr,hw''⟩:=hw';subst hw'';have HF3:=h_ (HF2.out.more tr);have HI3:=h_ (HI2.out.more tr);have k0:=ae g0 (aa _ tr);have k1:=ae g1 (aa _ tr);have kz:=qn gz (ai _ tr);clear HF2 HI2 g0 g1 gz e0 e1 e2 e3 hbt;generalize more W2 tr=Z at *;have c10:=HF3.out.c1 0 rfl;have f10:=HF3.out.f1 0 rfl;have c11:=HF3.out.c1 1 rfl;have f11:=HF3.out.f1 1 rfl
  case' zc|zd=>
   have z1:=HF2.out.l1 (by simp)
   have c10:=HF2.out.c1 0 rfl;have c11:=HF2.out.c1 1 rfl
   first|refine ag (by kernel_rfl) (by kernel_rfl) ?_|refine ac (by kernel_rfl) (by kernel_rfl) ?_
   repeat (first|go_big_quiet_step ((go_at_call 77;exact more_call (COMP.out _)))|quiet_step ((go_at_call 77;exact more_call (COMP.out _))))
   refine wpQuiet_nil ?_
   intro _ hw'
  case' zc=>
   obtain⟨tr,hw''⟩:=hw';subst hw'';clear z1 c10 c11;have HF3:=h_ (HF2.out.more tr);have HI3:=h_ (HI2.out.more tr);have k0:=ae g0 (aa _ tr);have k1:=ae g1 (aa _ tr);have kz:=qn gz (ai _ tr);clear HF2 HI2 g0 g1 gz e0 e1 e2 e3 hbt;generalize more W2 tr=Z at *;have c10:=HF3.out.c1 0 rfl;have f10:=HF3.out.f1 0 rfl;have c11:=HF3.out.c1 1 rfl;have f11:=HF3.out.f1 1 rfl
  case zc|zi=>
   go_wp2_with (fail)
   clear c10 f10 c11 f11;have HF5:Hid (FrS t.S w ((Z.setCell ⟨w.heap.size+1,0,none⟩ (D F yn)).setCell ⟨w.heap.size+1,1,none⟩ (D F (yd:Int))) [[D F 0,D F 0],[D F yn,D F (yd:Int)]]):=(HF3.out.set 1 0 rfl rfl _).set 1 1 rfl rfl _;have HI5:Hid (TabI t ((Z.setCell ⟨w.heap.size+1,0,none⟩ (D F yn)).setCell ⟨w.heap.size+1,1,none⟩ (D F (yd:Int)))):=(HI3.out.stored _ (HNS.out 1) (HNB.out 1)).stored _ (HNS.out 1) (HNB.out 1)
   go_roundw
   case rel=>exact⟨k+1,k,yn,yd,by omega,by go_num,rfl,HR.out,HF5.out,HI5.out⟩
   case measure=>(simp[intOf])<;>omega
  case zd=>
   obtain⟨tr,hw''⟩:=hw';subst hw'';clear z1 c10 c11;have HF3:=h_ (HF2.out.more tr);have HI3:=h_ (HI2.out.more tr);have k0:=ae g0 (aa _ tr);have k1:=ae g1 (aa _ tr);have kz:=qn gz (ai _ tr);clear HF2 HI2 g0 g1 gz e0 e1 e2 e3 hbt;generalize more W2 tr=Z at *
   go_wp2_with (fail)
   go_roundw
   case rel=>exact⟨k+1,a,xn,xd,by omega,by go_num,rfl,HR.out,HF3.out,HI3.out⟩
   case measure=>(simp[intOf])<;>omega
open Go.RowKit Ps
theorem sl_lit(W:qg)(xs:List Int)(e:TypeId):SL (W.alloc (J (xs.map (Value.int F)).toArray e)) (some ⟨W.heap.size,0,none⟩) xs.length xs:=by
 refine⟨rfl,fun hn=>⟨W.heap.size,0,rfl,by simp,fun i hi=>?_⟩⟩
 rw[Nat.zero_add]
 simp[go_sem,List.getD,hi]
theorem ky(S:Nat->Prop)(vp vc vh vs:Int)(A:Option Addr)(n c a b:Nat)(p:List Int)(w:qg)(hx:SL w A n p)(hc:n<=c)(hp:PosP n 15 p)(hn:n<=24)(hn0:0<n)(hb1:1<=b)(hba:b<=a)(ha6:a<=6)(hS:∀k,w.heap.size<=k->¬S k):
  qi qw 164 #[qb #[D F vp,D F vc,D F vh,D F vs],U A n c,qb #[D F a,D F b]] w (RetL S w (resultsL p a b)):=by
 have HF:Hid (Fr w ((w.alloc (J #[D F vp,D F vc,D F vh,D F vs] 33)).alloc (J #[D F a,D F b] 37)) [[D F vp,D F vc,D F vh,D F vs],[D F a,D F b]]):=
  ((Fr.start w).allocT (by simp) _ _).allocT (by simp) _ _
 have HX:=h_ hx;have HP:=h_ hp;have HSS:=h_ hS;clear hx hp hS
 by_cases hab:a=b
 ·subst hab
  obtain⟨m,hm,hu⟩:=iC (d:=a) (by omega) 4 HP.out
  have CW:Hid (∀(W:qg) (k:Nat),Below w.heap.size w W->W.heap.size=k->qi qw 200 #[U A n c,U (some ⟨k,0,none⟩) 4 4] (W.alloc (J #[D F a,D F a,D F a,D F a] 2)) (RetW S (W.alloc (J #[D F a,D F a,D F a,D F a] 2)) (sortU (reach [a,a,a,a] p)) m)):=fun W k hW hk=>by
   subst hk;have hW2:Below w.heap.size w (W.alloc (J #[D F a,D F a,D F a,D F a] 2)):=hW.alloc hW.size _
   exact eE [a,a,a,a] (fun e he=>by simp at he;omega) (by simp) S p m A n c (some ⟨W.heap.size,0,none⟩) 4 _ (HX.out.below hW2) hc HP.out hn hn0 (sl_lit W [(a:Int),a,a,a] _) (by simp) hu (by omega) (fun k hk=>HSS.out k (qm hW2.size hk))
  have HBW:Hid (Below w.heap.size w ((w.alloc (J #[D F vp,D F vc,D F vh,D F vs] 33)).alloc (J #[D F a,D F a] 37))):=HF.out.b;clear hm hu
  go_enter Tryz.func164,Tryz.ntmps164
  go_wp2_with (go_at_call 200;(with_reducible refine(CW.out _ _ (by exact HBW.out) (by simp)).mono ?_);rintro e w1 ⟨b1,o1,n1,c1,rfl,hpl1,hc1,hb1⟩)
  go_ret
  rw[<-res_eq (by omega) HP.out]
  exact⟨b1,o1,n1,c1,rfl,hpl1,hc1,HBW.out.trans ((Below.alloc (qo _ _) (ql _) _ |>.trans (hb1.mono (by simp))).mono HBW.out.size)⟩
 ·have b0:((a:Int)==(b:Int))=false:=by simp;omega
  have hu1:=cntP_uni (b:=b) (show 1<=a by omega) HP.out
  have hu2:=cntP_uni (b:=a) (show 1<=b by omega) HP.out
  have hN1:cntP a p<=2:=by unfold cntP;split;omega;split<;>omega
  have hN2:cntP b p<=2:=by unfold cntP;split;omega;split<;>omega
  have HL:=h_ (fun h=>res_less (a:=a) (b:=b) (by omega) hb1 HP.out hab h)
  have HM:=h_ (fun h=>res_more (a:=a) (b:=b) (by omega) hb1 HP.out hab h)
  have HE:=h_ (res_both (a:=a) (b:=b) (by omega) hb1 HP.out hab)
  generalize cntP a p=N1 at *;generalize cntP b p=N2 at *
  have CW1:Hid (∀(W:qg) (k:Nat),Below w.heap.size w W->W.heap.size=k->qi qw 200 #[U A n c,U (some ⟨k,0,none⟩) 2 2] (W.alloc (J #[D F a,D F b] 2)) (RetW S (W.alloc (J #[D F a,D F b] 2)) (sortU (reach [a,b] p)) N1)):=fun W k hW hk=>by
   subst hk;have hW2:Below w.heap.size w (W.alloc (J #[D F a,D F b] 2)):=hW.alloc hW.size _
   exact eE [a,b] (fun e he=>by simp at he;omega) (by simp) S p N1 A n c (some ⟨W.heap.size,0,none⟩) 2 _ (HX.out.below hW2) hc HP.out hn hn0 (sl_lit W [(a:Int),b] _) (by simp) hu1 (by omega) (fun k hk=>HSS.out k (qm hW2.size hk))
  have CW2:Hid (∀(W:qg) (k:Nat),Below w.heap.size w W->W.heap.size=k->qi qw 200 #[U A n c,U (some ⟨k,0,none⟩) 2 2] (W.alloc (J #[D F b,D F a] 2)) (RetW S (W.alloc (J #[D F b,D F a] 2)) (sortU (reach [b,a] p)) N2)):=fun W k hW hk=>by
   subst hk;have hW2:Below w.heap.size w (W.alloc (J #[D F b,D F a] 2)):=hW.alloc hW.size _
   exact eE [b,a] (fun e he=>by simp at he;omega) (by simp) S p N2 A n c (some ⟨W.heap.size,0,none⟩) 2 _ (HX.out.below hW2) hc HP.out hn hn0 (sl_lit W [(b:Int),a] _) (by simp) hu2 (by omega) (fun k hk=>HSS.out k (qm hW2.size hk))
  clear hu1 hu2
  rcases Nat.lt_trichotomy N1 N2 with hlt|heq|hgt
  ·have b1:decide ((N1:Int)<(N2:Int))=true:=decide_eq_true (by omega)
   have HR:Hid (sortU (reach [b,a] p)=resultsL p a b):=HL.out hlt
   go_enter Tryz.func164,Tryz.ntmps164
   go_wp2_with (first
    | (go_at_call 200
       (with_reducible refine(CW1.out _ _ (by exact HF.out.b) (by simp)).mono ?_)
       rintro e w1 ⟨b1',o1,n1,c1,rfl,hpl1,hc1,hbb⟩
       have HF1:Hid (Fr w w1 [[D F vp,D F vc,D F vh,D F vs],[D F a,D F b]]):=(HF.out.alloc _).below hbb;clear CW1 hpl1 hbb;have c10:=HF1.out.c1 0 rfl;have c11:=HF1.out.c1 1 rfl
       )
    | (go_at_call 200
       (with_reducible refine(CW2.out _ _ (by exact HF1.out.b) (by simp)).mono ?_)
       rintro e w2 ⟨b2,o2,n2,c2,rfl,hpl2,hc2,hbb⟩
       have HP2:=h_ hpl2
       have hba2:Below w1.heap.size w1 w2:=((qo _ _).alloc (ql _) _).trans (hbb.mono (by simp))
       have HB2:Hid (Below w.heap.size w w2):=HF1.out.b.trans (hba2.mono HF1.out.b.size)
       clear hpl2 hbb hba2))
   go_ret
   rw[<-HR.out]
   exact⟨b2,o2,n2,c2,rfl,HP2.out,hc2,HB2.out⟩
  ·have heq:=h_ heq
   have HR:Hid (bH (sortU (reach [a,b] p)) (sortU (reach [b,a] p))=resultsL p a b):=HE.out
   have hda:∀e∈[a,b],1<=e:=fun e he=>by simp at he;omega
   have hdb:∀e∈[b,a],1<=e:=fun e he=>by simp at he;omega
   have P1:Hid (∀x∈reach [a,b] p,PosP n 15 x):=fun x hx=>(bE hda HP.out x hx).1
   have P2:Hid (∀x∈reach [b,a] p,PosP n 15 x):=fun x hx=>(bE hdb HP.out x hx).1
   have W1:=h_ (aP (bB hda HP.out));have W2:=h_ (aP (bB hdb HP.out))
   have hr1:=qm (bU _) (cC (ds:=[a,b]) (p:=p) (by simp) (by rw[HP.out.1];exact hn))
   have hr2:=qm (bU _) (cC (ds:=[b,a]) (p:=p) (by simp) (by rw[HP.out.1];exact hn))
   have HR1:=h_ hr1;have HR2:=h_ hr2;clear hda hdb hr1 hr2 HL HM HE
   go_enter Tryz.func164,Tryz.ntmps164
   go_wp2_with (first
    | (go_at_call 200
       (with_reducible refine(CW1.out _ _ (by exact HF.out.b) (by simp)).mono ?_)
       rintro e w1 ⟨b1',o1,n1,c1,rfl,hpl1,hc1,hbb⟩
       have HF1:Hid (Fr w w1 [[D F vp,D F vc,D F vh,D F vs],[D F a,D F b]]):=(HF.out.alloc _).below hbb;have HP1:=h_ hpl1;clear CW1 hpl1 hbb;have c10:=HF1.out.c1 0 rfl;have c11:=HF1.out.c1 1 rfl
       )
    | (go_at_call 200
       (with_reducible refine(CW2.out _ _ (by exact HF1.out.b) (by simp)).mono ?_)
       rintro e w2 ⟨b2,o2,n2,c2,rfl,hpl2,hc2,hbb⟩
       have HP2:=h_ hpl2
       have hba2:Below w1.heap.size w1 w2:=((qo _ _).alloc (ql _) _).trans (hbb.mono (by simp))
       have HP3:Hid (PL S w2 (some ⟨b1',o1,none⟩) n1 (sortU (reach [a,b] p))):=HP1.out.below hba2;have HB2:Hid (Below w.heap.size w w2):=HF1.out.b.trans (hba2.mono HF1.out.b.size)
       clear hpl2 hbb hba2))
   generalize sortU (reach [a,b] p)=L1 at *;generalize sortU (reach [b,a] p)=L2 at *
   have hn2:n2<=331776:=by rw[<-HP2.out.len];exact HR2.out
   go_loopw [9,13] (fun vb vk wi=>∃k:Nat,k<=n2/\vk=D F k/\∃(b7 o7 n7 c7:Nat),vb=U (some ⟨b7,o7,none⟩) n7 c7/\n7<=c7/\Hid (PL S wi (some ⟨b7,o7,none⟩) n7 (bH L1 (L2.take k)))/\Hid (Below w2.heap.size w2 wi)) (fun _ vk _=>n2-(intOf vk).toNat)
   case atStart=>exact⟨0,Nat.zero_le _,rfl,b1',o1,n1,c1,rfl,hc1,by unfold Hid;rw[qv,cI];exact HP3.out,qo _ _⟩
   case round=>
    obtain⟨k,hk,rfl,b7,o7,n7,c7,rfl,hnc7,HP7,HB7⟩:=hrel
    by_cases hkn:k<n2
    ·have hkk:(k:Int)<(n2:Int):=by omega
     obtain⟨b9',o9',Br,mr,cr,hA,hz9,hcell9,hsr,hmr⟩:=(HP2.out.below HB7.out).at hkn;injection hA with hA;injection hA with hA1 hA2;subst hA1 hA2;have hlen9:=HP2.out.len
     have hrm:=ak L2 ([]:List Int) (k:=k) (by omega)
     have htk:Hid (L2.take (k+1)=L2.take k++[L2.getD k []]):=by
      unfold Hid
      rw[List.take_succ_eq_append_getElem (by omega)]
      simp[List.getD,show k<L2.length by omega]
     have hrp:PosP n 15 (L2.getD k []):=P2.out _ ((W2.out.2.2 _).1 hrm)
     have hps:∀x∈bH L1 (L2.take k),PosP n 15 x:=fun x hx=>by
      rcases((dq W1.out.1 (fun y hy=>W2.out.1 y (List.mem_of_mem_take hy)) W1.out.2.1).2.2 x).1 hx with h|h
      ·exact P1.out x ((W1.out.2.2 x).1 h)
      ·exact P2.out x ((W2.out.2.2 x).1 (List.mem_of_mem_take h))
     have hn7:n7<=1000000:=by
      rw[<-HP7.out.len];have h1:=de L1 (L2.take k)
      have h3:(L2.take k).length<=L2.length:=by rw[List.length_take];omega
      have h4:=HR1.out
      omega
     generalize L2.getD k []=r at *
     have hrn:n=mr:=by rw[<-hsr.1.1];exact hrp.1.symm
     subst hrn
     have CP:=h_ (ec S b7 o7 n7 c7 _ Br n cr r wr (fun j hj=>HSS.out j (by have h1:=HB7.out.size;have h2:=HB2.out.size;omega)) HP7.out hnc7 hn7 hsr hmr hn hrp hps)
     clear hps hrp hsr hlen9 hrm
     go_wp2_with (go_at_call 201;((with_reducible refine CP.out.mono ?_);rintro e w5 ⟨b5,o5,n5,c5,rfl,hpl5,hc5,hb5⟩))
     go_roundw
     case rel=>exact⟨k+1,by omega,by go_num,b5,o5,n5,c5,rfl,hc5,by unfold Hid;rw[htk.out,cH];exact hpl5,HB7.out.trans (hb5.mono HB7.out.size)⟩
     case measure=>(simp[intOf])<;>omega
    ·have hkl:k=n2:=by omega
     subst hkl
     have HPe:Hid (PL S wr (some ⟨b7,o7,none⟩) n7 (bH L1 L2)):=by
      have h:=HP7.out
      rw[qp (by rw[HP2.out.len];exact ql _)]at h
      exact h
     go_wp2_with (fail)
     go_ret
     rw[<-HR.out]
     exact⟨b7,o7,n7,c7,rfl,HPe.out,hnc7,HB2.out.trans (HB7.out.mono HB2.out.size)⟩
  ·have b1:decide ((N1:Int)<(N2:Int))=false:=decide_eq_false (by omega)
   have b2:((N2:Int)==(N1:Int))=false:=by simp;omega
   have HR:Hid (sortU (reach [a,b] p)=resultsL p a b):=HM.out hgt
   go_enter Tryz.func164,Tryz.ntmps164
   go_wp2_with (first
    | (go_at_call 200
       (with_reducible refine(CW1.out _ _ (by exact HF.out.b) (by simp)).mono ?_)
       rintro e w1 ⟨b1',o1,n1,c1,rfl,hpl1,hc1,hbb⟩
       have HF1:Hid (Fr w w1 [[D F vp,D F vc,D F vh,D F vs],[D F a,D F b]]):=(HF.out.alloc _).below hbb;have HP1:=h_ hpl1;clear CW1 hpl1 hbb;have c10:=HF1.out.c1 0 rfl;have c11:=HF1.out.c1 1 rfl
       )
    | (go_at_call 200
       (with_reducible refine(CW2.out _ _ (by exact HF1.out.b) (by simp)).mono ?_)
       rintro e w2 ⟨b2,o2,n2,c2,rfl,hpl2,hc2,hbb⟩
       have hba2:Below w1.heap.size w1 w2:=((qo _ _).alloc (ql _) _).trans (hbb.mono (by simp))
       have HP3:Hid (PL S w2 (some ⟨b1',o1,none⟩) n1 (sortU (reach [a,b] p))):=HP1.out.below hba2;have HB2:Hid (Below w.heap.size w w2):=HF1.out.b.trans (hba2.mono HF1.out.b.size)
       clear hpl2 hbb hba2))
   go_loopw [9,13] (fun vb vk wi=>vb=U (some ⟨b1',o1,none⟩) n1 c1/\vk=D F 0/\Hid (wi=w2)) (fun _ _ _=>0)
   case atStart=>exact⟨rfl,rfl,rfl⟩
   case round=>
    obtain⟨rfl,rfl,hw⟩:=hrel
    by_cases hn2:0<n2
    ·have hn2':(0:Int)<(n2:Int):=by omega
     go_wp2_with (fail)
     go_ret
     rw[<-HR.out,hw.out]
     exact⟨b1',o1,n1,c1,rfl,HP3.out,hc1,HB2.out⟩
    ·have hn2':¬(0:Int)<(n2:Int):=by omega
     go_wp2_with (fail)
     go_ret
     rw[<-HR.out,hw.out]
     exact⟨b1',o1,n1,c1,rfl,HP3.out,hc1,HB2.out⟩
theorem Frm.outs{S O:Nat->Prop}{w wr w2:qg}(h:Frm S w wr)(hf:Frm O wr w2)(hO:∀k,O k->w.heap.size<=k):Frm S w w2:=
 ⟨hf.os.trans h.os,hf.tape.trans h.tape,hf.output.trans h.output,qm h.size hf.size,fun k hk hn=>(hf.block k (qn hk h.size) fun ho=>by have:=hO k ho;omega).trans (h.block k hk hn)⟩
def v13d(i:Nat):Nat:=if i<=12 then 70+i else if i=13 then 69 else if i<=16 then 69+i else 13
def v13G(t:RT2)(wr:qg)(A B:Option Addr)(ca cb:Nat)(rb ro cr k a b:Nat)(own:List Int)(R x0 x1 x2:qh)(i:Nat)(v:qh)(W:qg):Prop:=
 match i with
 | 0=>v=j2 (some ⟨t.bt,0,none⟩)
 | 1=>v=j2 (some ⟨t.bt,0,none⟩)
 | 2=>v=j2 (some ⟨t.bt,0,none⟩)
 | 3=>v=j2 (some ⟨t.bt,0,none⟩)
 | 4=>v=qb #[D F t.p,D F t.c,D F t.h,D F t.s]
 | 5=>v=U A t.h ca
 | 6=>v=U (some ⟨rb,ro,none⟩) (ah t.s).length cr
 | 7=>v=D F (k:Int)
 | 8=>v=j2 (some ⟨rb,ro+k*2,none⟩)
 | 9=>v=qb #[D F (a:Int),D F (b:Int)]
 | 10=>∃b' off n c,v=U (some ⟨b',off,none⟩) n c/\PL t.S W (some ⟨b',off,none⟩) n (resultsL own a b)/\n<=c
 | 11=>v=U B t.h cb
 | 12=>v=R
 | 13=>v=R
 | 14=>v=x0
 | 15=>v=x1
 | 16=>v=x2
 |_=>∃g,v=j2 (some ⟨g,0,none⟩)/\wr.heap.size<=g/\W.cell? ⟨g,0,none⟩=some (D F 0)/\W.cell? ⟨g,1,none⟩=some (D F 0)/\W.frozen? ⟨g,0,none⟩=false/\W.frozen? ⟨g,1,none⟩=false
theorem v13_stab{t:RT2}{wr:qg}{A B:Option Addr}{ca cb rb ro cr k a b:Nat}{own:List Int}{R x0 x1 x2:qh}(hlow:∀k,t.S k->k<wr.heap.size)(i:Nat)(v:qh)(W W':qg)(hg:v13G t wr A B ca cb rb ro cr k a b own R x0 x1 x2 i v W)(hr:Frm t.S W W'):
  v13G t wr A B ca cb rb ro cr k a b own R x0 x1 x2 i v W':=by
 unfold v13G at *
 split at hg
 all_goals first
  |exact hg
  |(obtain⟨b',off,n,c,h1,h2,h3⟩:=hg;exact⟨b',off,n,c,h1,h2.frm hr,h3⟩)
  | (obtain⟨g,h1,h2,h3,h4,h5,h6⟩:=hg
     have hn:¬t.S g:=fun h=>by have:=hlow g h;omega
     have hl:=World.block_lt_of_cell? W _ h3
     exact⟨g,h1,h2,hr.cell' h3 hn,hr.cell' h4 hn,(cZ hr hl hn).trans h5,(cZ hr hl hn).trans h6⟩)
theorem ilF{P:Program}{o:Oper}{a:Act}{W:qg}{u:qh}{S:Nat->Prop}{I:qg->Prop}{Q:qh->qg->Prop}(h:(qe a.eval o).run P W=.ok (.value u) W)(k:I W:=by assumption)(q:Q u W:=by exact rfl):MStep P o a W (fun v W'=>Frm S W W'/\I W'/\Q v W'):=.inl ⟨u,W,h,Frm.refl _ _,k,q⟩
theorem fN(i:Nat):13<=v13d i:=by
 unfold v13d
 split
 ·omega
 ·split
  ·omega
  ·split<;>omega
theorem ml(t:RT2)(ht:t.Ok){own other:List Int}(hq:PosP t.h t.c own)(hq2:PosP t.h t.c other)(hval:own.sum≠0->∀q,PosP t.h t.c q->pips q<pips own->ValC t other q):ValC t own other:=by
 intro A B ca cb w hI hA hca hB hcb
 obtain⟨i0,hi,hz0,hz1,hz2⟩:=info_parts Tryz.infoE;have hv:=aA ht.v
 have hs1:1<=t.s:=by omega
 have hs6:t.s<=6:=by omega
 have hh24:t.h<=24:=by omega
 have hh1:0<t.h:=by omega
 have hc15:t.c<=15:=by omega
 obtain⟨hq1,-,_⟩:=sq_bd hs1 hs6;have hlow:=hI.ltS;have HLOW:=h_ hlow
 have HNS:Hid (¬t.S w.heap.size):=fun h=>by have:=hlow _ h;omega
 have HNB:Hid (t.bt≠w.heap.size):=fun h=>by have:=hI.ltB;omega
 have HF0:Hid (FrS t.S w (w.alloc (J #[D F 0,D F 0] 45)) [[D F 0,D F 0]]):=(FrS.start w hlow).allocT (by simp) _ _
 have hb0:Below w.heap.size w (w.alloc (J #[D F 0,D F 0] 45)):=(qo _ _).alloc (ql _) _;have HI0:Hid (TabI t (w.alloc (J #[D F 0,D F 0] 45))):=hI.below hb0;have HIW:=h_ hI;have HA:=h_ (hA.below hb0);have HB:=h_ (hB.below hb0)
 have SUA:=h_ (eb A t.h ca own _ HA.out.1 hq.2.1 (by have:=hq.2.2;omega) (by omega))
 have SUB:=h_ (eb B t.h cb other _ HB.out.1 hq2.2.1 (by have:=hq2.2.2;omega) (by omega))
 by_cases hs0:own.sum=0
 ·have HRE:Hid (win t.s own other=some ⟨1,0⟩):=win_own hs0
  have b0:(own.sum==0)=true:=by simp[hs0]
  clear hI hA hB hv hlow hb0 hq hq2 hval hs0 ht HA HB SUB
  go_enter Tryz.func90,Tryz.ntmps90
  go_wp2_with (first
   |(go_at_call 161;(with_reducible refine SUA.out.mono ?_);rintro e w' ⟨rfl,rfl⟩)
   | (go_at_call 142;(with_reducible refine(more_first (cD _)).mono ?_);rintro e w' ⟨rfl,tr,rfl⟩
      have HZ:=h_ (HF0.out.more tr);have HIz:=h_ (HI0.out.more tr);clear HF0 HI0 SUA;generalize more (w.alloc (J #[D F 0,D F 0] 45)) tr=Z at *;have c00:=HZ.out.c0 0 rfl;have f00:=HZ.out.f0 0 rfl;have c01:=HZ.out.c0 1 rfl;have f01:=HZ.out.f0 1 rfl
      ))
  refine qj (v:=qc #[qb #[D F 1,D F ((0:Nat):Int)],qa true]) (by simp[results,Tryz.results90,go_sem,c00,c01,f00,f01]) rfl (RetTn.mkY HRE.out ?_ ?_)
  ·repeat (first|exact HIz.out|refine TabI.alloc ?_ _|refine TabI.drew ?_|refine TabI.stored ?_ _ HNS.out HNB.out)
  ·repeat (first|exact HZ.out.f|refine Frm.alloc ?_ _|refine Frm.drew ?_|refine Frm.ownSet ?_ (by omega) _)
 ·have b0:(own.sum==0)=false:=by simp[hs0]
  by_cases ht0:other.sum=0
  ·have HRE:Hid (win t.s own other=some ⟨0,0⟩):=jy hs0 ht0
   have b1:(other.sum==0)=true:=by simp[ht0]
   clear hI hA hB hv hlow hb0 hq hq2 hval hs0 ht0 ht HA HB
   go_enter Tryz.func90,Tryz.ntmps90
   go_wp2_with (first|(go_at_call 161;(with_reducible refine SUA.out.mono ?_);rintro e w' ⟨rfl,rfl⟩)|(go_at_call 161;(with_reducible refine SUB.out.mono ?_);rintro e w' ⟨rfl,rfl⟩))
   refine qj (v:=qc #[qb #[D F 0,D F ((0:Nat):Int)],qa true]) (by simp[results,Tryz.results90,go_sem]) rfl (RetTn.mkY HRE.out ?_ ?_)
   ·repeat (first|exact HIW.out|refine TabI.alloc ?_ _)
   ·repeat (first|exact Frm.refl _ _|refine Frm.alloc ?_ _)
  ·have b1:(other.sum==0)=false:=by simp[ht0]
   have HQ:=h_ hq;have HQ2:=h_ hq2;have hn1:num t.c own<t.N:=dG hq;have hn2:num t.c other<t.N:=dG hq2;have hN5:=ht.n
   have hw6:wys t.h t.c<=1000000:=qm hN5 (by omega)
   have CN1:=h_ fun(W:qg) (hx:SL W A t.h own)=>hJ t.p t.s t.c t.h A t.h ca own W hx hq hc15 hh24 hw6
   have CN2:=h_ fun(W:qg) (hx:SL W B t.h other)=>hJ t.p t.s t.c t.h B t.h cb other W hx hq2 hc15 hh24 hw6
   have hmul:num t.c own*t.N<=500*500:=Nat.mul_le_mul (by omega) hN5
   have hw1:IntKind.i64.wrap ((num t.c own:Int)*(t.N:Int))=((num t.c own*t.N:Nat):Int):=by
    rw[<-Int.natCast_mul];exact IntWalk.i64_in _ (by omega)
   have hw2:IntKind.i64.wrap (((num t.c own*t.N:Nat):Int)+(num t.c other:Int))=((num t.c own*t.N+num t.c other:Nat):Int):=by
    rw[<-Int.natCast_add];exact IntWalk.i64_in _ (by omega)
   have HK2:Hid (t.key own other=num t.c own*t.N+num t.c other):=rfl;have hKM:num t.c own*t.N+num t.c other<t.M:=RT2.key_lt hq hq2;have HT:=h_ ht;have HVV:=h_ (hval hs0);have HWIN:Hid (win t.s own other=(allS (rollE t.s own other) (ah t.s)).bind (meanE (sq t.s) (ah t.s))):=win_eq hq hq2 hs0 ht0;have HRV:=h_ (rollE_val hq1 own other);have HS0:=h_ hs0;have HT0:=h_ ht0;generalize hKK:num t.c own*t.N+num t.c other=K at *;generalize hMM:num t.c own*t.N=M at *;generalize num t.c own=na at *;generalize num t.c other=nb at *;clear hMM hKK hmul hw6
   have hzz:w.heap.size+1<=(w.alloc (J #[D F 0,D F 0] 45)).heap.size:=by simp
   clear hI hA hB hv hlow hb0 hq hq2 hval hs0 ht0 ht
   go_enter Tryz.func90,Tryz.ntmps90
   go_wp2_with (first|(go_at_call 161;(with_reducible refine SUA.out.mono ?_);rintro e w' ⟨rfl,rfl⟩)|(go_at_call 161;(with_reducible refine SUB.out.mono ?_);rintro e w' ⟨rfl,rfl⟩))
   generalize w.alloc (J #[D F 0,D F 0] 45)=W0 at *;have e0:=HI0.out.tb 0 _ rfl;have e1:=HI0.out.tb 1 _ rfl;have e2:=HI0.out.tb 2 _ rfl;have e3:=HI0.out.tb 3 _ rfl;have e4:=HI0.out.tb 4 _ rfl;have hbt:=HI0.out.ltB;clear SUA SUB
   first|refine ag (by kernel_rfl) (by kernel_rfl) ?_|refine ac (by kernel_rfl) (by kernel_rfl) ?_
   repeat (first|go_big_quiet_step (first|(go_at_call_of 162 A;exact more_call (CN1.out _ (HA.out.1.more _)))|(go_at_call_of 162 B;exact more_call (CN2.out _ (HB.out.1.more _))))|quiet_step (first|(go_at_call_of 162 A;exact more_call (CN1.out _ (HA.out.1.more _)))|(go_at_call_of 162 B;exact more_call (CN2.out _ (HB.out.1.more _)))))
   refine wpQuiet_nil ?_
   intro _ hw'
   obtain⟨tr,hw''⟩:=hw';subst hw'';have HF1:=h_ (HF0.out.more tr);have HI1:=h_ (HI0.out.more tr);have HA1:=h_ (HA.out.below (aa _ tr));have HB1:=h_ (HB.out.below (aa _ tr));have hzW1:=qm hzz (ai _ tr);clear HF0 HI0 HA HB hzz e0 e1 e2 e3 e4 hbt CN1 CN2 hw1 hw2 hn1 hn2;generalize more W0 tr=W1 at *;obtain⟨kf,ef,hC,hM2⟩:=HI1.out;have HC:=h_ hC;have HM2:=h_ hM2;clear hC hM2;have e5:=HI1.out.tb 5 _ rfl;have e6:=HI1.out.tb 6 _ rfl;have ek:=HC.out.k K hKM
   have hKi0:(0:Int)<=(K:Int):=by omega
   have hKi:(K:Int)<(t.M:Int):=by omega
   rcases hkf:kf K with _|_
   ·rw[hkf]at ek
    clear hkf HC HM2;have e0:=HI1.out.tb 0 _ rfl;have e1:=HI1.out.tb 1 _ rfl;have e2:=HI1.out.tb 2 _ rfl;have e3:=HI1.out.tb 3 _ rfl
    go_wp2_with (fail)
    refine(eZ t.p t.c t.h t.s _ hs6).mono ?_
    rintro e W2 ⟨vr,rfl,hor,hb2⟩
    have hsz1:∀x,W1.heap.size<=x->¬t.S x:=fun x hx h=>by have:=HLOW.out x h;omega
    obtain⟨Ar,cr,rfl,hRL,hcr⟩:=hor.read (S:=t.S) hsz1
    have hnr1:0<(ah t.s).length:=by
     have h1:=bY t.s
     have h2:1*2<=t.s*(t.s+1):=Nat.mul_le_mul (by omega) (by omega)
     omega
    have hnr21:(ah t.s).length<=21:=cN hs6;obtain⟨rb,ro,rfl,_,_,_⟩:=hRL.at hnr1;have HRL:=h_ hRL;have HF2:=h_ (HF1.out.below hb2);have HI2:=h_ (HI1.out.below hb2);have HA2:=h_ (HA1.out.below hb2);have HB2:=h_ (HB1.out.below hb2);have hzW2:w.heap.size+1<=W2.heap.size:=qm hzW1 hb2.size;clear hor hb2 hRL HF1 HI1 HA1 HB1 e0 e1 e2 e3 e5 e6 ek hsz1
    have HO0:Hid (OwnE (W2.alloc (J #[] 45)) W2.heap.size (U (some ⟨W2.heap.size,0,none⟩) 0 0) []):=by
     have:=lQ W2 (base:=W2.heap.size) 45 (z:=2) (n:=0) #[] (ql _) (by unfold maxLen;omega) rfl
     exact this
    have HI3:Hid (TabI t (W2.alloc (J #[] 45))):=HI2.out.alloc _;have hfa:Frm t.S W2 (W2.alloc (J #[] 45)):=(Frm.refl _ _).alloc _;have HFA:=h_ hfa;clear hfa
    go_wp2_with (fail)
    go_loopw [10,11] (fun v10 v11 wr=>∃(k:Nat) (xs:List E),k<=(ah t.s).length/\v11=D F k/\Hid (allS (rollE t.s own other) ((ah t.s).take k)=some xs/\xs.length=k)/\(∃vx,vx=v10/\Hid (OwnE wr W2.heap.size vx xs))/\Hid (TabI t wr)/\Hid (Frm t.S W2 wr)) (fun _ v11 _=>(ah t.s).length-(intOf v11).toNat)
    case atStart=>exact⟨0,[],by omega,rfl,⟨rfl,rfl⟩,⟨_,rfl,HO0.out⟩,HI3.out,HFA.out⟩
    case round=>
     clear HO0 HI3 HFA;obtain⟨k,xs,hk,rfl,hxs,⟨vx,rfl,HO⟩,HI,HFw⟩:=hrel;have HXK:=h_ hxs.out.2
     by_cases hlt:k<(ah t.s).length
     focus
      have hki:(k:Int)<((ah t.s).length:Int):=by omega
      have hrl:=HRL.out.frm HFw.out;obtain⟨_,_,hA',hzr,q1,q2⟩:=hrl.at hlt;injection hA' with hA';injection hA' with hA1' hA2';subst hA1' hA2'
      have hrbS:Hid (¬t.S rb):=by
       obtain⟨_,_,hA'',_,hs'',_⟩:=hrl.2.2 (by omega)
       injection hA'' with hA'';injection hA'' with h1'' h2'';subst h1''
       exact hs''
      have hrm:=bC.1 (ak (ah t.s) (0,0) hlt);have HLK:=h_ hlt
      rcases hab:(ah t.s).getD k (0,0)with⟨a,b⟩
      rw[hab]at q1 q2 hrm;obtain⟨r1,r2,r3⟩:=hrm
      simp only at q1 q2 r1 r2 r3
      have HQ1:=h_ q1;have HQ2':=h_ q2;have hzwr:W2.heap.size<=wr.heap.size:=HFw.out.size
      have hlowr:Hid (∀x,t.S x->x<wr.heap.size):=fun x hx=>by have:=HLOW.out x hx;omega
      have HAr:=h_ (HA2.out.frm HFw.out);have HBr:=h_ (HB2.out.frm HFw.out)
      have HRES:=h_ fun(W:qg) (hx:SQ t.S W A t.h own) (hS:∀x,W.heap.size<=x->¬t.S x)=>ky t.S t.p t.c t.h t.s A t.h ca a b own W hx.1 hca ⟨HQ.out.1,HQ.out.2.1,by have:=HQ.out.2.2;omega⟩ hh24 hh1 r1 r2 (by omega) hS
      have HBST0:=fun(A':Option Addr) (n c:Nat) (W:qg) (hI:TabI t W) (hpl:PL t.S W A' n (resultsL own a b)) (hB:SQ t.S W B t.h other)=>l12Best_any t HT.out (resultsL own a b) (fun q h=>(bi (by omega) r1 HQ.out q h).1) (fun q h=>l12After_any t HT.out (bi (by omega) r1 HQ.out q h).1 HT0.out (HVV.out q (bi (by omega) r1 HQ.out q h).1 ((bi (by omega) r1 HQ.out q h).2.2 HS0.out))) A' B n c cb W (by rw[<-hpl.len];exact qm (jL (by omega) r1 HQ.out hh24) (by omega)) hI hpl hB hcb
      clear q1 q2 hrl r1 r2 r3
      rcases hbs:bestS (sq t.s) (sec t.s other) (resultsL own a b)with _|⟨cnt,at',⟨xn,xd⟩⟩
      focus
       have HRE:Hid (win t.s own other=none):=by
        unfold Hid
        rw[HWIN.out,allS_stop HLK.out hxs.out.1 (by rw[hab,dT,hbs];rfl)];rfl
       refine ?ze
      rotate_left
      focus
       have HXS:Hid (allS (rollE t.s own other) ((ah t.s).take (k+1))=some (xs++[⟨xn,xd⟩])):=allS_go HLK.out hxs.out.1 (by rw[hab,dT,hbs];rfl)
       refine ?zf
     rotate_left 2
     ·have hke:k=(ah t.s).length:=by omega
      have HALL:Hid (allS (rollE t.s own other) (ah t.s)=some xs):=by
       have h:=hxs.out.1
       rwa [qp (by omega)]at h
      have HRE0:Hid (win t.s own other=meanE (sq t.s) (ah t.s) xs):=by
       unfold Hid
       rw[HWIN.out,HALL.out];rfl
      obtain⟨Av,cv,hvx,hel,_⟩:=HO.out.el
      have hxl:xs.length=(ah t.s).length:=by rw[HXK.out,hke]
      rw[hxl]at hvx hel;have MEAN:=h_ (gh t.p t.c t.h t.s (ah t.s).length cv Av xs wr hs1 hs6 hel rfl (allS_val HRV.out HALL.out));subst hvx;have e0:=HI.out.tb 0 _ rfl;have e1:=HI.out.tb 1 _ rfl;have e2:=HI.out.tb 2 _ rfl;have e3:=HI.out.tb 3 _ rfl;have HFr:=h_ (HF2.out.frm HFw.out);have hzwr:W2.heap.size<=wr.heap.size:=HFw.out.size;clear hel hxl HO hxs HRL HF2 HI2 HA2 HB2 HFw;generalize meanE (sq t.s) (ah t.s) xs=o at *
      rcases o with _|⟨m,d⟩
      ·go_wp2_with (fail)
       refine MEAN.out.mono ?_
       rintro e w5 ⟨rfl,hb5⟩
       simp only[Option.getD_none,Option.isSome_none]
       have HF5:=h_ (HFr.out.below hb5);have HI5:=h_ (HI.out.below hb5);clear HFr HI hb5 e0 e1 e2 e3 MEAN
       have z0:=HF5.out.l0 (by simp)
       have c00:=HF5.out.c0 0 rfl;have f00:=HF5.out.f0 0 rfl;have c01:=HF5.out.c0 1 rfl;have f01:=HF5.out.f0 1 rfl
       go_wp2_with (fail)
       refine qj (v:=qc #[qb #[D F 0,D F 0],qa false]) (by simp[results,Tryz.results90,go_sem,c00,c01,z0,f00,f01]) rfl (RetTn.mkN HRE0.out ?_ ?_)
       ·repeat (first|exact HI5.out|refine TabI.alloc ?_ _|refine TabI.drew ?_|refine TabI.stored ?_ _ HNS.out HNB.out)
       ·repeat (first|exact HF5.out.f|refine Frm.alloc ?_ _|refine Frm.drew ?_|refine Frm.ownSet ?_ (by omega) _)
      ·go_wp2_with (fail)
       refine MEAN.out.mono ?_
       rintro e w5 ⟨rfl,hb5⟩
       simp only[Option.getD_some,Option.isSome_some]
       have HFx:Hid (FrS t.S w (w5.alloc (J #[D F m,D F (d:Int)] 45)) [[D F 0,D F 0]]):=(HFr.out.below hb5).alloc _;have HIx:Hid (TabI t (w5.alloc (J #[D F m,D F (d:Int)] 45))):=(HI.out.below hb5).alloc _;have hz5:wr.heap.size<=w5.heap.size:=hb5.size
       have g0:(w5.alloc (J #[D F m,D F (d:Int)] 45)).cell? ⟨w5.heap.size,0,none⟩=some (D F m):=by simp[go_sem]
       have g1:(w5.alloc (J #[D F m,D F (d:Int)] 45)).cell? ⟨w5.heap.size,1,none⟩=some (D F (d:Int)):=by simp[go_sem]
       have gz:w5.heap.size<(w5.alloc (J #[D F m,D F (d:Int)] 45)).heap.size:=by simp
       clear HFr HI hb5 e0 e1 e2 e3 MEAN
       go_upto_region 18 with (fail)
       generalize w5.alloc (J #[D F m,D F (d:Int)] 45)=X at *;obtain⟨kf,ef,hC,hM2⟩:=HIx.out;have HM2:=h_ hM2;have HC1:=h_ (hC.setK hKM);have e5:=hC.tb 5 _ rfl;have ek:=hC.k K hKM;have fk:=hC.fk K
       have hgk:¬w5.heap.size=t.bk:=fun h=>by have:=HLOW.out t.bk (.inl rfl);omega
       have hgS:¬t.S w5.heap.size:=fun h=>by have:=HLOW.out _ h;omega
       have k0:=(Frm.set X t.bk K (qa true)).cell' g0 hgk;have k1:=(Frm.set X t.bk K (qa true)).cell' g1 hgk
       have kz:w5.heap.size<(X.setCell ⟨t.bk,K,none⟩ (qa true)).heap.size:=by simpa using gz
       have HFk:Hid (Frm t.S w (X.setCell ⟨t.bk,K,none⟩ (qa true))):=HFx.out.f.trans ((Frm.set X t.bk K (qa true)).mono fun x hx=>by rw[hx];exact .inl rfl)
       have HFk2:Hid (FrS t.S w (X.setCell ⟨t.bk,K,none⟩ (qa true)) [[D F 0,D F 0]]):=HFx.out.frm ((Frm.set X t.bk K (qa true)).mono fun x hx=>by rw[hx];exact .inl rfl)
       clear hC hM2
       go_wp2_with (fail)
       clear g0 g1 gz e5 ek fk;generalize X.setCell ⟨t.bk,K,none⟩ (qa true)=X1 at *;have e6:=HC1.out.tb 6 _ rfl;have hbt1:=HC1.out.ltB
       first|refine am 7 (by kernel_rfl) (by kernel_rfl) ?_|refine an 7 (by kernel_rfl) (by kernel_rfl) ?_
       simp only[qu,qv,qs,qt]
       repeat (first|go_big_quiet_step (fail)|quiet_step (fail))
       refine wpQuiet_nil ?_
       intro _ hw'
       obtain⟨tr,hw''⟩:=hw';subst hw'';have HC2:=h_ (HC1.out.below (aa _ tr));have HF6:=h_ (HFk2.out.more tr);have j0:=ae k0 (aa _ tr);have j1:=ae k1 (aa _ tr);have jz:=qn kz (ai _ tr);clear k0 k1 kz e6 hbt1 HC1 HFk HFk2 HFx HIx;generalize more X1 tr=Z at *;obtain⟨v1,v2⟩:=HC2.out.e K hKM;have fv1:=HC2.out.fv (K*2);have fv2:=HC2.out.fv (K*2+1)
       have hgv:¬w5.heap.size=t.bv:=fun h=>hgS (.inr h)
       have HI7:Hid (TabI t ((Z.setCell ⟨t.bv,K*2,none⟩ (D F m)).setCell ⟨t.bv,K*2+1,none⟩ (D F (d:Int)))):=by
        refine⟨_,_,HC2.out.setV hKM m (d:Int),?_⟩
        have:=HM2.out.put HQ.out HQ2.out (e:=⟨m,d⟩) HRE0.out;rw[HK2.out]at this
        exact this
       have HF7:Hid (FrS t.S w ((Z.setCell ⟨t.bv,K*2,none⟩ (D F m)).setCell ⟨t.bv,K*2+1,none⟩ (D F (d:Int))) [[D F 0,D F 0]]):=HF6.out.frm (((Frm.set _ _ _ _).trans (Frm.set _ _ _ _)).mono fun x hx=>by rw[hx];exact .inr rfl)
       have h2:∀(c:Nat) (v:qh),Z.cell? ⟨w5.heap.size,c,none⟩=some v->((Z.setCell ⟨t.bv,K*2,none⟩ (D F m)).setCell ⟨t.bv,K*2+1,none⟩ (D F (d:Int))).cell? ⟨w5.heap.size,c,none⟩=some v:=fun c v h=>(Frm.set _ _ _ _).cell' ((Frm.set _ _ _ _).cell' h hgv) hgv
       have q0:=h2 0 _ j0;have q1:=h2 1 _ j1;clear h2 HF6 HM2;have c00:=HF7.out.cellA (b:=w.heap.size) 0 0 rfl rfl;have f00:=HF7.out.frozA (b:=w.heap.size) 0 0 rfl rfl;have c01:=HF7.out.cellA (b:=w.heap.size) 0 1 rfl rfl;have f01:=HF7.out.frozA (b:=w.heap.size) 0 1 rfl rfl
       go_wp2_with (fail)
       refine qj (v:=qc #[qb #[D F m,D F (d:Int)],qa true]) (by simp[results,Tryz.results90,go_sem,c00,c01,f00,f01]) rfl (RetTn.mkY HRE0.out ?_ ?_)
       ·repeat (first|exact HI7.out|refine TabI.alloc ?_ _|refine TabI.drew ?_|refine TabI.stored ?_ _ HNS.out HNB.out)
       ·repeat (first|exact HF7.out.f|refine Frm.alloc ?_ _|refine Frm.drew ?_|refine Frm.ownSet ?_ (by omega) _)
     case' ze|zf=>
      rw[hbs]at HBST0;have HBST:=h_ HBST0;clear hbs hab HBST0
      go_wp2_with (fail)
     case' ze=>
      refine bI 18 (fun i=>i==15||i==16) v13d (Frm t.S) (TabI t) (v13G t wr A B ca cb rb ro cr k a b own (qc #[D F 0,qb #[D F 0,D F 0],qa false]) (D F 0) (qb #[D F 0,D F 0]) (qa false)) (by kernel_rfl) (by kernel_rfl) (fun _ _ _ _ _ h=>h) (fun _ _ _ h1 h2=>h1.trans h2) (fun _=>Frm.refl _ _) (v13_stab hlowr.out) (Frm.refl _ _).drew HI.out.drew ?_ ?_ ?_
      ·intro i o hi hX ho a' W hW hIW hfar hdep
       have hi8:i=15\/i=16:=by simpa using hX
       clear hfar
       rcases hi8 with rfl|rfl
       all_goals
        simp at ho
        subst ho
       ·have d1:a'.tmps.getD 69 qf=_:=dp hdep 13
        exact⟨qb #[D F 0,D F 0],fun W'=>by simp only[qe,qk,d1];go_simp,rfl⟩
       ·have d1:a'.tmps.getD 69 qf=_:=dp hdep 13
        exact⟨qa false,fun W'=>by simp only[qe,qk,d1];go_simp,rfl⟩
      focus
       refine ?za
     case' zf=>
      refine bI 18 (fun i=>i==15||i==16) v13d (Frm t.S) (TabI t) (v13G t wr A B ca cb rb ro cr k a b own (qc #[D F (at':Int),qb #[D F xn,D F (xd:Int)],qa true]) (D F (at':Int)) (qb #[D F xn,D F (xd:Int)]) (qa true)) (by kernel_rfl) (by kernel_rfl) (fun _ _ _ _ _ h=>h) (fun _ _ _ h1 h2=>h1.trans h2) (fun _=>Frm.refl _ _) (v13_stab hlowr.out) (Frm.refl _ _).drew HI.out.drew ?_ ?_ ?_
      ·intro i o hi hX ho a' W hW hIW hfar hdep
       have hi8:i=15\/i=16:=by simpa using hX
       clear hfar
       rcases hi8 with rfl|rfl
       all_goals
        simp at ho
        subst ho
       ·have d1:a'.tmps.getD 69 qf=_:=dp hdep 13
        exact⟨qb #[D F xn,D F (xd:Int)],fun W'=>by simp only[qe,qk,d1];go_simp,rfl⟩
       ·have d1:a'.tmps.getD 69 qf=_:=dp hdep 13
        exact⟨qa true,fun W'=>by simp only[qe,qk,d1];go_simp,rfl⟩
      focus
       refine ?zb
     case za|zb=>
      intro i o hi hX ho a' W hW hIW hfar hdep
      have e0:a'.tmps.getD 0 qf=j2 (some ⟨t.bt,0,none⟩):=(hfar 0 (fun j _=>by have:=fN j;omega)).trans rfl
      have e1:a'.tmps.getD 1 qf=U A t.h ca:=(hfar 1 (fun j _=>by have:=fN j;omega)).trans rfl
      have e2:a'.tmps.getD 2 qf=U B t.h cb:=(hfar 2 (fun j _=>by have:=fN j;omega)).trans rfl
      have e9:a'.tmps.getD 9 qf=U (some ⟨rb,ro,none⟩) (ah t.s).length cr:=(hfar 9 (fun j _=>by have:=fN j;omega)).trans rfl
      have e11:a'.tmps.getD 11 qf=D F (k:Int):=(hfar 11 (fun j _=>by have:=fN j;omega)).trans rfl
      have hX2:i≠15/\i≠16:=by simpa using hX
      have hi8:i=0\/i=1\/i=2\/i=3\/i=4\/i=5\/i=6\/i=7\/i=8\/i=9\/i=10\/i=11\/i=12\/i=13\/i=14\/i=17:=by omega
      clear hfar
      rcases hi8 with rfl|rfl|rfl|rfl|rfl|rfl|rfl|rfl|rfl|rfl|rfl|rfl|rfl|rfl|rfl|rfl
      all_goals
       simp at ho
       subst ho
      ·refine ilF ?_;simp only[qe,qk,e0];go_simp
      ·refine ilF ?_;simp only[qe,qk,e0];go_simp
      ·have d1:a'.tmps.getD 71 qf=_:=dp hdep 1
       refine ilF ?_;simp only[qe,qk,d1];go_simp
      ·have d1:a'.tmps.getD 72 qf=_:=dp hdep 2
       refine ilF ?_;simp only[qe,qk,d1];go_simp
      ·have d1:a'.tmps.getD 73 qf=_:=dp hdep 3
       have q0:=hIW.tb 0 _ rfl;have q1:=hIW.tb 1 _ rfl;have q2:=hIW.tb 2 _ rfl;have q3:=hIW.tb 3 _ rfl
       refine ilF ?_;simp only[qe,qk,d1];go_simp
      ·refine ilF ?_;simp only[qe,qk,e1];go_simp
      ·refine ilF ?_;simp only[qe,qk,e9];go_simp
      ·refine ilF ?_;simp only[qe,qk,e11];go_simp
      ·have d1:a'.tmps.getD 76 qf=_:=dp hdep 6
       have d2:a'.tmps.getD 77 qf=_:=dp hdep 7
       refine ilF ?_;simp only[qe,qk,d1,d2];go_simp
      ·have d1:a'.tmps.getD 78 qf=_:=dp hdep 8
       have q1:=hW.cell' HQ1.out hrbS.out;have q2:=hW.cell' HQ2'.out hrbS.out
       refine ilF ?_;simp only[qe,qk,d1];go_simp
      ·have d1:a'.tmps.getD 74 qf=_:=dp hdep 4
       have d2:a'.tmps.getD 75 qf=_:=dp hdep 5
       have d3:a'.tmps.getD 79 qf=_:=dp hdep 9
       refine .inr ⟨164,#[qb #[D F t.p,D F t.c,D F t.h,D F t.s],U A t.h ca,qb #[D F (a:Int),D F (b:Int)]],by simp only[qe,qk,d1,d2,d3];go_simp,?_⟩
       refine(HRES.out W (HAr.out.frm hW) (fun x hx h=>by have:=hlowr.out x h;have:=hW.size;omega)).mono ?_
       rintro e W' ⟨b',off,n',c',rfl,hpl,hc,hb'⟩
       exact⟨_,rfl,Frm.of_below' _ hb',hIW.below hb',b',off,n',c',rfl,hpl,hc⟩
      ·refine ilF ?_;simp only[qe,qk,e2];go_simp
      ·have d1:a'.tmps.getD 70 qf=_:=dp hdep 0
       obtain⟨b',off,n',c',d2,hpl,-⟩:∃b' off n c,a'.tmps.getD 80 qf=U (some ⟨b',off,none⟩) n c/\PL t.S W (some ⟨b',off,none⟩) n (resultsL own a b)/\n<=c:=dp hdep 10
       have d3:a'.tmps.getD 81 qf=_:=dp hdep 11
       refine .inr ⟨163,#[j2 (some ⟨t.bt,0,none⟩),U (some ⟨b',off,none⟩) n' c',U B t.h cb],by simp only[qe,qk,d1,d2,d3];go_simp,?_⟩
       refine(HBST.out (some ⟨b',off,none⟩) n' c' W hIW hpl (HBr.out.frm hW)).mono ?_
       rintro e W' ⟨hI',hf',rfl⟩
       exact⟨_,rfl,hf',hI',rfl⟩
      ·have d1:a'.tmps.getD 82 qf=_:=dp hdep 12
       refine ilF ?_;simp only[qe,qk,d1];go_simp
      ·have d1:a'.tmps.getD 69 qf=_:=dp hdep 13
       refine ilF ?_;simp only[qe,qk,d1];go_simp
      ·refine .inl ⟨j2 (some ⟨W.heap.size,0,none⟩),W.alloc (J #[D F 0,D F 0] 45),by kernel_rfl,(Frm.refl _ _).alloc _,hIW.alloc _,W.heap.size,rfl,hW.size,?_,?_,?_,?_⟩<;>simp[go_sem]
     case' ze|zf=>
      intro v W hW hIW hg
      have g0:v 0=_:=gq hg 0
      have g1:v 1=_:=gq hg 1
      have g2:v 2=_:=gq hg 2
      have g3:v 3=_:=gq hg 3
      have g4:v 4=_:=gq hg 4
      have g5:v 5=_:=gq hg 5
      have g6:v 6=_:=gq hg 6
      have g7:v 7=_:=gq hg 7
      have g8:v 8=_:=gq hg 8
      have g9:v 9=_:=gq hg 9
      obtain⟨_,_,_,_,g10,_,_⟩:∃b' off n c,v 10=U (some ⟨b',off,none⟩) n c/\PL t.S W (some ⟨b',off,none⟩) n (resultsL own a b)/\n<=c:=hg 10 (by omega)
      have g11:v 11=_:=gq hg 11
      have g12:v 12=_:=gq hg 12
      have g13:v 13=_:=gq hg 13
      have g14:v 14=_:=gq hg 14
      have g15:v 15=_:=gq hg 15
      have g16:v 16=_:=gq hg 16
      obtain⟨g,g17,gl,y0,y1,y2,y3⟩:∃g,v 17=j2 (some ⟨g,0,none⟩)/\wr.heap.size<=g/\W.cell? ⟨g,0,none⟩=some (D F 0)/\W.cell? ⟨g,1,none⟩=some (D F 0)/\W.frozen? ⟨g,0,none⟩=false/\W.frozen? ⟨g,1,none⟩=false:=hg 17 (by omega)
      simp only[qs,qt,putV,v13d,g0,g1,g2,g3,g4,g5,g6,g7,g8,g9,g10,g11,g12,g13,g14,g15,g16,g17,Act.put]
      clear g0 g1 g2 g3 g4 g5 g6 g7 g8 g9 g10 g11 g12 g13 g14 g15 g16 g17 hg;have HW:=h_ hW;have HIw:=h_ hIW;clear hW hIW
      have hgS:¬t.S g:=fun h=>by have:=hlowr.out g h;omega
      have hgB:t.bt≠g:=fun h=>by have:=HI.out.ltB;omega
     case ze=>
      have HF4:=h_ ((HF2.out.frm HFw.out).frm HW.out);clear HO;have c00:=HF4.out.c0 0 rfl;have f00:=HF4.out.f0 0 rfl;have c01:=HF4.out.c0 1 rfl;have f01:=HF4.out.f0 1 rfl
      go_wp2_with (fail)
      refine qj (v:=qc #[qb #[D F 0,D F 0],qa false]) (by simp[results,Tryz.results90,go_sem,c00,c01,f00,f01,y0,y1,y2,y3]) rfl (RetTn.mkN HRE.out ?_ ?_)
      ·repeat (first|exact HIw.out|refine TabI.alloc ?_ _|refine TabI.stored ?_ _ HNS.out HNB.out|refine TabI.stored ?_ _ hgS hgB)
      ·repeat (first|exact HF4.out.f|refine Frm.alloc ?_ _|refine Frm.ownSet ?_ (by omega) _)
     case zf=>
      have HVL:=h_ fun(j:Nat) (hj:vx.ownBlock=some j)=>World.ownsRow.lt HO.out j hj
      have hzW:wr.heap.size<=W.heap.size:=HW.out.size
      have HV:Hid (∀o:Obj,Frm t.S W2 (((W.setCell ⟨g,0,none⟩ (D F xn)).setCell ⟨g,1,none⟩ (D F (xd:Int))).alloc o)/\TabI t (((W.setCell ⟨g,0,none⟩ (D F xn)).setCell ⟨g,1,none⟩ (D F (xd:Int))).alloc o)):=fun o=>
       ⟨((((HFw.out.trans HW.out).ownSet (by omega) _).ownSet (by omega) _).alloc o),((HIw.out.stored _ hgS hgB).stored _ hgS hgB).alloc o⟩
      have HROW:Hid ((((W.setCell ⟨g,0,none⟩ (D F xn)).setCell ⟨g,1,none⟩ (D F (xd:Int))).alloc (J #[D F xn,D F (xd:Int)] 45)).ownsRow W2.heap.size 45 2 vx xs.length (exC xs)):=by
       refine row_alloc ?_ _
       refine Frm.row (S:=fun x=>x=g) ((Frm.set _ _ _ _).trans (Frm.set _ _ _ _)) (HW.out.row HO.out fun j hj h=>?_) (fun j hj h=>?_)
       ·have:=(HVL.out j hj).1;have:=HLOW.out j h;omega
       ·have:=(HVL.out j hj).2;omega
      have hTN:Hid (∀j u,[Value.int F xn,D F (xd:Int)][j]? =some u->(((W.setCell ⟨g,0,none⟩ (D F xn)).setCell ⟨g,1,none⟩ (D F (xd:Int))).alloc (J #[D F xn,D F (xd:Int)] 45)).cell? ((⟨W.heap.size,0,none⟩:Addr).add j)=some u):=by
       have h:=eO ((W.setCell ⟨g,0,none⟩ (D F xn)).setCell ⟨g,1,none⟩ (D F (xd:Int))) xn (xd:Int) 45
       rw[show((W.setCell ⟨g,0,none⟩ (D F xn)).setCell ⟨g,1,none⟩ (D F (xd:Int))).heap.size=W.heap.size by simp]at h
       exact h
      clear HO HW HIw HI
      go_wp2_with (at_builtin;(refine wpList_append_own_at _ rfl _ _ 78 rfl W2.heap.size 45 i0 (qb #[D F 0,D F 0]) 2 16 Tryz.underlying78 hi hz0 hz1 hz2 rfl (by decide) _ _ _ rfl HROW.out ⟨W.heap.size,0,none⟩ 1 1 [D F xn,D F (xd:Int)] rfl rfl hTN.out (gE _ _) (by have:=HXK.out;unfold maxLen;omega) (by have:=HXK.out;omega) (by simp;omega) ?_);intro v' w4 hown hgrow _ hat)
      have hgO:∀x,some x=vx.ownBlock->W2.heap.size<=x:=fun x hx=>(HVL.out x hx.symm).1
      have HFw4:Hid (Frm t.S W2 w4):=(HV.out _).1.outs (Frm.of_grown hgrow) hgO
      have HI4:Hid (TabI t w4):=(HV.out _).2.frm (Frm.of_grown hgrow) (fun x hx h=>by have:=hgO x hx;have:=HLOW.out x h;omega) (fun h=>by have:=hgO _ h;have:=HI2.out.ltB;omega)
      have HO4:Hid (OwnE w4 W2.heap.size v' (xs++[⟨xn,xd⟩])):=by
       unfold Hid OwnE;rw[fF,qq]
       exact hown
      have HL4:Hid ((xs++[(⟨xn,xd⟩:E)]).length=k+1):=by unfold Hid;rw[qq,HXK.out];rfl
      clear hown hgrow hat HROW HV hgO
      go_wp2_with (fail)
      go_roundw
      case rel=>exact⟨k+1,xs++[⟨xn,xd⟩],by omega,by go_num,⟨HXS.out,HL4.out⟩,⟨_,rfl,HO4⟩,HI4,HFw4⟩
      case measure=>(simp[intOf])<;>omega
   ·obtain⟨⟨m,d⟩,hwe,hee⟩:=HM2.out own other HQ.out HQ2.out (by rw[HK2.out];exact hkf)
    rw[HK2.out]at hee;obtain⟨ev1,ev2⟩:=HC.out.e K hKM;rw[hee]at ev1 ev2;rw[hkf]at ek;have HRE:=h_ hwe;clear hkf hwe hee HC HM2;have c00:=HF1.out.c0 0 rfl;have f00:=HF1.out.f0 0 rfl;have c01:=HF1.out.c0 1 rfl;have f01:=HF1.out.f0 1 rfl
    go_wp2_with (fail)
    refine qj (v:=qc #[qb #[D F m,D F (d:Int)],qa true]) (by simp[results,Tryz.results90,go_sem,c00,c01,f00,f01]) rfl (RetTn.mkY HRE.out ?_ ?_)
    ·repeat (first|exact HI1.out|refine TabI.alloc ?_ _|refine TabI.drew ?_|refine TabI.stored ?_ _ HNS.out HNB.out)
    ·repeat (first|exact HF1.out.f|refine Frm.alloc ?_ _|refine Frm.drew ?_|refine Frm.ownSet ?_ (by omega) _)
def PLx(w:qg)(A:Option Addr)(n:Nat)(ps:List (List Int)):Prop:=
 ps.length=n/\(0<n->∃b off,A=some ⟨b,off,none⟩/\b<w.heap.size/\∀k,k<n->∃B m c,w.cell? ⟨b,off+k,none⟩=some (U B m c)/\SL w B m (ps.getD k []))
theorem PLx.below{w w':qg}{A:Option Addr}{n:Nat}{ps:List (List Int)}(h:PLx w A n ps)(hb:Below w.heap.size w w'):PLx w' A n ps:=by
 refine⟨h.1,fun hn=>?_⟩
 obtain⟨b,off,hA,hlt,hc⟩:=h.2 hn
 refine⟨b,off,hA,qn hlt hb.size,fun k hk=>?_⟩
 obtain⟨B,m,c,h1,h2⟩:=hc k hk
 exact⟨B,m,c,ae h1 hb,h2.below hb⟩
theorem iZ(t:RT2)(ht:t.Ok):∀(f:Nat) {own other:List Int},PosP t.h t.c own->PosP t.h t.c other->pips own+pips other<f->ValC t own other
 | 0,own,other,hq,hq2,h=>by have:=aN hq.2.1;have:=aN hq2.2.1;omega
 |f+1,own,other,hq,hq2,h=>ml t ht hq hq2 fun _ q hp hlt=>iZ t ht f hq2 hp (by omega)
theorem l12Value_all(t:RT2)(ht:t.Ok){own other:List Int}(hq:PosP t.h t.c own)(hq2:PosP t.h t.c other):ValC t own other:=by
 exact iZ t ht ((pips own+pips other).toNat+1) hq hq2 (by omega)
theorem frm_lo{S:Nat->Prop}{w wr w2:qg}(hb:Below w.heap.size w wr)(hf:Frm S wr w2)(hS:∀k,S k->w.heap.size<=k):Below w.heap.size w w2:=hb.trans (hf.below hb.size hS)
noncomputable def chS(s h:Nat)(own other:List Int):Option E:=if own.sum=0 then some ⟨1,0⟩else if other.sum=0 then some ⟨0,0⟩else win s (own.take h) (other.take h)
theorem fo{h c:Nat}{xs:List Int}(hl:h<=xs.length)(h0:∀x∈xs,0<=x)(hs:xs.sum<=c):PosP h c (xs.take h):=
 ⟨by rw[List.length_take];omega,fun x hx=>h0 x (List.mem_of_mem_take hx),Int.le_trans (ct xs h h0) hs⟩
theorem SL.take{w:qg}{A:Option Addr}{n h:Nat}{xs:List Int}(hx:SL w A n xs)(hl:h<=n):SL w A h (xs.take h):=by
 refine⟨by rw[List.length_take,hx.1];omega,fun hn=>?_⟩
 obtain⟨b,off,hA,hlt,hc⟩:=hx.2 (by omega)
 exact⟨b,off,hA,hlt,fun i hi=>by rw[hc i (by omega)];simp[List.getD,List.getElem?_take,hi]⟩
theorem SQ.take{S:Nat->Prop}{w:qg}{A:Option Addr}{n h:Nat}{xs:List Int}(hx:SQ S w A n xs)(hl:h<=n):SQ S w A h (xs.take h):=⟨hx.1.take hl,fun hn b off s hA=>hx.2 (by omega) b off s hA⟩
theorem stb_eqF{S:Nat->Prop}{l:List qh}:∀i v W W',GL (l.map Eqv) i v W->Frm S W W'->GL (l.map Eqv) i v W':=by
 intro i v W W' h _
 unfold GL at *
 by_cases hi:i<l.length
 ·rw[qx,List.getElem?_map,List.getElem?_eq_getElem hi]at h ⊢
  exact h
 ·rw[qx,List.getElem?_map,qy (by omega)]at h ⊢
  trivial
def dsSolv:Nat->Nat
 | 0=>18
 | 1=>19
 | 2=>20
 | 3=>21
 | 4=>22
 | 5=>23
 | 6=>24
 | 7=>25
 | 8=>26
 | 9=>27
 | 10=>28
 | 11=>29
 | 12=>30
 | 13=>31
 | 14=>32
 | 15=>33
 | 16=>34
 | 17=>35
 | 18=>36
 | 19=>37
 |_=>0
theorem jX(p:Int)(c h s:Nat)(b1 o1 n c1:Nat)(xs:List Int)(w:qg)(hx:SL w (some ⟨b1,o1,none⟩) n xs)(hl:h<=n)(hc:n<=c1)(hn:n<=2000):
  qi qw 172 #[qb #[D F p,D F (c:Int),D F (h:Int),D F (s:Int)],U (some ⟨b1,o1,none⟩) n c1] w fun e w'=>∃A cc,e=qd (U A h cc)/\OwnS w' w.heap.size 2 (U A h cc) (xs.take h)/\Below w.heap.size w w':=by
 obtain⟨i0,hi,hz0,hz1,hz2⟩:=info_parts Tryz.infoI;have hy:=hx.take hl;have hll:(xs.take h).length=h:=hy.1;generalize hys:xs.take h=ys at *
 have hnews:∀j u,(ys.map (Value.int F))[j]? =some u->w.cell? ((⟨b1,o1,none⟩:Addr).add j)=some u:=by
  intro j u hu
  have hj:j<ys.length:=by have:=(List.getElem?_eq_some_iff.1 hu).1;simpa using this
  obtain⟨b,off,h',_,hc'⟩:=hy.2 (by omega)
  injection h' with h'
  rw[h',Addr.add_lit,hc' j (by omega),<-getD_map_int ys j hj,hu]
 have HN:Hid (∀j u,(ys.map (Value.int F))[j]? =some u->((w.alloc (J #[D F p,D F (c:Int),D F (h:Int),D F (s:Int)] 33)).alloc (J #[] 2)).cell? ((⟨b1,o1,none⟩:Addr).add j)=some u):=by
  intro j u hu
  have h1:=hnews j u hu;have h2:=(World.cell?_alloc_lt w (J #[D F p,D F (c:Int),D F (h:Int),D F (s:Int)] 33) _ (World.block_lt_of_cell? w _ h1)).trans h1
  exact(World.cell?_alloc_lt _ _ _ (World.block_lt_of_cell? _ _ h2)).trans h2
 have HO:Hid (((w.alloc (J #[D F p,D F (c:Int),D F (h:Int),D F (s:Int)] 33)).alloc (J #[] 2)).ownsRow w.heap.size 2 1 (U (some ⟨w.heap.size+1,0,none⟩) 0 0) 0 []):=by
  have:=World.ownsRow_made (w.alloc (J #[D F p,D F (c:Int),D F (h:Int),D F (s:Int)] 33)) (base:=w.heap.size) (e:=2) (size:=1) #[] 0 (by simp) (by decide) rfl
  unfold Hid
  simpa using this
 have HB:Hid (Below w.heap.size w ((w.alloc (J #[D F p,D F (c:Int),D F (h:Int),D F (s:Int)] 33)).alloc (J #[] 2))):=((qo _ _).alloc (ql _) _).alloc (by simp) _
 have HL:=h_ hll
 have hc9:h<=c1:=by omega
 have hci:(h:Int)<=(c1:Int):=by omega
 clear hx hy hll hys hnews
 go_enter Tryz.func172,Tryz.ntmps172
 go_wp2_with (at_builtin;refine wpList_append_own _ rfl _ _ 24 rfl w.heap.size 2 i0 (D F 0) 1 8 Tryz.underlying24 hi hz0 hz1 hz2 rfl (by decide) _ 0 [] rfl HO.out ⟨b1,o1,none⟩ h c1 (ys.map (Value.int F)) rfl ?c1 HN.out ?c2 ?c3 ?c4 ?c5 ?_)
 case c1=>rw[List.length_map,HL.out,Nat.mul_one]
 case c2=>exact ints_oneCell _ _
 case c3=>unfold maxLen;omega
 case c4=>omega
 case c5=>simp;omega
 ·intro v' w1 hown hgrow _
  have hb:Below w.heap.size w w1:=HB.out.grown hgrow (by simp;omega) (by simp[Value.ownBlock])
  have H:∃A cc,v'=U A h cc/\OwnS w1 w.heap.size 2 (U A h cc) ys:=by
   have ho:OwnS w1 w.heap.size 2 v' ys:=by
    unfold OwnS;rw[HL.out]
    simpa using hown
   obtain⟨A,cc,rfl,_⟩:=ho.read;have hL:=HL.out;rw[hL]at ho
   exact⟨A,cc,by rw[hL],ho⟩
  have H':=h_ H;have HB':=h_ hb;clear H hb hown hgrow
  go_wp2
  go_ret
  obtain⟨A,cc,rfl,ho⟩:=H'.out
  exact⟨A,cc,rfl,ho,HB'.out⟩
def CpQ(S:Nat->Prop)(h:Nat)(xs:List Int):RP:=fun v W=>∃X k,v=U X h k/\SQ S W X h (xs.take h)/\h<=k
def gCh(S:Nat->Prop)(h:Nat)(own other:List Int)(l:List qh)(i:Nat):RP:=match i with
 | 7=>CpQ S h own
 | 14=>CpQ S h other
 |i=>Eqv (l.getD i qf)
theorem stb_gCh{S:Nat->Prop}{h:Nat}{own other:List Int}{l:List qh}:∀i v W W',gCh S h own other l i v W->Frm S W W'->gCh S h own other l i v W':=by
 intro i v W W' hg hf
 unfold gCh at *
 split at hg
 ·obtain⟨X,k,h1,h2,h3⟩:=hg;exact⟨X,k,h1,h2.frm hf,h3⟩
 ·obtain⟨X,k,h1,h2,h3⟩:=hg;exact⟨X,k,h1,h2.frm hf,h3⟩
 ·exact hg
def dsCh:Nat->Nat
 | 0=>16
 | 1=>17
 | 2=>18
 | 3=>19
 | 4=>20
 | 5=>21
 | 6=>22
 | 7=>23
 | 8=>24
 | 9=>25
 | 10=>26
 | 11=>27
 | 12=>28
 | 13=>29
 | 14=>30
 | 15=>31
 | 16=>32
 | 17=>33
 |_=>0
theorem mj(t:RT2)(ht:t.Ok){own other:List Int}(b1 o1 n1 c1 b2 o2 n2 c2:Nat)(w:qg)(hI:TabI t w)(hA:SQ t.S w (some ⟨b1,o1,none⟩) n1 own)(hB:SQ t.S w (some ⟨b2,o2,none⟩) n2 other)
  (hn1:t.h<=n1) (hn2:t.h<=n2) (hc1:n1<=c1) (hc2:n2<=c2) (hn3:n1<=2000) (hn4:n2<=2000) (hq1:∀x∈own,0<=x) (hq2:∀x∈other,0<=x) (hm1:own.sum<=t.c) (hm2:other.sum<=t.c):
  qi qw 105 #[j2 (some ⟨t.bt,0,none⟩),qb #[U (some ⟨b1,o1,none⟩) n1 c1,U (some ⟨b2,o2,none⟩) n2 c2]] w (RetTn t w (chS t.s t.h own other)):=by
 have hv:=aA ht.v;have hlow:=hI.ltS
 have HF:Hid (FrS t.S w ((w.alloc (J #[U (some ⟨b1,o1,none⟩) n1 c1,U (some ⟨b2,o2,none⟩) n2 c2] 35)).alloc (J #[D F 0,D F 0] 45)) [[U (some ⟨b1,o1,none⟩) n1 c1,U (some ⟨b2,o2,none⟩) n2 c2],[D F 0,D F 0]]):=((FrS.start w hlow).allocT (by simp) _ _).allocT (by simp) _ _
 have hb0:Below w.heap.size w ((w.alloc (J #[U (some ⟨b1,o1,none⟩) n1 c1,U (some ⟨b2,o2,none⟩) n2 c2] 35)).alloc (J #[D F 0,D F 0] 45)):=((qo _ _).alloc (ql _) _).alloc (by simp) _
 have HI0:=h_ (hI.below hb0);have HA:=h_ (hA.below hb0);have HBo:=h_ (hB.below hb0)
 have HNS:Hid (∀j,¬t.S (w.heap.size+j)):=fun j h=>by have:=hlow _ h;omega
 have HNB:Hid (∀j,t.bt≠w.heap.size+j):=fun j h=>by have:=hI.ltB;omega
 have hl1:own.length=n1:=hA.1.1;have hl2:other.length=n2:=hB.1.1
 have CT1:=h_ (cK (some ⟨b1,o1,none⟩) n1 c1 own _ HA.out.1 hq1 (by omega) (by omega))
 have CT2:=h_ (cK (some ⟨b2,o2,none⟩) n2 c2 other _ HBo.out.1 hq2 (by omega) (by omega))
 have HP1:=h_ (fo (h:=t.h) (c:=t.c) (by omega) hq1 hm1)
 have HP2:=h_ (fo (h:=t.h) (c:=t.c) (by omega) hq2 hm2)
 have hs1:own.sum<=15:=by omega
 have hs2:other.sum<=15:=by omega
 have hs3:=bA own hq1;have hs4:=bA other hq2
 have HC:Hid (chS t.s t.h own other=if own.sum=0 then some ⟨1,0⟩else if other.sum=0 then some ⟨0,0⟩else win t.s (own.take t.h) (other.take t.h)):=rfl
 generalize chS t.s t.h own other=R at *;generalize ho:win t.s (own.take t.h) (other.take t.h)=o at *;obtain⟨xn,hxn⟩:∃x:Int,x=(o.getD ⟨0,0⟩).num:=⟨_,rfl⟩;obtain⟨xd,hxd⟩:∃x:Int,x=((o.getD ⟨0,0⟩).depth:Int):=⟨_,rfl⟩;obtain⟨ok,hok⟩:∃x:Bool,x=o.isSome:=⟨_,rfl⟩
 have CW:Hid (∀(W:qg) (X1:Option Addr) (k1:Nat) (X2:Option Addr) (k2:Nat),TabI t W->SQ t.S W X1 t.h (own.take t.h)->t.h<=k1->SQ t.S W X2 t.h (other.take t.h)->t.h<=k2->
   qi qw 90 #[j2 (some ⟨t.bt,0,none⟩),U X1 t.h k1,U X2 t.h k2] W fun e W'=>e=qd (qc #[qb #[D F xn,D F xd],qa ok])/\TabI t W'/\Frm t.S W W'):=fun W X1 k1 X2 k2 hI hA h1 hB h2=>by
  have:=l12Value_all t ht HP1.out HP2.out X1 X2 k1 k2 W hI hA h1 hB h2;rw[ho]at this;rw[hxn,hxd,hok]
  exact this
 have HXN:=h_ hxn;have HXD:=h_ hxd;have HOK:=h_ hok;clear hI hA hB hlow hb0 hq1 hq2 hm1 hm2 hl1 hl2 hv ht hxn hxd hok ho HP1 HP2
 go_enter Tryz.func105,Tryz.ntmps105
 go_wp2_with (fail)
 generalize ((w.alloc (J #[U (some ⟨b1,o1,none⟩) n1 c1,U (some ⟨b2,o2,none⟩) n2 c2] 35)).alloc (J #[D F 0,D F 0] 45))=V at *
 refine CT1.out.mono ?_
 rintro e w' ⟨rfl,rfl⟩
 clear CT1;generalize own.sum=S1 at *;generalize other.sum=S2 at *
 by_cases hz1:S1=0
 ·have HR:Hid (R=some ⟨1,0⟩):=by unfold Hid;rw[HC.out,if_pos hz1]
  have b1':(S1==0)=true:=by simp[hz1]
  clear hz1
  go_wp2_with (fail)
  refine(cD _).mono ?_
  rintro e V1 ⟨rfl,hb⟩
  have HFZ:=h_ (HF.out.below hb);have HIZ:=h_ (HI0.out.below hb);clear hb HF HI0;have c10:=HFZ.out.c1 0 rfl;have f10:=HFZ.out.f1 0 rfl;have c11:=HFZ.out.c1 1 rfl;have f11:=HFZ.out.f1 1 rfl
  go_wp2_with (fail)
  refine qj (v:=qc #[qb #[D F 1,D F 0],qa true]) (by simp[results,Tryz.results105,go_sem,c10,c11,f10,f11]) rfl ⟨by rw[HR.out];rfl,?_,?_⟩
  ·repeat (first|exact HIZ.out|refine TabI.alloc ?_ _|refine TabI.stored ?_ _ (HNS.out 1) (HNB.out 1))
  ·repeat (first|exact HFZ.out.f|refine Frm.alloc ?_ _|refine Frm.ownSet ?_ (by omega) _)
 have b1':(S1==0)=false:=by simp[hz1]
 have HZ1:=h_ hz1;clear hz1;have c01:=HF.out.c0 1 rfl;have c10:=HF.out.c1 0 rfl;have f10:=HF.out.f1 0 rfl;have c11:=HF.out.c1 1 rfl;have f11:=HF.out.f1 1 rfl
 go_wp2_with (fail)
 refine CT2.out.mono ?_
 rintro e w' ⟨rfl,rfl⟩
 clear CT2
 by_cases hz2:S2=0
 ·have HR:Hid (R=some ⟨0,0⟩):=by unfold Hid;rw[HC.out,if_neg HZ1.out,if_pos hz2]
  have b2':(S2==0)=true:=by simp[hz2]
  have HFZ:=HF;clear hz2
  go_wp2_with (fail)
  refine qj (v:=qc #[qb #[D F 0,D F 0],qa true]) (by simp[results,Tryz.results105,go_sem,c10,c11,f10,f11]) rfl ⟨by rw[HR.out];rfl,?_,?_⟩
  ·repeat (first|exact HI0.out|refine TabI.alloc ?_ _|refine TabI.stored ?_ _ (HNS.out 1) (HNB.out 1))
  ·repeat (first|exact HFZ.out.f|refine Frm.alloc ?_ _|refine Frm.ownSet ?_ (by omega) _)
 have b2':(S2==0)=false:=by simp[hz2]
 have HR:Hid (R=o):=by unfold Hid;rw[HC.out,if_neg HZ1.out,if_neg hz2]
 clear hz2
 go_wp2_with (fail)
 clear c01 c10 f10 c11 f11
 refine bI 18 (fun i=>i==17) dsCh (Frm t.S) (fun W=>TabI t W) (gCh t.S t.h own other [j2 (some ⟨t.bt,0,none⟩),j2 (some ⟨t.bt,0,none⟩),j2 (some ⟨t.bt,0,none⟩),j2 (some ⟨t.bt,0,none⟩),qb #[D F t.p,D F (t.c:Int),D F (t.h:Int),D F (t.s:Int)],j2 (some ⟨w.heap.size,0,none⟩),U (some ⟨b1,o1,none⟩) n1 c1,qf,j2 (some ⟨t.bt,0,none⟩),j2 (some ⟨t.bt,0,none⟩),j2 (some ⟨t.bt,0,none⟩),qb #[D F t.p,D F (t.c:Int),D F (t.h:Int),D F (t.s:Int)],j2 (some ⟨w.heap.size,1,none⟩),U (some ⟨b2,o2,none⟩) n2 c2,qf,qc #[qb #[D F xn,D F xd],qa ok],qb #[D F xn,D F xd],qa ok]) (by kernel_rfl) (by kernel_rfl) (fun _ _ _ _ _ h=>h) (fun _ _ _ h1 h2=>Frm.trans h1 h2) (fun _=>Frm.refl _ _) stb_gCh ((Frm.refl _ _).drew) HI0.out.drew ?_ ?_ ?_
 ·intro i op hi hX ho a' W hW hIW hfar hdep
  have hi8:i=17:=by simpa using hX
  clear hfar hX hi;subst hi8
  simp at ho
  subst ho
  ·have d31:a'.tmps.getD 31 qf=_:=dp hdep 15
   exact⟨qa ok,fun W'=>by simp only[qe,qk,d31];go_simp,rfl⟩
 ·intro i op hi hX ho a' W hW hIW hfar hdep
  have e0:a'.tmps.getD 0 qf=j2 (some ⟨t.bt,0,none⟩):=(fr hfar 0).trans rfl
  have e3:a'.tmps.getD 3 qf=j2 (some ⟨w.heap.size,0,none⟩):=(fr hfar 3).trans rfl
  have hi8:i=0\/i=1\/i=2\/i=3\/i=4\/i=5\/i=6\/i=7\/i=8\/i=9\/i=10\/i=11\/i=12\/i=13\/i=14\/i=15\/i=16:=by simp at hX;omega
  clear hfar hX hi
  rcases hi8 with rfl|rfl|rfl|rfl|rfl|rfl|rfl|rfl|rfl|rfl|rfl|rfl|rfl|rfl|rfl|rfl|rfl
  all_goals (simp at ho;subst ho)
  ·refine ilF ?_;simp only[qe,qk,e0];go_simp
  ·refine ilF ?_;simp only[qe,qk,e0];go_simp
  ·have d17:a'.tmps.getD 17 qf=_:=dp hdep 1
   refine ilF ?_;simp only[qe,qk,d17];go_simp
  ·have d18:a'.tmps.getD 18 qf=_:=dp hdep 2
   refine ilF ?_;simp only[qe,qk,d18];go_simp
  ·have d19:a'.tmps.getD 19 qf=_:=dp hdep 3
   have z0:=hIW.tb 0 _ rfl;have z1:=hIW.tb 1 _ rfl;have z2:=hIW.tb 2 _ rfl;have z3:=hIW.tb 3 _ rfl
   refine ilF ?_;simp only[qe,qk,d19];go_simp
  ·refine ilF ?_;simp only[qe,qk,e3];go_simp
  ·have d21:a'.tmps.getD 21 qf=_:=dp hdep 5
   have zz:=HF.out.frm hW;have z0:=zz.c0 0 rfl
   refine ilF ?_;simp only[qe,qk,d21];go_simp
  ·have d20:a'.tmps.getD 20 qf=_:=dp hdep 4
   have d22:a'.tmps.getD 22 qf=_:=dp hdep 6
   refine .inr ⟨172,#[qb #[D F t.p,D F (t.c:Int),D F (t.h:Int),D F (t.s:Int)],U (some ⟨b1,o1,none⟩) n1 c1],by simp only[qe,qk,d20,d22];go_simp,?_⟩
   refine(jX t.p t.c t.h t.s b1 o1 n1 c1 own W (HA.out.frm hW).1 hn1 hc1 hn3).mono ?_
   rintro e W' ⟨Ac,cc,rfl,ho,hb⟩
   have q:=ho.sla (S:=t.S) rfl (fun k hk h=>by have:=hIW.ltS k h;omega)
   exact⟨_,rfl,Frm.of_below' _ hb,hIW.below hb,Ac,cc,rfl,⟨q.1.1,fun _=>q.1.2⟩,q.2⟩
  ·refine ilF ?_;simp only[qe,qk,e0];go_simp
  ·have d24:a'.tmps.getD 24 qf=_:=dp hdep 8
   refine ilF ?_;simp only[qe,qk,d24];go_simp
  ·have d25:a'.tmps.getD 25 qf=_:=dp hdep 9
   refine ilF ?_;simp only[qe,qk,d25];go_simp
  ·have d26:a'.tmps.getD 26 qf=_:=dp hdep 10
   have z0:=hIW.tb 0 _ rfl;have z1:=hIW.tb 1 _ rfl;have z2:=hIW.tb 2 _ rfl;have z3:=hIW.tb 3 _ rfl
   refine ilF ?_;simp only[qe,qk,d26];go_simp
  ·refine ilF ?_;simp only[qe,qk,e3];go_simp
  ·have d28:a'.tmps.getD 28 qf=_:=dp hdep 12
   have zz:=HF.out.frm hW;have z0:=zz.c0 1 rfl
   refine ilF ?_;simp only[qe,qk,d28];go_simp
  ·have d27:a'.tmps.getD 27 qf=_:=dp hdep 11
   have d29:a'.tmps.getD 29 qf=_:=dp hdep 13
   refine .inr ⟨172,#[qb #[D F t.p,D F (t.c:Int),D F (t.h:Int),D F (t.s:Int)],U (some ⟨b2,o2,none⟩) n2 c2],by simp only[qe,qk,d27,d29];go_simp,?_⟩
   refine(jX t.p t.c t.h t.s b2 o2 n2 c2 other W (HBo.out.frm hW).1 hn2 hc2 hn4).mono ?_
   rintro e W' ⟨Ac,cc,rfl,ho,hb⟩
   have q:=ho.sla (S:=t.S) rfl (fun k hk h=>by have:=hIW.ltS k h;omega)
   exact⟨_,rfl,Frm.of_below' _ hb,hIW.below hb,Ac,cc,rfl,⟨q.1.1,fun _=>q.1.2⟩,q.2⟩
  ·have d16:a'.tmps.getD 16 qf=_:=dp hdep 0
   obtain⟨X1,k1,d23,s1,l1⟩:CpQ t.S t.h own (a'.tmps.getD 23 qf) W:=dp hdep 7
   obtain⟨X2,k2,d30,s2,l2⟩:CpQ t.S t.h other (a'.tmps.getD 30 qf) W:=dp hdep 14
   refine .inr ⟨90,#[j2 (some ⟨t.bt,0,none⟩),U X1 t.h k1,U X2 t.h k2],by simp only[qe,qk,d16,d23,d30];go_simp,?_⟩
   refine(CW.out W X1 k1 X2 k2 hIW s1 l1 s2 l2).mono ?_
   rintro e W' ⟨rfl,hI',hf'⟩
   exact⟨_,rfl,hf',hI',rfl⟩
  ·have d31:a'.tmps.getD 31 qf=_:=dp hdep 15
   refine ilF ?_;simp only[qe,qk,d31];go_simp
 intro v W hW hIW hg
 have g0:v 0=_:=gq hg 0
 have g1:v 1=_:=gq hg 1
 have g2:v 2=_:=gq hg 2
 have g3:v 3=_:=gq hg 3
 have g4:v 4=_:=gq hg 4
 have g5:v 5=_:=gq hg 5
 have g6:v 6=_:=gq hg 6
 obtain⟨_,_,g7,_,_⟩:CpQ t.S t.h own (v 7) W:=hg 7 (by omega)
 have g8:v 8=_:=gq hg 8
 have g9:v 9=_:=gq hg 9
 have g10:v 10=_:=gq hg 10
 have g11:v 11=_:=gq hg 11
 have g12:v 12=_:=gq hg 12
 have g13:v 13=_:=gq hg 13
 obtain⟨_,_,g14,_,_⟩:CpQ t.S t.h other (v 14) W:=hg 14 (by omega)
 have g15:v 15=_:=gq hg 15
 have g16:v 16=_:=gq hg 16
 have g17:v 17=_:=gq hg 17
 simp only[qs,qt,putV,dsCh,g0,g1,g2,g3,g4,g5,g6,g7,g8,g9,g10,g11,g12,g13,g14,g15,g16,g17,Act.put]
 clear g0 g1 g2 g3 g4 g5 g6 g7 g8 g9 g10 g11 g12 g13 g14 g15 g16 g17 hg;have HIW:=h_ hIW;have HFZ:=h_ (HF.out.frm hW);clear hIW hW HF HI0 CW HA HBo;have c10:=HFZ.out.c1 0 rfl;have f10:=HFZ.out.f1 0 rfl;have c11:=HFZ.out.c1 1 rfl;have f11:=HFZ.out.f1 1 rfl
 go_wp2_with (fail)
 refine qj (v:=qc #[qb #[D F xn,D F xd],qa ok]) (by simp[results,Tryz.results105,go_sem,c10,c11,f10,f11]) rfl ⟨by rw[HR.out,HXN.out,HXD.out,HOK.out];rfl,?_,?_⟩
 ·repeat (first|exact HIW.out|refine TabI.alloc ?_ _|refine TabI.stored ?_ _ (HNS.out 1) (HNB.out 1))
 ·repeat (first|exact HFZ.out.f|refine Frm.alloc ?_ _|refine Frm.ownSet ?_ (by omega) _)
end Go.Proofs.YtcmeoenkgmghkaaGreat

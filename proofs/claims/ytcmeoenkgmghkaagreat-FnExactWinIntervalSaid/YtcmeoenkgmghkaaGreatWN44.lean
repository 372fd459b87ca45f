/- Part of one proof. There are no conditions. -/
import Derived.Test.YtcmeoenkgmghkaaGreatWN42
set_option maxHeartbeats 0
set_option linter.unusedVariables false
set_option linter.unusedSimpArgs false
set_option maxRecDepth 100000
open Go.Value renaming int->l,slice->J,pointer->K
open Go.IntKind renaming i64->D
open Go.Obj renaming cells->F
namespace Go.Proofs.YtcmeoenkgmghkaaGreat
open Go.RowKit Ps Ra Ex
def digs (B:Int) (x:E) (k:Nat):List Int:=(List.range k).map (dig B x)
theorem digs_len (B:Int) (x:E) (k:Nat):(digs B x k).length=k:=by simp[digs]
theorem digs_succ (B:Int) (x:E) (k:Nat):digs B x (k+1)=digs B x k++[dig B x k]:=by simp[digs,List.range_succ]
theorem digs_get (B:Int) (x:E) {i k:Nat} (h:i<k):(digs B x k).getD i 0=dig B x i:=by simp[digs,List.getD,h]
theorem digs_low {B:Int} (hB:1<=B) {x:E} {i:Nat}:(digs B x (x.depth+1)).getD i 0=dig B x i:=by
 by_cases h:i<x.depth+1
 ·exact digs_get B x h
 ·rw[lV hB (by omega)];simp[digs,List.getD,List.getElem?_eq_none,h]
theorem whole_neg {n m:Int} (hm:1<=m) (h:n.tmod m<0):n.tdiv m-1=n / m/\n.tmod m+m=n % m:=by
 have e1:=Int.tdiv_eq_ediv (a:=n) (b:=m);have e2:=Int.tmod_eq_emod (a:=n) (b:=m)
 have h0:=Int.emod_nonneg n (show m≠0 by omega)
 rw[e2]at h
 by_cases hc:0<=n\/m ∣ n
 ·rw[if_pos hc]at h;omega
 ·rw[if_neg hc]at e1 e2
  have:m.sign=1:=Int.sign_eq_one_of_pos (by omega)
  have:(m.natAbs:Int)=m:=by omega
  omega
theorem whole_pos {n m:Int} (hm:1<=m) (h:0<=n.tmod m):n.tdiv m=n / m/\n.tmod m=n % m:=by
 have e1:=Int.tdiv_eq_ediv (a:=n) (b:=m);have e2:=Int.tmod_eq_emod (a:=n) (b:=m)
 have h1:=Int.emod_lt_of_pos n (show 0<m by omega)
 by_cases hc:0<=n\/m ∣ n
 ·rw[if_pos hc]at e1 e2;omega
 ·rw[if_neg hc]at e1 e2
  have:(m.natAbs:Int)=m:=by omega
  omega
theorem iH (p c h n:Int) (s d:Nat) (w:World) (hs1:1<=s) (hs6:s<=6) (hx:Val (sq s) ⟨n,d⟩):
  Calls Tryz.prog 148 #[.agg #[l D p,l D c,l D h,l D s],.agg #[l D n,l D d]] w (RetO w 2 (digs (sq s) ⟨n,d⟩ (d+1))):=by
 obtain⟨hq1,hq36,_⟩:=sq_bd hs1 hs6;obtain⟨i0,hi,hz0,hz1,hz2⟩:=info_parts Tryz.infoI;have hd50:d<50:=bC hq1 hx;have hx1 : -1000000000000000000<=n:=hx.1;have hx2:n<=1000000000000000000:=hx.2.1;have hp2:pw (sq s) d<=1000000000000000:=hx.2.2.1;have hp1:=aA hq1 d
 have C:=fun (W:World)=>aO p c h s d W hs1 hs6 (by omega)
 rw[(aW hp2).1,(aW hp2).2]at C;have CS:=h_ C
 have CB:=h_ fun (W:World)=>dh p c h s W hs6
 have HF0:Hid (Fr w ((w.alloc (F #[l D p,l D c,l D h,l D s] 33)).alloc (F #[l D n,l D d] 45)) [[l D p,l D c,l D h,l D s],[l D n,l D d]]):=
  ((Fr.start w).allocT (by simp) _ _).allocT (by simp) _ _
 have hdm:Hid (∀j,dig (sq s) ⟨n,d⟩ 0=n / pw (sq s) d\/j<0):=fun j=>.inl (by show flo _ _ 0=_;rw[flo_low hq1 (by omega)];simp)
 clear C hx
 have t0:=Int.tmod_lt_of_pos n (show 0<pw (sq s) d by omega)
 have t1:=Int.lt_tmod_of_pos n (show 0<pw (sq s) d by omega)
 have t2 : -1000000000000000000<=n.tdiv (pw (sq s) d)/\n.tdiv (pw (sq s) d)<=1000000000000000000:=by
  have h1:=Int.natAbs_tdiv n (pw (sq s) d);have h2:n.natAbs.div (pw (sq s) d).natAbs<=n.natAbs:=Nat.div_le_self _ _;rw[<- h1]at h2
  omega
 obtain⟨t2,t3⟩:=t2
 by_cases hneg:n.tmod (pw (sq s) d)<0
 focus
  obtain⟨e1,e2⟩:=whole_neg hp1 hneg
  have hwh:Hid ([n.tdiv (pw (sq s) d)-1]=digs (sq s) ⟨n,d⟩ 1):=by
   show _=[dig (sq s) ⟨n,d⟩ 0]
   rw[(hdm.out 0).resolve_right (by omega),e1]
  refine ?zc
 rotate_left
 focus
  obtain⟨e1,e2⟩:=whole_pos hp1 (Int.not_lt.1 hneg)
  have hwh:Hid ([n.tdiv (pw (sq s) d)]=digs (sq s) ⟨n,d⟩ 1):=by
   show _=[dig (sq s) ⟨n,d⟩ 0]
   rw[(hdm.out 0).resolve_right (by omega),e1]
  refine ?zd
 rotate_left
 case' zc|zd=>
  have hrs:=h_ e2;clear e1 e2
  go_enter Tryz.func148,Tryz.ntmps148
  go_wp2_with (go_at_call 145;((with_reducible refine (more_first (CS.out _)).mono ?_);rintro e w' ⟨rfl,t,rfl⟩))
 case' zc=>
  have HF:=h_ (HF0.out.more t);generalize more _ t=W at HF ⊢;generalize n.tdiv (pw (sq s) d)-1=wh at *;generalize n.tmod (pw (sq s) d)+pw (sq s) d=rs at *
 case' zd=>
  have HF:=h_ (HF0.out.more t);generalize more _ t=W at HF ⊢;generalize n.tdiv (pw (sq s) d)=wh at *;generalize n.tmod (pw (sq s) d)=rs at *
 case zc|zd=>
  have HO0:=h_ (OwnS.made W (base:=w.heap.size+2) 2 (digs (sq s) ⟨n,d⟩ 1) #[l D wh] (digs_len _ _ _) (by rw[<- hwh.out];rfl) (HF.out.z) (by unfold maxLen;omega))
  have HF1:=h_ (HF.out.alloc (F #[l D wh] 2))
  go_loopw [5,8,9,10] (fun sc rest out i wr=>∃k:Nat,k<=d/\i = l D k/\sc = l D (pw (sq s) (d-k))/\rest = l D (n % pw (sq s) (d-k))/\OwnS wr (w.heap.size+2) 2 out (digs (sq s) ⟨n,d⟩ (k+1))/\Fr w wr [[l D p,l D c,l D h,l D s],[l D n,l D d]]) (fun _ _ _ i _=>d-(intOf i).toNat)
  case atStart=>exact⟨0,Nat.zero_le _,rfl,rfl,by rw[Nat.sub_zero,<- hrs.out],HO0.out,HF1.out⟩
  case round=>
   obtain⟨k,hk,rfl,rfl,rfl,hO,hF⟩:=hrel;have HOr:=h_ hO;have HFr:=h_ hF;clear hO hF;obtain⟨z0,c00,f00,c01,f01,c02,f02,c03,f03,z1,c10,f10,c11,f11⟩:=HFr.out.xf1
   by_cases hlt:k<d
   ·have hki:(k:Int)<(d:Int):=by omega
    have hS:Hid (pw (sq s) (d-k)=pw (sq s) (d-(k+1))*sq s):=by rw[Hid,<- bJ];congr 1;omega
    have hD:Hid (n % pw (sq s) (d-k) / pw (sq s) (d-(k+1))=dig (sq s) ⟨n,d⟩ (k+1)):=dig_low hq1 (x:=⟨n,d⟩) hlt
    have hM:Hid (n % pw (sq s) (d-k) % pw (sq s) (d-(k+1))=n % pw (sq s) (d-(k+1))):=by
     rw[Hid,hS.out,Int.emod_emod_of_dvd _ (Int.dvd_mul_right _ _)]
    have p1:=aA hq1 (d-(k+1));have p0:=aA hq1 (d-k)
    have p2:pw (sq s) (d-k)<=1000000000000000:=Int.le_trans (bS hq1 (by omega)) hp2
    have r0:=Int.emod_nonneg n (show pw (sq s) (d-k)≠0 by omega)
    have r1:=Int.emod_lt_of_pos n (show 0<pw (sq s) (d-k) by omega)
    obtain⟨S1,hS1⟩:∃S1,pw (sq s) (d-(k+1))=S1:=⟨_,rfl⟩;rw[hS1]at hS hD hM p1;have HS1:=h_ hS1;clear hS1;generalize n % pw (sq s) (d-k)=r at *;generalize pw (sq s) (d-k)=S0 at *
    have hq:S0 / sq s=S1:=by rw[hS.out];exact Int.mul_ediv_cancel _ (by omega)
    go_wp2_with (first|(go_at_call 186;((with_reducible refine (more_first (CB.out _)).mono ?_);rintro e w' ⟨rfl,t,rfl⟩))|(at_builtin;refine wpList_append_own _ rfl _ _ 24 rfl (w.heap.size+2) 2 i0 (l D 0) 1 8 Tryz.underlying24 hi hz0 hz1 hz2 rfl (by decide) _ _ _ rfl (row_alloc (row_more HOr.out t) _) ⟨(more wr t).heap.size,0,none⟩ 1 1 [l D (r / S1)] rfl rfl (one_new _ _ _) (int_cell _) (by rw[digs_len];unfold maxLen;omega) (by rw[digs_len];omega) (by have:=(HFr.out.more t).z;simp at this;simp;omega) ?_;intro v' w1 hown hgrow _))
    have HF2:=h_ (((HFr.out.more t).alloc _).grow hgrow (row_alloc (row_more HOr.out t) _) (by simp))
    have HO2:Hid (OwnS w1 (w.heap.size+2) 2 v' (digs (sq s) ⟨n,d⟩ (k+1+1))):=by
     unfold Hid OwnS;rw[digs_succ _ _ (k+1),<- hD.out,List.length_append,List.map_append]
     exact hown
    clear hown hgrow
    go_wp2_with (fail)
    go_roundw
    case rel=>exact⟨k+1,by omega,by go_num,by rw[HS1.out],by rw[HS1.out,hM.out],HO2.out,HF2.out⟩
    case measure=>simp[intOf];omega
   ·have hkd:k=d:=by omega
    subst hkd
    have HR:Hid (∀v,OwnS wr (w.heap.size+2) 2 v (digs (sq s) ⟨n,k⟩ (k+1))->RetO w 2 (digs (sq s) ⟨n,k⟩ (k+1)) (.returned v) wr):=fun v hv=>RetO.mk (hv.mono (by omega)) HFr.out.b
    go_wp2_with (fail)
    go_ret
    exact HR.out _ HOr.out
theorem dF (p c h xn yn:Int) (s xd yd:Nat) (w:World) (hs1:1<=s) (hs6:s<=6) (hx:Val (sq s) ⟨xn,xd⟩) (hy:Val (sq s) ⟨yn,yd⟩):
  Calls Tryz.prog 77 #[.agg #[l D p,l D c,l D h,l D s],.agg #[l D xn,l D xd],.agg #[l D yn,l D yd]] w fun e w'=>e = .returned (l D (cmpE (sq s) ⟨xn,xd⟩ ⟨yn,yd⟩))/\Below w.heap.size w w':=by
 obtain⟨hq1,hq36,_⟩:=sq_bd hs1 hs6;have hxd:xd<50:=bC hq1 hx;have hyd:yd<50:=bC hq1 hy
 have CX:=h_ fun (W:World)=>iH p c h xn s xd W hs1 hs6 hx
 have CY:=h_ fun (W:World)=>iH p c h yn s yd W hs1 hs6 hy
 have HX:=h_ fun i=>digs_low hq1 (x:=⟨xn,xd⟩) (i:=i)
 have HY:=h_ fun i=>digs_low hq1 (x:=⟨yn,yd⟩) (i:=i)
 have lx:=digs_len (sq s) ⟨xn,xd⟩ (xd+1);have ly:=digs_len (sq s) ⟨yn,yd⟩ (yd+1)
 have HF0:Hid (Fr w (((w.alloc (F #[l D p,l D c,l D h,l D s] 33)).alloc (F #[l D xn,l D xd] 45)).alloc (F #[l D yn,l D yd] 45)) [[l D p,l D c,l D h,l D s],[l D xn,l D xd],[l D yn,l D yd]]):=
  (((Fr.start w).allocT (by simp) _ _).allocT (by simp) _ _).allocT (by simp) _ _
 clear hx hy
 go_enter Tryz.func77,Tryz.ntmps77
 go_wp2_with (fail)
 refine (CX.out _).mono ?_
 rintro e w1 ⟨A1,c1,rfl,ho1,hb1⟩
 have HF1:=h_ (HF0.out.below hb1);have HO1:=h_ ho1;clear ho1 hb1;obtain⟨z0,c00,f00,c01,f01,c02,f02,c03,f03,z1,c10,f10,c11,f11,z2,c20,f20,c21,f21⟩:=HF1.out.xf5
 go_wp2_with (fail)
 refine (CY.out _).mono ?_
 rintro e w2 ⟨A2,c2,rfl,ho2,hb2⟩
 have HF2:=h_ (HF1.out.below hb2);have HS1:=h_ ((HO1.out.below hb2).sl rfl).1;have HS2:=h_ (ho2.sl rfl).1;clear ho2 hb2 HO1;clear HF1 z0 c00 c01 c02 c03 f00 f01 f02 f03 z1 c10 c11 f10 f11 z2 c20 c21 f20 f21
 go_wp2_with (fail)
 go_loop [9] (fun v=>∃k:Nat,v = l D k/\k<=max xd yd+1/\Hid (∀i,i<k->flo (sq s) ⟨xn,xd⟩ i=flo (sq s) ⟨yn,yd⟩ i)) (fun v=>max xd yd+1-(intOf v).toNat)
 case atStart=>exact⟨0,rfl,by omega,fun i hi=>absurd hi (by omega)⟩
 case round=>
  obtain⟨k,rfl,hk,hall⟩:=hrel
  have hk51:k<=51:=by omega
  by_cases h1:k<xd+1
  focus
   have h1i:(k:Int)<(xd:Int)+1:=by omega
   obtain⟨b1,off1,rfl,_,hc1⟩:=HS1.out.2 (by rw[lx];omega)
   have q1:=hc1 k (by rw[lx];exact h1)
   have HP:Hid ((digs (sq s) ⟨xn,xd⟩ (xd+1)).getD k 0=dig (sq s) ⟨xn,xd⟩ k):=HX.out k;clear hc1
   by_cases h2:k<yd+1
   focus
    refine ?zj
   rotate_left
   focus
    refine ?zm
  rotate_left 2
  focus
   have h1i:¬(k:Int)<(xd:Int)+1:=by omega
   have h1b:decide ((k:Int)<(xd:Int)+1)=false:=decide_eq_false h1i
   have HP:Hid ((0:Int)=dig (sq s) ⟨xn,xd⟩ k):=(lV hq1 (by show xd<k;omega)).symm
   by_cases h2:k<yd+1
   focus
    refine ?zk
   rotate_left
   focus
    refine ?zn
  rotate_left 2
  case' zj|zk=>
   have h2i:(k:Int)<(yd:Int)+1:=by omega
   obtain⟨b2,off2,rfl,_,hc2⟩:=HS2.out.2 (by rw[ly];omega)
   have q2:=hc2 k (by rw[ly];exact h2)
  case' zj=>
   have HQ:Hid ((digs (sq s) ⟨yn,yd⟩ (yd+1)).getD k 0=dig (sq s) ⟨yn,yd⟩ k):=HY.out k;clear hc2;generalize (digs (sq s) ⟨xn,xd⟩ (xd+1)).getD k 0=P at *;generalize (digs (sq s) ⟨yn,yd⟩ (yd+1)).getD k 0=Q at *
   by_cases hlt:(P:Int)<Q
   focus
    refine ?zd
   rotate_left
   focus
    have hltb:decide ((P:Int)<Q)=false:=decide_eq_false hlt
    by_cases hgt:(Q:Int)<P
    focus
     refine ?zg
    rotate_left
    focus
     have hgtb:decide ((Q:Int)<P)=false:=decide_eq_false hgt
     refine ?za
  case' zk=>
   have HQ:Hid ((digs (sq s) ⟨yn,yd⟩ (yd+1)).getD k 0=dig (sq s) ⟨yn,yd⟩ k):=HY.out k;clear hc2;generalize (digs (sq s) ⟨yn,yd⟩ (yd+1)).getD k 0=Q at *
   by_cases hlt:(0:Int)<Q
   focus
    refine ?zf
   rotate_left
   focus
    have hltb:decide ((0:Int)<Q)=false:=decide_eq_false hlt
    by_cases hgt:(Q:Int)<0
    focus
     refine ?zi
    rotate_left
    focus
     have hgtb:decide ((Q:Int)<0)=false:=decide_eq_false hgt
     refine ?zc
  case' zm|zn=>
   have h2i:¬(k:Int)<(yd:Int)+1:=by omega
   have h2b:decide ((k:Int)<(yd:Int)+1)=false:=decide_eq_false h2i
  case' zm=>
   have HQ:Hid ((0:Int)=dig (sq s) ⟨yn,yd⟩ k):=(lV hq1 (by show yd<k;omega)).symm
   generalize (digs (sq s) ⟨xn,xd⟩ (xd+1)).getD k 0=P at *
   by_cases hlt:(P:Int)<0
   focus
    refine ?ze
   rotate_left
   focus
    have hltb:decide ((P:Int)<0)=false:=decide_eq_false hlt
    by_cases hgt:(0:Int)<P
    focus
     refine ?zh
    rotate_left
    focus
     have hgtb:decide ((0:Int)<P)=false:=decide_eq_false hgt
     refine ?zb
  case za|zb|zc=>
   have hall':Hid (∀i,i<k+1->flo (sq s) ⟨xn,xd⟩ i=flo (sq s) ⟨yn,yd⟩ i):=dig_eq hall.out (by rw[<- HP.out,<- HQ.out];omega)
   have hk':k+1<=max xd yd+1:=by omega
   go_wp2_with (fail)
   go_round
   case rel=>exact⟨k+1,by go_num,hk',hall'⟩
   case measure=>simp[intOf];omega
  case' zd|ze|zf=>
   have HC:Hid (cmpE (sq s) ⟨xn,xd⟩ ⟨yn,yd⟩ = -1):=dig_lt hq1 hall.out (by rw[<- HP.out,<- HQ.out];exact hlt)
  case' zg|zh|zi=>
   have HC:Hid (cmpE (sq s) ⟨xn,xd⟩ ⟨yn,yd⟩=1):=dig_gt hq1 hall.out (by rw[<- HP.out,<- HQ.out];exact hgt)
  case' zn=>
   have HC:Hid (cmpE (sq s) ⟨xn,xd⟩ ⟨yn,yd⟩=0):=cmp_eq hq1 (j:=max xd yd) (Nat.le_max_left _ _) (Nat.le_max_right _ _) (hall.out _ (by omega))
  case zn|zd|ze|zf|zg|zh|zi=>
   go_wp2_with (fail)
   go_ret
   exact⟨by rw[HC.out];rfl,HF2.out.b⟩
def RetB2 (t:RT2) (w:World) (o:Option (Nat×Nat×E)) (e:Ending) (w':World):Prop:=
 TabI t w'/\Frm t.S w w'/\match o with
  | none=>e = .returned (.tuple #[l D 0,.agg #[l D 0,l D 0],.bool false])
  | some (_,a,x)=>e = .returned (.tuple #[l D (a:Int),.agg #[l D x.num,l D (x.depth:Int)],.bool true])
theorem l12Best_any (t:RT2) (ht:t.Ok) {other:List Int} (L:List (List Int)) (hL:∀q∈L,PosP t.h t.c q) (haft:∀q∈L,AftC t q other) (A B:Option Addr) (n cl cb:Nat) (w:World) (hn:n<=1000000)
  (hI:TabI t w) (hpl:PL t.S w A n L) (hB:SQ t.S w B t.h other) (hcb:t.h<=cb):
  Calls Tryz.prog 163 #[K (some ⟨t.bt,0,none⟩),J A n cl,J B t.h cb] w (RetB2 t w (bestS (sq t.s) (sec t.s other) L)):=by
 have hv:=aC ht.v
 have hs1:1<=t.s:=by omega
 have hs6:t.s<=6:=by omega
 obtain⟨hq1,hq36,_⟩:=sq_bd hs1 hs6;have hlow:=hI.ltS
 have HNS:Hid (∀j,¬t.S (w.heap.size+j)):=fun j h=>by have:=hlow _ h;omega
 have HNB:Hid (∀j,t.bt≠w.heap.size+j):=fun j h=>by have:=hI.ltB;omega
 have HF0:Hid (FrS t.S w ((w.alloc (F #[l D 0,l D 0] 45)).alloc (F #[l D 0,l D 0] 45)) [[l D 0,l D 0],[l D 0,l D 0]]):=((FrS.start w hlow).allocT (by simp) _ _).allocT (by simp) _ _
 have HI0:Hid (TabI t ((w.alloc (F #[l D 0,l D 0] 45)).alloc (F #[l D 0,l D 0] 45))):=(hI.alloc _).alloc _;have HPL:=h_ hpl;have HNL:=h_ hpl.len;have HBB:=h_ hB;have HLP:=h_ hL;have HAFT:=h_ haft
 have HSV:=h_ fun (q:List Int) (x:E) (h:sec t.s other q=some x)=>sec_val hq1 h
 have HST:Hid (bestS (sq t.s) (sec t.s other) (L.take 0)=some (0,0,⟨0,0⟩)):=rfl;clear hI hpl hB hL haft hv hlow ht
 go_enter Tryz.func163,Tryz.ntmps163
 go_wp2_with (fail)
 go_loopw [9,11] (fun v9 v11 wr=>∃(k a:Nat) (xn:Int) (xd:Nat),k<=n/\v11 = l D k/\v9 = l D a/\Hid (bestS (sq t.s) (sec t.s other) (L.take k)=some (k,a,⟨xn,xd⟩))/\Hid (FrS t.S w wr [[l D 0,l D 0],[l D xn,l D (xd:Int)]])/\Hid (TabI t wr)) (fun _ v11 _=>n-(intOf v11).toNat)
 case atStart=>exact⟨0,0,0,0,by omega,rfl,rfl,HST.out,HF0.out,HI0.out⟩
 case round=>
  clear HF0 HI0 HST;obtain⟨k,a,xn,xd,hk,rfl,rfl,hbs,HF,HI⟩:=hrel
  by_cases hlt:k<n
  focus
   have hki:(k:Int)<(n:Int):=by omega
   obtain⟨bl,ol,Bq,mq,cq,rfl,hzl,hcq,hsq,hmq⟩:=(HPL.out.frm HF.out.f).at hlt
   have hmem:=aj L [] (k:=k) (by rw[HNL.out];exact hlt)
   have hqp:=HLP.out _ hmem
   have hmh:t.h=mq:=by rw[<- hsq.1.1];exact hqp.1.symm
   subst hmh
   have hzr:w.heap.size+2<=wr.heap.size:=by have:=HF.out.z;simpa using this
   have CAF:=h_ (HAFT.out _ hmem Bq B cq cb wr HI.out hsq hmq (HBB.out.frm HF.out.f) hcb)
   have HLL:Hid (k<L.length):=by unfold Hid;rw[HNL.out];exact hlt
   have ha9:a<=1000000:=by
    have:=bestS_count hbs.out
    have h2:(L.take k).length<=k:=by rw[List.length_take];omega
    rcases this.2 with h|h
    ·simp only at h;omega
    ·have h3:=hbs.out
     rw[h,eR]at h3;injection h3 with h3;injection h3 with _ h3;injection h3 with h3 _
     omega
   rcases hso:sec t.s other (L.getD k []) with _|⟨yn,yd⟩
   focus
    have HR:Hid (bestS (sq t.s) (sec t.s other) L=none):=kM HLL.out hbs.out hso
    refine ?zf
   rotate_left
   focus
    have HYV:Hid (Val (sq t.s) ⟨yn,yd⟩):=HSV.out _ _ hso
    have HXV:Hid (Val (sq t.s) ⟨xn,xd⟩):=jS hq1 HSV.out hbs.out
    have HGO:Hid (k=0\/ltE (sq t.s) ⟨xn,xd⟩ ⟨yn,yd⟩=true->bestS (sq t.s) (sec t.s other) (L.take (k+1))=some (k+1,k,⟨yn,yd⟩)):=fun h=>bestS_go HLL.out hbs.out hso h
    have HKP:Hid (k≠0->ltE (sq t.s) ⟨xn,xd⟩ ⟨yn,yd⟩=false->bestS (sq t.s) (sec t.s other) (L.take (k+1))=some (k+1,a,⟨xn,xd⟩)):=fun h1 h2=>kN HLL.out hbs.out hso h1 h2
    refine ?ze
  rotate_left 2
  focus
   have hke:k=n:=by omega
   have HR:Hid (bestS (sq t.s) (sec t.s other) L=some (k,a,⟨xn,xd⟩)):=by
    have h:=hbs.out
    rwa [List.take_of_length_le (by rw[HNL.out];omega)]at h
   obtain⟨z0,c00,f00,c01,f01,z1,c10,f10,c11,f11⟩:=HF.out.xf2
   go_wp2_with (fail)
   first|refine ak 3 (by kernel_rfl) (by kernel_rfl) ?_|refine am 3 (by kernel_rfl) (by kernel_rfl) ?_
   simp only[List.take_succ_cons,List.take_zero,List.drop_succ_cons,List.drop_zero]
   repeat (first|go_big_quiet_step (fail)|quiet_step (fail))
   refine wpQuiet_nil ?_
   intro _ hw'
   obtain⟨tr,hw''⟩:=hw';subst hw'';clear z0 c00 f00 c01 f01 z1 c10 f10 c11 f11;have HF2:=h_ (HF.out.more tr);have HI2:=h_ (HI.out.more tr);clear HF HI;generalize more wr tr=Y at *;obtain⟨z0,c00,f00,c01,f01,z1,c10,f10,c11,f11⟩:=HF2.out.xf2
   go_wp2_with (fail)
   refine bodyPost_ret (v:=.tuple #[l D (a:Int),.agg #[l D xn,l D (xd:Int)],.bool true]) (by simp[results,Tryz.results163,go_sem,c00,c01,z0,f00,f01]) rfl ?_
   refine ?zg
  rotate_left
  case' ze|zf=>
   rw[hso]at CAF;clear hqp hsq hso hmem;obtain⟨z0,c00,f00,c01,f01,z1,c10,f10,c11,f11⟩:=HF.out.xf2
   go_wp2_with (fail)
   clear z0 c00 f00 c01 f01 z1 c10 f10 c11 f11
   refine CAF.out.mono ?_
   rintro e w2 ⟨rfl,hI2,hf2⟩
  case' ze=>
   have HF2:Hid (FrS t.S w (w2.alloc (F #[l D yn,l D (yd:Int)] 45)) [[l D 0,l D 0],[l D xn,l D (xd:Int)]]):=(HF.out.frm hf2).alloc _;have HI2:Hid (TabI t (w2.alloc (F #[l D yn,l D (yd:Int)] 45))):=hI2.alloc _;have hzg:w.heap.size+2<=w2.heap.size:=Nat.le_trans hzr hf2.size
   have g0:(w2.alloc (F #[l D yn,l D (yd:Int)] 45)).cell? ⟨w2.heap.size,0,none⟩=some (l D yn):=by simp[go_sem]
   have g1:(w2.alloc (F #[l D yn,l D (yd:Int)] 45)).cell? ⟨w2.heap.size,1,none⟩=some (l D (yd:Int)):=by simp[go_sem]
   have gz:w2.heap.size<(w2.alloc (F #[l D yn,l D (yd:Int)] 45)).heap.size:=by simp
   unfold exV
   simp only[Option.getD_some,Option.isSome_some]
   have e0:=HI2.out.tb 0 _ rfl;have e1:=HI2.out.tb 1 _ rfl;have e2:=HI2.out.tb 2 _ rfl;have e3:=HI2.out.tb 3 _ rfl;have hbt:=HI2.out.ltB;clear hI2 hf2 HF HI CAF hzr
   by_cases hk0:k=0
   focus
    have HR:=h_ (HGO.out (.inl hk0))
    have b0:((k:Int) == 0)=true:=by simp[hk0]
    have HK0:=h_ hk0;clear hk0 HGO HKP
    go_wp2_with (fail)
    generalize w2.alloc (F #[l D yn,l D (yd:Int)] 45)=W2 at *
    first|refine ag (by kernel_rfl) (by kernel_rfl) ?_|refine ae (by kernel_rfl) (by kernel_rfl) ?_
    repeat (first|go_big_quiet_step (fail)|quiet_step (fail))
    refine wpQuiet_nil ?_
    intro _ hw'
    obtain⟨tr,hw''⟩:=hw';subst hw'';have HF3:=h_ (HF2.out.more tr);have HI3:=h_ (HI2.out.more tr);have k0:=ac g0 (aa _ tr);have k1:=ac g1 (aa _ tr);have kz:=Nat.lt_of_lt_of_le gz (ai _ tr);clear HF2 HI2 g0 g1 gz e0 e1 e2 e3 hbt;generalize more W2 tr=Z at *;obtain⟨z0,c00,f00,c01,f01,z1,c10,f10,c11,f11⟩:=HF3.out.xf2
    refine ?za
   rotate_left
   focus
    have b0:((k:Int) == 0)=false:=by simp[hk0]
    have COMP:=h_ fun (W:World)=>dF t.p t.c t.h yn xn t.s yd xd W hs1 hs6 HYV.out HXV.out
    have HCS:Hid ((0<cmpE (sq t.s) ⟨yn,yd⟩ ⟨xn,xd⟩)=(ltE (sq t.s) ⟨xn,xd⟩ ⟨yn,yd⟩=true)):=cmp_swap;have hcb1:=cmp_bd (sq t.s) ⟨yn,yd⟩ ⟨xn,xd⟩;generalize cmpE (sq t.s) ⟨yn,yd⟩ ⟨xn,xd⟩=cm at *
    by_cases hcm:0<cm
    focus
     have HR:=h_ (HGO.out (.inr (by rw[<- HCS.out];exact hcm)))
     refine ?zc
    rotate_left
    focus
     have HR:=h_ (HKP.out hk0 (by
      cases hl:ltE (sq t.s) ⟨xn,xd⟩ ⟨yn,yd⟩with
      | false=>rfl
      | true=>exact absurd (by rw[HCS.out];exact hl) hcm))
     refine ?zd
  case' zc|zd=>
   clear HGO HKP
   go_wp2_with (fail)
   generalize w2.alloc (F #[l D yn,l D (yd:Int)] 45)=W2 at *;obtain⟨z0,c00,f00,c01,f01,z1,c10,f10,c11,f11⟩:=HF2.out.xf2
   first|refine ag (by kernel_rfl) (by kernel_rfl) ?_|refine ae (by kernel_rfl) (by kernel_rfl) ?_
   repeat (first|go_big_quiet_step ((go_at_call 77;exact more_call (COMP.out _)))|quiet_step ((go_at_call 77;exact more_call (COMP.out _))))
   refine wpQuiet_nil ?_
   intro _ hw'
  case' zc=>
   obtain⟨tr,hw''⟩:=hw';subst hw'';clear z0 c00 f00 c01 f01 z1 c10 f10 c11 f11;have HF3:=h_ (HF2.out.more tr);have HI3:=h_ (HI2.out.more tr);have k0:=ac g0 (aa _ tr);have k1:=ac g1 (aa _ tr);have kz:=Nat.lt_of_lt_of_le gz (ai _ tr);clear HF2 HI2 g0 g1 gz e0 e1 e2 e3 hbt;generalize more W2 tr=Z at *;obtain⟨z0,c00,f00,c01,f01,z1,c10,f10,c11,f11⟩:=HF3.out.xf2
  case za|zc=>
   go_wp2_with (fail)
   clear z0 c00 f00 c01 f01 z1 c10 f10 c11 f11;have HF5:Hid (FrS t.S w ((Z.setCell ⟨w.heap.size+1,0,none⟩ (l D yn)).setCell ⟨w.heap.size+1,1,none⟩ (l D (yd:Int))) [[l D 0,l D 0],[l D yn,l D (yd:Int)]]):=(HF3.out.set 1 0 rfl rfl _).set 1 1 rfl rfl _;have HI5:Hid (TabI t ((Z.setCell ⟨w.heap.size+1,0,none⟩ (l D yn)).setCell ⟨w.heap.size+1,1,none⟩ (l D (yd:Int)))):=(HI3.out.stored _ (HNS.out 1) (HNB.out 1)).stored _ (HNS.out 1) (HNB.out 1)
   go_roundw
   case rel=>exact⟨k+1,k,yn,yd,by omega,by go_num,rfl,HR.out,HF5.out,HI5.out⟩
   case measure=>(simp[intOf])<;>omega
  case zd=>
   obtain⟨tr,hw''⟩:=hw';subst hw'';clear z0 c00 f00 c01 f01 z1 c10 f10 c11 f11;have HF3:=h_ (HF2.out.more tr);have HI3:=h_ (HI2.out.more tr);have k0:=ac g0 (aa _ tr);have k1:=ac g1 (aa _ tr);have kz:=Nat.lt_of_lt_of_le gz (ai _ tr);clear HF2 HI2 g0 g1 gz e0 e1 e2 e3 hbt;generalize more W2 tr=Z at *;obtain⟨z0,c00,f00,c01,f01,z1,c10,f10,c11,f11⟩:=HF3.out.xf2;clear z0 c00 f00 c01 f01 z1 c10 f10 c11 f11
   go_wp2_with (fail)
   go_roundw
   case rel=>exact⟨k+1,a,xn,xd,by omega,by go_num,rfl,HR.out,HF3.out,HI3.out⟩
   case measure=>(simp[intOf])<;>omega
  case' zf=>
   have HF2:=h_ (HF.out.frm hf2);have HI2:=h_ hI2;unfold exV
   simp only[Option.getD_none,Option.isSome_none]
   clear hI2 hf2 HF HI CAF;obtain⟨z0,c00,f00,c01,f01,z1,c10,f10,c11,f11⟩:=HF2.out.xf2
   go_wp2_with (fail)
   refine bodyPost_ret (v:=.tuple #[l D 0,.agg #[l D 0,l D 0],.bool false]) (by simp[results,Tryz.results163,go_sem,c00,c01,z0,f00,f01]) rfl ?_
  case zg|zf=>
   rw[HR.out]
   refine⟨?_,?_,rfl⟩
   ·repeat (first|exact HI2.out|refine TabI.alloc ?_ _|refine TabI.stored ?_ _ (HNS.out 0) (HNB.out 0))
   ·repeat (first|exact HF2.out.f|refine Frm.alloc ?_ _|refine Frm.ownSet ?_ (by omega) _)
open Go.RowKit Ps
theorem sl_lit (W:World) (xs:List Int) (e:TypeId):SL (W.alloc (F (xs.map (Value.int D)).toArray e)) (some ⟨W.heap.size,0,none⟩) xs.length xs:=by
 refine⟨rfl,fun hn=>⟨W.heap.size,0,rfl,by simp,fun i hi=>?_⟩⟩
 rw[Nat.zero_add]
 have h:(xs.map (Value.int D))[i]? = some (l D (xs.getD i 0)):=by simp[List.getD,hi]
 simp[go_sem,List.getD,hi]
theorem j6 (S:Nat->Prop) (vp vc vh vs:Int) (A:Option Addr) (n c a b:Nat) (p:List Int) (w:World) (hx:SL w A n p) (hc:n<=c) (hp:PosP n 15 p) (hn:n<=24) (hn0:0<n) (hb1:1<=b) (hba:b<=a) (ha6:a<=6) (hS:∀k,w.heap.size<=k->¬S k):
  Calls Tryz.prog 164 #[.agg #[l D vp,l D vc,l D vh,l D vs],J A n c,.agg #[l D a,l D b]] w (RetL S w (resultsL p a b)):=by
 have HF:Hid (Fr w ((w.alloc (F #[l D vp,l D vc,l D vh,l D vs] 33)).alloc (F #[l D a,l D b] 37)) [[l D vp,l D vc,l D vh,l D vs],[l D a,l D b]]):=
  ((Fr.start w).allocT (by simp) _ _).allocT (by simp) _ _
 have HX:=h_ hx;have HP:=h_ hp;have HSS:=h_ hS;clear hx hp hS
 by_cases hab:a=b
 ·subst hab
  obtain⟨m,hm,hu⟩:=ia (d:=a) (by omega) 4 HP.out
  have CW:Hid (∀(W:World) (k:Nat),Below w.heap.size w W->W.heap.size=k->Calls Tryz.prog 200 #[J A n c,J (some ⟨k,0,none⟩) 4 4] (W.alloc (F #[l D a,l D a,l D a,l D a] 2)) (RetW S (W.alloc (F #[l D a,l D a,l D a,l D a] 2)) (sortU (reach [a,a,a,a] p)) m)):=fun W k hW hk=>by
   subst hk;have hW2:Below w.heap.size w (W.alloc (F #[l D a,l D a,l D a,l D a] 2)):=hW.alloc hW.size _
   exact ej [a,a,a,a] (fun e he=>by simp at he;omega) (by simp) S p m A n c (some ⟨W.heap.size,0,none⟩) 4 _ (HX.out.below hW2) hc HP.out hn hn0 (sl_lit W [(a:Int),a,a,a] _) (by simp) hu (by omega) (fun k hk=>HSS.out k (Nat.le_trans hW2.size hk))
  have HBW:Hid (Below w.heap.size w ((w.alloc (F #[l D vp,l D vc,l D vh,l D vs] 33)).alloc (F #[l D a,l D a] 37))):=HF.out.b;clear hm hu
  go_enter Tryz.func164,Tryz.ntmps164
  go_wp2_with (go_at_call 200;(with_reducible refine (CW.out _ _ (by exact HBW.out) (by simp)).mono ?_);rintro e w1 ⟨b1,o1,n1,c1,rfl,hpl1,hc1,hb1⟩)
  go_ret
  rw[<- res_eq (by omega) HP.out]
  exact⟨b1,o1,n1,c1,rfl,hpl1,hc1,HBW.out.trans ((Below.alloc (Below.refl _ _) (Nat.le_refl _) _ |>.trans (hb1.mono (by simp))).mono HBW.out.size)⟩
 ·have b0:((a:Int) == (b:Int))=false:=by simp;omega
  have hu1:=cntP_uni (b:=b) (show 1<=a by omega) HP.out
  have hu2:=cntP_uni (b:=a) (show 1<=b by omega) HP.out
  have hN1:cntP a p<=2:=by unfold cntP;split;omega;split<;>omega
  have hN2:cntP b p<=2:=by unfold cntP;split;omega;split<;>omega
  have HL:=h_ (fun h=>res_less (a:=a) (b:=b) (by omega) hb1 HP.out hab h)
  have HM:=h_ (fun h=>res_more (a:=a) (b:=b) (by omega) hb1 HP.out hab h)
  have HE:=h_ (res_both (a:=a) (b:=b) (by omega) hb1 HP.out hab)
  generalize cntP a p=N1 at *;generalize cntP b p=N2 at *
  have CW1:Hid (∀(W:World) (k:Nat),Below w.heap.size w W->W.heap.size=k->Calls Tryz.prog 200 #[J A n c,J (some ⟨k,0,none⟩) 2 2] (W.alloc (F #[l D a,l D b] 2)) (RetW S (W.alloc (F #[l D a,l D b] 2)) (sortU (reach [a,b] p)) N1)):=fun W k hW hk=>by
   subst hk;have hW2:Below w.heap.size w (W.alloc (F #[l D a,l D b] 2)):=hW.alloc hW.size _
   exact ej [a,b] (fun e he=>by simp at he;omega) (by simp) S p N1 A n c (some ⟨W.heap.size,0,none⟩) 2 _ (HX.out.below hW2) hc HP.out hn hn0 (sl_lit W [(a:Int),b] _) (by simp) hu1 (by omega) (fun k hk=>HSS.out k (Nat.le_trans hW2.size hk))
  have CW2:Hid (∀(W:World) (k:Nat),Below w.heap.size w W->W.heap.size=k->Calls Tryz.prog 200 #[J A n c,J (some ⟨k,0,none⟩) 2 2] (W.alloc (F #[l D b,l D a] 2)) (RetW S (W.alloc (F #[l D b,l D a] 2)) (sortU (reach [b,a] p)) N2)):=fun W k hW hk=>by
   subst hk;have hW2:Below w.heap.size w (W.alloc (F #[l D b,l D a] 2)):=hW.alloc hW.size _
   exact ej [b,a] (fun e he=>by simp at he;omega) (by simp) S p N2 A n c (some ⟨W.heap.size,0,none⟩) 2 _ (HX.out.below hW2) hc HP.out hn hn0 (sl_lit W [(b:Int),a] _) (by simp) hu2 (by omega) (fun k hk=>HSS.out k (Nat.le_trans hW2.size hk))
  clear hu1 hu2
  rcases Nat.lt_trichotomy N1 N2 with hlt|heq|hgt
  ·have b1:decide ((N1:Int)<(N2:Int))=true:=decide_eq_true (by omega)
   have HR:Hid (sortU (reach [b,a] p)=resultsL p a b):=HL.out hlt
   go_enter Tryz.func164,Tryz.ntmps164
   go_wp2_with (first
    | (go_at_call 200
       have _t1 := CW1
       (with_reducible refine (CW1.out _ _ (by exact HF.out.b) (by simp)).mono ?_)
       rintro e w1 ⟨b1', o1, n1, c1, rfl, hpl1, hc1, hbb⟩
       have HF1 : Hid (Fr w w1 [[l D vp, l D vc, l D vh, l D vs], [l D a, l D b]]) := (HF.out.alloc _).below hbb; have HP1 := h_ hpl1; clear CW1 _t1 hpl1 hbb; obtain ⟨z0, c00, f00, c01, f01, c02, f02, c03, f03, z1, c10, f10, c11, f11⟩ := HF1.out.xf1
       )
    | (go_at_call 200
       (with_reducible refine (CW2.out _ _ (by exact HF1.out.b) (by simp)).mono ?_)
       rintro e w2 ⟨b2, o2, n2, c2, rfl, hpl2, hc2, hbb⟩
       have HP2 := h_ hpl2
       have hba2 : Below w1.heap.size w1 w2 := ((Below.refl _ _).alloc (Nat.le_refl _) _).trans (hbb.mono (by simp))
       have HP3 : Hid (PL S w2 (some ⟨b1', o1, none⟩) n1 (sortU (reach [a, b] p))) := HP1.out.below hba2; have HB2 : Hid (Below w.heap.size w w2) := HF1.out.b.trans (hba2.mono HF1.out.b.size)
       clear hpl2 hbb hba2))
   go_ret
   rw[<- HR.out]
   exact⟨b2,o2,n2,c2,rfl,HP2.out,hc2,HB2.out⟩
  ·have heq:=h_ heq
   have b1:decide ((N1:Int)<(N2:Int))=false:=decide_eq_false (by have:=heq.out;omega)
   have b2:((N2:Int) == (N1:Int))=true:=by simp;have:=heq.out;omega
   have HR:Hid (bG (sortU (reach [a,b] p)) (sortU (reach [b,a] p))=resultsL p a b):=HE.out
   have hda:∀e∈[a,b],1<=e:=fun e he=>by simp at he;omega
   have hdb:∀e∈[b,a],1<=e:=fun e he=>by simp at he;omega
   have P1:Hid (∀x∈reach [a,b] p,PosP n 15 x):=fun x hx=>(bA hda HP.out x hx).1
   have P2:Hid (∀x∈reach [b,a] p,PosP n 15 x):=fun x hx=>(bA hdb HP.out x hx).1
   have W1:=h_ (aQ (bj hda HP.out));have W2:=h_ (aQ (bj hdb HP.out))
   have hr1:=Nat.le_trans (bR _) (cn (ds:=[a,b]) (p:=p) (by simp) (by rw[HP.out.1];exact hn))
   have hr2:=Nat.le_trans (bR _) (cn (ds:=[b,a]) (p:=p) (by simp) (by rw[HP.out.1];exact hn))
   have HR1:=h_ hr1;have HR2:=h_ hr2;clear hda hdb hr1 hr2 HL HM HE
   go_enter Tryz.func164,Tryz.ntmps164
   go_wp2_with (first
    | (go_at_call 200
       have _t1 := CW1
       (with_reducible refine (CW1.out _ _ (by exact HF.out.b) (by simp)).mono ?_)
       rintro e w1 ⟨b1', o1, n1, c1, rfl, hpl1, hc1, hbb⟩
       have HF1 : Hid (Fr w w1 [[l D vp, l D vc, l D vh, l D vs], [l D a, l D b]]) := (HF.out.alloc _).below hbb; have HP1 := h_ hpl1; clear CW1 _t1 hpl1 hbb; obtain ⟨z0, c00, f00, c01, f01, c02, f02, c03, f03, z1, c10, f10, c11, f11⟩ := HF1.out.xf1
       )
    | (go_at_call 200
       (with_reducible refine (CW2.out _ _ (by exact HF1.out.b) (by simp)).mono ?_)
       rintro e w2 ⟨b2, o2, n2, c2, rfl, hpl2, hc2, hbb⟩
       have HP2 := h_ hpl2
       have hba2 : Below w1.heap.size w1 w2 := ((Below.refl _ _).alloc (Nat.le_refl _) _).trans (hbb.mono (by simp))
       have HP3 : Hid (PL S w2 (some ⟨b1', o1, none⟩) n1 (sortU (reach [a, b] p))) := HP1.out.below hba2; have HB2 : Hid (Below w.heap.size w w2) := HF1.out.b.trans (hba2.mono HF1.out.b.size)
       clear hpl2 hbb hba2))
   generalize sortU (reach [a,b] p)=L1 at *;generalize sortU (reach [b,a] p)=L2 at *
   have hn2:n2<=331776:=by rw[<- HP2.out.len];exact HR2.out
   go_loopw [9,13] (fun vb vk wi=>∃k:Nat,k<=n2/\vk = l D k/\∃(b7 o7 n7 c7:Nat),vb = J (some ⟨b7,o7,none⟩) n7 c7/\n7<=c7/\Hid (PL S wi (some ⟨b7,o7,none⟩) n7 (bG L1 (L2.take k)))/\Hid (Below w2.heap.size w2 wi)) (fun _ vk _=>n2-(intOf vk).toNat)
   case atStart=>exact⟨0,Nat.zero_le _,rfl,b1',o1,n1,c1,rfl,hc1,by unfold Hid;rw[List.take_zero,cE];exact HP3.out,Below.refl _ _⟩
   case round=>
    obtain⟨k,hk,rfl,b7,o7,n7,c7,rfl,hnc7,HP7,HB7⟩:=hrel
    by_cases hkn:k<n2
    ·have hkk:(k:Int)<(n2:Int):=by omega
     obtain⟨b9',o9',Br,mr,cr,hA,hz9,hcell9,hsr,hmr⟩:=(HP2.out.below HB7.out).at hkn;injection hA with hA;injection hA with hA1 hA2;subst hA1 hA2;have hlen9:=HP2.out.len
     have hrm:=aj L2 ([]:List Int) (k:=k) (by omega)
     have htk:Hid (L2.take (k+1)=L2.take k++[L2.getD k []]):=by
      unfold Hid
      rw[List.take_succ_eq_append_getElem (by omega)]
      simp[List.getD,show k<L2.length by omega]
     have hrp:PosP n 15 (L2.getD k []):=P2.out _ ((W2.out.2.2 _).1 hrm)
     have hps:∀x∈bG L1 (L2.take k),PosP n 15 x:=fun x hx=>by
      rcases ((db W1.out.1 (fun y hy=>W2.out.1 y (List.mem_of_mem_take hy)) W1.out.2.1).2.2 x).1 hx with h|h
      ·exact P1.out x ((W1.out.2.2 x).1 h)
      ·exact P2.out x ((W2.out.2.2 x).1 (List.mem_of_mem_take h))
     have hn7:n7<=1000000:=by
      rw[<- HP7.out.len];have h1:=cW L1 (L2.take k)
      have h3:(L2.take k).length<=L2.length:=by rw[List.length_take];omega
      have h4:=HR1.out;have h5:=HR2.out
      omega
     generalize L2.getD k []=r at *
     have hrn:n=mr:=by rw[<- hsr.1.1];exact hrp.1.symm
     subst hrn
     have CP:=h_ (dT S b7 o7 n7 c7 _ Br n cr r wr (fun j hj=>HSS.out j (by have h1:=HB7.out.size;have h2:=HB2.out.size;omega)) HP7.out hnc7 hn7 hsr hmr hn hrp hps)
     clear hps hrp hsr hlen9 hrm
     go_wp2_with (go_at_call 201;((with_reducible refine CP.out.mono ?_);rintro e w5 ⟨b5,o5,n5,c5,rfl,hpl5,hc5,hb5⟩))
     go_roundw
     case rel=>exact⟨k+1,by omega,by go_num,b5,o5,n5,c5,rfl,hc5,by unfold Hid;rw[htk.out,cD];exact hpl5,HB7.out.trans (hb5.mono HB7.out.size)⟩
     case measure=>(simp[intOf])<;>omega
    ·have hkl:k=n2:=by omega
     subst hkl
     have HPe:Hid (PL S wr (some ⟨b7,o7,none⟩) n7 (bG L1 L2)):=by
      have h:=HP7.out
      rw[List.take_of_length_le (by rw[HP2.out.len];exact Nat.le_refl _)]at h
      exact h
     go_wp2_with (fail)
     go_ret
     rw[<- HR.out]
     exact⟨b7,o7,n7,c7,rfl,HPe.out,hnc7,HB2.out.trans (HB7.out.mono HB2.out.size)⟩
  ·have b1:decide ((N1:Int)<(N2:Int))=false:=decide_eq_false (by omega)
   have b2:((N2:Int) == (N1:Int))=false:=by simp;omega
   have HR:Hid (sortU (reach [a,b] p)=resultsL p a b):=HM.out hgt
   go_enter Tryz.func164,Tryz.ntmps164
   go_wp2_with (first
    | (go_at_call 200
       have _t1 := CW1
       (with_reducible refine (CW1.out _ _ (by exact HF.out.b) (by simp)).mono ?_)
       rintro e w1 ⟨b1', o1, n1, c1, rfl, hpl1, hc1, hbb⟩
       have HF1 : Hid (Fr w w1 [[l D vp, l D vc, l D vh, l D vs], [l D a, l D b]]) := (HF.out.alloc _).below hbb; have HP1 := h_ hpl1; clear CW1 _t1 hpl1 hbb; obtain ⟨z0, c00, f00, c01, f01, c02, f02, c03, f03, z1, c10, f10, c11, f11⟩ := HF1.out.xf1
       )
    | (go_at_call 200
       (with_reducible refine (CW2.out _ _ (by exact HF1.out.b) (by simp)).mono ?_)
       rintro e w2 ⟨b2, o2, n2, c2, rfl, hpl2, hc2, hbb⟩
       have HP2 := h_ hpl2
       have hba2 : Below w1.heap.size w1 w2 := ((Below.refl _ _).alloc (Nat.le_refl _) _).trans (hbb.mono (by simp))
       have HP3 : Hid (PL S w2 (some ⟨b1', o1, none⟩) n1 (sortU (reach [a, b] p))) := HP1.out.below hba2; have HB2 : Hid (Below w.heap.size w w2) := HF1.out.b.trans (hba2.mono HF1.out.b.size)
       clear hpl2 hbb hba2))
   go_loopw [9,13] (fun vb vk wi=>vb = J (some ⟨b1',o1,none⟩) n1 c1/\vk = l D 0/\Hid (wi=w2)) (fun _ _ _=>0)
   case atStart=>exact⟨rfl,rfl,rfl⟩
   case round=>
    obtain⟨rfl,rfl,hw⟩:=hrel
    by_cases hn2:0<n2
    ·have hn2':(0:Int)<(n2:Int):=by omega
     go_wp2_with (fail)
     go_ret
     rw[<- HR.out,hw.out]
     exact⟨b1',o1,n1,c1,rfl,HP3.out,hc1,HB2.out⟩
    ·have hn2':¬(0:Int)<(n2:Int):=by omega
     go_wp2_with (fail)
     go_ret
     rw[<- HR.out,hw.out]
     exact⟨b1',o1,n1,c1,rfl,HP3.out,hc1,HB2.out⟩
theorem Frm.outs {S O:Nat->Prop} {w wr w2:World} (h:Frm S w wr) (hf:Frm O wr w2) (hO:∀k,O k->w.heap.size<=k):Frm S w w2:=
 ⟨hf.os.trans h.os,hf.tape.trans h.tape,hf.output.trans h.output,Nat.le_trans h.size hf.size,fun k hk hn=>(hf.block k (Nat.lt_of_lt_of_le hk h.size) fun ho=>by have:=hO k ho;omega).trans (h.block k hk hn)⟩
def v13d (i:Nat):Nat:=if i<=12 then 70+i else if i=13 then 69 else if i<=16 then 69+i else 13
def v13G (t:RT2) (wr:World) (A B:Option Addr) (ca cb:Nat) (rb ro cr k a b:Nat) (own:List Int) (R x0 x1 x2:Value) (i:Nat) (v:Value) (W:World):Prop:=
 match i with
 | 0=>v = K (some ⟨t.bt,0,none⟩)
 | 1=>v = K (some ⟨t.bt,0,none⟩)
 | 2=>v = K (some ⟨t.bt,0,none⟩)
 | 3=>v = K (some ⟨t.bt,0,none⟩)
 | 4=>v = .agg #[l D t.p,l D t.c,l D t.h,l D t.s]
 | 5=>v = J A t.h ca
 | 6=>v = J (some ⟨rb,ro,none⟩) (ah t.s).length cr
 | 7=>v = l D (k:Int)
 | 8=>v = K (some ⟨rb,ro+k*2,none⟩)
 | 9=>v = .agg #[l D (a:Int),l D (b:Int)]
 | 10=>∃b' off n c,v = J (some ⟨b',off,none⟩) n c/\PL t.S W (some ⟨b',off,none⟩) n (resultsL own a b)/\n<=c
 | 11=>v = J B t.h cb
 | 12=>v=R
 | 13=>v=R
 | 14=>v=x0
 | 15=>v=x1
 | 16=>v=x2
 | _=>∃g,v = K (some ⟨g,0,none⟩)/\wr.heap.size<=g/\W.cell? ⟨g,0,none⟩=some (l D 0)/\W.cell? ⟨g,1,none⟩=some (l D 0)/\W.frozen? ⟨g,0,none⟩=false/\W.frozen? ⟨g,1,none⟩=false
theorem v13_stab {t:RT2} {wr:World} {A B:Option Addr} {ca cb rb ro cr k a b:Nat} {own:List Int} {R x0 x1 x2:Value} (hlow:∀k,t.S k->k<wr.heap.size) (i:Nat) (v:Value) (W W':World) (hg:v13G t wr A B ca cb rb ro cr k a b own R x0 x1 x2 i v W) (hr:Frm t.S W W'):
  v13G t wr A B ca cb rb ro cr k a b own R x0 x1 x2 i v W':=by
 unfold v13G at *
 split at hg
 all_goals first
  | exact hg
  | (obtain⟨b',off,n,c,h1,h2,h3⟩:=hg;exact⟨b',off,n,c,h1,h2.frm hr,h3⟩)
  | (obtain ⟨g, h1, h2, h3, h4, h5, h6⟩ := hg
     have hn : ¬ t.S g := fun h => by have := hlow g h; omega
     have hl := World.block_lt_of_cell? W _ h3
     exact ⟨g, h1, h2, hr.cell' h3 hn, hr.cell' h4 hn, (cV hr hl hn).trans h5, (cV hr hl hn).trans h6⟩)
theorem ilF {P:Program} {o:Oper} {a:Act} {W:World} {u:Value} {S:Nat->Prop} {I:World->Prop} {Q:Value->World->Prop} (h:(execOp a.eval o).run P W=.ok (.value u) W) (k:I W:=by assumption) (q:Q u W:=by exact rfl):MStep P o a W (fun v W'=>Frm S W W'/\I W'/\Q v W'):=.inl ⟨u,W,h,Frm.refl _ _,k,q⟩
end Go.Proofs.YtcmeoenkgmghkaaGreat

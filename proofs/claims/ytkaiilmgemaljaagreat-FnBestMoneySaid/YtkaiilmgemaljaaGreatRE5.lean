/- Part of one proof. There are no conditions. -/
import Derived.Test.YtkaiilmgemaljaaGreatRM7
import Derived.Test.YtkaiilmgemaljaaGreatRZb
import Derived.Test.YtkaiilmgemaljaaGreatRZc
import Derived.Test.YtkaiilmgemaljaaGreatRZm
set_option maxHeartbeats 0
set_option linter.unusedVariables false
set_option linter.unusedSimpArgs false
set_option maxRecDepth 100000
/- Words for the reference's race tables, and the contract of a new one. There are no conditions. -/
namespace Go.Proofs.YtkaiilmgemaljaaGreat
open Go.RowKit Ps Ra Ex
structure RT2 where
 p:Int
 c:Nat
 h:Nat
 s:Nat
 bt:Nat
 bk:Nat
 bv:Nat
def RT2.S (t:RT2):Nat->Prop:=fun k=>k=t.bk\/k=t.bv
def RT2.N (t:RT2):Nat:=wys t.h t.c
def RT2.M (t:RT2):Nat:=t.N*t.N
def RT2.cells (t:RT2):List Value:=[.int .i64 t.p,.int .i64 t.c,.int .i64 t.h,.int .i64 t.s,.int .i64 t.N,.slice (some ⟨t.bk,0,none⟩) t.M t.M,.slice (some ⟨t.bv,0,none⟩) t.M t.M]
structure RT2.Ok (t:RT2):Prop where
 v:isVar t.p t.c t.h t.s=true
 n:t.N<=500
def RT2.key (t:RT2) (q r:List Int):Nat:=num t.c q*t.N+num t.c r
theorem RT2.M_pos (t:RT2):0<t.M:=Nat.mul_pos (fq _ _) (fq _ _)
structure TabC (t:RT2) (w:World) (kf:Nat->Bool) (ef:Nat->Int×Int):Prop where
 tb:∀j v,t.cells[j]? = some v->w.cell? ⟨t.bt,j,none⟩=some v
 nt:¬t.S t.bt
 d:t.bk≠t.bv
 k:∀i,i<t.M->w.cell? ⟨t.bk,i,none⟩=some (.bool (kf i))
 e:∀i,i<t.M->w.cell? ⟨t.bv,i*2,none⟩=some (.int .i64 (ef i).1)/\w.cell? ⟨t.bv,i*2+1,none⟩=some (.int .i64 (ef i).2)
 fk:∀j,w.frozen? ⟨t.bk,j,none⟩=false
 fv:∀j,w.frozen? ⟨t.bv,j,none⟩=false
def TabM (t:RT2) (kf:Nat->Bool) (ef:Nat->Int×Int):Prop:=
 ∀q r,PosP t.h t.c q->PosP t.h t.c r->kf (t.key q r)=true->∃e,win t.s q r=some e/\ef (t.key q r)=(e.num,(e.depth:Int))
def TabI (t:RT2) (w:World):Prop:=∃kf ef,TabC t w kf ef/\TabM t kf ef
open Classical in
noncomputable def updF {α:Type} (f:Nat->α) (i:Nat) (x:α):Nat->α:=fun j=>if j=i then x else f j
theorem fQ {α:Type} (f:Nat->α) (i:Nat) (x:α):updF f i x i=x:=by unfold updF;exact if_pos rfl
theorem dA {α:Type} (f:Nat->α) {i j:Nat} (h:j≠i) (x:α):updF f i x j=f j:=by unfold updF;exact if_neg h
section
variable {t:RT2} {O:Nat->Prop} {w w':World} {kf:Nat->Bool} {ef:Nat->Int×Int}
theorem TabC.ltK (h:TabC t w kf ef):t.bk<w.heap.size:=World.block_lt_of_cell? w _ (h.k 0 t.M_pos)
theorem TabC.ltV (h:TabC t w kf ef):t.bv<w.heap.size:=World.block_lt_of_cell? w _ (h.e 0 t.M_pos).1
theorem TabC.frm (h:TabC t w kf ef) (hf:Frm O w w') (hO:∀k,O k->¬t.S k) (hb:¬O t.bt):TabC t w' kf ef:=by
 have h1:¬O t.bk:=fun h=>hO _ h (.inl rfl)
 have h2:¬O t.bv:=fun h=>hO _ h (.inr rfl)
 exact⟨fun j v hv=>hf.cell' (h.tb j v hv) hb,h.nt,h.d,fun i hi=>hf.cell' (h.k i hi) h1,fun i hi=>⟨hf.cell' (h.e i hi).1 h2,hf.cell' (h.e i hi).2 h2⟩,
  fun j=>(aV hf h.ltK h1).trans (h.fk j),fun j=>(aV hf h.ltV h2).trans (h.fv j)⟩
theorem TabC.below (h:TabC t w kf ef) (hb:Below w.heap.size w w'):TabC t w' kf ef:=h.frm (Frm.of_below hb) (fun _ h=>h.elim) id
theorem TabC.stored (h:TabC t w kf ef) {b i:Nat} (v:Value) (hS:¬t.S b) (hb:t.bt≠b):TabC t (w.setCell ⟨b,i,none⟩ v) kf ef:=h.frm (Frm.set w b i v) (fun k hk=>by rw[hk];exact hS) hb
theorem TabI.frm (h:TabI t w) (hf:Frm O w w') (hO:∀k,O k->¬t.S k) (hb:¬O t.bt):TabI t w':=let ⟨kf,ef,h1,h2⟩:=h;⟨kf,ef,h1.frm hf hO hb,h2⟩
theorem TabI.below (h:TabI t w) (hb:Below w.heap.size w w'):TabI t w':=h.frm (Frm.of_below hb) (fun _ h=>h.elim) id
theorem TabI.alloc (h:TabI t w) (o:Obj):TabI t (w.alloc o):=h.below ((Below.refl _ _).alloc (Nat.le_refl _) o)
theorem TabI.more (h:TabI t w) (tr:World):TabI t (more w tr):=h.below (aa w tr)
theorem TabI.stored (h:TabI t w) {b i:Nat} (v:Value) (hS:¬t.S b) (hb:t.bt≠b):TabI t (w.setCell ⟨b,i,none⟩ v):=let ⟨kf,ef,h1,h2⟩:=h;⟨kf,ef,h1.stored v hS hb,h2⟩
theorem TabI.tb (h:TabI t w):∀j v,t.cells[j]? = some v->w.cell? ⟨t.bt,j,none⟩=some v:=let ⟨_,_,h1,_⟩:=h;h1.tb
theorem TabI.nt (h:TabI t w):¬t.S t.bt:=let ⟨_,_,h1,_⟩:=h;h1.nt
end
def RetTn (t:RT2) (w:World) (o:Option E) (e:Ending) (w':World):Prop:=e = .returned (.tuple #[exV o,.bool o.isSome])/\TabI t w'/\Frm t.S w w'
theorem Tryz.infoB:(Tryz.prog.info? 4).map (fun i=>(i.zero,i.size,i.bytes))=some (some (.bool false),1,1):=by kernel_rfl
end Go.Proofs.YtkaiilmgemaljaaGreat
/- Contract of a new race table, the reference's. There are no conditions. -/
namespace Go.Proofs.YtkaiilmgemaljaaGreat
open Go.RowKit Ps Ra Ex
theorem made_b (n j:Nat) (h:j<n):(madeCells #[Value.bool false] (n*1)).toList[j]? = some (.bool false):=by
 rw[toList_madeCells_one,List.getElem?_replicate];simp[h]
theorem made_e (n j:Nat) (h:j<n*2):(madeCells #[Value.int .i64 0,.int .i64 0] (n*2)).toList[j]? = some (.int .i64 0):=by
 rcases Nat.mod_two_eq_zero_or_one j with h1|h1<;>simp[madeCells,h,h1]
end Go.Proofs.YtkaiilmgemaljaaGreat
/- Contract of the win chance after a result, the reference's. There are no conditions. -/
namespace Go.Proofs.YtkaiilmgemaljaaGreat
open Go.RowKit Ps Ra Ex
end Go.Proofs.YtkaiilmgemaljaaGreat
/- Contracts of the reference's digits of exact numbers, and of comparing by them. There are no conditions. -/
namespace Go.Proofs.YtkaiilmgemaljaaGreat
open Go.RowKit Ps Ra Ex
def digs (B:Int) (x:E) (k:Nat):List Int:=(List.range k).map (dig B x)
theorem digs_len (B:Int) (x:E) (k:Nat):(digs B x k).length=k:=by simp[digs]
theorem digs_succ (B:Int) (x:E) (k:Nat):digs B x (k+1)=digs B x k++[dig B x k]:=by simp[digs,List.range_succ]
theorem digs_get (B:Int) (x:E) {i k:Nat} (h:i<k):(digs B x k).getD i 0=dig B x i:=by simp[digs,List.getD,h]
theorem digs_low {B:Int} (hB:1<=B) {x:E} {i:Nat}:(digs B x (x.depth+1)).getD i 0=dig B x i:=by
 by_cases h:i<x.depth+1
 ·exact digs_get B x h
 ·rw[kI hB (by omega)];simp[digs,List.getD,List.getElem?_eq_none,h]
theorem whole_neg {n m:Int} (hm:1<=m) (h:n.tmod m<0):n.tdiv m-1=n / m/\n.tmod m+m=n % m:=by
 have e1:=Int.tdiv_eq_ediv (a:=n) (b:=m);have e2:=Int.tmod_eq_emod (a:=n) (b:=m)
 have h0:=Int.emod_nonneg n (show m≠0 by omega)
 rw[e2]at h
 by_cases hc:0<=n\/m ∣ n
 ·rw[if_pos hc]at h;omega
 ·rw[if_neg hc]at e1 e2
  have:m.sign=1:=Int.sign_eq_one_of_pos (by omega)
  have:(m.natAbs:Int)=m:=by omega
  omega
theorem whole_pos {n m:Int} (hm:1<=m) (h:0<=n.tmod m):n.tdiv m=n / m/\n.tmod m=n % m:=by
 have e1:=Int.tdiv_eq_ediv (a:=n) (b:=m);have e2:=Int.tmod_eq_emod (a:=n) (b:=m)
 have h1:=Int.emod_lt_of_pos n (show 0<m by omega)
 by_cases hc:0<=n\/m ∣ n
 ·rw[if_pos hc]at e1 e2;omega
 ·rw[if_neg hc]at e1 e2
  have:(m.natAbs:Int)=m:=by omega
  omega
theorem ig (p c h n:Int) (s d:Nat) (w:World) (hs1:1<=s) (hs6:s<=6) (hx:Val (sq s) ⟨n,d⟩):
  Calls Tryz.prog 221 #[.agg #[.int .i64 p,.int .i64 c,.int .i64 h,.int .i64 s],.agg #[.int .i64 n,.int .i64 d]] w (RetO w 2 (digs (sq s) ⟨n,d⟩ (d+1))):=by
 obtain⟨hq1,hq36,_⟩:=sq_bd hs1 hs6;obtain⟨i0,hi,hz0,hz1,hz2⟩:=info_parts Tryz.infoI;have hd50:d<50:=aX hq1 hx;have hx1 : -1000000000000000000<=n:=hx.1;have hx2:n<=1000000000000000000:=hx.2.1;have hp2:pw (sq s) d<=1000000000000000:=hx.2.2.1;have hp1:=aD hq1 d
 have C:=fun (W:World)=>aL p c h s d W hs1 hs6 (by omega)
 rw[(aP hp2).1,(aP hp2).2]at C;have CS:=h_ C
 have CB:=h_ fun (W:World)=>cV p c h s W hs6
 have HF0:Hid (Fr w ((w.alloc (.cells #[.int .i64 p,.int .i64 c,.int .i64 h,.int .i64 s] 25)).alloc (.cells #[.int .i64 n,.int .i64 d] 35)) [[.int .i64 p,.int .i64 c,.int .i64 h,.int .i64 s],[.int .i64 n,.int .i64 d]]):=
  ((Fr.start w).allocT (by simp) _ _).allocT (by simp) _ _
 have hdm:Hid (∀j,dig (sq s) ⟨n,d⟩ 0=n / pw (sq s) d\/j<0):=fun j=>.inl (by show flo _ _ 0=_;rw[flo_low hq1 (by omega)];simp)
 clear C hx
 have t0:=Int.tmod_lt_of_pos n (show 0<pw (sq s) d by omega)
 have t1:=Int.lt_tmod_of_pos n (show 0<pw (sq s) d by omega)
 have t2 : -1000000000000000000<=n.tdiv (pw (sq s) d)/\n.tdiv (pw (sq s) d)<=1000000000000000000:=by
  have h1:=Int.natAbs_tdiv n (pw (sq s) d);have h2:n.natAbs.div (pw (sq s) d).natAbs<=n.natAbs:=Nat.div_le_self _ _;rw[<- h1]at h2
  omega
 obtain⟨t2,t3⟩:=t2
 by_cases hneg:n.tmod (pw (sq s) d)<0
 focus
  obtain⟨e1,e2⟩:=whole_neg hp1 hneg
  have hwh:Hid ([n.tdiv (pw (sq s) d)-1]=digs (sq s) ⟨n,d⟩ 1):=by
   show _=[dig (sq s) ⟨n,d⟩ 0]
   rw[(hdm.out 0).resolve_right (by omega),e1]
  refine ?zc
 rotate_left
 focus
  obtain⟨e1,e2⟩:=whole_pos hp1 (Int.not_lt.1 hneg)
  have hwh:Hid ([n.tdiv (pw (sq s) d)]=digs (sq s) ⟨n,d⟩ 1):=by
   show _=[dig (sq s) ⟨n,d⟩ 0]
   rw[(hdm.out 0).resolve_right (by omega),e1]
  refine ?zd
 rotate_left
 case' zc|zd=>
  have hrs:=h_ e2;clear e1 e2
  go_enter Tryz.func221,Tryz.ntmps221
  go_wp2_with (go_at_call 171;((with_reducible refine (more_first (CS.out _)).mono ?_);rintro e w' ⟨rfl,t,rfl⟩))
 case' zc=>
  have HF:=h_ (HF0.out.more t);generalize more _ t=W at HF ⊢;generalize n.tdiv (pw (sq s) d)-1=wh at *;generalize n.tmod (pw (sq s) d)+pw (sq s) d=rs at *
 case' zd=>
  have HF:=h_ (HF0.out.more t);generalize more _ t=W at HF ⊢;generalize n.tdiv (pw (sq s) d)=wh at *;generalize n.tmod (pw (sq s) d)=rs at *
 case zc|zd=>
  have HO0:=h_ (OwnS.made W (base:=w.heap.size+2) 2 (digs (sq s) ⟨n,d⟩ 1) #[.int .i64 wh] (digs_len _ _ _) (by rw[<- hwh.out];rfl) (HF.out.z) (by unfold maxLen;omega))
  have HF1:=h_ (HF.out.alloc (.cells #[.int .i64 wh] 2))
  go_loopw [5,8,9,10] (fun sc rest out i wr=>∃k:Nat,k<=d/\i = .int .i64 k/\sc = .int .i64 (pw (sq s) (d-k))/\rest = .int .i64 (n % pw (sq s) (d-k))/\OwnS wr (w.heap.size+2) 2 out (digs (sq s) ⟨n,d⟩ (k+1))/\Fr w wr [[.int .i64 p,.int .i64 c,.int .i64 h,.int .i64 s],[.int .i64 n,.int .i64 d]]) (fun _ _ _ i _=>d-(intOf i).toNat)
  case atStart=>exact⟨0,Nat.zero_le _,rfl,rfl,by rw[Nat.sub_zero,<- hrs.out],HO0.out,HF1.out⟩
  case round=>
   obtain⟨k,hk,rfl,rfl,rfl,hO,hF⟩:=hrel;have HOr:=h_ hO;have HFr:=h_ hF;clear hO hF;obtain⟨z0,c00,f00,c01,f01,c02,f02,c03,f03,z1,c10,f10,c11,f11⟩:=HFr.out.xf0
   by_cases hlt:k<d
   ·have hki:(k:Int)<(d:Int):=by omega
    have hS:Hid (pw (sq s) (d-k)=pw (sq s) (d-(k+1))*sq s):=by rw[Hid,<- bG];congr 1;omega
    have hD:Hid (n % pw (sq s) (d-k) / pw (sq s) (d-(k+1))=dig (sq s) ⟨n,d⟩ (k+1)):=dig_low hq1 (x:=⟨n,d⟩) hlt
    have hM:Hid (n % pw (sq s) (d-k) % pw (sq s) (d-(k+1))=n % pw (sq s) (d-(k+1))):=by
     rw[Hid,hS.out,Int.emod_emod_of_dvd _ (Int.dvd_mul_right _ _)]
    have p1:=aD hq1 (d-(k+1));have p0:=aD hq1 (d-k)
    have p2:pw (sq s) (d-k)<=1000000000000000:=Int.le_trans (dw hq1 (by omega)) hp2
    have r0:=Int.emod_nonneg n (show pw (sq s) (d-k)≠0 by omega)
    have r1:=Int.emod_lt_of_pos n (show 0<pw (sq s) (d-k) by omega)
    obtain⟨S1,hS1⟩:∃S1,pw (sq s) (d-(k+1))=S1:=⟨_,rfl⟩;rw[hS1]at hS hD hM p1;have HS1:=h_ hS1;clear hS1;generalize n % pw (sq s) (d-k)=r at *;generalize pw (sq s) (d-k)=S0 at *
    have hq:S0 / sq s=S1:=by rw[hS.out];exact Int.mul_ediv_cancel _ (by omega)
    go_wp2_with (first|(go_at_call 172;((with_reducible refine (more_first (CB.out _)).mono ?_);rintro e w' ⟨rfl,t,rfl⟩))|(at_builtin;refine wpList_append_own _ rfl _ _ 26 rfl (w.heap.size+2) 2 i0 (.int .i64 0) 1 8 Tryz.underlying26 hi hz0 hz1 hz2 rfl (by decide) _ _ _ rfl (row_alloc (row_more HOr.out t) _) ⟨(more wr t).heap.size,0,none⟩ 1 1 [.int .i64 (r / S1)] rfl rfl (one_new _ _ _) (int_cell _) (by rw[digs_len];unfold maxLen;omega) (by rw[digs_len];omega) (by have:=(HFr.out.more t).z;simp at this;simp;omega) ?_;intro v' w1 hown hgrow _))
    have HF2:=h_ (((HFr.out.more t).alloc _).grow hgrow (row_alloc (row_more HOr.out t) _) (by simp))
    have HO2:Hid (OwnS w1 (w.heap.size+2) 2 v' (digs (sq s) ⟨n,d⟩ (k+1+1))):=by
     unfold Hid OwnS;rw[digs_succ _ _ (k+1),<- hD.out,List.length_append,List.map_append]
     exact hown
    clear hown hgrow
    go_wp2_with (fail)
    go_roundw
    case rel=>exact⟨k+1,by omega,by go_num,by rw[HS1.out],by rw[HS1.out,hM.out],HO2.out,HF2.out⟩
    case measure=>simp[intOf];omega
   ·have hkd:k=d:=by omega
    subst hkd
    have HR:Hid (∀v,OwnS wr (w.heap.size+2) 2 v (digs (sq s) ⟨n,k⟩ (k+1))->RetO w 2 (digs (sq s) ⟨n,k⟩ (k+1)) (.returned v) wr):=fun v hv=>RetO.mk (hv.mono (by omega)) HFr.out.b
    go_wp2_with (fail)
    go_ret
    exact HR.out _ HOr.out
theorem bU (p c h xn yn:Int) (s xd yd:Nat) (w:World) (hs1:1<=s) (hs6:s<=6) (hx:Val (sq s) ⟨xn,xd⟩) (hy:Val (sq s) ⟨yn,yd⟩):
  Calls Tryz.prog 176 #[.agg #[.int .i64 p,.int .i64 c,.int .i64 h,.int .i64 s],.agg #[.int .i64 xn,.int .i64 xd],.agg #[.int .i64 yn,.int .i64 yd]] w fun e w'=>e = .returned (.int .i64 (cmpE (sq s) ⟨xn,xd⟩ ⟨yn,yd⟩))/\Below w.heap.size w w':=by
 obtain⟨hq1,hq36,_⟩:=sq_bd hs1 hs6;have hxd:xd<50:=aX hq1 hx;have hyd:yd<50:=aX hq1 hy
 have CX:=h_ fun (W:World)=>ig p c h xn s xd W hs1 hs6 hx
 have CY:=h_ fun (W:World)=>ig p c h yn s yd W hs1 hs6 hy
 have HX:=h_ fun i=>digs_low hq1 (x:=⟨xn,xd⟩) (i:=i)
 have HY:=h_ fun i=>digs_low hq1 (x:=⟨yn,yd⟩) (i:=i)
 have lx:=digs_len (sq s) ⟨xn,xd⟩ (xd+1);have ly:=digs_len (sq s) ⟨yn,yd⟩ (yd+1)
 have HF0:Hid (Fr w (((w.alloc (.cells #[.int .i64 p,.int .i64 c,.int .i64 h,.int .i64 s] 25)).alloc (.cells #[.int .i64 xn,.int .i64 xd] 35)).alloc (.cells #[.int .i64 yn,.int .i64 yd] 35)) [[.int .i64 p,.int .i64 c,.int .i64 h,.int .i64 s],[.int .i64 xn,.int .i64 xd],[.int .i64 yn,.int .i64 yd]]):=
  (((Fr.start w).allocT (by simp) _ _).allocT (by simp) _ _).allocT (by simp) _ _
 clear hx hy
 go_enter Tryz.func176,Tryz.ntmps176
 go_wp2_with (fail)
 refine (CX.out _).mono ?_
 rintro e w1 ⟨A1,c1,rfl,ho1,hb1⟩
 have HF1:=h_ (HF0.out.below hb1);have HO1:=h_ ho1;clear ho1 hb1;obtain⟨z0,c00,f00,c01,f01,c02,f02,c03,f03,z1,c10,f10,c11,f11,z2,c20,f20,c21,f21⟩:=HF1.out.xf1
 go_wp2_with (fail)
 refine (CY.out _).mono ?_
 rintro e w2 ⟨A2,c2,rfl,ho2,hb2⟩
 have HF2:=h_ (HF1.out.below hb2);have HS1:=h_ ((HO1.out.below hb2).sl rfl).1;have HS2:=h_ (ho2.sl rfl).1;clear ho2 hb2 HO1;clear HF1 z0 c00 c01 c02 c03 f00 f01 f02 f03 z1 c10 c11 f10 f11 z2 c20 c21 f20 f21
 go_wp2_with (fail)
 go_loop [9] (fun v=>∃k:Nat,v = .int .i64 k/\k<=max xd yd+1/\Hid (∀i,i<k->flo (sq s) ⟨xn,xd⟩ i=flo (sq s) ⟨yn,yd⟩ i)) (fun v=>max xd yd+1-(intOf v).toNat)
 case atStart=>exact⟨0,rfl,by omega,fun i hi=>absurd hi (by omega)⟩
 case round=>
  obtain⟨k,rfl,hk,hall⟩:=hrel
  have hk51:k<=51:=by omega
  by_cases h1:k<xd+1
  focus
   have h1i:(k:Int)<(xd:Int)+1:=by omega
   obtain⟨b1,off1,rfl,_,hc1⟩:=HS1.out.2 (by rw[lx];omega)
   have q1:=hc1 k (by rw[lx];exact h1)
   have HP:Hid ((digs (sq s) ⟨xn,xd⟩ (xd+1)).getD k 0=dig (sq s) ⟨xn,xd⟩ k):=HX.out k;clear hc1
   by_cases h2:k<yd+1
   focus
    refine ?zj
   rotate_left
   focus
    refine ?zm
  rotate_left 2
  focus
   have h1i:¬(k:Int)<(xd:Int)+1:=by omega
   have h1b:decide ((k:Int)<(xd:Int)+1)=false:=decide_eq_false h1i
   have HP:Hid ((0:Int)=dig (sq s) ⟨xn,xd⟩ k):=(kI hq1 (by show xd<k;omega)).symm
   by_cases h2:k<yd+1
   focus
    refine ?zk
   rotate_left
   focus
    refine ?zn
  rotate_left 2
  case' zj|zk=>
   have h2i:(k:Int)<(yd:Int)+1:=by omega
   obtain⟨b2,off2,rfl,_,hc2⟩:=HS2.out.2 (by rw[ly];omega)
   have q2:=hc2 k (by rw[ly];exact h2)
  case' zj=>
   have HQ:Hid ((digs (sq s) ⟨yn,yd⟩ (yd+1)).getD k 0=dig (sq s) ⟨yn,yd⟩ k):=HY.out k;clear hc2;generalize (digs (sq s) ⟨xn,xd⟩ (xd+1)).getD k 0=P at *;generalize (digs (sq s) ⟨yn,yd⟩ (yd+1)).getD k 0=Q at *
   by_cases hlt:(P:Int)<Q
   focus
    refine ?zd
   rotate_left
   focus
    have hltb:decide ((P:Int)<Q)=false:=decide_eq_false hlt
    by_cases hgt:(Q:Int)<P
    focus
     refine ?zg
    rotate_left
    focus
     have hgtb:decide ((Q:Int)<P)=false:=decide_eq_false hgt
     refine ?za
  case' zk=>
   have HQ:Hid ((digs (sq s) ⟨yn,yd⟩ (yd+1)).getD k 0=dig (sq s) ⟨yn,yd⟩ k):=HY.out k;clear hc2;generalize (digs (sq s) ⟨yn,yd⟩ (yd+1)).getD k 0=Q at *
   by_cases hlt:(0:Int)<Q
   focus
    refine ?zf
   rotate_left
   focus
    have hltb:decide ((0:Int)<Q)=false:=decide_eq_false hlt
    by_cases hgt:(Q:Int)<0
    focus
     refine ?zi
    rotate_left
    focus
     have hgtb:decide ((Q:Int)<0)=false:=decide_eq_false hgt
     refine ?zc
  case' zm|zn=>
   have h2i:¬(k:Int)<(yd:Int)+1:=by omega
   have h2b:decide ((k:Int)<(yd:Int)+1)=false:=decide_eq_false h2i
  case' zm=>
   have HQ:Hid ((0:Int)=dig (sq s) ⟨yn,yd⟩ k):=(kI hq1 (by show yd<k;omega)).symm
   generalize (digs (sq s) ⟨xn,xd⟩ (xd+1)).getD k 0=P at *
   by_cases hlt:(P:Int)<0
   focus
    refine ?ze
   rotate_left
   focus
    have hltb:decide ((P:Int)<0)=false:=decide_eq_false hlt
    by_cases hgt:(0:Int)<P
    focus
     refine ?zh
    rotate_left
    focus
     have hgtb:decide ((0:Int)<P)=false:=decide_eq_false hgt
     refine ?zb
  case za|zb|zc=>
   have hall':Hid (∀i,i<k+1->flo (sq s) ⟨xn,xd⟩ i=flo (sq s) ⟨yn,yd⟩ i):=dig_eq hall.out (by rw[<- HP.out,<- HQ.out];omega)
   have hk':k+1<=max xd yd+1:=by omega
   go_wp2_with (fail)
   go_round
   case rel=>exact⟨k+1,by go_num,hk',hall'⟩
   case measure=>simp[intOf];omega
  case' zd|ze|zf=>
   have HC:Hid (cmpE (sq s) ⟨xn,xd⟩ ⟨yn,yd⟩ = -1):=dig_lt hq1 hall.out (by rw[<- HP.out,<- HQ.out];exact hlt)
  case' zg|zh|zi=>
   have HC:Hid (cmpE (sq s) ⟨xn,xd⟩ ⟨yn,yd⟩=1):=dig_gt hq1 hall.out (by rw[<- HP.out,<- HQ.out];exact hgt)
  case' zn=>
   have HC:Hid (cmpE (sq s) ⟨xn,xd⟩ ⟨yn,yd⟩=0):=cmp_eq hq1 (j:=max xd yd) (Nat.le_max_left _ _) (Nat.le_max_right _ _) (hall.out _ (by omega))
  case zn|zd|ze|zf|zg|zh|zi=>
   go_wp2_with (fail)
   go_ret
   exact⟨by rw[HC.out];rfl,HF2.out.b⟩
section
variable (p c h xn yn:Int) (s xd yd:Nat) (w:World)
theorem l09Code_yes (hv:isVar p c h s=true) (hx:Val (sq s) ⟨xn,xd⟩) (hy:Val (sq s) ⟨yn,yd⟩):
  Calls Tryz.prog 133 #[.agg #[.int .i64 p,.int .i64 c,.int .i64 h,.int .i64 s],.agg #[.int .i64 xn,.int .i64 xd],.agg #[.int .i64 yn,.int .i64 yd]] w fun e w'=>e = .returned (.int .i64 0)/\Below w.heap.size w w':=by
 have hs1:1<=s:=by have:=(aj hv).2.2.2.2.2.2.1;omega
 have hs6:s<=6:=by have:=(aj hv).2.2.2.2.2.2.2;omega
 have HF:Hid (Fr w (((w.alloc (.cells #[.int .i64 p,.int .i64 c,.int .i64 h,.int .i64 s] 25)).alloc (.cells #[.int .i64 xn,.int .i64 xd] 35)).alloc (.cells #[.int .i64 yn,.int .i64 yd] 35)) [[.int .i64 p,.int .i64 c,.int .i64 h,.int .i64 s],[.int .i64 xn,.int .i64 xd],[.int .i64 yn,.int .i64 yd]]):=(((Fr.start w).allocT (by simp) _ _).allocT (by simp) _ _).allocT (by simp) _ _
 have CV:Hid (∀W:World,Calls Tryz.prog 80 #[.agg #[.int .i64 p,.int .i64 c,.int .i64 h,.int .i64 s]] W fun e w'=>e = .returned (.bool true)/\Below W.heap.size W w'):=fun W=>by
  have:=aw p c h s W;rw[hv]at this;exact this
 have CX:Hid (∀W:World,Calls Tryz.prog 86 #[.agg #[.int .i64 p,.int .i64 c,.int .i64 h,.int .i64 s],.agg #[.int .i64 xn,.int .i64 xd]] W fun e w'=>e = .returned (.bool true)/\Below W.heap.size W w'):=fun W=>by
  have:=dm p c h xn s xd W hs1 hs6 (by have:=aX (sq_bd hs1 hs6).1 hx;simp only at this;omega)
  rw[fO.2 hx]at this
  exact this
 have CY:Hid (∀W:World,Calls Tryz.prog 86 #[.agg #[.int .i64 p,.int .i64 c,.int .i64 h,.int .i64 s],.agg #[.int .i64 yn,.int .i64 yd]] W fun e w'=>e = .returned (.bool true)/\Below W.heap.size W w'):=fun W=>by
  have:=dm p c h yn s yd W hs1 hs6 (by have:=aX (sq_bd hs1 hs6).1 hy;simp only at this;omega)
  rw[fO.2 hy]at this
  exact this
 clear hv hx hy hs1 hs6
 go_enter Tryz.func133,Tryz.ntmps133
 obtain⟨z0,c00,f00,c01,f01,c02,f02,c03,f03,z1,c10,f10,c11,f11,z2,c20,f20,c21,f21⟩:=HF.out.xf1
 go_wp2_with (fail)
 refine (CV.out _).mono ?_
 rintro e w1 ⟨rfl,hb⟩
 replace HF:=h_ (HF.out.below hb);clear hb;clear z0 c00 f00 c01 f01 c02 f02 c03 f03 z1 c10 f10 c11 f11 z2 c20 f20 c21 f21;obtain⟨z0,c00,f00,c01,f01,c02,f02,c03,f03,z1,c10,f10,c11,f11,z2,c20,f20,c21,f21⟩:=HF.out.xf1
 go_wp2_with (fail)
 refine (CX.out _).mono ?_
 rintro e w2 ⟨rfl,hb⟩
 replace HF:=h_ (HF.out.below hb);clear hb;clear z0 c00 f00 c01 f01 c02 f02 c03 f03 z1 c10 f10 c11 f11 z2 c20 f20 c21 f21;obtain⟨z0,c00,f00,c01,f01,c02,f02,c03,f03,z1,c10,f10,c11,f11,z2,c20,f20,c21,f21⟩:=HF.out.xf1
 go_wp2_with (fail)
 refine (CY.out _).mono ?_
 rintro e w3 ⟨rfl,hb⟩
 replace HF:=h_ (HF.out.below hb);clear hb
 go_wp2_with (fail)
 go_ret
 exact⟨rfl,HF.out.b⟩
theorem gF (hv:isVar p c h s=true) (hx:Val (sq s) ⟨xn,xd⟩) (hy:Val (sq s) ⟨yn,yd⟩):
  Calls Tryz.prog 109 #[.agg #[.int .i64 p,.int .i64 c,.int .i64 h,.int .i64 s],.agg #[.int .i64 xn,.int .i64 xd],.agg #[.int .i64 yn,.int .i64 yd]] w fun e w'=>e = .returned (.tuple #[.int .i64 (cmpE (sq s) ⟨xn,xd⟩ ⟨yn,yd⟩),.int .i64 0])/\Below w.heap.size w w':=by
 have hs1:1<=s:=by have:=(aj hv).2.2.2.2.2.2.1;omega
 have hs6:s<=6:=by have:=(aj hv).2.2.2.2.2.2.2;omega
 have HF:Hid (Fr w (((w.alloc (.cells #[.int .i64 p,.int .i64 c,.int .i64 h,.int .i64 s] 25)).alloc (.cells #[.int .i64 xn,.int .i64 xd] 35)).alloc (.cells #[.int .i64 yn,.int .i64 yd] 35)) [[.int .i64 p,.int .i64 c,.int .i64 h,.int .i64 s],[.int .i64 xn,.int .i64 xd],[.int .i64 yn,.int .i64 yd]]):=(((Fr.start w).allocT (by simp) _ _).allocT (by simp) _ _).allocT (by simp) _ _
 have CC:=h_ fun (W:World)=>l09Code_yes p c h xn yn s xd yd W hv hx hy
 have CM:=h_ fun (W:World)=>bU p c h xn yn s xd yd W hs1 hs6 hx hy
 clear hv hx hy hs1 hs6;generalize cmpE (sq s) ⟨xn,xd⟩ ⟨yn,yd⟩=k at *
 go_enter Tryz.func109,Tryz.ntmps109
 obtain⟨z0,c00,f00,c01,f01,c02,f02,c03,f03,z1,c10,f10,c11,f11,z2,c20,f20,c21,f21⟩:=HF.out.xf1
 go_wp2_with (fail)
 refine (CC.out _).mono ?_
 rintro e w1 ⟨rfl,hb⟩
 replace HF:=h_ (HF.out.below hb);clear hb;clear z0 c00 f00 c01 f01 c02 f02 c03 f03 z1 c10 f10 c11 f11 z2 c20 f20 c21 f21;obtain⟨z0,c00,f00,c01,f01,c02,f02,c03,f03,z1,c10,f10,c11,f11,z2,c20,f20,c21,f21⟩:=HF.out.xf1
 go_wp2_with (fail)
 refine (CM.out _).mono ?_
 rintro e w2 ⟨rfl,hb⟩
 replace HF:=h_ (HF.out.below hb);clear hb
 go_wp2_with (fail)
 refine bodyPost_ret (v:=.tuple #[.int .i64 k,.int .i64 0]) (by simp[results,Tryz.results109,go_sem]) rfl ?_
 exact⟨rfl,HF.out.b⟩
theorem w5_any (hv:isVar p c h s=true) (hx:Val (sq s) ⟨xn,xd⟩) (hy:Val (sq s) ⟨yn,yd⟩):
  Calls Tryz.prog 32 #[.agg #[.int .i64 p,.int .i64 c,.int .i64 h,.int .i64 s],.agg #[.int .i64 xn,.int .i64 xd],.agg #[.int .i64 yn,.int .i64 yd]] w fun e w'=>e = .returned (.int .i64 (cmpE (sq s) ⟨xn,xd⟩ ⟨yn,yd⟩))/\Below w.heap.size w w':=by
 have HF:Hid (Fr w (((w.alloc (.cells #[.int .i64 p,.int .i64 c,.int .i64 h,.int .i64 s] 25)).alloc (.cells #[.int .i64 xn,.int .i64 xd] 35)).alloc (.cells #[.int .i64 yn,.int .i64 yd] 35)) [[.int .i64 p,.int .i64 c,.int .i64 h,.int .i64 s],[.int .i64 xn,.int .i64 xd],[.int .i64 yn,.int .i64 yd]]):=(((Fr.start w).allocT (by simp) _ _).allocT (by simp) _ _).allocT (by simp) _ _
 have CC:=h_ fun (W:World)=>gF p c h xn yn s xd yd W hv hx hy
 clear hv hx hy;generalize cmpE (sq s) ⟨xn,xd⟩ ⟨yn,yd⟩=k at *
 go_enter Tryz.func32,Tryz.ntmps32
 obtain⟨z0,c00,f00,c01,f01,c02,f02,c03,f03,z1,c10,f10,c11,f11,z2,c20,f20,c21,f21⟩:=HF.out.xf1
 go_wp2_with (fail)
 refine (CC.out _).mono ?_
 rintro e w1 ⟨rfl,hb⟩
 replace HF:=h_ (HF.out.below hb);clear hb
 go_wp2_with (fail)
 go_ret
 exact⟨rfl,HF.out.b⟩
end
end Go.Proofs.YtkaiilmgemaljaaGreat

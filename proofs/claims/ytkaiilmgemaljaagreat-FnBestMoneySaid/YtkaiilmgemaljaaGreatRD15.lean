/- Part of one proof. There are no conditions. -/
import Derived.Test.YtkaiilmgemaljaaGreatRZp
import Derived.Test.YtkaiilmgemaljaaGreatRZm
import Derived.Test.YtkaiilmgemaljaaGreatRZa
import Derived.Test.YtkaiilmgemaljaaGreatRD13
set_option linter.unusedVariables false
set_option linter.unusedSimpArgs false
set_option maxHeartbeats 0
set_option maxRecDepth 100000
namespace Go.Proofs.YtkaiilmgemaljaaGreat.Ps
theorem jz (i l:Nat):∀x,sumW i (l+1) (x+1)=wys i (l+1)+sumW i l x
 | 0=>by simp[sumW]
 | x + 1 => by
   rw [cD, jz i l x, cD, show l + 1 - (x + 1) = l - x by omega]
   omega
theorem numT_sur:∀(h left n:Nat),n<wys h left->∃l:List Int,l.length=h/\(∀x∈l,0<=x)/\l.sum<=left/\numT l left=n:=by
 intro h
 induction h with
 | zero =>
   intro left n hn
   rw [ir] at hn
   exact ⟨[], rfl, (fun x hx => by cases hx), by simp, by simp [numT]; omega⟩
 | succ h ih =>
   have zero : ∀ left n, n < wys h left -> ∃ l : List Int, l.length = h + 1 /\ (∀ x ∈ l, 0 <= x) /\ l.sum <= left /\ numT l left = n := by
     intro left n hn
     obtain ⟨l, h1, h2, h3, h4⟩ := ih left n hn
     refine ⟨0 :: l, by simp [h1], fun x hx => ?_, by simpa using h3, ?_⟩
     · rcases List.mem_cons.1 hx with rfl | hx
       · omega
       · exact h2 x hx
     · rw [cE]
       simpa [sumW] using h4
   intro left
   induction left with
   | zero => intro n hn; rw [fK] at hn; exact zero 0 n hn
   | succ left ih2 =>
     intro n hn
     rw [wys_succ] at hn
     by_cases hw : n < wys h (left + 1)
     · exact zero _ n hw
     · obtain ⟨l, h1, h2, h3, h4⟩ := ih2 (n - wys h (left + 1)) (by omega)
       cases l with
       | nil => simp at h1
       | cons x r =>
         have hx := h2 x (by simp)
         refine ⟨(x + 1) :: r, by simpa using h1, fun y hy => ?_, ?_, ?_⟩
         · rcases List.mem_cons.1 hy with rfl | hy
           · omega
           · exact h2 y (by simp [hy])
         · simp only [List.sum_cons] at h3 ⊢
           omega
         · rw [cE] at h4 ⊢
           have hl : r.length = h := by simpa using h1
           rw [hl] at h4 ⊢
           rw [show (x + 1).toNat = x.toNat + 1 by omega, jz, show left + 1 - (x.toNat + 1) = left - x.toNat by omega]
           omega
theorem num_sur {h c n:Nat} (hn:n<wys h c):∃p,PosP h c p/\num c p=n:=by
 obtain⟨l,h1,h2,h3,h4⟩:=numT_sur h c n hn
 refine⟨l.reverse,⟨by simp[h1],fun x hx=>h2 x (by simpa using hx),by rw[List.sum_reverse];exact h3⟩,?_⟩
 unfold num;rw[List.reverse_reverse]
 exact h4
end Go.Proofs.YtkaiilmgemaljaaGreat.Ps
namespace Go.Proofs.YtkaiilmgemaljaaGreat
open Go.RowKit Ps
theorem getD_eq_of {xs ys:List Int} (hl:xs.length=ys.length) (h:∀j,xs.getD j 0=ys.getD j 0):xs=ys:=by
 refine List.ext_getElem hl fun i h1 h2=>?_
 have:=h i
 simpa[List.getD,h1,h2]using this
theorem getD_set_ne' (xs:List Int) (v:Int) {i j:Nat} (h:i≠j):(xs.set i v).getD j 0=xs.getD j 0:=by simp[List.getD,List.getElem?_set_ne h]
theorem l10At_any (p s:Int) (c h:Nat) (xs:List Int) (w:World) (hp:PosP h c xs) (hc:c<=15) (hh:h<=24) (hw6:wys h c<=1000000):
  Calls Tryz.prog 143 #[.agg #[.int .i64 p,.int .i64 c,.int .i64 h,.int .i64 s],.int .i64 (num c xs)] w (RetO w 2 xs):=by
 obtain⟨i0,hi,hz0,hz1,hz2⟩:=info_parts Tryz.infoI
 have HF0:Hid (Fr w (w.alloc (.cells #[.int .i64 p,.int .i64 c,.int .i64 h,.int .i64 s] 25)) [[.int .i64 p,.int .i64 c,.int .i64 h,.int .i64 s]]):=(Fr.start w).allocT (by simp) _ _
 have hlen:=hp.1;have hbd:num c xs<wys h c:=dj hp
 have HW:Hid (∀i m,i<=h->m<=c->wys i m<=wys h c):=fun i m hi hm=>eM hi hm
 have HP:=h_ hp
 have HN:Hid (numT (xs.take h).reverse c=num c xs):=by unfold Hid num;rw[List.take_of_length_le (by omega)]
 have HS:Hid ((xs.take h).sum<=c):=by unfold Hid;rw[List.take_of_length_le (by omega)];exact hp.2.2
 have HPN:Hid (∀k,0<=(xs.take k).sum):=fun k=>aW xs k hp.2.1
 have HL:=h_ hlen;clear hp hlen;obtain⟨N,hN⟩:∃N,N=num c xs:=⟨_,rfl⟩;rw[<- hN]at hbd HN ⊢;clear hN
 go_enter Tryz.func143,Tryz.ntmps143
 obtain⟨z0,c00,f00,c01,f01,c02,f02,c03,f03⟩:=HF0.out.xf2
 go_wp2_with (at_make;refine wpList_make_full _ rfl _ _ 26 rfl w.heap.size 2 i0 (.int .i64 0) 1 Tryz.underlying26 hi hz0 hz1 _ _ _ _ h rfl rfl (by omega) (by omega) (by rw[hz2];omega) (by unfold maxLen;omega) (by simp) ?_;intro w1 hown hgrow;have HF1:=h_ (HF0.out.below ((Below.refl _ _).grown hgrow (by simp) (by simp)));have y1:=HF1.out.c0 1 rfl;have yz:=HF1.out.l0 (by simp))
 have HO1:Hid (OwnS w1 w.heap.size 2 (.slice (some ⟨w.heap.size+1,0,none⟩) h h) (List.replicate h 0)):=by
  unfold Hid OwnS
  simp only[List.length_replicate,List.map_replicate]
  have e:(madeCells (Value.int .i64 0).cells (h*1)).toList=List.replicate h (Value.int .i64 0):=by rw[Nat.mul_one];exact toList_madeCells_one _ _
  rw[e]at hown
  simpa using hown
 clear z0 c00 f00 c01 f01 c02 f02 c03 f03;clear hown hgrow HF0 y1 yz;obtain⟨g,hg⟩:∃g,g=w.heap.size+1:=⟨_,rfl⟩;rw[<- hg]at HO1 ⊢
 have HG:Hid (w.heap.size<=g):=by unfold Hid;omega
 clear hg;have HB1:=h_ HF1.out.b;clear HF1
 go_loopw [1,6,7,8] (fun v1 v6 v7 v8 wr=>∃(k nn lf:Nat) (ys:List Int),k<=h/\lf<=c/\v7 = .int .i64 ((k:Int)-1)/\v6 = .int .i64 lf/\v1 = .int .i64 nn/\Hid (nn=numT (xs.take k).reverse lf)/\nn<wys h c/\Hid ((xs.take k).sum<=lf)/\Hid (ys.length=h/\(∀j,k<=j->ys.getD j 0=xs.getD j 0))/\Hid (OwnS wr w.heap.size 2 (.slice (some ⟨g,0,none⟩) h h) ys)/\Hid (Below w.heap.size w wr)) (fun _ _ v7 _ _=>(intOf v7+1).toNat)
 case atStart=>exact⟨h,N,c,List.replicate h 0,by omega,by omega,rfl,rfl,rfl,HN.out.symm,hbd,HS.out,⟨by simp,fun j hj=>by simp[List.getD,show ¬j<h by omega,HL.out]⟩,HO1.out,HB1.out⟩
 case round=>
  clear HO1 HB1;obtain⟨k,nn,lf,ys,hk,hlf,hi7,rfl,rfl,hnum,hnlt,hs,hys,HO,HB⟩:=hrel
  rcases k with _|j
  ·rw[show ((0:Nat):Int)-1 = -1 from rfl]at hi7
   subst hi7
   have HR:Hid (RetO w 2 xs (.returned (.slice (some ⟨g,0,none⟩) h h)) wr):=by
    have e:ys=xs:=getD_eq_of (by rw[hys.out.1,HL.out]) fun j=>hys.out.2 j (by omega)
    have h1:=HO.out;rw[e]at h1
    exact RetO.mk h1 HB.out
   clear HO HB hys
   go_wp2_with (fail)
   go_ret
   exact HR.out
  ·rw[show ((j+1:Nat):Int)-1=(j:Int) by omega]at hi7
   subst hi7
   have e1:=iS (p:=xs) (i:=j) (left:=lf) (by rw[HL.out];omega)
   have e2:=iH (p:=xs) (i:=j) (by rw[HL.out];omega)
   have e3:=HPN.out j
   have e4:=HP.out.2.1 _ (bB xs j (by rw[HL.out];omega))
   obtain⟨x,hx⟩:∃x:Nat,xs.getD j 0=(x:Int):=⟨(xs.getD j 0).toNat,by omega⟩
   rw[hx]at e1 e2 e4
   simp only[Int.toNat_natCast]at e1
   have e5:=hs.out;rw[e2]at e5
   have hxl:x<=lf:=by omega
   have hrest:numT (xs.take j).reverse (lf-x)<wys j (lf-x):=by
    have:=kn (xs.take j).reverse (lf-x) (fun y hy=>HP.out.2.1 y (List.mem_of_mem_take (List.mem_reverse.1 hy))) (by rw[List.sum_reverse];omega)
    rwa [List.length_reverse,List.length_take,HL.out,show min j h=j by omega]at this
   obtain⟨R,hR⟩:∃R,R=numT (xs.take j).reverse (lf-x):=⟨_,rfl⟩
   have hnum':Hid (nn=sumW j lf x+R):=by have:=hnum.out;rw[e1,<- hR]at this;exact this
   rw[<- hR]at hrest;have HRR:=h_ hR
   have hs':Hid ((xs.take j).sum<=((lf-x:Nat):Int)):=by unfold Hid;omega
   have HM:Hid (∀d,d<=x->sumW j lf d<=sumW j lf x):=fun d hd=>fR hd
   have HX:=h_ hx;clear e1 e2 e3 e4 e5 hx hnum hs hR;obtain⟨wa,hwa⟩:∃wa:World,wa=wr:=⟨_,rfl⟩;rw[<- hwa]at HO HB ⊢;clear hwa
   go_wp2_with (fail)
   go_loopw [1,8] (fun v1 v8 wb=>∃d n1:Nat,wb=wa/\d<=x/\v8 = .int .i64 d/\v1 = .int .i64 n1/\n1<=nn/\Hid (n1+sumW j lf d=nn)) (fun _ v8 _=>x-(intOf v8).toNat)
   case atStart=>exact⟨0,nn,rfl,by omega,rfl,rfl,by omega,by simp[Hid,sumW]⟩
   case round=>
    obtain⟨d,n1,rfl,hd,rfl,rfl,hn1,HD⟩:=hrel
    have hsub:((lf:Int)-(d:Int))=((lf-d:Nat):Int):=by omega
    have hm1:=HM.out d hd
    have CL:=h_ fun (W:World)=>(show Calls Tryz.prog 167 #[.int .i64 ((lf-d:Nat):Int),.int .i64 j] W (fun e w'=>e = .returned (.int .i64 (wys j (lf-d)))/\W=w') from by have h1:=l10Ways_any j (lf-d) W (by omega) (by omega);rw[cO (Nat.le_trans (HW.out _ _ (by omega) (by omega)) hw6)]at h1;exact h1)
    have hwl:=HW.out j (lf-d) (by omega) (by omega)
    have E:=h_ (cD j lf d)
    by_cases hdx:d<x
    ·have hm2:=HM.out (d+1) (by omega)
     have hge:wys j (lf-d)<=n1:=by
      have h1:=HD.out;have h2:=hnum'.out;rw[E.out]at hm2
      omega
     have HD2:Hid ((n1-wys j (lf-d))+sumW j lf (d+1)=nn):=by unfold Hid;rw[E.out];have:=HD.out;omega
     have hgi:((wys j (lf-d):Nat):Int)<=(n1:Int):=by omega
     clear hm1 hm2 E HD;generalize wys j (lf-d)=wj at *
     go_wp2_with (go_at_call 167;(try rw[hsub]);refine (CL.out _).mono ?_;rintro e w' ⟨rfl,rfl⟩)
     go_roundw
     case rel=>exact⟨d+1,n1-wj,trivial,by omega,by go_num,by go_num,by omega,HD2.out⟩
     case measure=>(simp[intOf])<;>omega
    ·have hdx2:d=x:=by omega
     subst hdx2
     have hn1R:n1=R:=by have h1:=HD.out;have h2:=hnum'.out;omega
     subst hn1R
     have hlt:¬((wys j (lf-d):Nat):Int)<=(n1:Int):=by omega
     obtain⟨ga,ea,_,_,hcl,hfr⟩:=kj HO.out (by omega)
     cases ea
     have yc:=hcl j (by omega)
     have yf:=hfr j;have HO2:=h_ (HO.out.stored j (d:Int));have HB2:Hid (Below w.heap.size w (wr.setCell ⟨g,j,none⟩ (.int .i64 d))):=HB.out.setCell HG.out _
     have hys2:Hid ((ys.set j (d:Int)).length=h/\∀i,j<=i->(ys.set j (d:Int)).getD i 0=xs.getD i 0):=by
      refine⟨by rw[List.length_set];exact hys.out.1,fun i hi=>?_⟩
      by_cases e:i=j
      ·subst e
       rw[HX.out]
       simp[List.getD,show i<ys.length by rw[hys.out.1];omega]
      ·rw[getD_set_ne' ys (d:Int) (Ne.symm e)]
       exact hys.out.2 i (by omega)
     clear hcl hfr E HD hm1 hnum' HO HB hys;generalize wys j (lf-d)=wj at *;generalize ys.getD j 0=yv at *
     go_wp2_with (go_at_call 167;(try rw[hsub]);refine (CL.out _).mono ?_;rintro e w' ⟨rfl,rfl⟩)
     go_roundw
     case rel=>exact⟨j,n1,lf-d,ys.set j (d:Int),by omega,by omega,by go_num,by go_num,rfl,HRR.out,by omega,hs'.out,hys2.out,HO2.out,HB2.out⟩
     case measure=>(simp[intOf])<;>omega
def cntI (p c h s:Int):Int:=if isVar p c h s=true then wysC h.toNat c.toNat else -1
theorem sCount_any (p c h s:Int) (w:World):Calls Tryz.prog 140 #[.agg #[.int .i64 p,.int .i64 c,.int .i64 h,.int .i64 s]] w fun e w'=>e = .returned (.int .i64 (cntI p c h s))/\Below w.heap.size w w':=by
 by_cases hv:isVar p c h s=true
 ·have hvv:=aj hv
  obtain⟨c',rfl⟩:∃c':Nat,c=c':=⟨c.toNat,by omega⟩
  obtain⟨h',rfl⟩:∃h':Nat,h=h':=⟨h.toNat,by omega⟩
  have:=bS p s c' h' w hv;unfold cntI;rw[if_pos hv,Int.toNat_natCast,Int.toNat_natCast]
  exact this
 ·have hvf:isVar p c h s=false:=by cases h0:isVar p c h s with
   | false=>rfl
   | true=>exact absurd h0 hv
  have HC:Hid (cntI p c h s = -1):=by unfold Hid cntI;rw[if_neg hv]
  have HB:Hid (Below w.heap.size w (w.alloc (.cells #[.int .i64 p,.int .i64 c,.int .i64 h,.int .i64 s] 25))):=(Below.refl _ _).alloc (Nat.le_refl _) _
  have CV:Hid (∀W:World,Calls Tryz.prog 80 #[.agg #[.int .i64 p,.int .i64 c,.int .i64 h,.int .i64 s]] W fun e w'=>e = .returned (.bool false)/\Below W.heap.size W w'):=fun W=>by
   have:=aw p c h s W;rw[hvf]at this;exact this
  clear hv hvf
  go_enter Tryz.func140,Tryz.ntmps140
  go_wp2_with (fail)
  refine (CV.out _).mono ?_
  rintro e w1 ⟨rfl,hb⟩
  have HB1:=h_ (HB.out.trans (hb.mono HB.out.size));clear hb HB
  go_wp2_with (fail)
  go_ret
  exact⟨by rw[HC.out];rfl,HB1.out⟩
theorem jp (p s:Int) (c h k:Nat) (w:World) (hv:isVar p c h s=true) (hk:k<wys h c) (hN:wys h c<=1000000):
  Calls Tryz.prog 228 #[.agg #[.int .i64 p,.int .i64 c,.int .i64 h,.int .i64 s],.int .i64 k] w fun e w'=>∃v xs,e = .returned (.tuple #[v,.int .i64 0])/\PosP h c xs/\num c xs=k/\OwnS w' w.heap.size 2 v xs/\Below w.heap.size w w':=by
 have hvv:=aj hv;obtain⟨xs,hp,hn⟩:=num_sur hk;have HB0:Hid (Below w.heap.size w (w.alloc (.cells #[.int .i64 p,.int .i64 c,.int .i64 h,.int .i64 s] 25))):=(Below.refl _ _).alloc (Nat.le_refl _) _
 have HF0:Hid (Fr w (w.alloc (.cells #[.int .i64 p,.int .i64 c,.int .i64 h,.int .i64 s] 25)) [[.int .i64 p,.int .i64 c,.int .i64 h,.int .i64 s]]):=(Fr.start w).allocT (by simp) _ _
 have CV:Hid (∀W:World,Calls Tryz.prog 80 #[.agg #[.int .i64 p,.int .i64 c,.int .i64 h,.int .i64 s]] W fun e w'=>e = .returned (.bool true)/\Below W.heap.size W w'):=fun W=>by
  have:=aw p c h s W;rw[hv]at this;exact this
 have CC:Hid (∀W:World,Calls Tryz.prog 140 #[.agg #[.int .i64 p,.int .i64 c,.int .i64 h,.int .i64 s]] W fun e w'=>e = .returned (.int .i64 (wys h c:Int))/\Below W.heap.size W w'):=fun W=>by
  have:=bS p s c h W hv;rw[cO hN]at this;exact this
 have CI:Hid (∀W:World,Calls Tryz.prog 134 #[.int .i64 k,.int .i64 0,.int .i64 ((wys h c:Int)-1)] W fun e w'=>e = .returned (.bool true)/\W=w'):=fun W=>by
  have h1:=l01In_any (k:Int) 0 ((wys h c:Int)-1) W
  rw[aS ⟨by omega,by omega⟩]at h1;exact h1
 have CA:Hid (∀W:World,Calls Tryz.prog 143 #[.agg #[.int .i64 p,.int .i64 c,.int .i64 h,.int .i64 s],.int .i64 k] W (RetO W 2 xs)):=fun W=>by
  have:=l10At_any p s c h xs W hp (by omega) (by omega) hN;rw[hn]at this;exact this
 have HPX:=h_ hp;have HNX:=h_ hn
 have hwi:¬((wys h c:Nat):Int)<0:=by omega
 clear hv hvv hp hn;generalize wys h c=N at *
 go_enter Tryz.func228,Tryz.ntmps228
 obtain⟨z0,c00,f00,c01,f01,c02,f02,c03,f03⟩:=HF0.out.xf2
 go_wp2_with (fail)
 refine (CV.out _).mono ?_
 rintro e w1 ⟨rfl,hb⟩
 clear z0 c00 f00 c01 f01 c02 f02 c03 f03;replace HF0:=h_ (HF0.out.below hb);clear hb CV;obtain⟨z0,c00,f00,c01,f01,c02,f02,c03,f03⟩:=HF0.out.xf2
 go_wp2_with (fail)
 refine (CC.out _).mono ?_
 rintro e w2 ⟨rfl,hb⟩
 clear z0 c00 f00 c01 f01 c02 f02 c03 f03;replace HF0:=h_ (HF0.out.below hb);clear hb;obtain⟨z0,c00,f00,c01,f01,c02,f02,c03,f03⟩:=HF0.out.xf2
 go_wp2_with (fail)
 refine (CC.out _).mono ?_
 rintro e w3 ⟨rfl,hb⟩
 clear z0 c00 f00 c01 f01 c02 f02 c03 f03;replace HF0:=h_ (HF0.out.below hb);clear hb CC;obtain⟨z0,c00,f00,c01,f01,c02,f02,c03,f03⟩:=HF0.out.xf2
 go_wp2_with (fail)
 refine (CI.out _).mono ?_
 rintro e w' ⟨rfl,rfl⟩
 go_wp2_with (fail)
 refine (CA.out _).mono ?_
 rintro e w4 ⟨A,ca,rfl,ho,hb⟩
 clear z0 c00 f00 c01 f01 c02 f02 c03 f03;have HB4:=h_ (HF0.out.b.trans (hb.mono HF0.out.b.size));have HO4:=h_ (ho.base (b':=w.heap.size) HF0.out.b.size);clear hb ho HF0 CA
 go_wp2_with (fail)
 refine bodyPost_ret (v:=.tuple #[.slice A xs.length ca,.int .i64 0]) (by simp[results,Tryz.results228,go_sem]) rfl ?_
 exact⟨_,xs,rfl,HPX.out,HNX.out,HO4.out,HB4.out⟩
theorem cU (g:Nat) (C:Option Addr) (n cc:Nat) (bs:List Int) (p c h s:Int) (W:World) (hs:SomG g C n cc bs W):
  Calls Tryz.prog 184 #[.pointer (some ⟨g,0,none⟩),.agg #[.int .i64 p,.int .i64 c,.int .i64 h,.int .i64 s]] W (RetGP g C n cc bs W):=by
 obtain⟨i0,hi,hz0,hz1,hz2⟩:=info_parts Tryz.infoI;have hg:=hs.lt
 have HF0:Hid (FrS (fun j=>j=g) W (W.alloc (.cells #[.int .i64 p,.int .i64 c,.int .i64 h,.int .i64 s] 25)) [[.int .i64 p,.int .i64 c,.int .i64 h,.int .i64 s]]):=(FrS.start W (fun k hk=>by rw[hk];exact hg)).allocT (by simp) _ _
 have HS0:=h_ (hs.alloc (.cells #[.int .i64 p,.int .i64 c,.int .i64 h,.int .i64 s] 25));have CC:=h_ (sCount_any p c h s);have HG:=h_ hg;clear hs hg
 by_cases h2:cntI p c h s<2
 focus
  generalize cntI p c h s=N at *
  refine ?zd
 rotate_left
 focus
  have hv:isVar p c h s=true:=by
   cases h0:isVar p c h s with
   | true=>rfl
   | false=>exact absurd (show cntI p c h s<2 by unfold cntI;rw[h0];simp) h2
  have hvv:=aj hv
  obtain⟨c',rfl⟩:∃c':Nat,c=c':=⟨c.toNat,by omega⟩
  obtain⟨h',rfl⟩:∃h':Nat,h=h':=⟨h.toNat,by omega⟩
  have hN:wys h' c'<=1000000/\cntI p c' h' s=(wys h' c':Int):=by
   unfold cntI at h2 ⊢;rw[if_pos hv,Int.toNat_natCast,Int.toNat_natCast]at h2 ⊢
   by_cases hb:wys h' c'<=1000000
   ·exact⟨hb,cO hb⟩
   ·rw[gB hb]at h2;omega
  obtain⟨hN1,hN2⟩:=hN;rw[hN2]at h2 CC
  have CAT:Hid (∀(k:Nat),k<wys h' c'->∀W:World,Calls Tryz.prog 228 #[.agg #[.int .i64 p,.int .i64 c',.int .i64 h',.int .i64 s],.int .i64 k] W fun e w'=>∃v xs,e = .returned (.tuple #[v,.int .i64 0])/\xs.length<=24/\OwnS w' W.heap.size 2 v xs/\Below W.heap.size W w'):=fun k hk W=>by
   refine (jp p s c' h' k W hv hk hN1).mono ?_
   rintro e w' ⟨v,xs,h1,h3,_,h4,h5⟩
   exact⟨v,xs,h1,by have:=h3.1;omega,h4,h5⟩
  clear hv hvv hN2;generalize wys h' c'=N at *
  refine ?zc
 rotate_left
 case' zc|zd=>
  go_enter Tryz.func184,Tryz.ntmps184
  obtain⟨z0,c00,f00,c01,f01,c02,f02,c03,f03⟩:=HF0.out.xf2
  go_wp2_with (fail)
  refine (CC.out _).mono ?_
  rintro e w1 ⟨rfl,hb⟩
 case' zc=>
  clear z0 c00 f00 c01 f01 c02 f02 c03 f03;have HF1:=h_ (HF0.out.below hb);have HS1:=h_ (HS0.out.below hb);clear hb CC HF0 HS0
  go_wp2_with (fail)
  refine (ax HS1.out (k:=(N:Int)-1) (by omega)).mono ?_
  rintro e w2 ⟨x,rfl,lx,ux,hs,hf⟩
  have HS2:=h_ hs;have HF2:=h_ (HF1.out.frm hf);clear hs hf HS1 HF1
  go_wp2_with (fail)
  refine (ax HS2.out (k:=16) (by omega)).mono ?_
  rintro e w3 ⟨x2,rfl,lx2,ux2,hs,hf⟩
  have HS3:=h_ hs;have HF3:=h_ (HF2.out.frm hf);clear hs hf HS2 HF2
  obtain⟨k,hk,hkx⟩:∃k:Nat,k<N/\(k:Int)=if x2=0 then 0 else 1+x:=by
   by_cases h0:x2=0
   ·exact⟨0,by omega,by rw[if_pos h0];rfl⟩
   ·exact⟨(1+x).toNat,by omega,by rw[if_neg h0];omega⟩
  by_cases h0:x2=0
  focus
   have b0:(x2 == 0)=true:=by simp[h0]
   rw[if_pos h0]at hkx
   obtain rfl:k=0:=by omega
   have CX:=h_ fun (W:World)=>CAT.out 0 hk W
   clear h0 hkx hk CAT;obtain⟨z0,c00,f00,c01,f01,c02,f02,c03,f03⟩:=HF3.out.xf2
   refine ?za
  rotate_left
  focus
   have b0:(x2 == 0)=false:=by simp[h0]
   rw[if_neg h0]at hkx
   have CX:=h_ fun (W:World)=>CAT.out k hk W
   rw[hkx]at CX;clear h0 hkx hk CAT;obtain⟨z0,c00,f00,c01,f01,c02,f02,c03,f03⟩:=HF3.out.xf2
   refine ?zb
 case za|zb=>
  go_wp2_with (fail)
  refine (CX.out _).mono ?_
  rintro e w4 ⟨v,xs,rfl,hxl,ho,hb⟩
  clear z0 c00 f00 c01 f01 c02 f02 c03 f03
  have hw3:W.heap.size+1<=w3.heap.size:=by have:=HF3.out.z;simpa using this
  have HF4:=h_ (HF3.out.below hb);have HS4:=h_ (HS3.out.below hb);have HO4:=h_ (ho.base (b':=W.heap.size+1) hw3);clear hb ho CX HF3 HS3
  go_wp2_with (fail)
  refine (ax HS4.out (k:=30) (by omega)).mono ?_
  rintro e w5 ⟨x3,rfl,lx3,ux3,hs,hf⟩
  have HS5:=h_ hs;have HF5:=h_ (HF4.out.frm hf)
  have HO5:Hid (OwnS w5 (W.heap.size+1) 2 v xs):=hf.own HO4.out fun j hj hjg=>by have:=(HO4.out.lt j hj).1;have:=HG.out;omega
  clear hs hf HS4 HF4 HO4
  by_cases h3:x3=0
  ·have b3:(x3 == 0)=true:=by simp[h3]
   have hw5:W.heap.size+1<=w5.heap.size:=by have:=HF5.out.z;simpa using this
   have HROW:Hid ((w5.alloc (.cells #[.int .i64 1] 2)).ownsRow (W.heap.size+1) 2 1 v xs.length (xs.map (Value.int .i64))):=row_alloc HO5.out _
   have HVL:=h_ fun (j:Nat) (hj:v.ownBlock=some j)=>HO5.out.lt j hj
   have HTN:Hid (∀j u,[Value.int .i64 1][j]? = some u->(w5.alloc (.cells #[.int .i64 1] 2)).cell? ((⟨w5.heap.size,0,none⟩:Addr).add j)=some u):=one_new w5 (.int .i64 1) _;have HSA:=h_ (HS5.out.alloc (.cells #[.int .i64 1] 2));have HFA:=h_ (HF5.out.alloc (.cells #[.int .i64 1] 2));clear HS5 HF5 HO5 h3
   go_wp2_with (at_builtin;(refine wpList_append_own_at _ rfl _ _ 26 rfl (W.heap.size+1) 2 i0 (.int .i64 0) 1 8 Tryz.underlying26 hi hz0 hz1 hz2 rfl (by decide) _ _ _ rfl HROW.out ⟨w5.heap.size,0,none⟩ 1 1 [.int .i64 1] rfl rfl HTN.out (ints_oneCell _ [1]) (by unfold maxLen;omega) (by omega) (by simp;omega) ?_);intro v' w6 hown hgrow _ hat)
   have HS6:Hid (SomG g C n cc bs w6):=HSA.out.frm (Frm.of_grown hgrow) fun j hj=>by have:=(HVL.out j hj.symm).1;have:=HG.out;omega
   have HF6:=h_ (HFA.out.out (Frm.of_grown hgrow) fun j hj=>by have:=(HVL.out j hj.symm).1;simpa using this)
   have HO6:Hid (OwnS w6 (W.heap.size+1) 2 v' (xs++[1])):=own_snoc hown;clear hown hgrow hat HROW HSA HFA
   go_wp2_with (fail)
   go_ret
   exact⟨_,_,rfl,HO6.out.base (by omega),by rw[List.length_append];simp;omega,HS6.out,HF6.out.f⟩
  ·have b3:(x3 == 0)=false:=by simp[h3]
   clear h3
   go_wp2_with (fail)
   go_ret
   exact⟨_,_,rfl,HO5.out.base (by omega),by omega,HS5.out,HF5.out.f⟩
 case zd=>
  clear z0 c00 f00 c01 f01 c02 f02 c03 f03;have HF1:=h_ (HF0.out.below hb);have HS1:=h_ (HS0.out.below hb);clear hb CC HF0 HS0;have hz:=HF1.out.z
  go_wp2_with (fail)
  go_ret
  exact⟨_,[1],rfl,OwnS.made w1 _ [1] #[.int .i64 1] rfl rfl (by simp at hz;omega) (by decide),by decide,HS1.out.alloc _,HF1.out.f.alloc _⟩
open Go.RowKit
def CubP:RP:=fun v _=>∃m o,v = .agg #[.int .i64 m,.int .i64 o]/\0<=m/\m<=2048/\-1<=o/\o<=3
def dsC16:Nat->Nat
 | 0=>10
 | 1=>11
 | 2=>12
 | 3=>13
 | 4=>14
 | 5=>15
 | 6=>16
 | 7=>17
 | 8=>18
 | _=>0
def Dbl5 (k:Nat) (v:Int):Prop:=k<=5/\1<=v/\v<=32/\(1<=k->v<=16)/\(2<=k->v<=8)/\(3<=k->v<=4)/\(4<=k->v<=2)/\(5<=k->v<=1)
theorem l16Draw_any (g:Nat) (C:Option Addr) (n c:Nat) (bs:List Int) (m:Int) (b j:Bool) (W:World) (hs:SomG g C n c bs W):
  Calls Tryz.prog 185 #[.pointer (some ⟨g,0,none⟩),.agg #[.int .i64 m,.bool b,.bool j]] W (RetGC g C n c bs W):=by
 have hg:=hs.lt
 have HF0:Hid (FrS (fun j=>j=g) W ((W.alloc (.cells #[.int .i64 m,.bool b,.bool j] 53)).alloc (.cells #[.int .i64 0,.int .i64 0] 55)) [[.int .i64 m,.bool b,.bool j],[.int .i64 0,.int .i64 0]]):=((FrS.start W (fun k hk=>by rw[hk];exact hg)).allocT (by simp) _ _).allocT (by simp) _ _
 have HS0:=h_ ((hs.alloc (.cells #[.int .i64 m,.bool b,.bool j] 53)).alloc (.cells #[.int .i64 0,.int .i64 0] 55));clear hs
 go_enter Tryz.func185,Tryz.ntmps185
 go_wp2_with (fail)
 refine (ax HS0.out (k:=12) (by omega)).mono ?_
 rintro e w1 ⟨k0,rfl,lx1,ux1,hs,hf⟩
 have HS1:=h_ hs;have HF1:=h_ (HF0.out.frm hf);clear hs hf HS0 HF0
 by_cases h0:k0=0
 ·have b0:(k0 == 0)=true:=by simp[h0]
  clear h0
  go_wp2_with (fail)
  generalize w1=V at *;have HSV:=HS1;have hlo:g<V.heap.size:=HS1.out.lt
  refine bM 9 (fun _=>false) dsC16 (Frm (fun j=>j=g)) (SomG g C n c bs) (GL [SliP V.heap.size 6 [0,1,2,3,4,2048],Eqv (.pointer (some ⟨g,0,none⟩)),IntP (fun x=>0<=x/\(x<6\/x=0)),AdrP V.heap.size [0,1,2,3,4,2048],IntP (fun x=>0<=x/\x<=2048),Eqv (.pointer (some ⟨g,0,none⟩)),IntP (fun x=>0<=x/\(x<5\/x=0)),IntP (fun x=>-1<=x/\x<=3),CubP]) rfl (by kernel_rfl) (fun _ _ _ _ _ h=>h) (fun _ _ _ h1 h2=>h1.trans h2) (fun a=>Frm.refl _ a) (GL.stabG (AllG.cons (stg_sli hlo _ _) (AllG.cons (fS _ _) (AllG.cons (cQ _ _) (AllG.cons (stg_adr hlo _) (AllG.cons (cQ _ _) (AllG.cons (fS _ _) (AllG.cons (cQ _ _) (AllG.cons (cQ _ _) (AllG.cons ((fun _ _ _ h _=>h)) (AllG.nil))))))))))) ((Frm.refl _ _).drew) (HSV.out.frm (O:=fun _=>False) ((Frm.refl _ _).drew) (fun _ h=>h.elim)) (fun i o' _ hX=>by cases hX) ?_ ?_
  ·intro i o' hi _ ho a' W3 hW hIW hfar hdep
   have e0:a'.tmps.getD 0 undef = .pointer (some ⟨g,0,none⟩):=(hfar 0 (by decide)).trans rfl
   have dep:∀j,j<9->Region.waitsFor .any _ i j=true->GL [SliP V.heap.size 6 [0,1,2,3,4,2048],Eqv (.pointer (some ⟨g,0,none⟩)),IntP (fun x=>0<=x/\(x<6\/x=0)),AdrP V.heap.size [0,1,2,3,4,2048],IntP (fun x=>0<=x/\x<=2048),Eqv (.pointer (some ⟨g,0,none⟩)),IntP (fun x=>0<=x/\(x<5\/x=0)),IntP (fun x=>-1<=x/\x<=3),CubP] j (a'.tmps.getD (dsC16 j) undef) W3:=hdep
   have hVW:V.heap.size<=W3.heap.size:=hW.size
   have hi8:i=0\/i=1\/i=2\/i=3\/i=4\/i=5\/i=6\/i=7\/i=8:=by omega
   clear hfar hdep hi
   rcases hi8 with rfl|rfl|rfl|rfl|rfl|rfl|rfl|rfl|rfl
   all_goals (simp at ho;subst ho)
   ·exact .inl ⟨.slice (some ⟨W3.heap.size,0,none⟩) 6 6,W3.alloc (.cells #[.int .i64 (0),.int .i64 (1),.int .i64 (2),.int .i64 (3),.int .i64 (4),.int .i64 (2048)] 2),by kernel_rfl,(Frm.refl _ _).alloc _,hIW.alloc _,⟨_,rfl,hVW,Cel.new W3 #[.int .i64 (0),.int .i64 (1),.int .i64 (2),.int .i64 (3),.int .i64 (4),.int .i64 (2048)] _⟩⟩
   ·exact .inl ⟨.pointer (some ⟨g,0,none⟩),W3,by simp only[execOp,Act.eval,e0];go_simp,Frm.refl _ _,hIW,rfl⟩
   ·have d1:a'.tmps.getD 11 undef = .pointer (some ⟨g,0,none⟩):=dep 1 (by omega) (by kernel_rfl)
    refine .inr ⟨154,#[.pointer (some ⟨g,0,none⟩),.int .i64 6],by simp only[execOp,Act.eval,d1];go_simp,?_⟩
    refine (ax hIW (k:=6) (by omega)).mono ?_
    rintro e W' ⟨x,rfl,hx1,hx2,hs',hf'⟩
    exact⟨_,rfl,hf',hs',⟨x,rfl,hx1,hx2⟩⟩
   ·obtain⟨b,d1,hb,hc⟩:SliP V.heap.size 6 [0,1,2,3,4,2048] (a'.tmps.getD 10 undef) W3:=dep 0 (by omega) (by kernel_rfl)
    obtain⟨x,d2,hx1,hx2⟩:IntP (fun x=>0<=x/\(x<6\/x=0)) (a'.tmps.getD 12 undef) W3:=dep 2 (by omega) (by kernel_rfl)
    have hxx:x=0\/x=1\/x=2\/x=3\/x=4\/x=5:=by omega
    rcases hxx with rfl|rfl|rfl|rfl|rfl|rfl
    ·exact .inl ⟨.pointer (some ⟨b,0,none⟩),W3,by simp only[execOp,Act.eval,d1,d2];go_simp,Frm.refl _ _,hIW,⟨b,0,rfl,hb,by decide,hc⟩⟩
    ·exact .inl ⟨.pointer (some ⟨b,1,none⟩),W3,by simp only[execOp,Act.eval,d1,d2];go_simp,Frm.refl _ _,hIW,⟨b,1,rfl,hb,by decide,hc⟩⟩
    ·exact .inl ⟨.pointer (some ⟨b,2,none⟩),W3,by simp only[execOp,Act.eval,d1,d2];go_simp,Frm.refl _ _,hIW,⟨b,2,rfl,hb,by decide,hc⟩⟩
    ·exact .inl ⟨.pointer (some ⟨b,3,none⟩),W3,by simp only[execOp,Act.eval,d1,d2];go_simp,Frm.refl _ _,hIW,⟨b,3,rfl,hb,by decide,hc⟩⟩
    ·exact .inl ⟨.pointer (some ⟨b,4,none⟩),W3,by simp only[execOp,Act.eval,d1,d2];go_simp,Frm.refl _ _,hIW,⟨b,4,rfl,hb,by decide,hc⟩⟩
    ·exact .inl ⟨.pointer (some ⟨b,5,none⟩),W3,by simp only[execOp,Act.eval,d1,d2];go_simp,Frm.refl _ _,hIW,⟨b,5,rfl,hb,by decide,hc⟩⟩
   ·obtain⟨b,j,d1,hb,hj,hc⟩:AdrP V.heap.size [0,1,2,3,4,2048] (a'.tmps.getD 13 undef) W3:=dep 3 (by omega) (by kernel_rfl)
    have hjj:j=0\/j=1\/j=2\/j=3\/j=4\/j=5:=by simp only[List.length_cons,List.length_nil]at hj;omega
    rcases hjj with rfl|rfl|rfl|rfl|rfl|rfl
    ·have y0:W3.cell? ⟨b,0,none⟩=some (.int .i64 (0)):=hc.cell 0 _ rfl
     exact .inl ⟨.int .i64 (0),W3,by simp only[execOp,Act.eval,d1];go_simp,Frm.refl _ _,hIW,⟨_,rfl,by decide⟩⟩
    ·have y0:W3.cell? ⟨b,1,none⟩=some (.int .i64 (1)):=hc.cell 1 _ rfl
     exact .inl ⟨.int .i64 (1),W3,by simp only[execOp,Act.eval,d1];go_simp,Frm.refl _ _,hIW,⟨_,rfl,by decide⟩⟩
    ·have y0:W3.cell? ⟨b,2,none⟩=some (.int .i64 (2)):=hc.cell 2 _ rfl
     exact .inl ⟨.int .i64 (2),W3,by simp only[execOp,Act.eval,d1];go_simp,Frm.refl _ _,hIW,⟨_,rfl,by decide⟩⟩
    ·have y0:W3.cell? ⟨b,3,none⟩=some (.int .i64 (3)):=hc.cell 3 _ rfl
     exact .inl ⟨.int .i64 (3),W3,by simp only[execOp,Act.eval,d1];go_simp,Frm.refl _ _,hIW,⟨_,rfl,by decide⟩⟩
    ·have y0:W3.cell? ⟨b,4,none⟩=some (.int .i64 (4)):=hc.cell 4 _ rfl
     exact .inl ⟨.int .i64 (4),W3,by simp only[execOp,Act.eval,d1];go_simp,Frm.refl _ _,hIW,⟨_,rfl,by decide⟩⟩
    ·have y0:W3.cell? ⟨b,5,none⟩=some (.int .i64 (2048)):=hc.cell 5 _ rfl
     exact .inl ⟨.int .i64 (2048),W3,by simp only[execOp,Act.eval,d1];go_simp,Frm.refl _ _,hIW,⟨_,rfl,by decide⟩⟩
   ·exact .inl ⟨.pointer (some ⟨g,0,none⟩),W3,by simp only[execOp,Act.eval,e0];go_simp,Frm.refl _ _,hIW,rfl⟩
   ·have d1:a'.tmps.getD 15 undef = .pointer (some ⟨g,0,none⟩):=dep 5 (by omega) (by kernel_rfl)
    refine .inr ⟨154,#[.pointer (some ⟨g,0,none⟩),.int .i64 5],by simp only[execOp,Act.eval,d1];go_simp,?_⟩
    refine (ax hIW (k:=5) (by omega)).mono ?_
    rintro e W' ⟨x,rfl,hx1,hx2,hs',hf'⟩
    exact⟨_,rfl,hf',hs',⟨x,rfl,hx1,hx2⟩⟩
   ·obtain⟨x,d1,hx1,hx2⟩:IntP (fun x=>0<=x/\(x<5\/x=0)) (a'.tmps.getD 16 undef) W3:=dep 6 (by omega) (by kernel_rfl)
    exact .inl ⟨.int .i64 (x-1),W3,by simp only[execOp,Act.eval,d1];go_simp;exact IntWalk.i64_in _ (by omega),Frm.refl _ _,hIW,⟨_,rfl,by omega,by omega⟩⟩
   ·obtain⟨x,d1,hx1,hx2⟩:IntP (fun x=>0<=x/\x<=2048) (a'.tmps.getD 14 undef) W3:=dep 4 (by omega) (by kernel_rfl)
    obtain⟨y,d2,hy1,hy2⟩:IntP (fun x=>-1<=x/\x<=3) (a'.tmps.getD 17 undef) W3:=dep 7 (by omega) (by kernel_rfl)
    exact .inl ⟨.agg #[.int .i64 x,.int .i64 y],W3,by (simp only[execOp,Act.eval,d1,d2];simp only[Array.getD_eq_getD_getElem?]at d1 d2;go_simp),Frm.refl _ _,hIW,⟨x,y,rfl,by omega,by omega,by omega,by omega⟩⟩
  intro u W2 hW hIW hg
  obtain⟨b0,g0,_,_⟩:SliP V.heap.size 6 [0,1,2,3,4,2048] (u 0) W2:=hg 0 (by omega)
  have g1:u 1 = .pointer (some ⟨g,0,none⟩):=hg 1 (by omega)
  obtain⟨x2,g2,_⟩:IntP (fun x=>0<=x/\(x<6\/x=0)) (u 2) W2:=hg 2 (by omega)
  obtain⟨b3,j3,g3,_⟩:AdrP V.heap.size [0,1,2,3,4,2048] (u 3) W2:=hg 3 (by omega)
  obtain⟨x4,g4,_⟩:IntP (fun x=>0<=x/\x<=2048) (u 4) W2:=hg 4 (by omega)
  have g5:u 5 = .pointer (some ⟨g,0,none⟩):=hg 5 (by omega)
  obtain⟨x6,g6,_⟩:IntP (fun x=>0<=x/\(x<5\/x=0)) (u 6) W2:=hg 6 (by omega)
  obtain⟨x7,g7,_⟩:IntP (fun x=>-1<=x/\x<=3) (u 7) W2:=hg 7 (by omega)
  obtain⟨cv,co,g8,hc1,hc2,hc3,hc4⟩:(CubP) (u 8) W2:=hg 8 (by omega)
  simp only[List.drop_succ_cons,List.drop_zero,putV,dsC16,g0,g1,g2,g3,g4,g5,g6,g7,g8,Act.put]
  clear g0 g1 g2 g3 g4 g5 g6 g7 g8 hg;have HFZ:=h_ (HF1.out.frm hW);have HSZ:=h_ hIW;clear hW hIW HF1 HS1 HSV
  have z0:=HFZ.out.l0 (by simp)
  have c00:=HFZ.out.c0 0 rfl;have f00:=HFZ.out.f0 0 rfl;have c01:=HFZ.out.c0 1 rfl;have f01:=HFZ.out.f0 1 rfl;have c02:=HFZ.out.c0 2 rfl;have f02:=HFZ.out.f0 2 rfl
  have z1:=HFZ.out.l1 (by simp)
  have c10:=HFZ.out.c1 0 rfl;have f10:=HFZ.out.f1 0 rfl;have c11:=HFZ.out.c1 1 rfl;have f11:=HFZ.out.f1 1 rfl
  go_wp2_with (fail)
  refine bodyPost_ret (v:=.agg #[.int .i64 cv,.int .i64 co]) (by simp[results,Tryz.results185,go_sem,z1,c10,c11,f10,f11]) rfl ?_
  refine⟨cv,co,rfl,⟨by omega,by omega,by omega,by omega⟩,?_,?_⟩
  ·repeat (with_reducible first|exact HSZ.out|refine SomG.set ?_ (by omega) _)
  ·repeat (with_reducible first|exact HFZ.out.f|refine Frm.ownSet ?_ (by omega) _)
 ·have b0:(k0 == 0)=false:=by simp[h0]
  clear h0
  go_wp2_with (fail)
  refine (ax HS1.out (k:=6) (by omega)).mono ?_
  rintro e w2 ⟨k1,rfl,lx2,ux2,hs,hf⟩
  have HS2:=h_ hs;have HF2:=h_ (HF1.out.frm hf);clear hs hf HS1 HF1
  obtain⟨k,rfl⟩:∃k:Nat,k1=k:=⟨k1.toNat,by omega⟩
  have hk5:k<=5:=by omega
  clear lx2 ux2
  have z0:=HF2.out.l0 (by simp)
  have c00:=HF2.out.c0 0 rfl;have f00:=HF2.out.f0 0 rfl;have c01:=HF2.out.c0 1 rfl;have f01:=HF2.out.f0 1 rfl;have c02:=HF2.out.c0 2 rfl;have f02:=HF2.out.f0 2 rfl
  have z1:=HF2.out.l1 (by simp)
  have c10:=HF2.out.c1 0 rfl;have f10:=HF2.out.f1 0 rfl;have c11:=HF2.out.c1 1 rfl;have f11:=HF2.out.f1 1 rfl
  go_wp2_with (fail)
  go_loop [5,6] (fun v5 v6=>∃(k:Nat) (v:Int),v6 = .int .i64 k/\v5 = .int .i64 v/\Dbl5 k v) (fun _ v6=>(intOf v6).toNat)
  case atStart=>exact⟨k,1,rfl,rfl,by unfold Dbl5;omega⟩
  case round=>
   obtain⟨k,v,rfl,rfl,hd⟩:=hrel
   by_cases hgo:0<k/\2*v<=m
   ·obtain⟨hk0,hvm⟩:=hgo
    have hki:(0:Int)<(k:Int):=by omega
    have hd':Hid (Dbl5 (k-1) (2*v)):=by unfold Hid Dbl5 at *;omega
    have hb:v<=32/\1<=v/\k<=5:=by unfold Dbl5 at hd;omega
    clear hd
    go_wp2_with (fail)
    go_round
    case rel=>exact⟨k-1,2*v,by go_num,rfl,hd'.out⟩
    case measure=>(simp[intOf])<;>omega
   focus
    have hb:v<=32/\1<=v/\k<=5:=by unfold Dbl5 at hd;omega
    clear hd
    by_cases hk0:0<k
    focus
     have hki:(0:Int)<(k:Int):=by omega
     have hvm:¬2*v<=m:=fun h=>hgo ⟨hk0,h⟩
     refine ?za
    rotate_left
    focus
     have hki:¬(0:Int)<(k:Int):=by omega
     refine ?zb
   rotate_left 2
   case za|zb=>
    clear hgo
    by_cases h1:v=1
    ·have b1:(v == 1)=true:=by simp[h1]
     have HFZ:=HF2;have HSZ:=HS2;clear h1
     go_wp2_with (fail)
     refine bodyPost_ret (v:=.agg #[.int .i64 1,.int .i64 0]) (by simp[results,Tryz.results185,go_sem,z1,c10,c11,f10,f11]) rfl ?_
     refine⟨1,0,rfl,⟨by omega,by omega,by omega,by omega⟩,?_,?_⟩
     ·repeat (with_reducible first|exact HSZ.out|refine SomG.set ?_ (by omega) _)
     ·repeat (with_reducible first|exact HFZ.out.f|refine Frm.ownSet ?_ (by omega) _)
    ·have b1:(v == 1)=false:=by simp[h1]
     clear h1
     go_wp2_with (fail)
     refine (ax HS2.out (k:=2) (by omega)).mono ?_
     rintro e w3 ⟨k2,rfl,lx3,ux3,hs,hf⟩
     clear z0 c00 f00 c01 f01 c02 f02 z1 c10 f10 c11 f11;have HSZ:=h_ hs;have HFZ:=h_ (HF2.out.frm hf);clear hs hf HS2 HF2
     have z0:=HFZ.out.l0 (by simp)
     have c00:=HFZ.out.c0 0 rfl;have f00:=HFZ.out.f0 0 rfl;have c01:=HFZ.out.c0 1 rfl;have f01:=HFZ.out.f0 1 rfl;have c02:=HFZ.out.c0 2 rfl;have f02:=HFZ.out.f0 2 rfl
     have z1:=HFZ.out.l1 (by simp)
     have c10:=HFZ.out.c1 0 rfl;have f10:=HFZ.out.f1 0 rfl;have c11:=HFZ.out.c1 1 rfl;have f11:=HFZ.out.f1 1 rfl
     go_wp2_with (fail)
     refine bodyPost_ret (v:=.agg #[.int .i64 v,.int .i64 (1+k2)]) (by simp[results,Tryz.results185,go_sem,z1,c10,c11,f10,f11]) rfl ?_
     refine⟨v,(1+k2),rfl,⟨by omega,by omega,by omega,by omega⟩,?_,?_⟩
     ·repeat (with_reducible first|exact HSZ.out|refine SomG.set ?_ (by omega) _)
     ·repeat (with_reducible first|exact HFZ.out.f|refine Frm.ownSet ?_ (by omega) _)
end Go.Proofs.YtkaiilmgemaljaaGreat

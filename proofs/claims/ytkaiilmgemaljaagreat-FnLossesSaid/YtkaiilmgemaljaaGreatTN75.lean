/- Part of one proof. There are no conditions. -/
import Derived.Test.YtkaiilmgemaljaaGreatTN71
import Derived.Test.YtkaiilmgemaljaaGreatTN53
import Derived.Test.YtkaiilmgemaljaaGreatTL6
set_option maxHeartbeats 0
set_option linter.unusedVariables false
set_option linter.unusedSimpArgs false
set_option maxRecDepth 100000
namespace Go.Proofs.YtkaiilmgemaljaaGreat
open Go.RowKit Ps Ra Ex
def SQO (W:World) (base:Nat) (v:Value) (xs:List Int):Prop:=∃A c,v = .slice A xs.length c/\SQ (fun k=>k<base) W A xs.length xs/\xs.length<=c
theorem SQO.below {W W':World} {base:Nat} {v:Value} {xs:List Int} (h:SQO W base v xs) (hb:Below W.heap.size W W'):SQO W' base v xs:=let ⟨A,c,h1,h2,h3⟩:=h;⟨A,c,h1,h2.below hb,h3⟩
def RetIq (w:World) (r:List Int×Int) (e:Ending) (w':World):Prop:=∃v base,e = .returned (.tuple #[v,.int .i64 r.2])/\w.heap.size<=base/\SQO w' base v r.1/\Below w.heap.size w w'
theorem RetIq.no {w w':World} {r:List Int×Int} {k:Int} (hr:r=([],k)) (hb:Below w.heap.size w w'):RetIq w r (.returned (.tuple #[.slice none 0 0,.int .i64 k])) w':=by
 subst hr;exact⟨_,w.heap.size,rfl,Nat.le_refl _,⟨none,0,rfl,⟨⟨rfl,fun h=>absurd h (by simp)⟩,fun h=>absurd h (by simp)⟩,Nat.le_refl _⟩,hb⟩
theorem RetIq.yes {w w':World} {r:List Int×Int} {xs:List Int} {A:Option Addr} {n c base:Nat} (hr:r=(xs,0)) (h0:w.heap.size<=base) (ho:SQ (fun k=>k<base) w' A n xs) (hc:n<=c) (hb:Below w.heap.size w w'):RetIq w r (.returned (.tuple #[.slice A n c,.int .i64 0])) w':=by
 subst hr;have hn:xs.length=n:=ho.1.1;subst hn
 exact⟨_,base,rfl,h0,⟨A,c,rfl,ho,hc⟩,hb⟩
theorem eX (p c h s ra rb:Int) (A B:Option Addr) (n m ca cb:Nat) (own other:List Int) (w:World) (hA:SL w A n own) (hB:SL w B m other) (hca:n<=ca) (hcb:m<=cb):
  Calls Tryz.prog 24 #[.agg #[.int .i64 p,.int .i64 c,.int .i64 h,.int .i64 s],.slice A n ca,.slice B m cb,.agg #[.int .i64 ra,.int .i64 rb]] w (RetIq w (bstR p c h s ra rb own other)):=by
 have HF1:Hid (Fr w ((w.alloc (.cells #[.int .i64 p,.int .i64 c,.int .i64 h,.int .i64 s] 25)).alloc (.cells #[.int .i64 ra,.int .i64 rb] 39)) [[.int .i64 p,.int .i64 c,.int .i64 h,.int .i64 s],[.int .i64 ra,.int .i64 rb]]):=((Fr.start w).allocT (by simp) _ _).allocT (by simp) _ _
 have HA1:=h_ (hA.below HF1.out.b);have HB1:=h_ (hB.below HF1.out.b);have HAW:=h_ hA;have HBW:=h_ hB;have CT:=h_ (l12Code_yes p c h s ra rb A B n m ca cb own other true _ HA1.out HB1.out);clear hA hB
 by_cases hct:codeK p c h s ra rb own other true=0
 ·obtain⟨ht,hro,hsum⟩:=eG hct
  obtain⟨hv,hp1,hp2,hN⟩:=de ht;have hvv:=aw hv;obtain⟨a,b,rfl,rfl,ha1,ha2,hb1,hb2⟩:=du hro
  obtain⟨c',rfl⟩:∃c':Nat,c=c':=⟨c.toNat,by omega⟩
  obtain⟨h',rfl⟩:∃h':Nat,h=h':=⟨h.toNat,by omega⟩
  obtain⟨s',rfl⟩:∃s':Nat,s=s':=⟨s.toNat,by omega⟩
  have hh1:0<h':=by omega
  have hh24:h'<=24:=by omega
  have HP1:=h_ (ba hp1);have HP2:=h_ (ba hp2)
  have ho0:other.sum≠0:=fun h0=>hsum (.inr ⟨rfl,.inr h0⟩)
  simp only[Int.toNat_natCast]at hN
  have hnh:h'=n:=by rw[<- HAW.out.1];exact (HP1.out.1).symm
  have hmh:h'=m:=by rw[<- HBW.out.1];exact (HP2.out.1).symm
  subst hnh;subst hmh;have HPP:=HP1.out
  have CNEW:=h_ fun (W:World)=>l12New_any p c' h' s' W hv hN
  have CRES:=h_ fun (S:Nat->Prop) (W:World) (hA:SL W A h' own) (hS:∀x,W.heap.size<=x->¬S x)=>dj S p c' h' s' A h' ca a b own W hA hca ⟨HPP.1,HPP.2.1,by have:=HPP.2.2;omega⟩ hh24 hh1 hb1 hb2 (by omega) hS
  have CBES:=h_ fun (t:RT2) (W:World) (A':Option Addr) (n cl:Nat) (hc':t.c=c') (hh':t.h=h') (hs':t.s=s') (hok:t.Ok) (hI:TabI t W) (hpl:PL t.S W A' n (resultsL own a b)) (hB:SQ t.S W B h' other)=>l12best_at (cl:=cl) hc' hh' hs' hok hI HPP HP2.out ho0 hb1 hb2 (by omega) hpl hB hcb
  have HNE:=h_ (cn (by omega:1<=a) hb1 HPP)
  have hlen:(resultsL own a b).length<=1000000:=Nat.le_trans (bN (by omega) hb1 HPP hh24) (by omega)
  have HW0:Hid (bstR p c' h' s' a b own other=match bestS (sq s') (sec s' other) (resultsL own a b) with|none=>([],3)|some (_,at',_)=>((resultsL own a b).getD at' [],0)):=by
   unfold Hid bstR;rw[if_pos hct]
   simp only[Int.toNat_natCast]
   rfl
  rw[hct]at CT;clear hct ht hro hsum hv hp1 hp2 hN hvv HPP ha1 ha2 hb1 hb2 ho0;generalize resultsL own a b=L at *
  go_enter Tryz.func24,Tryz.ntmps24
  go_wp2_with (fail)
  refine CT.out.mono ?_
  rintro e w1 ⟨rfl,hbb⟩
  have HF2:=h_ (HF1.out.below hbb);have HA2:=h_ (HA1.out.below hbb);have HB2:=h_ (HB1.out.below hbb);clear CT hbb HF1 HA1 HB1;obtain⟨z0,c00,f00,c01,f01,c02,f02,c03,f03,z1,c10,f10,c11,f11⟩:=HF2.out.xf1
  go_wp2_with (fail)
  refine (CRES.out (fun k=>k<w1.heap.size) _ HA2.out (fun k hk h=>by omega)).mono ?_
  rintro e w2 ⟨bl,ol,nl,cl,rfl,hpl,hcl,hb3⟩
  have HF3:=h_ (HF2.out.below hb3);have HB3:=h_ (HB2.out.below hb3);have hnl:=hpl.len;have HNL:=h_ hnl
  have hnl6:nl<=1000000:=by rw[<- hnl];exact hlen
  have HPL:Hid (PL (fun k=>k<w1.heap.size\/w2.heap.size<=k) w2 (some ⟨bl,ol,none⟩) nl L):=hpl.set fun k hk=>hk
  have hz1:w.heap.size<=w1.heap.size:=HF2.out.b.size;have hz2:w1.heap.size<=w2.heap.size:=hb3.size;clear hb3 hpl hnl HF2 HA2 HB2 CRES;clear z0 c00 f00 c01 f01 c02 f02 c03 f03 z1 c10 f10 c11 f11;obtain⟨z0,c00,f00,c01,f01,c02,f02,c03,f03,z1,c10,f10,c11,f11⟩:=HF3.out.xf1
  go_wp2_with (fail)
  refine (CNEW.out _).mono ?_
  rintro e w3 ⟨t,_,hc',hh',hs',rfl,hok,hI,hlow,hbt,hb2⟩
  have HLOW:Hid (∀k,t.S k->w2.heap.size<=k):=hlow;have HF4:=h_ (HF3.out.below hb2);have HB4:=h_ ((SQ.of_sl HB3.out hlow).below hb2);have HPL4:=h_ (HPL.out.below hb2)
  have HPT:Hid (PL t.S w3 (some ⟨bl,ol,none⟩) nl L):=HPL4.out.set fun k hk=>.inl (.inr (hlow k hk))
  have CB:=h_ (CBES.out t w3 _ _ cl hc' hh' hs' hok hI HPT.out HB4.out);clear hc' hh' hs' hok hI hlow hbt hb2 HB3 HF3 CNEW CBES HPL HPT HB4;clear z0 c00 f00 c01 f01 c02 f02 c03 f03 z1 c10 f10 c11 f11
  go_wp2_with (fail)
  refine CB.out.mono ?_
  rintro e w4 ⟨hI5,hf5,hres⟩
  have HBW4:=h_ (frm_lo HF4.out.b hf5 (fun k hk=>by have:=HLOW.out k hk;omega))
  have HPL5:=h_ (HPL4.out.frm (hf5.mono fun k hk=>.inr (HLOW.out k hk)))
  have hz4:w.heap.size<=w4.heap.size:=HBW4.out.size;clear hI5 hf5 CB HPL4 HF4 HLOW
  rcases hbs:bestS (sq s') (sec s' other) L with _|⟨cnt,at',⟨xn,xd⟩⟩
  ·have HWR:Hid (bstR p c' h' s' a b own other=([],3)):=by unfold Hid;rw[HW0.out,hbs]
   rw[hbs]at hres
   replace hres:=(show e = .returned (.tuple #[.int .i64 0,.agg #[.int .i64 0,.int .i64 0],.bool false]) from hres)
   subst hres;clear hbs HW0
   go_wp2_with (fail)
   go_ret2
   exact RetIq.no HWR.out (alw HBW4.out (by omega))
  ·have HWR:Hid (bstR p c' h' s' a b own other=(L.getD at' [],0)):=by unfold Hid;rw[HW0.out,hbs]
   have hat:at'<nl:=by
    have h:=(cT hbs).2;rw[<- HNL.out]
    rcases h with h|h
    ·exact h
    ·exact absurd h HNE.out
   rw[hbs]at hres
   replace hres:=(show e = .returned (.tuple #[.int .i64 (at':Int),.agg #[.int .i64 xn,.int .i64 (xd:Int)],.bool true]) from hres)
   subst hres;have HPL6:=h_ (HPL5.out.alloc (.cells #[.int .i64 xn,.int .i64 (xd:Int)] 35));obtain⟨_,_,Bq,mq,cq,hA3,hzl,hcq,hsq,hmq⟩:=HPL6.out.at hat;injection hA3 with hA3;injection hA3 with hA4 hA5;subst hA4 hA5
   have HSQ:Hid (SQ (fun k=>k<w1.heap.size) (w4.alloc (.cells #[.int .i64 xn,.int .i64 (xd:Int)] 35)) Bq mq (L.getD at' [])):=hsq.set fun k hk=>.inl (.inl hk)
   have hai:(at':Int)<(nl:Int):=by omega
   clear hbs HW0 hsq HPL5 HPL6
   go_wp2_with (fail)
   go_ret2
   exact RetIq.yes HWR.out hz1 HSQ.out hmq (alw HBW4.out (by omega))
 ·have HWR:Hid (bstR p c h s ra rb own other=([],codeK p c h s ra rb own other true)):=by
   unfold Hid bstR;rw[if_neg hct]
  generalize codeK p c h s ra rb own other true=k at *
  have b0:(k != 0)=true:=by simp[hct]
  clear hct
  go_enter Tryz.func24,Tryz.ntmps24
  go_wp2_with (fail)
  refine CT.out.mono ?_
  rintro e w1 ⟨rfl,hb1⟩
  have HF2:=h_ (HF1.out.below hb1);clear CT hb1 HF1 HA1 HB1;obtain⟨z0,c00,f00,c01,f01,c02,f02,c03,f03,z1,c10,f10,c11,f11⟩:=HF2.out.xf1
  go_wp2_with (fail)
  go_ret2
  exact RetIq.no HWR.out HF2.out.b
end Go.Proofs.YtkaiilmgemaljaaGreat

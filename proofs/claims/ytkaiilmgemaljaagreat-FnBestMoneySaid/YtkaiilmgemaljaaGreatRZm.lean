/- Part of one proof. There are no conditions. -/
import Derived.Test.YtkaiilmgemaljaaGreatRN14
import Derived.Test.YtkaiilmgemaljaaGreatRZb
import Derived.Test.YtkaiilmgemaljaaGreatRZc
set_option maxHeartbeats 0
set_option linter.unusedVariables false
set_option linter.unusedSimpArgs false
set_option maxRecDepth 10000
/- Contracts of one minus a number, the program's and the reference's. There are no conditions. -/
namespace Go.Proofs.YtkaiilmgemaljaaGreat
open Go.RowKit Ps Ra Ex
end Go.Proofs.YtkaiilmgemaljaaGreat
/- Contracts of what is a bear-off position, the program's and the reference's. There are no conditions. -/
namespace Go.Proofs.YtkaiilmgemaljaaGreat
open Go.RowKit Ps
def PosI (h c:Int) (xs:List Int):Prop:=(xs.length:Int)=h/\(∀x∈xs,0<=x)/\xs.sum<=c
instance (h c:Int) (xs:List Int):Decidable (PosI h c xs):=by unfold PosI;infer_instance
def posB (h c:Int) (xs:List Int):Bool:=decide (PosI h c xs)
theorem kh {h c:Int} {xs:List Int} (H:posB h c xs=true):PosI h c xs:=of_decide_eq_true H
theorem bA {h c:Nat} {xs:List Int} (H:posB h c xs=true):PosP h c xs:=by
 obtain⟨h1,h2,h3⟩:=kh H
 exact⟨by omega,h2,h3⟩
theorem posB_len {h c:Int} {xs:List Int} (H:(xs.length:Int)≠h):posB h c xs=false:=decide_eq_false fun h=>H h.1
theorem posB_neg {h c:Int} {xs:List Int} {x:Int} (hx:x∈xs) (h0:x<0):posB h c xs=false:=decide_eq_false fun H=>by have:=H.2.1 x hx;omega
theorem posB_far {h c:Int} {xs:List Int} (k:Nat) (hs:c<(xs.take k).sum):posB h c xs=false:=decide_eq_false fun H=>by
 have:=dT xs k H.2.1;have:=H.2.2
 omega
theorem eC {h c:Int} {xs:List Int} (hl:(xs.length:Int)=h) (h0:∀x∈xs,0<=x) (hs:xs.sum<=c):posB h c xs=true:=decide_eq_true ⟨hl,h0,hs⟩
theorem ge {xs:List Int} {k:Nat} {x:Int} (hk:k<xs.length) (h:x∈xs.take (k+1)):x∈xs.take k\/x=xs.getD k 0:=by
 rw[List.take_succ_eq_append_getElem hk]at h
 rcases List.mem_append.1 h with h|h
 ·exact .inl h
 ·right;simpa[List.getD,hk]using h
theorem gm (p c h s:Int) (A:Option Addr) (n cp:Nat) (xs:List Int) (w:World) (hx:SL w A n xs) (hc1:0<=c) (hc2:c<=15) (hh:h<=24):
  Calls Tryz.prog 93 #[.agg #[.int .i64 p,.int .i64 c,.int .i64 h,.int .i64 s],.slice A n cp] w fun e w'=>e = .returned (.bool (posB h c xs))/\Below w.heap.size w w':=by
 have HB:Hid (Below w.heap.size w (w.alloc (.cells #[.int .i64 p,.int .i64 c,.int .i64 h,.int .i64 s] 25))):=(Below.refl _ _).alloc (Nat.le_refl _) _;have hl:xs.length=n:=hx.1;have HX:=h_ (hx.alloc (.cells #[.int .i64 p,.int .i64 c,.int .i64 h,.int .i64 s] 25));have HL:=h_ hl;clear hx hl
 by_cases hn:(n:Int)=h
 ·have hn24:n<=24:=by omega
  have e1:((n:Int) != h)=false:=by simp[hn]
  have HN:=h_ hn;clear hn
  go_enter Tryz.func93,Tryz.ntmps93
  go_wp2
  go_loop [5,17] (fun l i=>∃k:Nat,k<=n/\i = .int .i64 k/\l = .int .i64 (c-(xs.take k).sum)/\Hid (∀x∈xs.take k,0<=x)/\Hid ((xs.take k).sum<=c)/\0<=(xs.take k).sum) (fun _ i=>n-(intOf i).toNat)
  case atStart=>exact⟨0,by omega,rfl,by simp,by unfold Hid;simp,by unfold Hid;simpa using hc1,by simp⟩
  case round=>
   obtain⟨k,hk,rfl,rfl,h0,hs,hs0⟩:=hrel;have hs':=hs.out
   by_cases hlt:k<n
   ·have hki:(k:Int)<(n:Int):=by omega
    obtain⟨b,off,rfl,_,hc⟩:=HX.out.2 (by omega)
    have hcell:=hc k hlt
    have e:=h_ (bR xs k (by rw[HL.out];exact hlt))
    have hm:=h_ (bB xs k (by rw[HL.out];exact hlt))
    have ht:Hid (∀y,y∈xs.take (k+1)->y∈xs.take k\/y=xs.getD k 0):=fun y hy=>ge (by rw[HL.out];exact hlt) hy
    clear hc;generalize xs.getD k 0=x at *;have E:=h_ e.out;clear e;generalize (xs.take k).sum=u at *
    by_cases hx0:x<0
    ·have HR:Hid (posB h c xs=false):=posB_neg hm.out hx0
     have b1:decide (x<0)=true:=decide_eq_true hx0
     have b2:inB x 0 (c-u)=false:=bF (by omega)
     go_wp2_with (fail)
     go_ret
     exact⟨by rw[HR.out];rfl,HB.out⟩
    ·have b1:decide (x<0)=false:=decide_eq_false hx0
     by_cases hx1:c-u<x
     ·have HR:Hid (posB h c xs=false):=posB_far (k+1) (by rw[E.out];omega)
      have b3:decide (c-u<x)=true:=decide_eq_true hx1
      have b2:inB x 0 (c-u)=false:=bF (by omega)
      go_wp2_with (fail)
      go_ret
      exact⟨by rw[HR.out];rfl,HB.out⟩
     ·have b3:decide (c-u<x)=false:=decide_eq_false hx1
      have b2:inB x 0 (c-u)=true:=aS (by omega)
      go_wp2_with (fail)
      go_round
      case rel=>exact⟨k+1,by omega,by go_num,by rw[E.out];go_num,fun y hy=>by
        rcases ht.out y hy with h'|h'
        ·exact h0.out y h'
        ·omega,by unfold Hid;rw[E.out];omega,by rw[E.out];omega⟩
      case measure=>simp[intOf];omega
   ·have hkn:k=n:=by omega
    subst hkn
    have HR:Hid (posB h c xs=true):=by
     have e:xs.take k=xs:=List.take_of_length_le (by rw[HL.out];exact Nat.le_refl _)
     rw[e]at h0 hs
     exact eC (by rw[HL.out];exact HN.out) h0.out hs.out
    go_wp2_with (fail)
    go_ret
    exact⟨by rw[HR.out];rfl,HB.out⟩
 ·have e1:((n:Int) != h)=true:=by simp[hn]
  have HR:Hid (posB h c xs=false):=posB_len (by rw[HL.out];exact hn)
  go_enter Tryz.func93,Tryz.ntmps93
  go_wp2
  go_ret
  exact⟨by rw[HR.out];rfl,HB.out⟩
theorem ic (p c h s:Int) (A:Option Addr) (n cp:Nat) (xs:List Int) (w:World) (hx:SL w A n xs) (hc1:0<=c) (hc2:c<=15) (hh:h<=24):
  Calls Tryz.prog 115 #[.agg #[.int .i64 p,.int .i64 c,.int .i64 h,.int .i64 s],.slice A n cp] w fun e w'=>e = .returned (.bool (posB h c xs))/\Below w.heap.size w w':=by
 have HB:Hid (Below w.heap.size w (w.alloc (.cells #[.int .i64 p,.int .i64 c,.int .i64 h,.int .i64 s] 25))):=(Below.refl _ _).alloc (Nat.le_refl _) _;have hl:xs.length=n:=hx.1;have HX:=h_ (hx.alloc (.cells #[.int .i64 p,.int .i64 c,.int .i64 h,.int .i64 s] 25));have HL:=h_ hl;clear hx hl
 by_cases hn:(n:Int)=h
 ·have hn24:n<=24:=by omega
  have e1:((n:Int) != h)=false:=by simp[hn]
  have HN:=h_ hn;clear hn
  go_enter Tryz.func115,Tryz.ntmps115
  go_wp2
  go_loop [5,6] (fun l i=>∃k:Nat,k<=n/\i = .int .i64 k/\l = .int .i64 (c-(xs.take k).sum)/\Hid (∀x∈xs.take k,0<=x)/\Hid ((xs.take k).sum<=c)/\0<=(xs.take k).sum) (fun _ i=>n-(intOf i).toNat)
  case atStart=>exact⟨0,by omega,rfl,by simp,by unfold Hid;simp,by unfold Hid;simpa using hc1,by simp⟩
  case round=>
   obtain⟨k,hk,rfl,rfl,h0,hs,hs0⟩:=hrel;have hs':=hs.out
   by_cases hlt:k<n
   focus
    have hki:(k:Int)<(n:Int):=by omega
    obtain⟨b,off,rfl,_,hc⟩:=HX.out.2 (by omega)
    have hcell:=hc k hlt
    have e:=h_ (bR xs k (by rw[HL.out];exact hlt))
    have hm:=h_ (bB xs k (by rw[HL.out];exact hlt))
    have ht:Hid (∀y,y∈xs.take (k+1)->y∈xs.take k\/y=xs.getD k 0):=fun y hy=>ge (by rw[HL.out];exact hlt) hy
    clear hc;generalize xs.getD k 0=x at *;have E:=h_ e.out;clear e;generalize (xs.take k).sum=u at *
    by_cases hx0:x<0
    focus
     have HR:Hid (posB h c xs=false):=posB_neg hm.out hx0
     have b1:decide (x<0)=true:=decide_eq_true hx0
     refine ?za
    rotate_left
    focus
     have b1:decide (x<0)=false:=decide_eq_false hx0
     by_cases hx1:c-u<x
     focus
      have HR:Hid (posB h c xs=false):=posB_far (k+1) (by rw[E.out];omega)
      have b3:decide (c-u<x)=true:=decide_eq_true hx1
      refine ?zb
     rotate_left
     ·have b3:decide (c-u<x)=false:=decide_eq_false hx1
      have b2:inB x 0 (c-u)=true:=aS (by omega)
      go_wp2_with ((go_at_call 134;refine (l01In_any _ _ _ _).mono ?_;rintro e w' ⟨rfl,rfl⟩))
      go_round
      case rel=>exact⟨k+1,by omega,by go_num,by rw[E.out];go_num,fun y hy=>by
        rcases ht.out y hy with h'|h'
        ·exact h0.out y h'
        ·omega,by unfold Hid;rw[E.out];omega,by rw[E.out];omega⟩
      case measure=>simp[intOf];omega
   rotate_left 2
   ·have hkn:k=n:=by omega
    subst hkn
    have HR:Hid (posB h c xs=true):=by
     have e:xs.take k=xs:=List.take_of_length_le (by rw[HL.out];exact Nat.le_refl _)
     rw[e]at h0 hs
     exact eC (by rw[HL.out];exact HN.out) h0.out hs.out
    go_wp2_with (fail)
    go_ret
    exact⟨by rw[HR.out];rfl,HB.out⟩
   case za|zb=>
    have b2:inB x 0 (c-u)=false:=bF (by omega)
    go_wp2_with ((go_at_call 134;refine (l01In_any _ _ _ _).mono ?_;rintro e w' ⟨rfl,rfl⟩))
    go_ret
    exact⟨by rw[HR.out];rfl,HB.out⟩
 ·have e1:((n:Int) != h)=true:=by simp[hn]
  have HR:Hid (posB h c xs=false):=posB_len (by rw[HL.out];exact hn)
  go_enter Tryz.func115,Tryz.ntmps115
  go_wp2
  go_ret
  exact⟨by rw[HR.out];rfl,HB.out⟩
end Go.Proofs.YtkaiilmgemaljaaGreat
/- Contracts of the number of a bear-off position, the program's and the reference's. There are no conditions. -/
namespace Go.Proofs.YtkaiilmgemaljaaGreat
open Go.RowKit Ps
theorem iS {p:List Int} {i left:Nat} (hi:i<p.length):numT (p.take (i+1)).reverse left=sumW i left (p.getD i 0).toNat+numT (p.take i).reverse (left-(p.getD i 0).toNat):=by
 rw[List.take_succ_eq_append_getElem hi,List.reverse_append]
 have e:p[i]=p.getD i 0:=by simp[List.getD,hi]
 rw[e]
 show numT (p.getD i 0::(p.take i).reverse) left=_
 rw[cE]
 simp[Nat.min_eq_left (Nat.le_of_lt hi)]
theorem iH {p:List Int} {i:Nat} (hi:i<p.length):(p.take (i+1)).sum=(p.take i).sum+p.getD i 0:=bR p i hi
theorem cy (p s:Int) (c h:Nat) (A:Option Addr) (n cp:Nat) (xs:List Int) (w:World) (hx:SL w A n xs) (hp:PosP h c xs) (hc:c<=15) (hh:h<=24)  :
  Calls Tryz.prog 169 #[.agg #[.int .i64 p,.int .i64 c,.int .i64 h,.int .i64 s],.slice A n cp] w fun e w'=>e = .returned (.int .i64 (num c xs))/\Below w.heap.size w w':=by
 have HB:Hid (Below w.heap.size w (w.alloc (.cells #[.int .i64 p,.int .i64 c,.int .i64 h,.int .i64 s] 25))):=(Below.refl _ _).alloc (Nat.le_refl _) _;have hl:xs.length=n:=hx.1
 have hn24:n<=24:=by have:=hp.1;omega
 have hbd:num c xs<wys h c:=dj hp
 have hwb:=wys_bd (k:=h) (m:=c) (by omega) hc
 have HW:Hid (∀i m,i<=h->m<=c->wys i m<=wys h c):=fun i m hi hm=>eM hi hm
 have HP:=h_ hp;have HX:=h_ (hx.alloc (.cells #[.int .i64 p,.int .i64 c,.int .i64 h,.int .i64 s] 25));have HL:=h_ hl
 have hnh:=h_ (show n=h by rw[<- hl];exact hp.1)
 have HN:Hid (numT (xs.take n).reverse c=num c xs):=by unfold Hid num;rw[List.take_of_length_le (by omega)]
 have HS:Hid ((xs.take n).sum<=c):=by unfold Hid;rw[List.take_of_length_le (by omega)];exact hp.2.2
 have HPN:Hid (∀k,0<=(xs.take k).sum):=fun k=>aW xs k hp.2.1
 clear hx hl hp
 go_enter Tryz.func169,Tryz.ntmps169
 go_wp2
 go_loop [5,6,7] (fun v l i=>∃(k nn lf:Nat),k<=n/\lf<=c/\i = .int .i64 ((k:Int)-1)/\l = .int .i64 lf/\v = .int .i64 nn/\Hid (nn+numT (xs.take k).reverse lf=num c xs)/\Hid ((xs.take k).sum<=lf)) (fun _ _ i=>(intOf i+1).toNat)
 case atStart=>exact⟨n,0,c,by omega,by omega,rfl,rfl,rfl,by unfold Hid;rw[HN.out];omega,HS.out⟩
 case round=>
  obtain⟨k,nn,lf,hk,hlf,hi,rfl,rfl,hnum,hs⟩:=hrel
  rcases k with _|j
  ·rw[show ((0:Nat):Int)-1 = -1 from rfl]at hi
   subst hi
   have HR:Hid (nn=num c xs):=by have:=hnum.out;unfold Hid;simpa[numT]using this
   go_wp2_with (fail)
   go_ret
   exact⟨by rw[<- HR.out];rfl,HB.out⟩
  ·rw[show ((j+1:Nat):Int)-1=(j:Int) by omega]at hi
   subst hi
   obtain⟨b,off,rfl,_,hcells⟩:=HX.out.2 (by omega)
   have hcell:=hcells j (by omega)
   have e1:=iS (p:=xs) (i:=j) (left:=lf) (by rw[HL.out];omega)
   have e2:=iH (p:=xs) (i:=j) (by rw[HL.out];omega)
   have e3:=HPN.out j
   have e4:=HP.out.2.1 _ (bB xs j (by rw[HL.out];omega))
   obtain⟨x,hx⟩:∃x:Nat,xs.getD j 0=(x:Int):=⟨(xs.getD j 0).toNat,by omega⟩
   rw[hx]at hcell e1 e2 e4
   simp only[Int.toNat_natCast]at e1
   have e5:=hs.out;rw[e2]at e5
   have hxl:x<=lf:=by omega
   have hnum':Hid (nn+sumW j lf x+numT (xs.take j).reverse (lf-x)=num c xs):=by have:=hnum.out;rw[e1]at this;unfold Hid;omega
   have hs':Hid ((xs.take j).sum<=((lf-x:Nat):Int)):=by unfold Hid;omega
   have hb0:nn+sumW j lf x<wys h c:=by have:=hnum'.out;omega
   have HM:Hid (∀d,d<=x->sumW j lf d<=sumW j lf x):=fun d hd=>fR hd
   clear hcells e1 e2 e3 e4 e5 hx hnum hs
   go_wp2_with (fail)
   go_loop [5,22] (fun v dv=>∃d:Nat,d<=x/\dv = .int .i64 d/\v = .int .i64 ((nn+sumW j lf d:Nat):Int)) (fun _ dv=>x-(intOf dv).toNat)
   case atStart=>exact⟨0,by omega,rfl,by simp[sumW]⟩
   case round=>
    obtain⟨d,hd,rfl,rfl⟩:=hrel
    by_cases hdx:d<x
    ·have hdi:(d:Int)<(x:Int):=by omega
     have hsub:((lf:Int)-(d:Int))=((lf-d:Nat):Int):=by omega
     have hm1:=HM.out (d+1) (by omega)
     have hm2:=HM.out d (by omega)
     have E:=h_ (cD j lf d)
     have hm3:sumW j lf d+wys j (lf-d)<=sumW j lf x:=by rw[<- E.out];exact hm1
     have CL:=h_ (fun (W:World)=>listsUpTo_any j (lf-d) W (by omega) (by omega))
     clear hm1
     go_wp2_with ((go_at_call 216;(try rw[hsub]);refine (CL.out _).mono ?_;rintro e w' ⟨rfl,rfl⟩))
     go_round
     case rel=>exact⟨d+1,by omega,by go_num,by rw[E.out];go_num⟩
     case measure=>simp[intOf];omega
    ·have hdx2:d=x:=by omega
     subst hdx2
     go_wp2_with (fail)
     go_round
     case rel=>exact⟨j,nn+sumW j lf d,lf-d,by omega,by omega,by go_num,by go_num,rfl,hnum'.out,hs'.out⟩
     case measure=>(simp[intOf])<;>omega
theorem gj (p s:Int) (c h:Nat) (A:Option Addr) (n cp:Nat) (xs:List Int) (w:World) (hx:SL w A n xs) (hp:PosP h c xs) (hc:c<=15) (hh:h<=24) (hw6:wys h c<=1000000):
  Calls Tryz.prog 192 #[.agg #[.int .i64 p,.int .i64 c,.int .i64 h,.int .i64 s],.slice A n cp] w fun e w'=>e = .returned (.int .i64 (num c xs))/\Below w.heap.size w w':=by
 have HB:Hid (Below w.heap.size w (w.alloc (.cells #[.int .i64 p,.int .i64 c,.int .i64 h,.int .i64 s] 25))):=(Below.refl _ _).alloc (Nat.le_refl _) _;have hl:xs.length=n:=hx.1
 have hn24:n<=24:=by have:=hp.1;omega
 have hbd:num c xs<wys h c:=dj hp
 have hwb:=wys_bd (k:=h) (m:=c) (by omega) hc
 have HW:Hid (∀i m,i<=h->m<=c->wys i m<=wys h c):=fun i m hi hm=>eM hi hm
 have HP:=h_ hp;have HX:=h_ (hx.alloc (.cells #[.int .i64 p,.int .i64 c,.int .i64 h,.int .i64 s] 25));have HL:=h_ hl
 have hnh:=h_ (show n=h by rw[<- hl];exact hp.1)
 have HN:Hid (numT (xs.take n).reverse c=num c xs):=by unfold Hid num;rw[List.take_of_length_le (by omega)]
 have HS:Hid ((xs.take n).sum<=c):=by unfold Hid;rw[List.take_of_length_le (by omega)];exact hp.2.2
 have HPN:Hid (∀k,0<=(xs.take k).sum):=fun k=>aW xs k hp.2.1
 clear hx hl hp
 go_enter Tryz.func192,Tryz.ntmps192
 go_wp2
 go_loop [5,6,7] (fun v l i=>∃(k nn lf:Nat),k<=n/\lf<=c/\i = .int .i64 ((k:Int)-1)/\l = .int .i64 lf/\v = .int .i64 nn/\Hid (nn+numT (xs.take k).reverse lf=num c xs)/\Hid ((xs.take k).sum<=lf)) (fun _ _ i=>(intOf i+1).toNat)
 case atStart=>exact⟨n,0,c,by omega,by omega,rfl,rfl,rfl,by unfold Hid;rw[HN.out];omega,HS.out⟩
 case round=>
  obtain⟨k,nn,lf,hk,hlf,hi,rfl,rfl,hnum,hs⟩:=hrel
  rcases k with _|j
  ·rw[show ((0:Nat):Int)-1 = -1 from rfl]at hi
   subst hi
   have HR:Hid (nn=num c xs):=by have:=hnum.out;unfold Hid;simpa[numT]using this
   go_wp2_with (fail)
   go_ret
   exact⟨by rw[<- HR.out];rfl,HB.out⟩
  ·rw[show ((j+1:Nat):Int)-1=(j:Int) by omega]at hi
   subst hi
   obtain⟨b,off,rfl,_,hcells⟩:=HX.out.2 (by omega)
   have hcell:=hcells j (by omega)
   have e1:=iS (p:=xs) (i:=j) (left:=lf) (by rw[HL.out];omega)
   have e2:=iH (p:=xs) (i:=j) (by rw[HL.out];omega)
   have e3:=HPN.out j
   have e4:=HP.out.2.1 _ (bB xs j (by rw[HL.out];omega))
   obtain⟨x,hx⟩:∃x:Nat,xs.getD j 0=(x:Int):=⟨(xs.getD j 0).toNat,by omega⟩
   rw[hx]at hcell e1 e2 e4
   simp only[Int.toNat_natCast]at e1
   have e5:=hs.out;rw[e2]at e5
   have hxl:x<=lf:=by omega
   have hnum':Hid (nn+sumW j lf x+numT (xs.take j).reverse (lf-x)=num c xs):=by have:=hnum.out;rw[e1]at this;unfold Hid;omega
   have hs':Hid ((xs.take j).sum<=((lf-x:Nat):Int)):=by unfold Hid;omega
   have hb0:nn+sumW j lf x<wys h c:=by have:=hnum'.out;omega
   have HM:Hid (∀d,d<=x->sumW j lf d<=sumW j lf x):=fun d hd=>fR hd
   clear hcells e1 e2 e3 e4 e5 hx hnum hs
   go_wp2_with (fail)
   go_loop [5,8] (fun v dv=>∃d:Nat,d<=x/\dv = .int .i64 d/\v = .int .i64 ((nn+sumW j lf d:Nat):Int)) (fun _ dv=>x-(intOf dv).toNat)
   case atStart=>exact⟨0,by omega,rfl,by simp[sumW]⟩
   case round=>
    obtain⟨d,hd,rfl,rfl⟩:=hrel
    by_cases hdx:d<x
    ·have hdi:(d:Int)<(x:Int):=by omega
     have hsub:((lf:Int)-(d:Int))=((lf-d:Nat):Int):=by omega
     have hm1:=HM.out (d+1) (by omega)
     have hm2:=HM.out d (by omega)
     have E:=h_ (cD j lf d)
     have hm3:sumW j lf d+wys j (lf-d)<=sumW j lf x:=by rw[<- E.out];exact hm1
     have CL:=h_ (fun (W:World)=>(show Calls Tryz.prog 167 #[.int .i64 ((lf-d:Nat):Int),.int .i64 j] W (fun e w'=>e = .returned (.int .i64 (wys j (lf-d)))/\W=w') from by have h1:=l10Ways_any j (lf-d) W (by omega) (by omega);rw[cO (Nat.le_trans (HW.out _ _ (by have:=hnh.out;omega) (by omega)) hw6)]at h1;exact h1))
     clear hm1
     go_wp2_with ((go_at_call 167;(try rw[hsub]);refine (CL.out _).mono ?_;rintro e w' ⟨rfl,rfl⟩))
     go_round
     case rel=>exact⟨d+1,by omega,by go_num,by rw[E.out];go_num⟩
     case measure=>simp[intOf];omega
    ·have hdx2:d=x:=by omega
     subst hdx2
     go_wp2_with (fail)
     go_round
     case rel=>exact⟨j,nn+sumW j lf d,lf-d,by omega,by omega,by go_num,by go_num,rfl,hnum'.out,hs'.out⟩
     case measure=>(simp[intOf])<;>omega
end Go.Proofs.YtkaiilmgemaljaaGreat

/- Part of one proof. There are no conditions. -/
import Derived.Test.YtcmeoenkgmghkaaGreatPWays
set_option linter.unusedVariables false
set_option linter.unusedSimpArgs false
set_option maxRecDepth 10000
namespace Go.Proofs.YtcmeoenkgmghkaaGreat.Ps
def Bef(p q:List Int):Prop:=∃i,i<p.length/\p.getD i 0<q.getD i 0/\∀j,i<j->j<p.length->p.getD j 0=q.getD j 0
open Classical in
noncomputable def befB(p q:List Int):Bool:=decide (Bef p q)
theorem fN{p q:List Int}:befB p q=true↔Bef p q:=by unfold befB;exact @decide_eq_true_iff _ (Classical.propDecidable _)
theorem befB_no{p q:List Int}:befB p q=false↔¬Bef p q:=by unfold befB;exact @decide_eq_false_iff_not _ (Classical.propDecidable _)
theorem iR(p:List Int):¬Bef p p:=fun⟨i,_,h,_⟩=>by omega
theorem bef_asymm{p q:List Int}(hl:p.length=q.length)(h:Bef p q):¬Bef q p:=by
 rintro⟨k,hk,k1,k2⟩
 obtain⟨i,hi,h1,h2⟩:=h
 rcases Nat.lt_trichotomy i k with hik|hik|hik
 ·have:=h2 k hik (by omega);omega
 ·subst hik;omega
 ·have:=k2 i hik (by omega);omega
theorem kt{p q r:List Int}(hl:p.length=q.length)(h:Bef p q)(k:Bef q r):Bef p r:=by
 obtain⟨i,hi,h1,h2⟩:=h;obtain⟨j,hj,k1,k2⟩:=k
 rcases Nat.lt_trichotomy i j with hij|hij|hij
 ·exact⟨j,by omega,by rw[h2 j hij (by omega)];exact k1,fun m hm hl'=>by rw[h2 m (by omega) hl',k2 m hm (by omega)]⟩
 ·subst hij;exact⟨i,hi,by omega,fun m hm hl'=>by rw[h2 m hm hl',k2 m hm (by omega)]⟩
 ·exact⟨i,hi,by rw[<-k2 i hij (by omega)];exact h1,fun m hm hl'=>by rw[h2 m hm hl',k2 m (by omega) (by omega)]⟩
theorem mu{p q:List Int}(hl:p.length=q.length)(h:∀i,i<p.length->p.getD i 0=q.getD i 0):p=q:=by
 refine List.ext_getElem hl fun i h1 h2=>?_
 have:=h i h1
 simpa[List.getD,h1,h2]using this
theorem iw{p q:List Int}(hl:p.length=q.length):Bef p q\/p=q\/Bef q p:=by
 have key:∀m,m<=p.length->(∀j,p.length-m<=j->j<p.length->p.getD j 0=q.getD j 0)\/Bef p q\/Bef q p:=by
  intro m
  induction m with
  |zero=>intro _;exact .inl fun j h1 h2=>absurd h2 (by omega)
  |succ m ih=>
   intro hm
   rcases ih (by omega)with h|h|h
   ·rcases Int.lt_trichotomy (p.getD (p.length-(m+1)) 0) (q.getD (p.length-(m+1)) 0) with h1|h1|h1
    ·exact .inr (.inl ⟨_,by omega,h1,fun j hj hj2=>h j (by omega) hj2⟩)
    ·refine .inl fun j hj hj2=>?_
     by_cases e:j=p.length-(m+1)
     ·rw[e];exact h1
     ·exact h j (by omega) hj2
    ·exact .inr (.inr ⟨_,by omega,h1,fun j hj hj2=>(h j (by omega) (by omega)).symm⟩)
   ·exact .inr (.inl h)
   ·exact .inr (.inr h)
 rcases key p.length (Nat.le_refl _)with h|h|h
 ·exact .inr (.inl (mu hl fun i hi=>h i (by omega) hi))
 ·exact .inl h
 ·exact .inr (.inr h)
def Lens(n:Nat)(l:List (List Int)):Prop:=∀p∈l,p.length=n
def Srt(l:List (List Int)):Prop:=l.Pairwise Bef
theorem srt_uniq{n:Nat}:∀{a b:List (List Int)},Lens n a->Lens n b->Srt a->Srt b->(∀x,x∈a↔x∈b)->a=b
 | [],[],_,_,_,_,_=>rfl
 | [],y::_,_,_,_,_,h=>absurd ((h y).2 (by simp)) (by simp)
 |x::_,[],_,_,_,_,h=>absurd ((h x).1 (by simp)) (by simp)
 |x::a,y::b,la,lb,sa,sb,h=>by
   have sa':=List.pairwise_cons.1 sa;have sb':=List.pairwise_cons.1 sb
   have hx:=la x (by simp)
   have hy:=lb y (by simp)
   have e:x=y:=by
     rcases List.mem_cons.1 ((h x).1 (by simp))with h1 |h1
     ·exact h1
     · rcases List.mem_cons.1 ((h y).2 (by simp)) with h2 | h2
       ·exact h2.symm
       ·exact absurd (sa'.1 y h2) (bef_asymm (by rw [hx,hy]) (sb'.1 x h1))
   subst e
   have:a=b:=srt_uniq (fun p hp=>la p (by simp [hp])) (fun p hp=>lb p (by simp [hp])) sa'.2 sb'.2 fun z=>by
     constructor
     · intro hz
       rcases List.mem_cons.1 ((h z).1 (by simp [hz]))with h1 |h1
       ·subst h1;exact absurd (sa'.1 z hz) (iR z)
       ·exact h1
     · intro hz
       rcases List.mem_cons.1 ((h z).2 (by simp [hz]))with h1 |h1
       ·subst h1;exact absurd (sb'.1 z hz) (iR z)
       ·exact h1
   rw [this]
noncomputable def putL:List (List Int)->List Int->List (List Int)
 | [],p=>[p]
 |q::r,p=>if befB q p then q::putL r p else if befB p q then p::q::r else q::r
theorem dU(q:List Int)(r:List (List Int))(p:List Int):putL (q::r) p=if befB q p then q::putL r p else if befB p q then p::q::r else q::r:=rfl
theorem putL_at:∀(l:List (List Int)) (p:List Int) (k:Nat),k<=l.length->(∀j,j<k->befB (l.getD j []) p=true)->(k<l.length->befB (l.getD k []) p=false)->
  putL l p=if k<l.length/\befB p (l.getD k [])=false then l else l.take k++p::l.drop k
 | [],p,k,hk,_,_=>by
   have:k=0:=by simpa using hk
   subst this
   simp [putL]
 |q::r,p,0,_,_,h2=>by
   have:=h2 (by simp)
   simp only [List.getD_cons_zero]at this
   rw [dU,this]
   cases hb:befB p q<;>simp [hb]
 |q::r,p,k+1,hk,h1,h2=>by
   have h0:=h1 0 (by omega)
   simp only [List.getD_cons_zero]at h0
   have ih:=putL_at r p k (by simpa using hk) (fun j hj=>by have:=h1 (j+1) (by omega);simpa using this) (fun h=>by have:=h2 (by simpa using h);simpa using this)
   rw [dU,h0,if_pos rfl,ih]
   by_cases hc:k< r.length/\befB p (r.getD k [])=false
   ·rw [if_pos hc,if_pos (by simpa using hc)]
   ·rw [if_neg hc,if_neg (by simpa using hc)];rfl
theorem lens_putL{n:Nat}:∀{l:List (List Int)} {p:List Int},Lens n l->p.length=n->Lens n (putL l p)
 | [],p,_,hp=>fun x hx=>by simp[putL]at hx;rw[hx];exact hp
 |q::r,p,hl,hp=>by
   have hr:Lens n r:=fun x hx=>hl x (by simp [hx])
   have hq:=hl q (by simp)
   intro x hx
   rw [dU]at hx
   split at hx
   · rcases List.mem_cons.1 hx with h | h
     ·rw [h];exact hq
     ·exact lens_putL hr hp x h
   · split at hx
     · rcases List.mem_cons.1 hx with h | h
       ·rw [h];exact hp
       ·exact hl x h
     ·exact hl x hx
theorem mb{n:Nat}:∀{l:List (List Int)} {p:List Int},Lens n l->p.length=n->∀x,x∈putL l p↔x=p\/x∈l
 | [],p,_,_,x=>by simp[putL]
 |q::r,p,hl,hp,x=>by
   have hr:Lens n r:=fun x hx=>hl x (by simp [hx])
   have hq:=hl q (by simp)
   rw [dU]
   split
   · rw [List.mem_cons, mb hr hp x, List.mem_cons]
     constructor
     ·rintro(h |h |h)<;>simp [h]
     ·rintro(h |h |h)<;>simp [h]
   · rename_i h1
     split
     ·simp
     · rename_i h2
       have e:p=q:=by
         rcases iw (p:=p) (q:=q) (by rw [hp,hq])with h |h |h
         ·exact absurd (fN.2 h) h2
         ·exact h
         ·exact absurd (fN.2 h) h1
       subst e
       simp
theorem srt_putL{n:Nat}:∀{l:List (List Int)} {p:List Int},Lens n l->p.length=n->Srt l->Srt (putL l p)
 | [],p,_,_,_=>List.pairwise_singleton _ _
 |q::r,p,hl,hp,hs=>by
   have hr:Lens n r:=fun x hx=>hl x (by simp [hx])
   have hq:=hl q (by simp)
   have hs':=List.pairwise_cons.1 hs;rw [dU]
   split
   · rename_i h1
     refine List.pairwise_cons.2 ⟨fun x hx=>?_,srt_putL hr hp hs'.2⟩
     rcases(mb hr hp x).1 hx with h |h
     ·rw [h];exact fN.1 h1
     ·exact hs'.1 x h
   · split
     · rename_i h2
       refine List.pairwise_cons.2 ⟨fun x hx=>?_,hs⟩
       rcases List.mem_cons.1 hx with h |h
       ·rw [h];exact fN.1 h2
       ·exact kt (by rw [hp,hq]) (fN.1 h2) (hs'.1 x h)
     ·exact hs
noncomputable def bG(acc l:List (List Int)):List (List Int):=l.foldl putL acc
theorem cG(acc:List (List Int)):bG acc []=acc:=rfl
theorem cF(acc l:List (List Int))(p:List Int):bG acc (l++[p])=putL (bG acc l) p:=by unfold bG;rw[List.foldl_append];rfl
theorem dh{n:Nat}:∀{l acc:List (List Int)},Lens n acc->Lens n l->Srt acc->Lens n (bG acc l)/\Srt (bG acc l)/\∀x,x∈bG acc l↔x∈acc\/x∈l
 | [],acc,ha,_,hs=>⟨ha,hs,fun x=>by simp[cG]⟩
 |p::r,acc,ha,hl,hs=>by
   have hp:=hl p (by simp)
   obtain⟨h1,h2,h3⟩:=dh (l:=r) (acc:=putL acc p) (lens_putL ha hp) (fun x hx=>hl x (by simp [hx])) (srt_putL ha hp hs)
   refine⟨h1,h2,fun x=>?_⟩
   have:bG acc (p::r)=bG (putL acc p) r:=rfl;rw [this,h3 x,mb ha hp x,List.mem_cons]
   constructor
   ·rintro((h |h) |h)<;>simp [h]
   ·rintro(h |h |h)<;>simp [h]
noncomputable def sortU(l:List (List Int)):List (List Int):=bG [] l
theorem aP{n:Nat}{l:List (List Int)}(hl:Lens n l):Lens n (sortU l)/\Srt (sortU l)/\∀x,x∈sortU l↔x∈l:=by
 obtain⟨h1,h2,h3⟩:=dh (l:=l) (acc:=[]) (fun x hx=>by simp at hx) hl List.Pairwise.nil
 exact⟨h1,h2,fun x=>(h3 x).trans (by simp)⟩
theorem lN{n:Nat}{l k:List (List Int)}(hl:Lens n l)(hk:Lens n k)(hs:Srt k)(h:∀x,x∈k↔x∈l):sortU l=k:=by
 obtain⟨h1,h2,h3⟩:=aP hl
 exact srt_uniq h1 hk h2 hs fun x=>(h3 x).trans (h x).symm
theorem gd{n:Nat}{l k:List (List Int)}(hl:Lens n l)(hk:Lens n k)(h:∀x,x∈k↔x∈l):sortU l=sortU k:=by
 obtain⟨h1,h2,h3⟩:=aP hk
 exact lN hl h1 h2 fun x=>(h3 x).trans (h x)
theorem iY{n:Nat}{a b:List (List Int)}(ha:Lens n a)(hb:Lens n b):bG (sortU a) (sortU b)=sortU (a++b):=by
 obtain⟨a1,a2,a3⟩:=aP ha;obtain⟨b1,-,b3⟩:=aP hb;obtain⟨h1,h2,h3⟩:=dh a1 b1 a2
 refine(lN (n:=n) (fun x hx=>?_) h1 h2 fun x=>?_).symm
 ·rcases List.mem_append.1 hx with h|h
  ·exact ha x h
  ·exact hb x h
 ·rw[h3 x,a3 x,b3 x,List.mem_append]
def wsum(f:Nat->Int):Nat->List Int->Int
 |_,[]=>0
 |k,x::r=>f k*x+wsum f (k+1) r
theorem gA(f:Nat->Int):∀(p:List Int) (k i:Nat) (x:Int),i<p.length->wsum f k (p.set i x)=wsum f k p+f (k+i)*(x-p.getD i 0)
 | [],_,_,_,h=>by simp at h
 |y::r,k,0,x,_=>by
   simp only [List.set_cons_zero,wsum,List.getD_cons_zero,Nat.add_zero,Int.mul_sub];omega
 |y::r,k,i+1,x,h=>by
   have ih:=gA f r (k+1) i x (by simpa using h)
   simp only [List.set_cons_succ,wsum,List.getD_cons_succ,ih]
   rw [show k+1+i=k+(i+1) by omega];omega
theorem gB:∀(p:List Int) (k:Nat),wsum (fun _=>1) k p=p.sum
 | [],_=>rfl
 |x::r,k=>by simp only[wsum,gB r (k+1),List.sum_cons];omega
theorem fX(f:Nat->Int)(hf:∀i,0<=f i):∀(p:List Int) (k:Nat),(∀x∈p,0<=x)->0<=wsum f k p
 | [],_,_=>Int.le_refl _
 |x::r,k,h=>by
   have h1:=Int.mul_nonneg (hf k) (h x (by simp))
   have h2:=fX f hf r (k+1) fun y hy=>h y (by simp [hy])
   simp only [wsum];omega
def pips(p:List Int):Int:=wsum (fun i=>(i:Int)+1) 0 p
theorem aN{p:List Int}(h:∀x∈p,0<=x):0<=pips p:=fX _ (fun i=>by omega) p 0 h
def need(d:Nat)(p:List Int):Int:=wsum (fun i=>(((i+d)/d:Nat):Int)) 0 p
def aC(p:List Int)(i d:Nat):List Int:=if d<=i then(p.set i (p.getD i 0-1)).set (i-d) (p.getD (i-d) 0+1)else p.set i (p.getD i 0-1)
def canP(p:List Int)(i d:Nat):Prop:=p.getD i 0≠0/\(d<=i+1\/(p.drop (i+1)).sum=0)
instance (p:List Int) (i d:Nat):Decidable (canP p i d):=by unfold canP;infer_instance
def aM(p:List Int)(d:Nat):Nat->List (List Int)
 | 0=>[]
 |k+1=>aM p d k++if canP p k d then [aC p k d]else []
def au(p:List Int)(d:Nat):List (List Int):=aM p d p.length
theorem kV{p:List Int}{d:Nat}:∀{k:Nat} {q:List Int},q∈aM p d k↔∃i,i<k/\canP p i d/\q=aC p i d
 | 0,q=>by simp[aM]
 |k+1,q=>by
   rw [aM,List.mem_append,kV]
   constructor
   · rintro (⟨i, h1, h2, h3⟩ | h)
     ·exact⟨i,by omega,h2,h3⟩
     · split at h
       ·rename_i hc;exact⟨k,by omega,hc,by simpa using h⟩
       ·simp at h
   · rintro ⟨i, h1, h2, h3⟩
     by_cases e:i=k
     ·subst e;right;rw [if_pos h2];simp [h3]
     ·exact .inl ⟨i,by omega,h2,h3⟩
theorem bK{p:List Int}{d:Nat}{q:List Int}:q∈au p d↔∃i,i<p.length/\canP p i d/\q=aC p i d:=kV
theorem getD_set_ne{p:List Int}{i j:Nat}{x:Int}(h:i≠j):(p.set i x).getD j 0=p.getD j 0:=by simp[List.getD,List.getElem?_set,h]
theorem gL(p:List Int)(i d:Nat):(aC p i d).length=p.length:=by unfold aC;split<;>simp
theorem f8(f:Nat->Int){p:List Int}{i d:Nat}(hd:1<=d)(hi:i<p.length):wsum f 0 (aC p i d)=wsum f 0 p-f i+(if d<=i then f (i-d)else 0):=by
 unfold aC
 split
 ·rename_i h
  rw[gA f _ 0 (i-d) _ (by simp;omega),gA f _ 0 i _ hi,getD_set_ne (by omega)]
  simp only[Nat.zero_add]
  have e1:p.getD i 0-1-p.getD i 0= -1:=by omega
  have e2:p.getD (i-d) 0+1-p.getD (i-d) 0=1:=by omega
  rw[e1,e2];omega
 ·rw[gA f _ 0 i _ hi]
  simp only[Nat.zero_add]
  have e1:p.getD i 0-1-p.getD i 0= -1:=by omega
  rw[e1];omega
theorem cN{p:List Int}{i:Nat}{x:Int}(h:∀y∈p,0<=y)(hx:0<=x):∀y∈p.set i x,0<=y:=by
 intro y hy
 rcases List.mem_or_eq_of_mem_set hy with h1|h1
 ·exact h y h1
 ·rw[h1];exact hx
theorem dq{p:List Int}(h:∀y∈p,0<=y)(i:Nat):0<=p.getD i 0:=by
 by_cases hi:i<p.length
 ·have:p.getD i 0=p[i]:=by simp[List.getD,hi]
  rw[this];exact h _ (List.getElem_mem hi)
 ·have:p.getD i 0=0:=by simp[List.getD,List.getElem?_eq_none (by omega:p.length<=i)]
  omega
theorem lI{p:List Int}{i d:Nat}(h:∀y∈p,0<=y)(hc:p.getD i 0≠0):∀y∈aC p i d,0<=y:=by
 have h1:=dq h i;unfold aC
 split
 ·exact cN (cN h (by omega)) (by have:=dq h (i-d);omega)
 ·exact cN h (by omega)
theorem fD{p:List Int}{i d:Nat}(hd:1<=d)(hi:i<p.length):(aC p i d).sum=p.sum-1+(if d<=i then 1 else 0):=by
 have:=f8 (fun _=>1) hd hi
 rwa [gB,gB]at this
theorem stepTo_pips{p:List Int}{i d:Nat}(hd:1<=d)(hi:i<p.length):pips (aC p i d)<pips p:=by
 have:=f8 (fun i=>(i:Int)+1) hd hi
 unfold pips;rw[this]
 split<;>omega
theorem stepTo_need{p:List Int}{i d:Nat}(hd:1<=d)(hi:i<p.length):need d (aC p i d)=need d p-1:=by
 have:=f8 (fun i=>(((i+d)/d:Nat):Int)) hd hi
 unfold need;rw[this]
 split
 ·rename_i h
  have e:(i-d+d)/d=i/d:=by rw[Nat.sub_add_cancel h]
  have e2:(i+d)/d=i/d+1:=Nat.add_div_right i hd;rw[e,e2];generalize i/d=q
  omega
 ·rename_i h
  have e:(i+d)/d=1:=by rw[Nat.add_div_right _ hd,Nat.div_eq_of_lt (by omega)]
  rw[e];omega
theorem cD{h c:Nat}{p q:List Int}{d:Nat}(hd:1<=d)(hp:PosP h c p)(hq:q∈au p d):PosP h c q/\pips q<pips p/\need d q=need d p-1/\p.sum-1<=q.sum/\q.sum<=p.sum:=by
 obtain⟨i,hi,hc,rfl⟩:=bK.1 hq;have hs:=fD (p:=p) hd hi;have h2:=hp.2.2
 refine⟨⟨by rw[gL];exact hp.1,lI hp.2.1 hc.1,?_⟩,stepTo_pips hd hi,stepTo_need hd hi,?_,?_⟩<;>(rw[hs];split<;>omega)
theorem fS:∀{p:List Int},(∀x∈p,0<=x)->0<=p.sum
 | [],_=>by simp
 |x::r,h=>by have:=h x (by simp);have:=fS (p:=r) fun y hy=>h y (by simp[hy]);simp only[List.sum_cons];omega
theorem bW:∀{p:List Int},(∀x∈p,0<=x)->p.sum=0->∀i,p.getD i 0=0
 | [],_,_,i=>by simp[List.getD]
 |x::r,h,hs,i=>by
   have hx:=h x (by simp)
   have hr:=fS (p:=r) fun y hy=>h y (by simp [hy])
   simp only [List.sum_cons]at hs
   cases i with
   |zero=>simp;omega
   |succ i=>simp only [List.getD_cons_succ];exact bW (fun y hy=>h y (by simp [hy])) (by omega) i
theorem im:∀{p:List Int},(∀i,i<p.length->p.getD i 0=0)->p.sum=0
 | [],_=>rfl
 |x::r,h=>by
   have h0:=h 0 (by simp)
   have:=im (p:=r) fun i hi=>by have:=h (i+1) (by simpa using hi);simpa using this
   simp only [List.getD_cons_zero]at h0
   simp only [List.sum_cons];omega
theorem kM:∀{p:List Int},(∀x∈p,0<=x)->p.sum≠0->∃i,i<p.length/\p.getD i 0≠0/\(p.drop (i+1)).sum=0
 | [],_,h=>by simp at h
 |x::r,h,hs=>by
   by_cases hr:r.sum=0
   ·exact⟨0,by simp,by simp only [List.getD_cons_zero];simp only [List.sum_cons]at hs;omega,by simpa using hr⟩
   · obtain ⟨i, h1, h2, h3⟩ := kM (fun y hy => h y (by simp [hy])) hr
     exact⟨i+1,by simpa using h1,by simpa using h2,by simpa using h3⟩
theorem dN{p:List Int}{d:Nat}(h:∀x∈p,0<=x)(hs:p.sum≠0):au p d≠[]:=by
 obtain⟨i,h1,h2,h3⟩:=kM h hs;have:aC p i d∈au p d:=bK.2 ⟨i,h1,⟨h2,.inr h3⟩,rfl⟩
 intro e;rw[e]at this;simp at this
theorem kO{p:List Int}{d:Nat}(h:∀x∈p,0<=x)(hs:p.sum=0):au p d=[]:=by
 rw[List.eq_nil_iff_forall_not_mem]
 intro q hq
 obtain⟨i,-,hc,_⟩:=bK.1 hq
 exact hc.1 (bW h hs i)
def reach:List Nat->List Int->List (List Int)
 | [],p=>[p]
 |d::ds,p=>if p.sum=0 then [p]else(au p d).flatMap (reach ds)
theorem dS(p:List Int):reach [] p=[p]:=rfl
theorem bI(d:Nat)(ds:List Nat)(p:List Int):reach (d::ds) p=if p.sum=0 then [p]else(au p d).flatMap (reach ds):=rfl
theorem bC{h c:Nat}:∀{ds:List Nat} {p:List Int},(∀d∈ds,1<=d)->PosP h c p->∀q∈reach ds p,PosP h c q/\pips q<=pips p/\(ds≠[]->p.sum≠0->pips q<pips p)
 | [],p,_,hp,q,hq=>by
   have:q=p:=by simpa [dS]using hq
   subst this;exact⟨hp,Int.le_refl _,fun h=>absurd rfl h⟩
 |d::ds,p,hd,hp,q,hq=>by
   rw [bI]at hq
   split at hq
   · rename_i h0
     have:q=p:=by simpa using hq
     subst this;exact⟨hp,Int.le_refl _,fun _ h=>absurd h0 h⟩
   · obtain ⟨m, hm, hqm⟩ := List.mem_flatMap.1 hq
     obtain⟨h1,h2,_⟩:=cD (hd d (by simp)) hp hm
     obtain⟨h3,h4,_⟩:=bC (fun d hd'=>hd d (by simp [hd'])) h1 q hqm
     exact⟨h3,by omega,fun _ _=>by omega⟩
theorem bA{h c:Nat}{ds:List Nat}{p:List Int}(hd:∀d∈ds,1<=d)(hp:PosP h c p):Lens h (reach ds p):=fun q hq=>(bC hd hp q hq).1.1
theorem dR{h c:Nat}:∀{ds:List Nat} {p:List Int},(∀d∈ds,1<=d)->PosP h c p->reach ds p≠[]
 | [],p,_,_=>by simp[dS]
 |d::ds,p,hd,hp=>by
   rw [bI]
   split
   ·simp
   · rename_i h0
     obtain⟨m,hm⟩:=List.exists_mem_of_ne_nil _ (dN (d:=d) hp.2.1 h0)
     have:=dR (ds:=ds) (fun d hd'=>hd d (by simp [hd'])) (cD (hd d (by simp)) hp hm).1
     obtain⟨q,hq⟩:=List.exists_mem_of_ne_nil _ this
     exact fun e=>by have:=List.mem_flatMap.2 ⟨m,hm,hq⟩;rw [e]at this;simp at this
def Uni:List Nat->List Int->Nat->Prop
 | [],_,n=>n=0
 |d::ds,p,n=>if p.sum=0 then n=0 else ∃m,n=m+1/\∀q∈au p d,Uni ds q m
theorem lG{ds:List Nat}{p:List Int}(h:p.sum=0):Uni ds p 0:=by
 cases ds with
 |nil=>rfl
 |cons d ds=>unfold Uni;rw[if_pos h]
theorem need_nonneg{p:List Int}(d:Nat)(h:∀x∈p,0<=x):0<=need d p:=fX _ (fun i=>Int.natCast_nonneg _) p 0 h
theorem jB(f:Nat->Int):∀(p:List Int) (k:Nat),(∀x∈p,0<=x)->p.sum=0->wsum f k p=0
 | [],_,_,_=>rfl
 |x::r,k,h,hs=>by
   have hx:=h x (by simp)
   have hr:=fS (p:=r) fun y hy=>h y (by simp [hy])
   simp only [List.sum_cons]at hs
   have hx0:x=0:=by omega
   simp only [wsum,jB f r (k+1) (fun y hy=>h y (by simp [hy])) (by omega),hx0];simp
theorem iB{h c:Nat}{d:Nat}(hd:1<=d):∀(n:Nat) {p:List Int},PosP h c p->∃m:Nat,(m:Int)=min (n:Int) (need d p)/\Uni (List.replicate n d) p m
 | 0,p,hp=>⟨0,by have:=need_nonneg d hp.2.1;omega,rfl⟩
 |n+1,p,hp=>by
   by_cases h0:p.sum=0
   · refine ⟨0, ?_, lG h0⟩
     have:need d p=0:=jB _ p 0 hp.2.1 h0
     omega
   · obtain ⟨q, hq⟩ := List.exists_mem_of_ne_nil _ (dN (d := d) hp.2.1 h0)
     obtain⟨hq1,_,hq3,_⟩:=cD hd hp hq;obtain⟨m,hm,_⟩:=iB hd n hq1
     refine⟨m+1,by omega,?_⟩
     rw [List.replicate_succ];unfold Uni;rw [if_neg h0]
     refine⟨m,rfl,fun r hr=>?_⟩
     obtain⟨hr1,_,hr3,_⟩:=cD hd hp hr;obtain⟨k,hk,hu⟩:=iB hd n hr1
     have:k=m:=by omega
     rw [<-this];exact hu
theorem eB{p:List Int}(h:∀x∈p,0<=x)(hs:p.sum=1):∀{i j:Nat},p.getD i 0≠0->p.getD j 0≠0->i=j:=by
 induction p with
 |nil=>simp at hs
 |cons x r ih=>
  intro i j hi hj
  have hx:=h x (by simp)
  have hr:=fun y hy=>h y (List.mem_cons_of_mem _ hy)
  have hr0:=fS hr
  simp only[List.sum_cons]at hs
  by_cases hx0:x=0
  ·rcases i with _|i
   ·simp[hx0]at hi
   ·rcases j with _|j
    ·simp[hx0]at hj
    ·exact congrArg (·+ 1) (ih hr (by omega) (by simpa using hi) (by simpa using hj))
  ·have h0:=bW hr (by omega)
   rcases i with _|i
   ·rcases j with _|j
    ·rfl
    ·rw[List.getD_cons_succ]at hj;exact absurd (h0 j) hj
   ·rw[List.getD_cons_succ]at hi;exact absurd (h0 i) hi
theorem uni_pair{h c:Nat}{a b:Nat}(ha:1<=a){p:List Int}(hp:PosP h c p)(h0:p.sum≠0):
  Uni [a,b] p (if p.sum=1/\∃q∈au p a,q.sum=0 then 1 else 2):=by
 unfold Uni;rw[if_neg h0];have hs:=fS hp.2.1
 split
 ·rename_i hc
  refine⟨0,rfl,fun q hq=>?_⟩
  obtain⟨q0,hq0,hz⟩:=hc.2
  have:q=q0:=by
   obtain⟨i,hi,hci,rfl⟩:=bK.1 hq;obtain⟨j,hj,hcj,rfl⟩:=bK.1 hq0;rw[eB hp.2.1 hc.1 hci.1 hcj.1]
  rw[this];exact lG hz
 ·rename_i hc
  refine⟨1,rfl,fun q hq=>?_⟩
  obtain⟨_,_,_,h1,_⟩:=cD ha hp hq
  have hq0:q.sum≠0:=by
   intro e
   exact hc ⟨by omega,q,hq,e⟩
  unfold Uni;rw[if_neg hq0]
  exact⟨0,rfl,fun r _=>rfl⟩
def dice(a b:Nat):List (List Nat):=if a=b then [[a,a,a,a]]else [[a,b],[b,a]]
noncomputable def resultsL(p:List Int)(a b:Nat):List (List Int):=sortU ((dice a b).flatMap fun ds=>reach ds p)
theorem fL{a b:Nat}(ha:1<=a)(hb:1<=b):∀ds∈dice a b,(∀d∈ds,1<=d)/\ds≠[]:=by
 intro ds hds
 unfold dice at hds
 split at hds<;>simp at hds
 ·subst hds;simp[ha]
 ·rcases hds with rfl|rfl<;>simp[ha,hb]
theorem flat_lens{h c:Nat}{a b:Nat}{p:List Int}(ha:1<=a)(hb:1<=b)(hp:PosP h c p):Lens h ((dice a b).flatMap fun ds=>reach ds p):=by
 intro q hq
 obtain⟨ds,hds,hq⟩:=List.mem_flatMap.1 hq
 exact bA (fL ha hb ds hds).1 hp q hq
theorem gh{h c:Nat}{a b:Nat}{p:List Int}(ha:1<=a)(hb:1<=b)(hp:PosP h c p)(q:List Int):q∈resultsL p a b↔∃ds∈dice a b,q∈reach ds p:=by
 unfold resultsL;rw[(aP (flat_lens ha hb hp)).2.2 q,List.mem_flatMap]
theorem bf{h c:Nat}{a b:Nat}{p:List Int}(ha:1<=a)(hb:1<=b)(hp:PosP h c p):∀q∈resultsL p a b,PosP h c q/\pips q<=pips p/\(p.sum≠0->pips q<pips p):=by
 intro q hq
 obtain⟨ds,hds,hq⟩:=(gh ha hb hp q).1 hq;obtain⟨h1,h2⟩:=fL ha hb ds hds;obtain⟨r1,r2,r3⟩:=bC h1 hp q hq
 exact⟨r1,r2,r3 h2⟩
theorem iX{h c:Nat}{a b:Nat}{p:List Int}(ha:1<=a)(hb:1<=b)(hp:PosP h c p):resultsL p a b≠[]:=by
 have hex:∃ds,ds∈dice a b:=by
  unfold dice;split
  ·exact⟨_,List.mem_singleton.2 rfl⟩
  ·exact⟨_,List.mem_cons.2 (.inl rfl)⟩
 obtain⟨ds,hds⟩:=hex;obtain⟨q,hq⟩:=List.exists_mem_of_ne_nil _ (dR (fL ha hb ds hds).1 hp);have:=(gh ha hb hp q).2 ⟨ds,hds,hq⟩
 intro e;rw[e]at this;simp at this
def adv(d:Nat)(q:List Int):List (List Int):=if q.sum=0 then [q]else au q d
noncomputable def rowL:List Nat->List (List Int)->List (List Int)
 | [],row=>row
 |d::ds,row=>rowL ds (sortU (row.flatMap (adv d)))
theorem adv_pos{h c:Nat}{d:Nat}{q r:List Int}(hd:1<=d)(hq:PosP h c q)(hr:r∈adv d q):PosP h c r:=by
 unfold adv at hr
 split at hr
 ·have:r=q:=by simpa using hr
  rw[this];exact hq
 ·exact(cD hd hq hr).1
theorem fE(ds:List Nat){p:List Int}(h:p.sum=0):reach ds p=[p]:=by
 cases ds with
 |nil=>rfl
 |cons d ds=>rw[bI,if_pos h]
theorem mem_adv{d:Nat}{ds:List Nat}{p x:List Int}:(∃m∈adv d p,x∈reach ds m)↔x∈reach (d::ds) p:=by
 rw[bI];unfold adv
 split
 ·rename_i h0
  constructor
  ·rintro⟨m,hm,hx⟩
   have:m=p:=by simpa using hm
   rw[this,fE ds h0]at hx;exact hx
  ·intro hx
   exact⟨p,by simp,by rw[fE ds h0];exact hx⟩
 ·exact List.mem_flatMap.symm
theorem gP{h c:Nat}:∀{ds:List Nat} {row:List (List Int)},(∀d∈ds,1<=d)->(∀p∈row,PosP h c p)->(∀x,x∈rowL ds row↔∃p∈row,x∈reach ds p)/\∀x∈rowL ds row,PosP h c x
 | [],row,_,hr=>⟨fun x=>by simp[rowL,dS],fun x hx=>hr x hx⟩
 |d::ds,row,hd,hr=>by
   have hd1:=hd d (by simp)
   have hf:∀x∈row.flatMap (adv d),PosP h c x:=fun x hx=>by
     obtain⟨p,hp,hx⟩:=List.mem_flatMap.1 hx
     exact adv_pos hd1 (hr p hp) hx
   have hs:=aP (n:=h) (l:=row.flatMap (adv d)) fun x hx=>(hf x hx).1
   obtain⟨ih1,ih2⟩:=gP (ds:=ds) (row:=sortU (row.flatMap (adv d))) (fun e he=>hd e (by simp [he])) fun x hx=>hf x ((hs.2.2 x).1 hx)
   refine⟨fun x=>?_,ih2⟩
   show x∈rowL ds (sortU (row.flatMap (adv d)))↔_
   rw [ih1 x]
   constructor
   · rintro ⟨m, hm, hx⟩
     obtain⟨p,hp,hmp⟩:=List.mem_flatMap.1 ((hs.2.2 m).1 hm)
     exact⟨p,hp,mem_adv.1 ⟨m,hmp,hx⟩⟩
   · rintro ⟨p, hp, hx⟩
     obtain⟨m,hm,hx⟩:=mem_adv.2 hx
     exact⟨m,(hs.2.2 m).2 (List.mem_flatMap.2 ⟨p,hp,hm⟩),hx⟩
theorem iW{h c:Nat}{a b:Nat}{p:List Int}(ha:1<=a)(hb:1<=b)(hp:PosP h c p):sortU ((dice a b).flatMap fun ds=>rowL ds [p])=resultsL p a b:=by
 have key:∀ds∈dice a b,(∀x,x∈rowL ds [p]↔x∈reach ds p)/\∀x∈rowL ds [p],PosP h c x:=fun ds hds=>by
  obtain ⟨h1, h2⟩ := gP (row := [p]) (fL ha hb ds hds).1 (fun q hq => by have : q = p := by simpa using hq
                                                                         rw [this];exact hp)
  exact⟨fun x=>(h1 x).trans (by simp),h2⟩
 refine gd (n:=h) (fun x hx=>?_) (flat_lens ha hb hp) fun x=>?_
 ·obtain⟨ds,hds,hx⟩:=List.mem_flatMap.1 hx
  exact((key ds hds).2 x hx).1
 ·rw[List.mem_flatMap,List.mem_flatMap]
  constructor
  ·rintro⟨ds,hds,hx⟩;exact⟨ds,hds,((key ds hds).1 x).2 hx⟩
  ·rintro⟨ds,hds,hx⟩;exact⟨ds,hds,((key ds hds).1 x).1 hx⟩
theorem zero_list{p q:List Int}(hl:p.length=q.length)(hp:∀x∈p,0<=x)(hq:∀x∈q,0<=x)(h1:p.sum=0)(h2:q.sum=0):p=q:=
 mu hl fun i _=>by rw[bW hp h1 i,bW hq h2 i]
theorem stepTo_other{p:List Int}{i d j:Nat}(h1:j≠i)(h2:d<=i->j≠i-d):(aC p i d).getD j 0=p.getD j 0:=by
 unfold aC
 split
 ·rename_i h
  rw[getD_set_ne (fun e=>h2 h e.symm),getD_set_ne (Ne.symm h1)]
 ·rw[getD_set_ne (Ne.symm h1)]
theorem reach_one{h c:Nat}{a b:Nat}{p:List Int}(ha:1<=a)(hb:1<=b)(hp:PosP h c p)(h1:p.sum=1)(hex:∃q∈au p a,q.sum=0):∀x∈reach [b,a] p,x.sum=0:=by
 intro x hx
 obtain⟨q,hq,hz⟩:=hex;obtain⟨i,hi,hci,rfl⟩:=bK.1 hq
 have hai:¬a<=i:=by
  intro h'
  rw[fD ha hi,if_pos h']at hz
  omega
 rw[bI,if_neg (by omega)]at hx
 obtain⟨m,hm,hx⟩:=List.mem_flatMap.1 hx;obtain⟨hm1,_⟩:=cD hb hp hm;rw[bI]at hx
 split at hx
 ·rename_i h0
  have:x=m:=by simpa using hx
  rw[this];exact h0
 ·rename_i h0
  obtain⟨y,hy,hx⟩:=List.mem_flatMap.1 hx
  have:x=y:=by simpa[dS]using hx
  subst this;obtain⟨k,hk,hck,rfl⟩:=bK.1 hm;have hki:k=i:=eB hp.2.1 h1 hck.1 hci.1;subst hki;have hs:=fD (p:=p) hb hk
  have hbk:b<=k:=by
   by_cases h':b<=k
   ·exact h'
   ·rw[if_neg h']at hs;omega
  rw[if_pos hbk]at hs;obtain⟨j,hj,hcj,rfl⟩:=bK.1 hy
  have hjk:j≠k:=by
   intro e
   subst e
   apply hcj.1
   unfold aC
   rw[if_pos hbk,getD_set_ne (by omega)]
   have:p.getD j 0=1:=by
    have h2:p.getD j 0<=p.sum:=by
     have e:=gA (fun _=>1) p 0 j 0 hk
     rw[gB,gB]at e;have:=fS (p:=p.set j 0) (cN hp.2.1 (Int.le_refl _))
     omega
    have:=dq hp.2.1 j;have:=hck.1
    omega
   simp[List.getD,List.getElem?_set,hk]at this ⊢
   omega
  have hjb:j=k-b:=by
   apply Classical.byContradiction
   intro h'
   have e:=stepTo_other (p:=p) (i:=k) (d:=b) (j:=j) hjk (fun _=>h')
   have h3:=hcj.1;rw[e]at h3
   exact hjk (eB hp.2.1 h1 h3 hck.1)
  rw[fD ha hj,if_neg (by omega)]
  omega
theorem reach_two{h c:Nat}{a b:Nat}{p:List Int}(hp:PosP h c p)(h1:p.sum=1)(hex:∃q∈au p a,q.sum=0):∀x∈reach [a,b] p,x.sum=0:=by
 intro x hx
 obtain⟨q,hq,hz⟩:=hex
 rw[bI,if_neg (by omega)]at hx
 obtain⟨m,hm,hx⟩:=List.mem_flatMap.1 hx
 have:m=q:=by
  obtain⟨i,hi,hci,rfl⟩:=bK.1 hq;obtain⟨j,hj,hcj,rfl⟩:=bK.1 hm;rw[eB hp.2.1 h1 hci.1 hcj.1]
 subst this;rw[fE _ hz]at hx
 have:x=m:=by simpa using hx
 rw[this];exact hz
def cntP(a:Nat)(p:List Int):Nat:=if p.sum=0 then 0 else if p.sum=1/\∃q∈au p a,q.sum=0 then 1 else 2
theorem cntP_uni{h c:Nat}{a b:Nat}(ha:1<=a){p:List Int}(hp:PosP h c p):Uni [a,b] p (cntP a p):=by
 unfold cntP
 split
 ·exact lG ‹_›
 ·exact uni_pair (b:=b) ha hp ‹_›
theorem fg{a b:Nat}(h:a≠b):dice a b=[[a,b],[b,a]]:=by unfold dice;rw[if_neg h]
theorem gt(a:Nat):dice a a=[[a,a,a,a]]:=by unfold dice;rw[if_pos rfl]
theorem res_eq{h c:Nat}{a:Nat}{p:List Int}(ha:1<=a)(hp:PosP h c p):sortU (reach [a,a,a,a] p)=resultsL p a a:=by
 unfold resultsL;rw[gt];simp
theorem res_ne{a b:Nat}{p:List Int}(h:a≠b):resultsL p a b=sortU (reach [a,b] p++reach [b,a] p):=by
 unfold resultsL;rw[fg h];simp
theorem res_both{h c:Nat}{a b:Nat}{p:List Int}(ha:1<=a)(hb:1<=b)(hp:PosP h c p)(hne:a≠b):bG (sortU (reach [a,b] p)) (sortU (reach [b,a] p))=resultsL p a b:=by
 rw[res_ne hne]
 exact iY (n:=h) (bA (by simp[ha,hb]) hp) (bA (by simp[ha,hb]) hp)
theorem res_same{h c:Nat}{a b:Nat}{p:List Int}(ha:1<=a)(hb:1<=b)(hp:PosP h c p)(hz:(∀x∈reach [a,b] p,x.sum=0)/\∀x∈reach [b,a] p,x.sum=0)(hne:a≠b):
  sortU (reach [a,b] p)=resultsL p a b/\sortU (reach [b,a] p)=resultsL p a b:=by
 have r1:∀x∈reach [a,b] p,PosP h c x:=fun x hx=>(bC (by simp[ha,hb]) hp x hx).1
 have r2:∀x∈reach [b,a] p,PosP h c x:=fun x hx=>(bC (by simp[ha,hb]) hp x hx).1
 obtain⟨y,hy⟩:=List.exists_mem_of_ne_nil _ (dR (ds:=[a,b]) (by simp[ha,hb]) hp)
 obtain⟨z,hz'⟩:=List.exists_mem_of_ne_nil _ (dR (ds:=[b,a]) (by simp[ha,hb]) hp)
 have e:∀x z,PosP h c x->PosP h c z->x.sum=0->z.sum=0->x=z:=fun x z hx hz s t=>zero_list (by rw[hx.1,hz.1]) hx.2.1 hz.2.1 s t
 rw[res_ne hne]
 have l1:Lens h (reach [a,b] p):=bA (by simp[ha,hb]) hp
 have l2:Lens h (reach [b,a] p):=bA (by simp[ha,hb]) hp
 have l3:Lens h (reach [a,b] p++reach [b,a] p):=fun x hx=>(List.mem_append.1 hx).elim (l1 x) (l2 x)
 constructor
 ·refine gd l1 l3 fun x=>?_
  rw[List.mem_append]
  exact⟨fun h=>h.elim id fun h=>by rw[e x y (r2 x h) (r1 y hy) (hz.2 x h) (hz.1 y hy)];exact hy,fun h=>.inl h⟩
 ·refine gd l2 l3 fun x=>?_
  rw[List.mem_append]
  exact⟨fun h=>h.elim (fun h=>by rw[e x z (r1 x h) (r2 z hz') (hz.1 x h) (hz.2 z hz')];exact hz') id,fun h=>.inr h⟩
theorem cnt_less{a b:Nat}{p:List Int}(hl:cntP a p<cntP b p):p.sum=1/\∃q∈au p a,q.sum=0:=by
 by_cases h0:p.sum=0
 ·unfold cntP at hl;rw[if_pos h0,if_pos h0]at hl;omega
 ·by_cases h1:p.sum=1/\∃q∈au p a,q.sum=0
  ·exact h1
  ·exfalso
   unfold cntP at hl;rw[if_neg h0,if_neg h0,if_neg h1]at hl
   by_cases h2:p.sum=1/\∃q∈au p b,q.sum=0
   ·rw[if_pos h2]at hl;omega
   ·rw[if_neg h2]at hl;omega
theorem res_less{h c:Nat}{a b:Nat}{p:List Int}(ha:1<=a)(hb:1<=b)(hp:PosP h c p)(hne:a≠b)(hl:cntP a p<cntP b p):sortU (reach [b,a] p)=resultsL p a b:=by
 obtain⟨h1,h2⟩:=cnt_less hl
 exact(res_same ha hb hp ⟨reach_two hp h1 h2,reach_one ha hb hp h1 h2⟩ hne).2
theorem res_more{h c:Nat}{a b:Nat}{p:List Int}(ha:1<=a)(hb:1<=b)(hp:PosP h c p)(hne:a≠b)(hl:cntP b p<cntP a p):sortU (reach [a,b] p)=resultsL p a b:=by
 obtain⟨h1,h2⟩:=cnt_less hl
 exact(res_same ha hb hp ⟨reach_one hb ha hp h1 h2,reach_two hp h1 h2⟩ hne).1
noncomputable def walkB(d:Nat)(ds:List Nat)(p:List Int)(i:Nat):List (List Int):=sortU (((au p d).take i).flatMap (reach ds))
theorem kJ(d:Nat)(ds:List Nat)(p:List Int):walkB d ds p 0=[]:=rfl
theorem walkB_step{h c:Nat}{d:Nat}{ds:List Nat}{p:List Int}(hd:∀e∈d::ds,1<=e)(hp:PosP h c p){i:Nat}(hi:i<(au p d).length):
  bG (walkB d ds p i) (sortU (reach ds ((au p d).getD i [])))=walkB d ds p (i+1):=by
 unfold walkB;rw[List.take_succ_eq_append_getElem hi,List.flatMap_append]
 have e:(au p d).getD i []=(au p d)[i]:=by simp[List.getD,hi]
 rw[e]
 have hl:∀q∈au p d,Lens h (reach ds q):=fun q hq=>bA (fun e he=>hd e (by simp[he])) (cD (hd d (by simp)) hp hq).1
 rw[iY (n:=h)]
 ·simp
 ·intro x hx
  obtain⟨q,hq,hx⟩:=List.mem_flatMap.1 hx
  exact hl q (List.mem_of_mem_take hq) x hx
 ·exact hl _ (List.getElem_mem hi)
theorem walkB_end{d:Nat}{ds:List Nat}{p:List Int}(h0:p.sum≠0):walkB d ds p (au p d).length=sortU (reach (d::ds) p):=by
 unfold walkB;rw[List.take_length,bI,if_neg h0]
theorem sortU_one(p:List Int):sortU [p]=[p]:=rfl
def cmpct:List (List Int)->List (List Int):=fun l=>l.foldl (fun acc x=>if acc.getLast? =some x then acc else acc++[x]) []
theorem ej(l:List (List Int))(x:List Int):cmpct (l++[x])=if(cmpct l).getLast? =some x then cmpct l else cmpct l++[x]:=by unfold cmpct;rw[List.foldl_append];rfl
theorem fM:∀(l:List (List Int)),(cmpct l).getLast? =l.getLast?:=by
 intro l
 induction l using bj with
 |nil=>rfl
 |snoc l x _=>
  rw[ej]
  split
  ·rename_i h;rw[h];simp
  ·simp
theorem jU(l:List (List Int)):∀x,x∈cmpct l↔x∈l:=by
 induction l using bj with
 |nil=>intro x;exact Iff.rfl
 |snoc l y ih=>
  intro x
  rw[ej,List.mem_append]
  split
  ·rename_i h
   rw[ih x]
   constructor
   ·exact .inl
   ·rintro (h'|h')
    ·exact h'
    ·have:x=y:=by simpa using h'
     subst this;rw[fM]at h
     exact List.mem_of_getLast? h
  ·rw[List.mem_append,ih x]
theorem cmpct_srt{n:Nat}:∀{l:List (List Int)},Lens n l->l.Pairwise (fun p q=>¬Bef q p)->Srt (cmpct l):=by
 intro l
 induction l using bj with
 |nil=>intro _ _;exact List.Pairwise.nil
 |snoc l x ih=>
  intro hl hs
  obtain⟨h1,h2,h3⟩:=List.pairwise_append.1 hs
  have hr:Lens n l:=fun p hp=>hl p (by simp[hp])
  have ih':=ih hr h1;rw[ej]
  split
  ·exact ih'
  ·rename_i hne
   refine List.pairwise_append.2 ⟨ih',List.pairwise_singleton _ _,fun y hy z hz=>?_⟩
   have hzx:z=x:=by simpa using hz
   subst hzx;have hyl:=(jU l y).1 hy
   have hnb:=h3 y hyl z (by simp)
   rcases iw (p:=y) (q:=z) (by rw[hr y hyl,hl z (by simp)])with h|h|h
   ·exact h
   ·exfalso
    subst h
    apply hne
    rw[fM]
    obtain⟨l',w,hw⟩:∃l' w,l=l'++[w]:=by
     rcases List.eq_nil_or_concat l with e|⟨l',w,e⟩
     ·rw[e]at hyl;simp at hyl
     ·exact⟨l',w,by rw[e,List.concat_eq_append]⟩
    have hwl:w∈l:=by rw[hw];simp
    have hnw:=h3 w hwl y (by simp)
    have:w=y:=by
     rw[hw]at hyl h1
     rcases List.mem_append.1 hyl with hy1|hy1
     ·have:=(List.pairwise_append.1 h1).2.2 y hy1 w (by simp)
      rcases iw (p:=y) (q:=w) (by rw[hr w hwl,hl y (by simp)])with h|h|h
      ·exact absurd h hnw
      ·exact h.symm
      ·exact absurd h this
     ·have:y=w:=by simpa using hy1
      exact this.symm
    rw[hw,this];simp
   ·exact absurd h hnb
theorem cmpct_sortU{n:Nat}{l k:List (List Int)}(hk:Lens n k)(hm:∀x,x∈l↔x∈k)(hs:l.Pairwise (fun p q=>¬Bef q p)):cmpct l=sortU k:=by
 have hl:Lens n l:=fun x hx=>hk x ((hm x).1 hx)
 refine(lN hk (fun x hx=>hl x ((jU l x).1 hx)) (cmpct_srt hl hs) fun x=>?_).symm
 rw[jU,hm x]
end Go.Proofs.YtcmeoenkgmghkaaGreat.Ps
namespace Go.Proofs.YtcmeoenkgmghkaaGreat
open Go.RowKit Ps
def cmpAt(p q:List Int):Nat->Int
 | 0=>0
 |k+1=>if p.getD k 0=q.getD k 0 then cmpAt p q k else p.getD k 0-q.getD k 0
def cmpI(p q:List Int):Int:=cmpAt p q p.length
theorem mD{p q:List Int}{k:Nat}(h:p.getD k 0=q.getD k 0):cmpAt p q (k+1)=cmpAt p q k:=if_pos h
theorem mC{p q:List Int}{k:Nat}(h:¬p.getD k 0=q.getD k 0):cmpAt p q (k+1)=p.getD k 0-q.getD k 0:=if_neg h
theorem cmpAt_lt(p q:List Int):∀k,cmpAt p q k<0↔∃i,i<k/\p.getD i 0<q.getD i 0/\∀j,i<j->j<k->p.getD j 0=q.getD j 0
 | 0=>⟨fun h=>absurd h (by show ¬(0:Int)<0;omega),fun⟨i,h,_⟩=>by omega⟩
 |k+1=>by
   by_cases h:p.getD k 0=q.getD k 0
   · rw [mD h, cmpAt_lt p q k]
     constructor
     · rintro ⟨i, h1, h2, h3⟩
       exact⟨i,by omega,h2,fun j h4 h5=>by
         by_cases e:j=k
         ·rw [e];exact h
         ·exact h3 j h4 (by omega)⟩
     · rintro ⟨i, h1, h2, h3⟩
       refine⟨i,?_,h2,fun j h4 h5=>h3 j h4 (by omega)⟩
       by_cases e:i=k
       ·subst e;omega
       ·omega
   · rw [mC h]
     constructor
     ·intro h1;exact⟨k,by omega,by omega,fun j h2 h3=>by omega⟩
     · rintro ⟨i, h1, h2, h3⟩
       by_cases e:i=k
       ·subst e;omega
       ·exact absurd (h3 k (by omega) (by omega)) h
theorem cmpI_lt{p q:List Int}:cmpI p q<0↔Bef p q:=cmpAt_lt p q p.length
theorem cmpI_bef(p q:List Int):decide (cmpI p q<0)=befB p q:=by
 rcases h:befB p q with _|_
 ·exact decide_eq_false fun h'=>befB_no.1 h (cmpI_lt.1 h')
 ·exact decide_eq_true (cmpI_lt.2 (fN.1 h))
theorem cT{w wr:World}{k:Nat}(h:∃m,wr=w.drewN m):∃m,wr.drewN k=w.drewN m:=by obtain⟨m,rfl⟩:=h;exact⟨m+k,World.drewN_drewN ..⟩
theorem gu(A B:Option Addr)(n ca cb:Nat)(p q:List Int)(w:World)(hx:SL w A n p)(hy:SL w B n q)(hn:n<=2000)(hp:∀x∈p,0<=x/\x<=1000)(hq:∀x∈q,0<=x/\x<=1000):
  Calls Tryz.prog 240 #[.slice A n ca,.slice B n cb] w fun e w'=>e= .returned (.int .i64 (cmpI p q))/\∃m,w'=w.drewN m:=by
 have HX:=h_ hx;have HY:=h_ hy;have HP:=h_ hp;have HQ:=h_ hq;have hl1:=h_ hx.1;have hl2:=h_ hy.1;clear hx hy hp hq
 have hst:Hid (cmpI p q=cmpAt p q n):=by unfold Hid cmpI;rw[hl1.out]
 go_enter Tryz.func240,Tryz.ntmps240
 go_wp2
 go_loopw [5] (fun i wr=>∃k:Nat,k<=n/\i= .int .i64 ((k:Int)-1)/\Hid (cmpI p q=cmpAt p q k)/\Hid (∃m,wr=w.drewN m)) (fun i _=>(intOf i+1).toNat)
 case atStart=>exact⟨n,by omega,rfl,hst.out,0,rfl⟩
 case round=>
  obtain⟨k,hk,hi,hc,hw⟩:=hrel
  rcases k with _|j
  ·rw[show ((0:Nat):Int)-1 = -1 from rfl]at hi
   subst hi;have HR:Hid (cmpI p q=0):=hc.out
   go_wp2_with (fail)
   go_ret
   exact⟨by rw[HR.out];rfl,hw.out⟩
  ·rw[show ((j+1:Nat):Int)-1=(j:Int) by omega]at hi
   subst hi;obtain⟨m,hm⟩:=hw.out
   have HX2:SL wr A n p:=by rw[hm];exact HX.out
   have HY2:SL wr B n q:=by rw[hm];exact HY.out
   obtain⟨b1,o1,rfl,z1,c1⟩:=HX2.2 (by omega)
   obtain⟨b2,o2,rfl,z2,c2⟩:=HY2.2 (by omega)
   have c1:=c1 j (by omega)
   have c2:=c2 j (by omega)
   have d1:=HP.out _ (aX p j (by rw[hl1.out];omega))
   have d2:=HQ.out _ (aX q j (by rw[hl2.out];omega))
   have E1:Hid (p.getD j 0=q.getD j 0->cmpI p q=cmpAt p q j):=fun e=>hc.out.trans (mD e)
   have E2:Hid (¬p.getD j 0=q.getD j 0->cmpI p q=p.getD j 0-q.getD j 0):=fun e=>hc.out.trans (mC e)
   clear HX2 HY2 hc hm;generalize p.getD j 0=x at *;generalize q.getD j 0=y at *
   by_cases hxy:x=y
   ·have b0:(x != y)=false:=by simp[hxy]
    have HR:=h_ (E1.out hxy);clear hxy
    go_wp2_with (fail)
    go_quiet (fail)
    go_wp2_with (fail)
    go_roundw
    case rel=>exact⟨j,by omega,by go_num,HR.out,cT hw.out⟩
    case measure=>(simp[intOf])<;>omega
   ·have b0:(x != y)=true:=by simp[hxy]
    have HR:=h_ (E2.out hxy);clear hxy
    go_wp2_with (fail)
    go_quiet (fail)
    go_wp2_with (fail)
    go_quiet (fail)
    go_wp2_with (fail)
    go_ret
    exact⟨by rw[HR.out];rfl,by first|exact cT (cT hw.out)|(have:=cT (cT hw.out);simpa using this)⟩
theorem ic(A B:Option Addr)(n ca cb:Nat)(p q:List Int)(w:World)(hx:SL w A n p)(hy:SL w B n q)(hn:n<=2000)(hp:∀x∈p,0<=x/\x<=1000)(hq:∀x∈q,0<=x/\x<=1000):
  Calls Tryz.prog 218 #[.slice A n ca,.slice B n cb] w fun e w'=>e= .returned (.bool (befB p q))/\∃m,w'=w.drewN m:=by
 have HX:=h_ hx;have HY:=h_ hy;have HP:=h_ hp;have HQ:=h_ hq;have hl1:=h_ hx.1;have hl2:=h_ hy.1;clear hx hy hp hq
 have hst:Hid (cmpI p q=cmpAt p q n):=by unfold Hid cmpI;rw[hl1.out]
 go_enter Tryz.func218,Tryz.ntmps218
 go_wp2
 go_loopw [5] (fun i wr=>∃k:Nat,k<=n/\i= .int .i64 ((k:Int)-1)/\Hid (cmpI p q=cmpAt p q k)/\Hid (∃m,wr=w.drewN m)) (fun i _=>(intOf i+1).toNat)
 case atStart=>exact⟨n,by omega,rfl,hst.out,0,rfl⟩
 case round=>
  obtain⟨k,hk,hi,hc,hw⟩:=hrel
  rcases k with _|j
  ·rw[show ((0:Nat):Int)-1 = -1 from rfl]at hi
   subst hi;have HR:Hid (cmpI p q=0):=hc.out
   go_wp2_with (fail)
   go_ret
   exact⟨by rw[<-cmpI_bef,HR.out];rfl,hw.out⟩
  ·rw[show ((j+1:Nat):Int)-1=(j:Int) by omega]at hi
   subst hi;obtain⟨m,hm⟩:=hw.out
   have HX2:SL wr A n p:=by rw[hm];exact HX.out
   have HY2:SL wr B n q:=by rw[hm];exact HY.out
   obtain⟨b1,o1,rfl,z1,c1⟩:=HX2.2 (by omega)
   obtain⟨b2,o2,rfl,z2,c2⟩:=HY2.2 (by omega)
   have c1:=c1 j (by omega)
   have c2:=c2 j (by omega)
   have d1:=HP.out _ (aX p j (by rw[hl1.out];omega))
   have d2:=HQ.out _ (aX q j (by rw[hl2.out];omega))
   have E1:Hid (p.getD j 0=q.getD j 0->cmpI p q=cmpAt p q j):=fun e=>hc.out.trans (mD e)
   have E2:Hid (¬p.getD j 0=q.getD j 0->cmpI p q=p.getD j 0-q.getD j 0):=fun e=>hc.out.trans (mC e)
   clear HX2 HY2 hc hm;generalize p.getD j 0=x at *;generalize q.getD j 0=y at *
   by_cases hxy:x=y
   ·have b0:(x != y)=false:=by simp[hxy]
    have HR:=h_ (E1.out hxy);clear hxy
    go_wp2_with (fail)
    go_quiet (fail)
    go_wp2_with (fail)
    go_roundw
    case rel=>exact⟨j,by omega,by go_num,HR.out,cT hw.out⟩
    case measure=>(simp[intOf])<;>omega
   ·have b0:(x != y)=true:=by simp[hxy]
    have HR:=h_ (E2.out hxy);clear hxy
    go_wp2_with (fail)
    go_quiet (fail)
    go_wp2_with (fail)
    go_quiet (fail)
    go_wp2_with (fail)
    go_ret
    exact⟨by rw[<-cmpI_bef,HR.out,show decide (x-y<0)=decide (x<y)from decide_eq_decide.2 (by omega)];rfl,by first|exact cT (cT hw.out)|(have:=cT (cT hw.out);simpa using this)⟩
def topI(p:List Int):Nat->Int
 | 0=>-1
 |k+1=>if 0<p.getD k 0 then(k:Int)else topI p k
theorem cJ(A:Option Addr)(n c:Nat)(p:List Int)(w:World)(hx:SL w A n p)(hn:n<=2000):
  Calls Tryz.prog 157 #[.slice A n c] w fun e w'=>e= .returned (.int .i64 (topI p n))/\w=w':=by
 have HX:=h_ hx;clear hx
 go_enter Tryz.func157,Tryz.ntmps157
 go_wp2
 go_loop [3] (fun i=>∃k:Nat,k<=n/\i= .int .i64 ((k:Int)-1)/\Hid (topI p n=topI p k)) (fun i=>(intOf i+1).toNat)
 case atStart=>exact⟨n,by omega,rfl,rfl⟩
 case round=>
  obtain⟨k,hk,hi,hc⟩:=hrel
  rcases k with _|j
  ·rw[show ((0:Nat):Int)-1 = -1 from rfl]at hi
   subst hi
   go_wp2_with (fail)
   go_ret
   exact⟨by rw[hc.out];rfl,rfl⟩
  ·rw[show ((j+1:Nat):Int)-1=(j:Int) by omega]at hi
   subst hi
   obtain⟨b,off,rfl,_,hcl⟩:=HX.out.2 (by omega)
   have hcell:=hcl j (by omega)
   have E:Hid (topI p n=if 0<p.getD j 0 then(j:Int)else topI p j):=hc.out
   clear hcl hc;generalize p.getD j 0=x at *
   by_cases h0:0<x
   ·have HR:Hid (topI p n=j):=by have:=E.out;rwa [if_pos h0]at this
    go_wp2_with (fail)
    go_ret
    exact⟨by rw[HR.out];rfl,rfl⟩
   ·have HR:Hid (topI p n=topI p j):=by have:=E.out;rwa [if_neg h0]at this
    go_wp2_with (fail)
    go_round
    case rel=>exact⟨j,by omega,by go_num,HR.out⟩
    case measure=>(simp[intOf])<;>omega
theorem dM{p:List Int}:∀{k:Nat},(topI p k= -1/\∀j,j<k->p.getD j 0<=0)\/(∃i:Nat,topI p k=i/\i<k/\0<p.getD i 0/\∀j,i<j->j<k->p.getD j 0<=0)
 | 0=>.inl ⟨rfl,fun j h=>by omega⟩
 |k+1=>by
   by_cases h: 0< p.getD k 0
   ·exact .inr ⟨k,by unfold topI;rw [if_pos h],by omega,h,fun j h1 h2=>by omega⟩
   · have e : topI p (k + 1) = topI p k := by rw [topI, if_neg h]
     rw [e]
     rcases dM (p:=p) (k:=k)with ⟨h1,h2⟩ |⟨i,h1,h2,h3,h4⟩
     · refine .inl ⟨h1, fun j hj => ?_⟩
       by_cases e:j=k
       ·rw [e];omega
       ·exact h2 j (by omega)
     · refine .inr ⟨i, h1, by omega, h3, fun j hj hj2 => ?_⟩
       by_cases e:j=k
       ·rw [e];omega
       ·exact h4 j hj (by omega)
theorem lc(p:List Int)(k j:Nat):(p.drop k).getD j 0=p.getD (k+j) 0:=by simp[List.getD]
theorem topI_last{p:List Int}{i:Nat}(h0:∀x∈p,0<=x)(hi:i<p.length)(hc:p.getD i 0≠0):topI p p.length=i↔(p.drop (i+1)).sum=0:=by
 have hpos:0<p.getD i 0:=by have:=dq h0 i;omega
 have hd:∀x∈p.drop (i+1),0<=x:=fun x hx=>h0 x (List.mem_of_mem_drop hx)
 rcases dM (p:=p) (k:=p.length)with⟨h1,h2⟩|⟨t,h1,h2,h3,h4⟩
 ·have:=h2 i hi;omega
 ·rw[h1]
  constructor
  ·intro e
   have e:t=i:=by omega
   subst e
   refine im fun j hj=>?_
   rw[lc]
   have:=h4 (t+1+j) (by omega) (by simp at hj;omega)
   have:=dq h0 (t+1+j)
   omega
  ·intro hs
   by_cases e:t=i
   ·rw[e]
   ·exfalso
    have hti:i<t:=by
     rcases Nat.lt_or_ge i t with h|h
     ·exact h
     ·have:=h4 i (by omega) hi;omega
    have:=bW hd hs (t-(i+1))
    rw[lc,show i+1+(t-(i+1))=t by omega]at this
    omega
end Go.Proofs.YtcmeoenkgmghkaaGreat
namespace Go.Proofs.YtcmeoenkgmghkaaGreat.Pl
open Go.Proofs.YtcmeoenkgmghkaaGreat
abbrev Bd:=List Int×List Int
structure Stp where
 src:Nat
 dst:Int
 hit:Bool
def overB(b:Bd):Bool:=decide (b.1.sum=0\/b.2.sum=0)
def stepP(p h:Nat)(b:Bd)(src die:Nat):Option Stp:=
 if b.1.getD src 0=0 then none else if 0<b.1.getD p 0/\src≠p then none
 else if die<=src then(if b.2.getD (p-1-(src-die)) 0<=1 then some ⟨src,(src:Int)-die,b.2.getD (p-1-(src-die)) 0==1⟩else none)
 else if(h:Int)<=topI b.1 b.1.length then none else if src+1≠die/\(src:Int)<topI b.1 b.1.length then none else some ⟨src,-1,false⟩
def legI(p h:Nat)(b:Bd)(die:Nat):Nat->List Stp
 | 0=>[]
 |i+1=>legI p h b die i++(stepP p h b (p-i) die).toList
def legal(p h:Nat)(b:Bd)(die:Nat):List Stp:=if overB b=true then []else legI p h b die (p+1)
def bump(l:List Int)(i:Nat)(k:Int):List Int:=l.set i (l.getD i 0+k)
def aT(p:Nat)(b:Bd)(s:Stp):Bd:=
 (if 0 ≤ s.dst then bump (bump b.1 s.src (-1)) s.dst.toNat 1 else bump b.1 s.src (-1),
  if s.hit=true then bump (bump b.2 (p-1-s.dst.toNat) (-1)) p 1 else b.2)
def addN(out:List Bd)(b:Bd):List Bd:=if b∈out then out else out++[b]
def nextI(p:Nat)(b:Bd)(out:List Bd)(l:List Stp):List Bd:=l.foldl (fun o s=>addN o (aT p b s)) out
def nextF(p h:Nat)(die:Nat)(out:List Bd)(bs:List Bd):List Bd:=bs.foldl (fun o b=>nextI p b o (legal p h b die)) out
def nextB(p h:Nat)(die:Nat)(bs:List Bd):List Bd:=nextF p h die [] bs
def longP(p h:Nat):List Bd->List Nat->List Bd×Nat
 |row,[]=>(row,0)
 |row,d::ds=>if nextB p h d row=[]then(row,0)else((longP p h (nextB p h d row) ds).1,(longP p h (nextB p h d row) ds).2+1)
def fineP(p h:Nat):List Bd->List Nat->Bool
 |_,[]=>true
 |row,d::ds=>decide ((nextB p h d row).length<=3000)&&(if nextB p h d row=[]then true else fineP p h (nextB p h d row) ds)
def joinP(acc:List Bd)(L:List Bd):List Bd:=L.foldl addN acc
def ci(L1 L2:List Bd×Nat):List Bd:=if L1.2=max L1.2 L2.2 then joinP [] L1.1 else []
def bothP(L1 L2:List Bd×Nat):List Bd:=if L2.2=max L1.2 L2.2/\¬(max L1.2 L2.2=1/\ci L1 L2≠[])then joinP (ci L1 L2) L2.1 else ci L1 L2
def playsP(p h:Nat)(b:Bd)(ra rb:Nat):List Bd:=
 if ra=rb then joinP [] (longP p h [b] [ra,ra,ra,ra]).1 else bothP (longP p h [b] [ra,rb]) (longP p h [b] [rb,ra])
def fineR(p h:Nat)(b:Bd)(ra rb:Nat):Bool:=if ra=rb then fineP p h [b] [ra,ra,ra,ra]else fineP p h [b] [ra,rb]&&fineP p h [b] [rb,ra]
def Sd(p c:Nat)(b:Bd):Prop:=SideP p c b.1/\SideP p c b.2
theorem Sd.len1{p c:Nat}{b:Bd}(h:Sd p c b):b.1.length=p+1:=by have:=h.1.1;omega
theorem Sd.len2{p c:Nat}{b:Bd}(h:Sd p c b):b.2.length=p+1:=by have:=h.2.1;omega
theorem aO(l:List Int)(i:Nat)(k:Int):(bump l i k).length=l.length:=by unfold bump;simp
theorem dG(l:List Int)(i j:Nat)(k:Int)(hi:i<l.length):(bump l i k).getD j 0=l.getD j 0+if j=i then k else 0:=by
 unfold bump
 by_cases h:j=i
 ·subst h;simp[List.getD,hi]
 ·rw[if_neg h,Int.add_zero]
  simp[List.getD,List.getElem?_set,Ne.symm h]
theorem sum_set:∀(l:List Int) (i:Nat) (x:Int),i<l.length->(l.set i x).sum=l.sum-l.getD i 0+x
 | [],_,_,h=>absurd h (by simp)
 |a::l,0,x,_=>by simp only[List.set_cons_zero,List.sum_cons,List.getD_cons_zero];omega
 |a::l,i+1,x,h=>by
   have:=sum_set l i x (by simpa using h)
   simp only [List.set_cons_succ,List.sum_cons,List.getD_cons_succ,this];omega
theorem ju{l:List Int}{i:Nat}{k:Int}(hi:i<l.length):(bump l i k).sum=l.sum+k:=by unfold bump;rw[sum_set l i _ hi];omega
theorem jp{l:List Int}{i:Nat}{k:Int}(h0:∀x∈l,0<=x)(hk:0<=l.getD i 0+k):∀x∈bump l i k,0<=x:=by
 intro x hx
 unfold bump at hx
 rcases List.mem_or_eq_of_mem_set hx with h|h
 ·exact h0 x h
 ·omega
theorem j7{l:List Int}(h0:∀x∈l,0<=x)(i:Nat):0<=l.getD i 0:=by
 by_cases h:i<l.length
 ·exact h0 _ (aX l i h)
 ·rw[List.getD_eq_getElem?_getD,List.getElem?_eq_none (by omega)];decide
theorem gK{p h:Nat}{b:Bd}{src die:Nat}{s:Stp}(hs:stepP p h b src die=some s):s.src=src/\b.1.getD src 0≠0/\((die<=src/\s.dst=((src-die:Nat):Int)/\(s.hit=true->b.2.getD (p-1-(src-die)) 0=1))\/(s.dst= -1/\s.hit=false)):=by
 unfold stepP at hs
 split at hs
 ·cases hs
 ·rename_i h0
  split at hs
  ·cases hs
  ·split at hs
   ·rename_i h1
    split at hs
    ·injection hs with hs
     subst hs
     exact⟨rfl,h0,.inl ⟨h1,by simp only;omega,fun h=>by simpa using h⟩⟩
    ·cases hs
   ·split at hs
    ·cases hs
    ·split at hs
     ·cases hs
     ·injection hs with hs
      subst hs
      exact⟨rfl,h0,.inr ⟨rfl,rfl⟩⟩
theorem legI_mem{p h:Nat}{b:Bd}{die:Nat}:∀{i:Nat} {s:Stp},s∈legI p h b die i->∃k,k<i/\stepP p h b (p-k) die=some s
 | 0,s,hs=>by cases hs
 |i+1,s,hs=>by
   rcases List.mem_append.1 hs with h1 |h1
   · obtain ⟨k, hk, h2⟩ := legI_mem h1
     exact⟨k,by omega,h2⟩
   ·exact⟨i,by omega,by simpa using h1⟩
theorem jZ{p h:Nat}{b:Bd}{die:Nat}{s:Stp}(hs:s∈legal p h b die):∃src,src<=p/\stepP p h b src die=some s/\overB b=false:=by
 unfold legal at hs
 split at hs
 ·cases hs
 ·rename_i hov
  obtain⟨k,_,h2⟩:=legI_mem hs
  exact⟨p-k,by omega,h2,by simpa using hov⟩
theorem mF{p c h:Nat}{b:Bd}{src die:Nat}{s:Stp}(hb:Sd p c b)(hs:stepP p h b src die=some s)(hsrc:src<=p)(hd:1<=die):Sd p c (aT p b s):=by
 obtain⟨e1,h0,hc⟩:=gK hs;obtain⟨⟨l1,n1,s1⟩,l2,n2,s2⟩:=hb;have hn:=j7 n1 src
 have L1:src<b.1.length:=by omega
 unfold aT;rw[e1]
 have q1:=jp (l:=b.1) (i:=src) (k:=-1) n1 (by omega)
 have q2:=ju (l:=b.1) (i:=src) (k:=-1) L1;have q3:=aO b.1 src (-1)
 rcases hc with⟨h1,h2,h3⟩|⟨h2,h3⟩
 ·have hd0:0<=s.dst:=by omega
  have hdn:s.dst.toNat=src-die:=by omega
  rw[if_pos hd0,hdn]
  refine⟨⟨by rw[aO,q3];exact l1,jp q1 (by have:=j7 q1 (src-die);omega),by rw[ju (by rw[q3];omega),q2];omega⟩,?_⟩
  split
  ·rename_i hh
   have h4:=h3 hh
   have r1:=jp (l:=b.2) (i:=p-1-(src-die)) (k:=-1) n2 (by omega)
   have r3:=aO b.2 (p-1-(src-die)) (-1)
   exact⟨by rw[aO,r3];exact l2,jp r1 (by have:=j7 r1 p;omega),by rw[ju (by rw[r3];omega),ju (by omega)];omega⟩
  ·exact⟨l2,n2,s2⟩
 ·rw[if_neg (by omega),if_neg (by rw[h3];decide)]
  exact⟨⟨by rw[q3];exact l1,q1,by show(bump b.1 src (-1)).sum<=_;omega⟩,l2,n2,s2⟩
theorem mem_addN{out:List Bd}{b x:Bd}(h:x∈addN out b):x∈out\/x=b:=by
 unfold addN at h
 split at h
 ·exact .inl h
 ·simpa using h
theorem lY{p c h die:Nat}{b:Bd}(hb:Sd p c b)(hd:1<=die):∀{l:List Stp} {out:List Bd},(∀s∈l,s∈legal p h b die)->(∀x∈out,Sd p c x)->∀x∈nextI p b out l,Sd p c x
 | [],out,_,ho,x,hx=>ho x hx
 |s::l,out,hl,ho,x,hx=>by
   refine lY hb hd (l:=l) (out:=addN out (aT p b s)) (fun t ht=>hl t (List.mem_cons_of_mem _ ht)) (fun y hy=>?_) x hx
   rcases mem_addN hy with h1 |rfl
   ·exact ho y h1
   · obtain ⟨src, h1, h2, _⟩ := jZ (hl s List.mem_cons_self)
     exact mF hb h2 h1 hd
theorem lZ{p c h die:Nat}(hd:1<=die):∀{bs out:List Bd},(∀b∈bs,Sd p c b)->(∀x∈out,Sd p c x)->∀x∈nextF p h die out bs,Sd p c x
 | [],out,_,ho,x,hx=>ho x hx
 |b::bs,out,hb,ho,x,hx=>lZ hd (bs:=bs) (fun y hy=>hb y (List.mem_cons_of_mem _ hy)) (lY (hb b List.mem_cons_self) hd (fun _ h=>h) ho) x hx
theorem jo{p c h die:Nat}(hd:1<=die){bs:List Bd}(hb:∀b∈bs,Sd p c b):∀x∈nextB p h die bs,Sd p c x:=lZ hd hb (fun _ h=>by cases h)
theorem jr{p c h:Nat}:∀{ds:List Nat} {row:List Bd},(∀d∈ds,1<=d)->(∀b∈row,Sd p c b)->∀x∈(longP p h row ds).1,Sd p c x
 | [],row,_,hr,x,hx=>hr x hx
 |d::ds,row,hd,hr,x,hx=>by
   unfold longP at hx
   split at hx
   ·exact hr x hx
   ·exact jr (fun e he=>hd e (List.mem_cons_of_mem _ he)) (jo (hd d List.mem_cons_self) hr) x hx
theorem ii:∀{L acc:List Bd} {x:Bd},x∈joinP acc L->x∈acc\/x∈L
 | [],acc,x,hx=>.inl hx
 |b::L,acc,x,hx=>by
   rcases ii (L:=L) (acc:=addN acc b) hx with h |h
   · rcases mem_addN h with h | rfl
     ·exact .inl h
     ·exact .inr List.mem_cons_self
   ·exact .inr (List.mem_cons_of_mem _ h)
theorem bothP_mem{P:Bd->Prop}{L1 L2:List Bd×Nat}(h1:∀x∈L1.1,P x)(h2:∀x∈L2.1,P x):∀x∈bothP L1 L2,P x:=by
 have hf:∀x∈ci L1 L2,P x:=by
  intro y hy
  unfold ci at hy
  split at hy
  ·rcases ii hy with h|h
   ·cases h
   ·exact h1 y h
  ·cases hy
 intro x hx
 unfold bothP at hx
 split at hx
 ·rcases ii hx with h|h
  ·exact hf x h
  ·exact h2 x h
 ·exact hf x hx
theorem gU{p c h:Nat}{b:Bd}{ra rb:Nat}(hb:Sd p c b)(ha:1<=ra)(hbb:1<=rb):∀x∈playsP p h b ra rb,Sd p c x:=by
 have h1:∀y∈[b],Sd p c y:=fun y hy=>by rw[List.mem_singleton.1 hy];exact hb
 have hL:∀ds:List Nat,(∀d∈ds,1<=d)->∀x∈(longP p h [b] ds).1,Sd p c x:=fun ds hd=>jr hd h1
 have d4:∀d∈[ra,ra,ra,ra],1<=d:=by simp[ha]
 have d12:∀d∈[ra,rb],1<=d:=by simp[ha,hbb]
 have d21:∀d∈[rb,ra],1<=d:=by simp[ha,hbb]
 intro x hx
 unfold playsP at hx
 split at hx
 ·rcases ii hx with h|h
  ·cases h
  ·exact hL _ d4 x h
 ·exact bothP_mem (hL _ d12) (hL _ d21) x hx
theorem gV{p:Nat}{b:Bd}:∀{l:List Stp} {out:List Bd},(nextI p b out l).length<=out.length+l.length
 | [],out=>Nat.le_refl _
 |s::l,out=>by
   have h:=gV (p:=p) (b:=b) (l:=l) (out:=addN out (aT p b s))
   have h2:(addN out (aT p b s)).length<=out.length+1:=by unfold addN;split<;>simp
   show(nextI p b (addN out (aT p b s)) l).length<=_
   rw [List.length_cons];omega
theorem di{p h die k:Nat}:∀{bs out:List Bd},(∀b∈bs,(legal p h b die).length<=k)->(nextF p h die out bs).length<=out.length+bs.length*k
 | [],out,_=>by simp[nextF]
 |b::bs,out,hk=>by
   have e:=di (p:=p) (h:=h) (die:=die) (k:=k) (bs:=bs) (out:=nextI p b out (legal p h b die)) (fun y hy=>hk y (List.mem_cons_of_mem _ hy))
   have h2:=gV (p:=p) (b:=b) (l:=legal p h b die) (out:=out);have h3:=hk b List.mem_cons_self
   show(nextF p h die (nextI p b out (legal p h b die)) bs).length<=_
   rw [List.length_cons,Nat.add_mul];omega
theorem js{p h:Nat}{b:Bd}{die:Nat}:∀i,(legI p h b die i).length<=i
 | 0=>Nat.le_refl _
 |i+1=>by
   have:=js (p:=p) (h:=h) (b:=b) (die:=die) i
   have h2:(stepP p h b (p-i) die).toList.length<=1:=by cases stepP p h b (p-i) die<;>simp
   simp only [legI,List.length_append];omega
theorem cO{p h:Nat}{b:Bd}{die:Nat}:(legal p h b die).length<=p+1:=by
 unfold legal
 split
 ·simp
 ·exact js _
theorem legI_cnt{p h:Nat}{b:Bd}{die:Nat}(h0:∀x∈b.1,0<=x)(hl:b.1.length=p+1):∀i,i<=p+1->((legI p h b die i).length:Int)<=(b.1.drop (p+1-i)).sum
 | 0,_=>by
   rw [List.drop_of_length_le (by omega)];simp [legI]
 |i+1,hi=>by
   have h1:=legI_cnt (h:=h) (die:=die) h0 hl i (by omega)
   have h2:b.1.drop (p+1-(i+1))=b.1.getD (p-i) 0::b.1.drop (p+1-i):=by
     have hlt:p-i< b.1.length:=by omega
     rw [show p+1-(i+1)=p-i by omega,show p+1-i=(p-i)+1 by omega,List.drop_eq_getElem_cons hlt]
     simp [List.getD,hlt]
   rw [h2,List.sum_cons]
   simp only [legI,List.length_append]
   have h3:=j7 h0 (p-i)
   cases hs:stepP p h b (p-i) die with
   |none=>
     have e:(none:Option Stp).toList.length=0:=rfl
     rw [e];omega
   |some s=>
     have:=(gK hs).2.1;have e:(some s).toList.length=1:=rfl
     rw [e];omega
theorem legal_cnt{p c h:Nat}{b:Bd}{die:Nat}(hb:Sd p c b):(legal p h b die).length<=c:=by
 unfold legal
 split
 ·simp
 ·have h1:=legI_cnt (h:=h) (die:=die) hb.1.2.1 hb.len1 (p+1) (Nat.le_refl _)
  have h2:=hb.1.2.2
  simp at h1
  omega
theorem nextB_len{p c h die:Nat}{bs:List Bd}(hb:∀b∈bs,Sd p c b):(nextB p h die bs).length<=bs.length*c:=by
 have:=di (p:=p) (h:=h) (die:=die) (k:=c) (bs:=bs) (out:=[]) (fun b h=>legal_cnt (hb b h))
 rw[List.length_nil,Nat.zero_add]at this
 exact this
theorem ip{p c h:Nat}:∀{ds:List Nat} {row:List Bd},(∀d∈ds,1<=d)->(∀b∈row,Sd p c b)->1<=c->row.length*c^ds.length<=3000->fineP p h row ds=true
 | [],_,_,_,_,_=>rfl
 |d::ds,row,hd,hr,hc,hn=>by
   have h1:=nextB_len (h:=h) (die:=d) hr
   have h2:(nextB p h d row).length*c^ds.length<=3000:=by
     refine Nat.le_trans (Nat.mul_le_mul_right _ h1) ?_
     rw [List.length_cons,Nat.pow_succ,Nat.mul_comm (c^ds.length) c, <-Nat.mul_assoc]at hn
     exact hn
   have h3: 1<=c^ds.length:=Nat.one_le_pow _ _ hc;have h4:(nextB p h d row).length<=3000:=Nat.le_trans (Nat.le_mul_of_pos_right _ h3) h2;unfold fineP;rw [decide_eq_true h4,Bool.true_and]
   split
   ·rfl
   ·exact ip (fun e he=>hd e (List.mem_cons_of_mem _ he)) (jo (hd d List.mem_cons_self) hr) hc h2
theorem fineR_small{p c h:Nat}{b:Bd}{ra rb:Nat}(hb:Sd p c b)(ha:1<=ra)(hbb:1<=rb)(hc1:1<=c)(hc3:c<=3):fineR p h b ra rb=true:=by
 have h1:∀y∈[b],Sd p c y:=fun y hy=>by rw[List.mem_singleton.1 hy];exact hb
 have e4:c^4<=81:=by rcases(show c=1\/c=2\/c=3 by omega)with rfl|rfl|rfl<;>decide
 have e2:c^2<=9:=by rcases(show c=1\/c=2\/c=3 by omega)with rfl|rfl|rfl<;>decide
 unfold fineR
 split
 ·exact ip (by simp[ha]) h1 hc1 (by simp;omega)
 ·rw[ip (c:=c) (by simp[ha,hbb]) h1 hc1 (by simp;omega),ip (c:=c) (by simp[ha,hbb]) h1 hc1 (by simp;omega)];rfl
end Go.Proofs.YtcmeoenkgmghkaaGreat.Pl

/- Part of one proof. There are no conditions. -/
import Derived.Maps.AppendAt
import Derived.StillTail
import Derived.StillTailTactics
import Derived.Test.YtcmeoenkgmghkaaGreatPY1
set_option linter.unusedVariables false
set_option linter.unusedSimpArgs false
open Go.Value renaming slice->q,pointer->r
open Go.Obj renaming cells->D
namespace Go.Proofs.YtcmeoenkgmghkaaGreat
open Go.RowKit
def SQ(S:Nat->Prop)(w:World)(A:Option Addr)(n:Nat)(xs:List Int):Prop:=SL w A n xs/\(0<n->∀b off s,A=some ⟨b,off,s⟩->¬S b)
def PV(S:Nat->Prop)(w:World)(u:Value)(p:List Int):Prop:=∃A n c,u=q A n c/\SQ S w A n p/\n<=c
def PVs(S:Nat->Prop)(w:World)(cs:List Value)(ps:List (List Int)):Prop:=cs.length=ps.length/\∀i,i<cs.length->PV S w (cs.getD i undef) (ps.getD i [])
def PL(S:Nat->Prop)(w:World)(A:Option Addr)(n:Nat)(ps:List (List Int)):Prop:=∃cs,SLZ 1 S w A n cs/\PVs S w cs ps
def wth(S:Nat->Prop)(v:Value):Nat->Prop:=fun k=>S k\/v.ownBlock=some k
def OP(S:Nat->Prop)(w:World)(base:Nat)(e:TypeId)(v:Value)(ps:List (List Int)):Prop:=∃cs,w.ownsRow base e 1 v ps.length cs/\PVs (wth S v) w cs ps/\∀k,v.ownBlock=some k->¬S k
section
variable {S S':Nat->Prop}{w w':World}{A:Option Addr}{n:Nat}{cs:List Value}{u v:Value}{p xs:List Int}{ps:List (List Int)}{base:Nat}{e:TypeId}
theorem SQ.frm(h:SQ S w A n xs)(hf:Frm S w w'):SQ S w' A n xs:=by
 refine⟨⟨h.1.1,fun hn=>?_⟩,h.2⟩
 obtain⟨b,off,hA,hlt,hc⟩:=h.1.2 hn
 exact⟨b,off,hA,Nat.lt_of_lt_of_le hlt hf.size,fun i hi=>hf.cell' (hc i hi) (h.2 hn b off none hA)⟩
theorem SQ.set(h:SQ S w A n xs)(hS:∀k,S' k->S k\/w.heap.size<=k):SQ S' w A n xs:=by
 refine⟨h.1,fun hn b off s hA hs=>?_⟩
 obtain⟨b',off',hA',hlt,_⟩:=h.1.2 hn;rw[hA]at hA';injection hA' with hA';injection hA' with h1 h2 h3;subst h1
 rcases hS b hs with h4|h4
 ·exact h.2 hn b off s hA h4
 ·omega
theorem PV.frm(h:PV S w u p)(hf:Frm S w w'):PV S w' u p:=let ⟨A,n,c,hu,hs,hc⟩:=h;⟨A,n,c,hu,hs.frm hf,hc⟩
theorem PV.set(h:PV S w u p)(hS:∀k,S' k->S k\/w.heap.size<=k):PV S' w u p:=let ⟨A,n,c,hu,hs,hc⟩:=h;⟨A,n,c,hu,hs.set hS,hc⟩
theorem PVs.frm(h:PVs S w cs ps)(hf:Frm S w w'):PVs S w' cs ps:=⟨h.1,fun i hi=>(h.2 i hi).frm hf⟩
theorem PVs.set(h:PVs S w cs ps)(hS:∀k,S' k->S k\/w.heap.size<=k):PVs S' w cs ps:=⟨h.1,fun i hi=>(h.2 i hi).set hS⟩
theorem PVs.nil_(S:Nat->Prop)(w:World):PVs S w [] []:=⟨rfl,fun i hi=>absurd hi (by simp)⟩
theorem PVs.append{ds:List Value}{qs:List (List Int)}(h:PVs S w cs ps)(k:PVs S w ds qs):PVs S w (cs++ds) (ps++qs):=by
 refine⟨by simp[h.1,k.1],fun i hi=>?_⟩
 by_cases hlt:i<cs.length
 ·have:=h.2 i hlt
  rw[bF _ _ _ hlt,bF _ _ _ (by rw[<-h.1];exact hlt)];exact this
 ·rw[aK _ _ _ (by omega),aK _ _ _ (by rw[<- h.1];omega),h.1]
  have:=k.2 (i-cs.length) (by simp at hi;omega)
  rwa [h.1]at this
theorem PVs.one(h:PV S w u p):PVs S w [u] [p]:=⟨rfl,fun i hi=>by
 have:i=0:=by simpa using hi
 subst this;exact h⟩
theorem PVs.snoc(h:PVs S w cs ps)(hu:PV S w u p):PVs S w (cs++[u]) (ps++[p]):=h.append (PVs.one hu)
theorem PVs.take(h:PVs S w cs ps)(k:Nat):PVs S w (cs.take k) (ps.take k):=by
 refine⟨by simp[h.1],fun i hi=>?_⟩
 have hi':i<k/\i<cs.length:=by rw[List.length_take]at hi;omega
 have:=h.2 i hi'.2
 simpa[List.getD,List.getElem?_take,hi'.1]using this
theorem PVs.drop(h:PVs S w cs ps)(k:Nat):PVs S w (cs.drop k) (ps.drop k):=by
 refine⟨by simp[h.1],fun i hi=>?_⟩
 have:=h.2 (k+i) (by simp at hi;omega)
 simpa[List.getD,List.getElem?_drop]using this
theorem PL.frm(h:PL S w A n ps)(hf:Frm S w w'):PL S w' A n ps:=let ⟨cs,h1,h2⟩:=h;⟨cs,h1.frm hf,h2.frm hf⟩
theorem PL.below(h:PL S w A n ps)(hb:Below w.heap.size w w'):PL S w' A n ps:=h.frm (Frm.of_below' S hb)
theorem PL.alloc(h:PL S w A n ps)(o:Obj):PL S (w.alloc o) A n ps:=h.frm ((Frm.refl S w).alloc o)
theorem PL.more(h:PL S w A n ps)(t:World):PL S (more w t) A n ps:=h.below (aa w t)
theorem PL.set(h:PL S w A n ps)(hS:∀k,S' k->S k\/w.heap.size<=k):PL S' w A n ps:=by
 obtain⟨cs,⟨h1,h2⟩,h3⟩:=h
 refine⟨cs,⟨h1,fun hn=>?_⟩,h3.set hS⟩
 obtain⟨b,off,hA,hlt,hs,hc⟩:=h2 hn
 exact⟨b,off,hA,hlt,fun hb=>by rcases hS b hb with h|h;exact hs h;omega,hc⟩
theorem PL.len(h:PL S w A n ps):ps.length=n:=by obtain⟨cs,h1,h2⟩:=h;rw[<-h2.1,h1.1,Nat.mul_one]
theorem PL.nil_(S:Nat->Prop)(w:World)(A:Option Addr):PL S w A 0 []:=⟨[],⟨rfl,fun h=>absurd h (by omega)⟩,PVs.nil_ _ _⟩
theorem PL.at(h:PL S w A n ps){k:Nat}(hk:k<n):∃b off B m c,A=some ⟨b,off,none⟩/\b<w.heap.size/\w.cell? ⟨b,off+k,none⟩=some (q B m c)/\SQ S w B m (ps.getD k [])/\m<=c:=by
 obtain⟨cs,⟨hl,hc⟩,ha⟩:=h
 obtain⟨b,off,hA,hlt,-,hcell⟩:=hc (by omega)
 obtain⟨B,m,c,hu,hp,hm⟩:=ha.2 k (by omega)
 exact⟨b,off,B,m,c,hA,hlt,by rw[hcell k (by omega),hu],hp,hm⟩
theorem OP.frm(h:OP S w base e v ps)(hf:Frm S w w'):OP S w' base e v ps:=
 let ⟨cs,h1,h2,h3⟩:=h;⟨cs,hf.row h1 h3,h2.frm (hf.mono fun k hk=>.inl hk),h3⟩
theorem OP.below(h:OP S w base e v ps)(hb:Below w.heap.size w w'):OP S w' base e v ps:=h.frm (Frm.of_below' S hb)
theorem OP.alloc(h:OP S w base e v ps)(o:Obj):OP S (w.alloc o) base e v ps:=h.frm ((Frm.refl S w).alloc o)
theorem OP.more(h:OP S w base e v ps)(t:World):OP S (more w t) base e v ps:=h.below (aa w t)
theorem OP.mono(h:OP S w base e v ps){base':Nat}(hb:base'<=base):OP S w base' e v ps:=let ⟨cs,h1,h2,h3⟩:=h;⟨cs,aH h1 hb,h2,h3⟩
theorem OP.nil_(S:Nat->Prop)(w:World)(base:Nat)(e:TypeId):OP S w base e (q none 0 0) []:=⟨[],World.ownsRow_nil _ _ _ _,PVs.nil_ _ _,fun k hk=>by cases hk⟩
theorem OP.made(w:World)(hb:base<=w.heap.size)(hS:∀k,base<=k->¬S k)(h:PVs S w cs ps)(hm:ps.length<=maxLen):OP S (w.alloc (D cs.toArray e)) base e (q (some ⟨w.heap.size,0,none⟩) ps.length ps.length) ps:=by
 refine⟨cs,⟨by rw[h.1,Nat.mul_one],.inr ⟨w.heap.size,ps.length,cs.toArray,rfl,hb,heap_alloc_new w _,Nat.le_refl _,hm,by simp[h.1],by rw[List.take_of_length_le (by simp[h.1])]⟩⟩,?_,fun k hk=>?_⟩
 ·refine (h.set fun k hk=>?_).frm ((Frm.refl _ w).alloc _)
  rcases hk with hk|hk
  ·exact .inl hk
  ·simp[Value.ownBlock]at hk;exact .inr (by omega)
 ·simp[Value.ownBlock]at hk;subst hk;exact hS _ hb
theorem OP.read(h:OP S w base e v ps):∃A c,v=q A ps.length c/\PL S w A ps.length ps/\ps.length<=c:=by
 obtain⟨cs,h1,h2,h3⟩:=h
 obtain⟨A,c,hv,hs,hc⟩:=bp h1 h3 (by omega)
 exact⟨A,c,hv,⟨cs,hs,h2.set fun k hk=>.inl (.inl hk)⟩,hc⟩
theorem jA{v':Value}(hat:v'.ownBlock=v.ownBlock\/v'.ownBlock=some w.heap.size):∀k,wth S v' k->wth S v k\/w.heap.size<=k:=by
 rintro k (hk|hk)
 ·exact .inl (.inl hk)
 ·rcases hat with h|h
  ·exact .inl (.inr (by rw[<-h];exact hk))
  ·rw[h]at hk;injection hk with hk;exact .inr (by omega)
theorem du{w1:World}(hg:w.grownBy w1 v.ownBlock):Frm (wth S v) w w1:=(Frm.of_grown hg).mono fun k hk=>.inr hk.symm
theorem OP.grew{w1:World}{v':Value}{ds:List Value}{qs:List (List Int)}{m:Nat}(hp:PVs (wth S v) w cs ps)(hq:PVs (wth S v) w ds qs)(hown:w1.ownsRow base e 1 v' (ps.length+m) (cs++ds))(hm:m=qs.length)
  (hg:w.grownBy w1 v.ownBlock) (hat:v'.ownBlock=v.ownBlock\/v'.ownBlock=some w.heap.size) (hS:∀k,base<=k->¬S k):OP S w1 base e v' (ps++qs):=by
 subst hm
 refine⟨cs++ds,by rw[List.length_append];exact hown,?_,fun k hk=>hS k (World.ownsRow.lt hown k hk).1⟩
 have h1:=(hp.append hq).set (S':=fun k=>wth S v k\/wth S v' k) fun k hk=>hk.elim .inl (jA hat k)
 exact(h1.frm ((du hg).mono fun k hk=>.inl hk)).set fun k hk=>.inl (.inr hk)
end
open Go.RowKit
section
variable {P:Program}{ops:Array Oper}{md:Region.Mode}{C:World->Prop}
def wpAnyT(P:Program)(md:Region.Mode)(ops:Array Oper)(C:World->Prop)(n:Nat)(L:Array Bool->Act->Prop):Nat->Array Bool->Act->Prop
 | 0,listed,a=>L listed a
 |f+1,listed,a=>Region.ready md ops listed≠[]/\∀i∈Region.ready md ops listed,i<n/\qOp P ops C i (wpAnyT P md ops C n L f (listed.setIfInBounds i true)) a
theorem fQ{n g:Nat}{L:Array Bool->Act->Prop}{Q':Exit->Act->World->Prop}(hL:∀listed a w,C w->L listed a->wpAny P md ops Q' g listed a w):
  ∀(f:Nat) (listed:Array Bool) (a:Act) (w:World),C w->wpAnyT P md ops C n L f listed a->wpAny P md ops Q' (f+g) listed a w
 | 0,listed,a,w,hw,h=>by rw[Nat.zero_add];exact hL _ _ _ hw h
 |f+1,listed,a,w,hw,h=>by
   rw [show f+1+g=(f+g)+1 by omega]
   exact⟨fun h0=>absurd h0 h.1,fun i hi=>wpOp_of_qOp hw (fun a' w' hw' h'=>fQ hL f _ a' w' hw' h') (h.2 i hi).2⟩
theorem wpAnyT_first{n i:Nat}{oi:Oper}{v:Value}{L:Array Bool->Act->Prop}(hi:ops[i]? =some oi)(hsel:∀(j:Nat) (o:Oper) cs b,ops[j]? =some o->o.op≠.select cs b)
  (hs:Region.sinkB md ops n=true) (hc:Region.chainB md ops n=true) (hn:n<ops.size) (hin:i<n) (hdone:∀listed a,L listed a->∀j∈Region.ready md ops listed,n<=j):
  ∀(f:Nat) (listed:Array Bool) (a:Act),HeadInv md ops n listed→
    (∀j oj,ops[j]? =some oj->j≠i->listed.getD j true=false->(∀e∈oj.after,Region.binds md e=true->e.on≠i)->oi.apart ops oj=true)->
    i∈Region.ready md ops listed->YieldsIn P ops C oi v a->
    wpAnyT P md ops C n L f (listed.setIfInBounds i true) (a.put oi.dst v)->wpAnyT P md ops C n L (f+1) listed a:=by
 intro f
 have low:∀(listed:Array Bool),HeadInv md ops n listed->i∈Region.ready md ops listed->∀j∈Region.ready md ops listed,j<n:=fun listed inv hr j hj=>by
  rcases Nat.lt_or_ge j n with h|h
  ·exact h
  ·exact absurd hj (tail_waits hs hc hn inv _ i rfl hin (mem_ready.1 hr).1 j h)
 induction f with
 |zero=>
  intro listed a inv _ hr hy H
  refine⟨fun h=>(by rw[h]at hr;cases hr),fun j hj=>⟨low listed inv hr j hj,?_⟩⟩
  by_cases hji:j=i
  ·subst hji;exact hy.qOp hi H
  ·have:=hdone _ _ H j (ready_mono hj hji)
   have:=low listed inv hr j hj
   omega
 |succ f ih=>
  intro listed a inv hfree hr hy H
  refine⟨fun h=>(by rw[h]at hr;cases hr),fun j hj=>⟨low listed inv hr j hj,?_⟩⟩
  by_cases hji:j=i
  ·subst hji;exact hy.qOp hi H
  ·have h1:=(H.2 j (ready_mono hj hji)).2
   obtain⟨hjun,oj,hoj,hall⟩:=mem_ready.1 hj
   have hnot:∀e∈oj.after,Region.binds md e=true->e.on≠i:=fun e he hb heq=>by
    have h1:=hall e he hb;rw[heq,getD_both (mem_ready.1 hr).1]at h1
    cases h1
   have h2:=qOp_put hoj (hfree j oj hoj hji hjun hnot) (fun cs b=>hsel i oi cs b hi) (fun cs b=>hsel j oj cs b hoj) hy h1
   refine qOp_mono (fun a' h3=>ih (listed.setIfInBounds j true) a' (inv.set hj (low listed inv hr j hj)) (fun k ok hk hki hun hno=>hfree k ok hk hki ?_ hno) (ready_mono hr (Ne.symm hji)) h3.1 ?_) h2
   ·by_cases hjk:j=k
    ·subst hjk;exact hjun
    ·rw[getD_set_ne true hjk]at hun;exact hun
   ·rw[Array.setIfInBounds_comm _ _ hji]
    exact h3.2
theorem kH{n g:Nat}{Lq:Act->Prop}(hsel:Region.noSelect ops=true)(hs:Region.sinkB md ops n=true)(hc:Region.chainB md ops n=true)(hn:n<ops.size):
  ∀(l:List Oper) (k:Nat) (listed:Array Bool) (a:Act),(∀j,j<l.length->l[j]? =ops[k+j]?)->k+l.length=n->HeadInv md ops n listed->
  Region.lexHead md ops g l.length k listed=true->wpQuiet P ops C Lq l a->
  wpAnyT P md ops C n (fun listed' a'=>Region.seqB md ops g n listed'=true/\Lq a') l.length listed a
 | [],k,listed,a,_,hk,_,hB,h=>by
   have:k=n:=by simpa using hk
   subst this
   exact⟨by simpa [Region.lexHead]using hB,h⟩
 |o::l,k,listed,a,hl,hk,inv,hB,h=>by
   have h0:ops[k]? =some o:=by simpa using (hl 0 (by simp)).symm
   simp only [List.length_cons,Region.lexHead,Bool.and_eq_true]at hB
   obtain⟨⟨hr,hf⟩,hB'⟩:=hB
   have hkn:k< n:=by simp only [List.length_cons]at hk;omega
   have hr':k∈Region.ready md ops listed:=by simpa using hr
   have hst:qOp P ops C k (wpQuiet P ops C Lq l) a:=by unfold qOp;simp only [h0];exact h
   obtain⟨v,hy,hK⟩:=yieldsIn_of_qOp h0 hst
   exact wpAnyT_first h0 (Region.noSelect_spec hsel) hs hc hn hkn (fun listed' a' hL=>seqB_ready hL.1) l.length listed a inv (Region.free_spec h0 hf) hr' hy
     (kH hsel hs hc hn l (k+1) _ _ (fun j hj=>by have:=hl (j+1) (by simp;omega);simpa [Nat.add_assoc,Nat.add_comm 1 j]using this) (by simp only [List.length_cons]at hk;omega) (inv.set hr' hkn) hB' hK)
theorem cS{id:Nat}{Q:Exit->Act->World->Prop}{a:Act}{w:World}{l:List Oper}(n:Nat)(hm:P.follows .mixedOrders=true)(hB:Region.lexTailB .any l.toArray n=true)(hC:C { w with drawn:=w.drawn+1 })
  (h:wpQuiet P l.toArray C (fun a'=>∀w',C w'->wpList P l.toArray Q (l.drop n) a' w') (l.take n) a):(Code.region id l.toArray true).wp P Q a w:=by
 simp only[Region.lexTailB,Bool.and_eq_true,decide_eq_true_eq]at hB
 obtain⟨⟨⟨⟨hsel,hn⟩,hs⟩,hc⟩,hlex⟩:=hB
 have hn':n<l.length:=by simpa using hn
 have htl:(l.take n).length=n:=by simp;omega
 have hdl:(l.drop n).length=l.toArray.size-n:=by simp
 have inv0:HeadInv .any l.toArray n (Array.replicate l.toArray.size false):=
  ⟨by simp,fun j oj _ hl=>(by rw[getD_replicate_false]at hl;cases hl),fun t _ ht=>getD_in (by simpa using ht) (getD_replicate_false _ _)⟩
 have H:=kH (md:=.any) (g:=l.toArray.size-n) hsel hs hc hn (l.take n) 0 _ a (fun j hj=>by
  have hj':j<n:=by rw[htl]at hj;exact hj
  simp[hj']) (by simpa using htl) inv0 (by rw[htl];exact hlex) h
 refine wp_region_any hm ?_
 have:=fQ (Q':=Q) (g:=l.toArray.size-n) (fun listed a' w' hw' hL=>by
  have:=wpAny_of_seq (md:=.any) (Q':=Q) (l.drop n) n listed a' w' (fun j=>by simp[List.getElem?_drop]) (by rw[hdl];exact hL.1) (hL.2 w' hw')
  rwa [hdl]at this) _ _ _ _ hC H
 rw[htl,show n+(l.toArray.size-n)=l.toArray.size by omega]at this
 exact this
theorem an{id:Nat}{Q:Exit->Act->World->Prop}{a:Act}{w:World}{l:List Oper}(n:Nat)(hm:P.follows .mixedOrders=true)(hB:Region.lexTailB .any l.toArray n=true)
  (h:wpQuiet P l.toArray (fun w'=>∃t,w'=more w t) (fun a'=>∀w',(∃t,w'=more w t)->wpList P l.toArray Q (l.drop n) a' w') (l.take n) a):(Code.region id l.toArray true).wp P Q a w:=
 cS (C:=fun w'=>∃t,w'=more w t) n hm hB (eC ⟨rfl,rfl,rfl,Nat.le_refl _,fun _ _=>rfl⟩) h
theorem am{id:Nat}{Q:Exit->Act->World->Prop}{a:Act}{w t:World}{l:List Oper}(n:Nat)(hm:P.follows .mixedOrders=true)(hB:Region.lexTailB .any l.toArray n=true)
  (h:wpQuiet P l.toArray (fun w'=>∃t,w'=more w t) (fun a'=>∀w',(∃t,w'=more w t)->wpList P l.toArray Q (l.drop n) a' w') (l.take n) a):(Code.region id l.toArray true).wp P Q a (more w t):=
 cS (C:=fun w'=>∃t,w'=more w t) n hm hB (eC ⟨(aa w t).os,(aa w t).tape,(aa w t).output,(aa w t).size,(aa w t).block⟩) h
end
open Go.RowKit
theorem blw{B:Nat}{a w t:World}(h:Below B a w)(hB:B<=a.heap.size):Below B a (more w t):=h.trans ((aa w t).mono (Nat.le_trans hB h.size))
theorem alw{B:Nat}{a w:World}{o:Obj}(h:Below B a w)(hB:B<=a.heap.size):Below B a (w.alloc o):=h.alloc (Nat.le_trans hB h.size) o
theorem stw{B b i:Nat}{a w:World}{v:Value}(h:Below B a w)(hB:B<=b):Below B a (w.setCell ⟨b,i,none⟩ v):=h.setCell (p:=⟨b,i,none⟩) hB v
theorem drw{B:Nat}{a w:World}(h:Below B a w):Below B a w.drew:=⟨h.os,h.tape,h.output,h.size,h.block⟩
theorem ag{P:Program}{id:Nat}{Q:Exit->Act->World->Prop}{a:Act}{w t:World}{l:List Oper}(hm:P.follows .mixedOrders=true)(hB:Region.lexB .any l.toArray=true)
  (h:wpQuiet P l.toArray (fun w'=>∃t,w'=more w t) (fun a'=>∀w',(∃t,w'=more w t)->Q .normal a' w') l a):(Code.region id l.toArray true).wp P Q a (more w t):=
 wp_region_quiet (C:=fun w'=>∃t,w'=more w t) hm hB (eC ⟨(aa w t).os,(aa w t).tape,(aa w t).output,(aa w t).size,(aa w t).block⟩) (by simpa using h)
def frAt(L:List (List Value))(i j:Nat):Option Value:=match L[i]? with|some l=>l[j]?|none=>none
structure Fr(w wr:World)(L:List (List Value)):Prop where
 b:Below w.heap.size w wr
 z:w.heap.size+L.length<=wr.heap.size
 cell:∀i j v,frAt L i j=some v->wr.cell? ⟨w.heap.size+i,j,none⟩=some v
 froz:∀i j v,frAt L i j=some v->wr.frozen? ⟨w.heap.size+i,j,none⟩=false
section
variable {w wr w2:World}{L:List (List Value)}
theorem Fr.cellA(h:Fr w wr L){b:Nat}(i j:Nat){v:Value}(hb:b=w.heap.size+i)(hv:frAt L i j=some v):wr.cell? ⟨b,j,none⟩=some v:=by subst hb;exact h.cell i j v hv
theorem Fr.frozA(h:Fr w wr L){b:Nat}(i j:Nat){v:Value}(hb:b=w.heap.size+i)(hv:frAt L i j=some v):wr.frozen? ⟨b,j,none⟩=false:=by subst hb;exact h.froz i j v hv
theorem Fr.ltA(h:Fr w wr L){b:Nat}(i:Nat)(hb:b=w.heap.size+i)(hi:i<L.length):b<wr.heap.size:=by have:=h.z;omega
theorem Fr.c0(h:Fr w wr L)(j:Nat){v:Value}(hv:frAt L 0 j=some v):wr.cell? ⟨w.heap.size,j,none⟩=some v:=h.cellA 0 j rfl hv
theorem Fr.f0(h:Fr w wr L)(j:Nat){v:Value}(hv:frAt L 0 j=some v):wr.frozen? ⟨w.heap.size,j,none⟩=false:=h.frozA 0 j rfl hv
theorem Fr.l0(h:Fr w wr L)(hi:0<L.length):w.heap.size<wr.heap.size:=h.ltA 0 rfl hi
theorem Fr.c1(h:Fr w wr L)(j:Nat){v:Value}(hv:frAt L 1 j=some v):wr.cell? ⟨w.heap.size+1,j,none⟩=some v:=h.cellA 1 j rfl hv
theorem Fr.f1(h:Fr w wr L)(j:Nat){v:Value}(hv:frAt L 1 j=some v):wr.frozen? ⟨w.heap.size+1,j,none⟩=false:=h.frozA 1 j rfl hv
theorem Fr.l1(h:Fr w wr L)(hi:1<L.length):w.heap.size+1<wr.heap.size:=h.ltA 1 rfl hi
theorem Fr.c2(h:Fr w wr L)(j:Nat){v:Value}(hv:frAt L 2 j=some v):wr.cell? ⟨w.heap.size+1+1,j,none⟩=some v:=h.cellA 2 j rfl hv
theorem Fr.f2(h:Fr w wr L)(j:Nat){v:Value}(hv:frAt L 2 j=some v):wr.frozen? ⟨w.heap.size+1+1,j,none⟩=false:=h.frozA 2 j rfl hv
theorem Fr.l2(h:Fr w wr L)(hi:2<L.length):w.heap.size+1+1<wr.heap.size:=h.ltA 2 rfl hi
theorem Fr.c3(h:Fr w wr L)(j:Nat){v:Value}(hv:frAt L 3 j=some v):wr.cell? ⟨w.heap.size+1+1+1,j,none⟩=some v:=h.cellA 3 j rfl hv
theorem Fr.f3(h:Fr w wr L)(j:Nat){v:Value}(hv:frAt L 3 j=some v):wr.frozen? ⟨w.heap.size+1+1+1,j,none⟩=false:=h.frozA 3 j rfl hv
theorem Fr.l3(h:Fr w wr L)(hi:3<L.length):w.heap.size+1+1+1<wr.heap.size:=h.ltA 3 rfl hi
theorem Fr.c4(h:Fr w wr L)(j:Nat){v:Value}(hv:frAt L 4 j=some v):wr.cell? ⟨w.heap.size+1+1+1+1,j,none⟩=some v:=h.cellA 4 j rfl hv
theorem Fr.f4(h:Fr w wr L)(j:Nat){v:Value}(hv:frAt L 4 j=some v):wr.frozen? ⟨w.heap.size+1+1+1+1,j,none⟩=false:=h.frozA 4 j rfl hv
theorem Fr.l4(h:Fr w wr L)(hi:4<L.length):w.heap.size+1+1+1+1<wr.heap.size:=h.ltA 4 rfl hi
theorem Fr.c5(h:Fr w wr L)(j:Nat){v:Value}(hv:frAt L 5 j=some v):wr.cell? ⟨w.heap.size+1+1+1+1+1,j,none⟩=some v:=h.cellA 5 j rfl hv
theorem Fr.f5(h:Fr w wr L)(j:Nat){v:Value}(hv:frAt L 5 j=some v):wr.frozen? ⟨w.heap.size+1+1+1+1+1,j,none⟩=false:=h.frozA 5 j rfl hv
theorem Fr.l5(h:Fr w wr L)(hi:5<L.length):w.heap.size+1+1+1+1+1<wr.heap.size:=h.ltA 5 rfl hi
theorem Fr.xf0{w wr:World}{a0_0 a0_1 a0_2 a0_3 a1_0 a1_1 a2_0 a2_1 a2_2 a2_3 a3_0 a3_1:Value}{t0 t1 t2 t3:List Value}{tt:List (List Value)}(h:Fr w wr ((a0_0::a0_1::a0_2::a0_3::t0)::(a1_0::a1_1::t1)::(a2_0::a2_1::a2_2::a2_3::t2)::(a3_0::a3_1::t3)::tt)):w.heap.size<wr.heap.size/\wr.cell? ⟨w.heap.size,0,none⟩=some a0_0/\wr.frozen? ⟨w.heap.size,0,none⟩=false/\wr.cell? ⟨w.heap.size,1,none⟩=some a0_1/\wr.frozen? ⟨w.heap.size,1,none⟩=false/\wr.cell? ⟨w.heap.size,2,none⟩=some a0_2/\wr.frozen? ⟨w.heap.size,2,none⟩=false/\wr.cell? ⟨w.heap.size,3,none⟩=some a0_3/\wr.frozen? ⟨w.heap.size,3,none⟩=false/\w.heap.size+1<wr.heap.size/\wr.cell? ⟨w.heap.size+1,0,none⟩=some a1_0/\wr.frozen? ⟨w.heap.size+1,0,none⟩=false/\wr.cell? ⟨w.heap.size+1,1,none⟩=some a1_1/\wr.frozen? ⟨w.heap.size+1,1,none⟩=false/\w.heap.size+1+1<wr.heap.size/\wr.cell? ⟨w.heap.size+1+1,0,none⟩=some a2_0/\wr.frozen? ⟨w.heap.size+1+1,0,none⟩=false/\wr.cell? ⟨w.heap.size+1+1,1,none⟩=some a2_1/\wr.frozen? ⟨w.heap.size+1+1,1,none⟩=false/\wr.cell? ⟨w.heap.size+1+1,2,none⟩=some a2_2/\wr.frozen? ⟨w.heap.size+1+1,2,none⟩=false/\wr.cell? ⟨w.heap.size+1+1,3,none⟩=some a2_3/\wr.frozen? ⟨w.heap.size+1+1,3,none⟩=false/\w.heap.size+1+1+1<wr.heap.size/\wr.cell? ⟨w.heap.size+1+1+1,0,none⟩=some a3_0/\wr.frozen? ⟨w.heap.size+1+1+1,0,none⟩=false/\wr.cell? ⟨w.heap.size+1+1+1,1,none⟩=some a3_1/\wr.frozen? ⟨w.heap.size+1+1+1,1,none⟩=false:=
 ⟨h.l0 (by simp),h.c0 0 rfl,h.f0 0 rfl,h.c0 1 rfl,h.f0 1 rfl,h.c0 2 rfl,h.f0 2 rfl,h.c0 3 rfl,h.f0 3 rfl,h.l1 (by simp),h.c1 0 rfl,h.f1 0 rfl,h.c1 1 rfl,h.f1 1 rfl,h.l2 (by simp),h.c2 0 rfl,h.f2 0 rfl,h.c2 1 rfl,h.f2 1 rfl,h.c2 2 rfl,h.f2 2 rfl,h.c2 3 rfl,h.f2 3 rfl,h.l3 (by simp),h.c3 0 rfl,h.f3 0 rfl,h.c3 1 rfl,h.f3 1 rfl⟩
theorem Fr.xf1{w wr:World}{a0_0 a0_1 a0_2 a0_3 a1_0 a1_1 a1_2 a1_3 a2_0 a2_1 a2_2 a2_3:Value}{t0 t1 t2:List Value}{tt:List (List Value)}(h:Fr w wr ((a0_0::a0_1::a0_2::a0_3::t0)::(a1_0::a1_1::a1_2::a1_3::t1)::(a2_0::a2_1::a2_2::a2_3::t2)::tt)):w.heap.size<wr.heap.size/\wr.cell? ⟨w.heap.size,0,none⟩=some a0_0/\wr.frozen? ⟨w.heap.size,0,none⟩=false/\wr.cell? ⟨w.heap.size,1,none⟩=some a0_1/\wr.frozen? ⟨w.heap.size,1,none⟩=false/\wr.cell? ⟨w.heap.size,2,none⟩=some a0_2/\wr.frozen? ⟨w.heap.size,2,none⟩=false/\wr.cell? ⟨w.heap.size,3,none⟩=some a0_3/\wr.frozen? ⟨w.heap.size,3,none⟩=false/\w.heap.size+1<wr.heap.size/\wr.cell? ⟨w.heap.size+1,0,none⟩=some a1_0/\wr.frozen? ⟨w.heap.size+1,0,none⟩=false/\wr.cell? ⟨w.heap.size+1,1,none⟩=some a1_1/\wr.frozen? ⟨w.heap.size+1,1,none⟩=false/\wr.cell? ⟨w.heap.size+1,2,none⟩=some a1_2/\wr.frozen? ⟨w.heap.size+1,2,none⟩=false/\wr.cell? ⟨w.heap.size+1,3,none⟩=some a1_3/\wr.frozen? ⟨w.heap.size+1,3,none⟩=false/\w.heap.size+1+1<wr.heap.size/\wr.cell? ⟨w.heap.size+1+1,0,none⟩=some a2_0/\wr.frozen? ⟨w.heap.size+1+1,0,none⟩=false/\wr.cell? ⟨w.heap.size+1+1,1,none⟩=some a2_1/\wr.frozen? ⟨w.heap.size+1+1,1,none⟩=false/\wr.cell? ⟨w.heap.size+1+1,2,none⟩=some a2_2/\wr.frozen? ⟨w.heap.size+1+1,2,none⟩=false/\wr.cell? ⟨w.heap.size+1+1,3,none⟩=some a2_3/\wr.frozen? ⟨w.heap.size+1+1,3,none⟩=false:=
 ⟨h.l0 (by simp),h.c0 0 rfl,h.f0 0 rfl,h.c0 1 rfl,h.f0 1 rfl,h.c0 2 rfl,h.f0 2 rfl,h.c0 3 rfl,h.f0 3 rfl,h.l1 (by simp),h.c1 0 rfl,h.f1 0 rfl,h.c1 1 rfl,h.f1 1 rfl,h.c1 2 rfl,h.f1 2 rfl,h.c1 3 rfl,h.f1 3 rfl,h.l2 (by simp),h.c2 0 rfl,h.f2 0 rfl,h.c2 1 rfl,h.f2 1 rfl,h.c2 2 rfl,h.f2 2 rfl,h.c2 3 rfl,h.f2 3 rfl⟩
theorem Fr.start(w:World):Fr w w []:=⟨Below.refl _ _,Nat.le_refl _,fun i j v h=>by simp[frAt]at h,fun i j v h=>by simp[frAt]at h⟩
theorem Fr.below(h:Fr w wr L)(hb:Below wr.heap.size wr w2):Fr w w2 L:=
 ⟨h.b.trans (hb.mono h.b.size),Nat.le_trans h.z hb.size,fun i j v hv=>ac (h.cell i j v hv) hb,fun i j v hv=>aS (h.froz i j v hv) (h.cell i j v hv) hb⟩
theorem Fr.more(h:Fr w wr L)(t:World):Fr w (more wr t) L:=h.below (aa wr t)
theorem Fr.drew(h:Fr w wr L):Fr w wr.drew L:=⟨drw h.b,h.z,h.cell,h.froz⟩
theorem Fr.drewN(h:Fr w wr L)(n:Nat):Fr w (wr.drewN n) L:=⟨below_drewN' h.b n,h.z,h.cell,h.froz⟩
theorem Fr.alloc(h:Fr w wr L)(o:Obj):Fr w (wr.alloc o) L:=h.below ((Below.refl _ _).alloc (Nat.le_refl _) o)
theorem Fr.frm(h:Fr w wr L){S:Nat->Prop}(hf:Frm S wr w2)(hS:∀k,S k->w.heap.size<=k)(hn:∀k,S k->w.heap.size+L.length<=k):Fr w w2 L:=by
 have key:∀i j v,frAt L i j=some v->i<L.length:=fun i j v hv=>by
  unfold frAt at hv
  rcases hL:L[i]? with _|l
  ·rw[hL]at hv;cases hv
  ·exact(List.getElem?_eq_some_iff.1 hL).1
 refine⟨h.b.trans (hf.below h.b.size hS),Nat.le_trans h.z hf.size,fun i j v hv=>hf.cell' (h.cell i j v hv) fun hs=>?_,fun i j v hv=>?_⟩
 ·have:=hn _ hs;have:=key i j v hv;omega
 ·have hk:w.heap.size+i<wr.heap.size:=by have:=h.z;have:=key i j v hv;omega
  have e:=hf.block _ hk fun hs=>by have:=hn _ hs;have:=key i j v hv;omega
  have h2:=h.froz i j v hv
  simpa[World.frozen?,e]using h2
theorem eH{L:List (List Value)}{x:List Value}{i j:Nat}{v:Value}(h:frAt (L++[x]) i j=some v)(hi:i<L.length):frAt L i j=some v:=by
 unfold frAt at h ⊢
 rw[List.getElem?_append_left hi]at h;exact h
theorem Fr.allocT(h:Fr w wr L)(hz:wr.heap.size=w.heap.size+L.length)(cs:Array Value)(T:TypeId):Fr w (wr.alloc (D cs T)) (L++[cs.toList]):=by
 have ha:=h.alloc (D cs T)
 have new:∀i j v,frAt (L++[cs.toList]) i j=some v->¬i<L.length->i=L.length/\cs[j]? =some v:=fun i j v hv hi=>by
  unfold frAt at hv
  rw[List.getElem?_append_right (by omega)]at hv
  have:i-L.length=0:=by
   rcases Nat.eq_zero_or_pos (i-L.length)with h'|h'
   ·exact h'
   ·rw[List.getElem?_eq_none (by simp;omega)]at hv;cases hv
  rw[this]at hv
  simp at hv
  exact⟨by omega,by simpa using hv⟩
 refine⟨ha.b,by simp;omega,fun i j v hv=>?_,fun i j v hv=>?_⟩
 ·by_cases hi:i<L.length
  ·exact ha.cell i j v (eH hv hi)
  ·obtain⟨rfl,hc⟩:=new i j v hv hi
   rw[<-hz];simp[go_sem,hc]
 ·by_cases hi:i<L.length
  ·exact ha.froz i j v (eH hv hi)
  ·obtain⟨rfl,hc⟩:=new i j v hv hi
   rw[<-hz];simp[go_sem]
theorem Fr.set(h:Fr w wr L){b:Nat}(i j:Nat)(hb:b=w.heap.size+i){u:Value}(hu:frAt L i j=some u)(v:Value):Fr w (wr.setCell ⟨b,j,none⟩ v) (L.modify i (·.set j v)):=by
 subst hb;have hc:=h.cell i j u hu
 refine⟨stw h.b (by omega),by simp;exact h.z,fun i' j' v' hv=>?_,fun i' j' v' hv=>?_⟩
 ·by_cases hi:i'=i
  ·subst hi
   rcases hL:L[i']? with _|l
   ·simp[frAt,hL]at hu
   ·simp[frAt,hL]at hv hu
    by_cases hj:j'=j
    ·subst hj
     rw[List.getElem?_set_self (List.getElem?_eq_some_iff.1 hu).1]at hv;injection hv with hv;subst hv
     simp[go_sem,hc]
    ·rw[List.getElem?_set_ne (by omega)]at hv
     have:=h.cell i' j' v' (by simp[frAt,hL,hv])
     have hne:¬j'=j:=hj
     simp[go_sem,this,hne,Ne.symm hne]
  ·have:frAt L i' j'=some v':=by
    unfold frAt at hv ⊢;rw[List.getElem?_modify]at hv
    simp[Ne.symm hi]at hv
    exact hv
   have:=h.cell i' j' v' this
   have hne:¬w.heap.size+i'=w.heap.size+i:=by omega
   have hne2:¬w.heap.size+i=w.heap.size+i':=by omega
   simp[go_sem,this,hne,hne2]
   try omega
 ·have:∃u',frAt L i' j'=some u':=by
   unfold frAt at hv ⊢;rw[List.getElem?_modify]at hv
   rcases hL:L[i']? with _|l
   ·simp[hL]at hv
   ·by_cases hi:i=i'
    ·simp[hL,hi]at hv
     have:j'<l.length:=by have:=(List.getElem?_eq_some_iff.1 hv).1;simpa using this
     exact⟨l[j'],by simp[this]⟩
    ·simp[hL,hi]at hv
     exact⟨v',by simpa using hv⟩
  obtain⟨u',hu'⟩:=this;have:=h.froz i' j' u' hu'
  simp[go_sem,this]
end
open Go.RowKit
section
variable {P:Program}{ops:Array Oper}{md:Region.Mode}{w:World}{n:Nat}{val:Nat->Value}
def Cm(X:World):World->Prop:=fun w'=>∃t,w'=more X t
def QAll(P:Program)(w:World)(o:Oper)(a:Act)(v:Value):Prop:=∀X,Cm w X->∀w',Cm X w'->o.quietAt P a (Cm X) w' v
def qV(P:Program)(ops:Array Oper)(w:World)(n:Nat)(val:Nat->Value)(i:Nat)(K:Act->Prop)(a:Act):Prop:=
 match ops[i]? with
 |none=>K a
 |some o=>if Region.wanted o (yielded ops a.tmps)then(i=n\/QAll P w o a (val i))/\K (a.put o.dst (val i))else K (a.put o.dst undef)
theorem qV_mono{i:Nat}{a:Act}{K K':Act->Prop}(h:∀a,K a->K' a)(hh:qV P ops w n val i K a):qV P ops w n val i K' a:=by
 unfold qV at *
 split
 ·rename_i ho;simp only[ho]at hh;exact h _ hh
 ·rename_i o ho
  simp only[ho]at hh
  split
  ·rename_i hw;simp only[hw,if_true]at hh;exact⟨hh.1,h _ hh.2⟩
  ·rename_i hw;simp only[hw]at hh;exact h _ hh
def YV(P:Program)(ops:Array Oper)(w:World)(n:Nat)(val:Nat->Value)(i:Nat)(o:Oper)(v:Value)(a:Act):Prop:=
 (Region.wanted o (yielded ops a.tmps)=true/\v=val i/\(i=n\/QAll P w o a v))\/(Region.wanted o (yielded ops a.tmps)=false/\v=undef)
theorem YV.qV{i:Nat}{o:Oper}{v:Value}{a:Act}(hi:ops[i]? =some o)(hy:YV P ops w n val i o v a){K:Act->Prop}(h:K (a.put o.dst v)):qV P ops w n val i K a:=by
 unfold Go.Proofs.YtcmeoenkgmghkaaGreat.qV
 simp only[hi]
 rcases hy with⟨hw,rfl,hv⟩|⟨hw,rfl⟩
 ·simp only[hw,if_true];exact⟨hv,h⟩
 ·simp only[hw,Bool.false_eq_true,if_false];exact h
theorem yv_of_qV{i:Nat}{o:Oper}{a:Act}{K:Act->Prop}(hi:ops[i]? =some o)(h:qV P ops w n val i K a):∃v,YV P ops w n val i o v a/\K (a.put o.dst v):=by
 unfold qV at h
 simp only[hi]at h
 by_cases hw:Region.wanted o (yielded ops a.tmps)=true
 ·simp only[hw,if_true]at h
  exact⟨_,.inl ⟨hw,rfl,h.1⟩,h.2⟩
 ·simp only[hw]at h
  exact⟨undef,.inr ⟨by simpa using hw,rfl⟩,h⟩
theorem qV_put{i j:Nat}{oi oj:Oper}{v:Value}(hj:ops[j]? =some oj)(hap:oi.apart ops oj=true)
  (hsi:∀cs b,oi.op≠.select cs b) (hsj:∀cs b,oj.op≠.select cs b) {K:Act->Prop} {a:Act}
  (hy:YV P ops w n val i oi v a) (h:qV P ops w n val j K (a.put oi.dst v)):
  qV P ops w n val j (fun a'=>YV P ops w n val i oi v a'/\K (a'.put oi.dst v)) a:=by
 obtain⟨h1,h2,h3⟩:=Oper.apart_spec hap
 have keep:∀(a:Act),YV P ops w n val i oi v a->∀u,YV P ops w n val i oi v (a.put oj.dst u):=fun a hy u=>by
  have e:=execOp_put oi hsi a oj.dst u h3;have e2:=wanted_put oi a oj.dst u h3
  rcases hy with⟨hw,hv,hq⟩|⟨hw,hv⟩
  ·refine .inl ⟨by rw[e2];exact hw,hv,?_⟩
   rcases hq with hq|hq
   ·exact .inl hq
   ·refine .inr fun X hX w' hw'=>?_
    have:=hq X hX w' hw';unfold Oper.quietAt at *
    rw[e];exact this
  ·exact .inr ⟨by rw[e2];exact hw,hv⟩
 unfold qV at *
 simp only[hj]at *
 rw[wanted_put oj a oi.dst v h1]at h
 split
 ·rename_i hw
  simp only[hw,if_true]at h
  obtain⟨hq,hn⟩:=h
  refine⟨?_,keep a hy _,by rw[<-Act.put_comm a v _ h2];exact hn⟩
  rcases hq with hq|hq
  ·exact .inl hq
  ·refine .inr fun X hX w' hw'=>?_
   have:=hq X hX w' hw';unfold Oper.quietAt at *
   rwa [execOp_put oj hsj a oi.dst v h1]at this
 ·rename_i hw
  simp only[hw]at h
  exact⟨keep a hy _,by rw[<-Act.put_comm a v undef h2];exact h⟩
def eO(P:Program)(md:Region.Mode)(ops:Array Oper)(w:World)(n:Nat)(val:Nat->Value)(m x:Nat)(L:Array Bool->Act->Prop):Nat->Array Bool->Act->Prop
 | 0,listed,a=>L listed a
 |f+1,listed,a=>Region.ready md ops listed≠[]/\∀i∈Region.ready md ops listed,(i<m/\qV P ops w n val i (eO P md ops w n val m x L f (listed.setIfInBounds i true)) a)\/(m<=i/\x∈Region.ready md ops listed)
def sinkX(md:Region.Mode)(ops:Array Oper)(m x:Nat):Bool:=
 (List.range m).all fun i=>i==x||(List.range (m+1)).any fun j=>decide (i<j)&&j !=x&&Region.waitsFor md ops j i
theorem tail_waitsX{m x:Nat}{listed:Array Bool}(hs:sinkX md ops m x=true)(hc:Region.chainB md ops m=true)(hm:m<ops.size)(inv:HeadInv md ops m listed):
  ∀(d i:Nat),m-i=d->i<m->i≠x->listed.getD i true=false->∀t,m<=t->t∉Region.ready md ops listed:=by
 intro d
 induction d using Nat.strongRecOn with
 |_ d ih=>
  intro i hd hi hix hun t ht hr
  obtain⟨_,ot,hot,hall⟩:=mem_ready.1 hr;have htlt:t<ops.size:=(Array.getElem?_eq_some_iff.1 hot).1
  by_cases htm:t=m
  ·subst htm
   have h1:=List.all_eq_true.1 hs i (List.mem_range.2 hi)
   simp only[Bool.or_eq_true,beq_iff_eq]at h1
   obtain⟨j,hj,hj2⟩:=List.any_eq_true.1 (h1.resolve_left hix)
   simp only[Bool.and_eq_true,decide_eq_true_eq,bne_iff_ne,ne_eq]at hj2
   obtain⟨⟨hij,hjx⟩,hjw⟩:=hj2;obtain⟨oj,hoj,e,he,hb,hon⟩:=Region.waitsFor_spec hjw
   have hjle:j<=t:=by have:=List.mem_range.1 hj;omega
   by_cases hjt:j=t
   ·subst hjt
    have:oj=ot:=Option.some.inj (hoj.symm.trans hot);subst this;have h2:=hall e he hb;rw[hon,getD_both hun]at h2
    cases h2
   ·rcases hl:listed.getD j false with _|_
    ·have hjs:j<listed.size:=by rw[inv.size];omega
     exact ih (t-j) (by omega) j rfl (by omega) hjx (getD_in hjs hl) t (Nat.le_refl _) hr
    ·have h2:=inv.closed j oj hoj hl e he hb;rw[hon,getD_both hun]at h2
     cases h2
  ·have h1:=List.all_eq_true.1 hc t (List.mem_range.2 htlt)
   simp only[Bool.or_eq_true,decide_eq_true_eq]at h1
   rcases h1 with h1|h1
   ·omega
   ·obtain⟨o',ho',e,he,hb,hon⟩:=Region.waitsFor_spec h1
    have:o'=ot:=Option.some.inj (ho'.symm.trans hot);subst this;have h2:=hall e he hb
    rw[hon,getD_both (inv.tail (t-1) (by omega) (by omega))]at h2
    cases h2
theorem wpAnyV_first{m x i:Nat}{oi:Oper}{v:Value}{L:Array Bool->Act->Prop}(hi:ops[i]? =some oi)(hsel:∀(j:Nat) (o:Oper) cs b,ops[j]? =some o->o.op≠.select cs b)
  (hs:sinkX md ops m x=true) (hc:Region.chainB md ops m=true) (hm:m<ops.size) (him:i<m) (hdone:∀listed a,L listed a->∀j∈Region.ready md ops listed,m<=j):
  ∀(f:Nat) (listed:Array Bool) (a:Act),HeadInv md ops m listed→
    (∀j oj,ops[j]? =some oj->j≠i->listed.getD j true=false->(∀e∈oj.after,Region.binds md e=true->e.on≠i)->oi.apart ops oj=true)->
    i∈Region.ready md ops listed->YV P ops w n val i oi v a->
    eO P md ops w n val m x L f (listed.setIfInBounds i true) (a.put oi.dst v)->eO P md ops w n val m x L (f+1) listed a:=by
 intro f
 have low:∀(listed:Array Bool),HeadInv md ops m listed->i∈Region.ready md ops listed->∀j∈Region.ready md ops listed,j<m\/(m<=j/\x∈Region.ready md ops listed):=fun listed inv hr j hj=>by
  rcases Nat.lt_or_ge j m with h|h
  ·exact .inl h
  ·by_cases hix:i=x
   ·subst hix;exact .inr ⟨h,hr⟩
   ·exact absurd hj (tail_waitsX hs hc hm inv _ i rfl him hix (mem_ready.1 hr).1 j h)
 induction f with
 |zero=>
  intro listed a inv _ hr hy H
  refine⟨fun h=>(by rw[h]at hr;cases hr),fun j hj=>?_⟩
  rcases low listed inv hr j hj with hjm|hjm
  ·refine .inl ⟨hjm,?_⟩
   by_cases hji:j=i
   ·subst hji;exact hy.qV hi H
   ·have:=hdone _ _ H j (ready_mono hj hji)
    omega
  ·exact .inr hjm
 |succ f ih=>
  intro listed a inv hfree hr hy H
  refine⟨fun h=>(by rw[h]at hr;cases hr),fun j hj=>?_⟩
  rcases low listed inv hr j hj with hjm|hjm
  ·refine .inl ⟨hjm,?_⟩
   by_cases hji:j=i
   ·subst hji;exact hy.qV hi H
   ·have h1:=((H.2 j (ready_mono hj hji)).resolve_right fun h=>by omega).2
    obtain⟨hjun,oj,hoj,hall⟩:=mem_ready.1 hj
    have hnot:∀e∈oj.after,Region.binds md e=true->e.on≠i:=fun e he hb heq=>by
     have h1:=hall e he hb;rw[heq,getD_both (mem_ready.1 hr).1]at h1
     cases h1
    have h2:=qV_put hoj (hfree j oj hoj hji hjun hnot) (fun cs b=>hsel i oi cs b hi) (fun cs b=>hsel j oj cs b hoj) hy h1
    refine qV_mono (fun a' h3=>ih (listed.setIfInBounds j true) a' (inv.set hj hjm) (fun k ok hk hki hun hno=>hfree k ok hk hki ?_ hno) (ready_mono hr (Ne.symm hji)) h3.1 ?_) h2
    ·by_cases hjk:j=k
     ·subst hjk;exact hjun
     ·rw[getD_set_ne true hjk]at hun;exact hun
    ·rw[Array.setIfInBounds_comm _ _ hji]
     exact h3.2
  ·exact .inr hjm
def wpV(P:Program)(ops:Array Oper)(w:World)(n:Nat)(val:Nat->Value)(Q:Act->Prop):List Oper->Nat->Act->Prop
 | [],_,a=>Q a
 |o::l,k,a=>if Region.wanted o (yielded ops a.tmps)then(k=n\/QAll P w o a (val k))/\wpV P ops w n val Q l (k+1) (a.put o.dst (val k))else wpV P ops w n val Q l (k+1) (a.put o.dst undef)
theorem kG{m x g:Nat}{Lq:Act->Prop}(hsel:Region.noSelect ops=true)(hs:sinkX md ops m x=true)(hc:Region.chainB md ops m=true)(hm:m<ops.size):
  ∀(l:List Oper) (k:Nat) (listed:Array Bool) (a:Act),(∀j,j<l.length->l[j]? =ops[k+j]?)->k+l.length=m->HeadInv md ops m listed->(∀j,j<k->listed.getD j false=true)->
  Region.lexHead md ops g l.length k listed=true->wpV P ops w n val Lq l k a->
  eO P md ops w n val m x (fun listed' a'=>Region.seqB md ops g m listed'=true/\(∀j,j<m->listed'.getD j false=true)/\Lq a') l.length listed a
 | [],k,listed,a,_,hk,_,hd,hB,h=>by
   have:k=m:=by simpa using hk
   subst this
   exact⟨by simpa [Region.lexHead]using hB,hd,h⟩
 |o::l,k,listed,a,hl,hk,inv,hd,hB,h=>by
   have h0:ops[k]? =some o:=by simpa using (hl 0 (by simp)).symm
   simp only [List.length_cons,Region.lexHead,Bool.and_eq_true]at hB
   obtain⟨⟨hr,hf⟩,hB'⟩:=hB
   have hkn:k< m:=by simp only [List.length_cons]at hk;omega
   have hr':k∈Region.ready md ops listed:=by simpa using hr
   have hst:qV P ops w n val k (wpV P ops w n val Lq l (k+1)) a:=by
     unfold qV;simp only [h0]
     unfold wpV at h
     exact h
   obtain⟨v,hy,hK⟩:=yv_of_qV h0 hst
   refine wpAnyV_first h0 (Region.noSelect_spec hsel) hs hc hm hkn (fun listed' a' hL=>seqB_ready hL.1) l.length listed a inv (Region.free_spec h0 hf) hr' hy
     (kG hsel hs hc hm l (k+1) _ _ (fun j hj=>by have:=hl (j+1) (by simp;omega);simpa [Nat.add_assoc,Nat.add_comm 1 j]using this) (by simp only [List.length_cons]at hk;omega) (inv.set hr' hkn) (fun j hj=>?_) hB' hK)
   by_cases e:j=k
   · subst e
     have:j< listed.size:=by rw [inv.size];omega
     simp [this]
   ·exact getD_set_true (hd j (by omega))
theorem mE(X:World):Cm X X:=eC (Below.refl _ _)
theorem cm_alloc{X Y:World}(h:Cm X Y)(o:Obj):Cm X (Y.alloc o):=by
 obtain⟨t,rfl⟩:=h
 exact eC ((aa X t).alloc (ai X t) o)
def depB(md:Region.Mode)(ops:Array Oper)(o:Oper):Array Bool:=(Array.range ops.size).map fun j=>o.after.any fun e=>Region.binds md e&&e.on==j
theorem depB_no{x j:Nat}{ox:Oper}{listed:Array Bool}(hx:ops[x]? =some ox)(hr:x∈Region.ready md ops listed)(hj:j<ops.size)(hun:listed.getD j true=false):(depB md ops ox).getD j true=false:=by
 obtain⟨_,o,ho,hall⟩:=mem_ready.1 hr;have:o=ox:=Option.some.inj (ho.symm.trans hx);subst this
 have e:(depB md ops o).getD j true=o.after.any fun e=>Region.binds md e&&e.on==j:=by simp[depB,hj]
 rw[e]
 apply Bool.eq_false_iff.2
 intro h
 obtain⟨e,he,hb⟩:=Array.any_eq_true'.1 h
 simp only[Bool.and_eq_true,beq_iff_eq]at hb
 have h2:=hall e he hb.1;rw[hb.2,getD_both hun]at h2
 cases h2
def PureO(P:Program)(o:Oper):Prop:=o.guard=none/\∀(a:Act) (C:World->Prop) (w1:World) (v:Value),o.quietAt P a C w1 v->∀w2,(execOp a.eval o).run P w2= .ok (.value v) w2
theorem aZ(P:Program)(o:Oper)(x:Operand)(k:Nat)(ho:o.op= .extract x k)(hg:o.guard=none):PureO P o:=by
 refine⟨hg,fun a C w1 v h w2=>?_⟩
 unfold Oper.quietAt at h
 simp only[execOp,ho]at h ⊢
 generalize a.eval x=y at h ⊢
 cases y with
 |tuple vs=>
  rcases hk:vs[k]? with _|u
  ·simp[hk,Oper.quietUpon,go_sem]at h
  ·simp[hk,Oper.quietUpon,go_sem]at h ⊢
   exact h
 |_=>simp[Oper.quietUpon,go_sem]at h
theorem fY{m x g:Nat}{L:Array Bool->Act->Prop}{Q':Exit->Act->World->Prop}{X:World}{ox:Oper}(hx:ops[x]? =some ox)(hxm:x<m)(hxn:x≠n)(hpx:PureO P ox)(hsel:Region.noSelect ops=true)(hfx:Region.free md ops (depB md ops ox) x=true)
  (hQ:∀c a v w,Q' (.panic c) (Act.put a ox.dst v) w->Q' (.panic c) a w)
  (hX:Cm w X) (hnm:n<ops.size) (hL:∀listed a w',Cm X w'->L listed a->wpAny P md ops Q' g listed a w'):
  ∀(f:Nat) (listed:Array Bool) (a:Act) (w':World),listed.size=ops.size->Cm X w'->listed.getD n false=true->eO P md ops w n val m x L f listed a->wpAny P md ops Q' (f+g) listed a w'
 | 0,listed,a,w',_,hw,_,h=>by rw[Nat.zero_add];exact hL _ _ _ hw h
 |f+1,listed,a,w',hz,hw,hl,h=>by
   rw [show f+1+g=(f+g)+1 by omega]
   by_cases hxr:x∈Region.ready md ops listed
   · have hq := ((h.2 x hxr).resolve_right fun h => by omega).2
     have hwt:Region.wanted ox (yielded ops a.tmps)=true:=by unfold Region.wanted;rw [hpx.1]
     unfold qV at hq
     simp only [hx,hwt,if_true]at hq
     have hy:Yields P ops ox (val x) a:= .inl ⟨hwt,hpx.2 a _ _ _ ((hq.1.resolve_left hxn) X hX w' hw)⟩
     refine wpAny_first hx (Region.noSelect_spec hsel) (fun c a w h=>hQ c a (val x) w h) (f+g) listed a w' (fun j oj hoj hjx hun hno=>Region.free_spec hx hfx j oj hoj hjx ?_ hno) hxr hy ?_
     ·exact depB_no hx hxr (Array.getElem?_eq_some_iff.1 hoj).1 hun
     · refine fY hx hxm hxn hpx hsel hfx hQ hX hnm hL f _ _ w' (by simpa using hz) hw ?_ hq.2
       rw [getD_set_ne false hxn];exact hl
   · refine ⟨fun h0 => absurd h0 h.1, fun i hi => ?_⟩
     have hin:i≠n:=by
       intro e
       subst e;have h1:=(mem_ready.1 hi).1
       rw [Array.getD_eq_getD_getElem?,Array.getElem?_eq_getElem (by omega)]at hl h1
       simp at hl h1
       rw [hl]at h1;cases h1
     have hq:=((h.2 i hi).resolve_right fun h=>hxr h.2).2
     have hq2:qOp P ops (Cm X) i (eO P md ops w n val m x L f (listed.setIfInBounds i true)) a:=by
       unfold qV at hq;unfold qOp
       split
       ·rename_i ho;simp only [ho]at hq;exact hq
       · rename_i o ho
         simp only [ho]at hq
         split
         · rename_i hw; simp only [hw, if_true] at hq
           exact⟨val i,(hq.1.resolve_left hin) X hX,hq.2⟩
         ·rename_i hw;simp only [hw]at hq;exact hq
     refine wpOp_of_qOp hw (fun a' w'' hw'' h'=>fY hx hxm hxn hpx hsel hfx hQ hX hnm hL f _ a' w'' (by simpa using hz) hw'' ?_ h') hq2
     rw [getD_set_ne false hin];exact hl
theorem fZ{m x g:Nat}{L:Value->Array Bool->Act->Prop}{Q':Exit->Act->World->Prop}{on ox:Oper}(hx:ops[x]? =some ox)(hxm:x<m)(hxn:x≠n)(hpx:PureO P ox)(hsel:Region.noSelect ops=true)(hfx:Region.free md ops (depB md ops ox) x=true)
  (hQ:∀c a v w,Q' (.panic c) (Act.put a ox.dst v) w->Q' (.panic c) a w)
  (hn:ops[n]? =some on) (hg:on.guard=none) {obj:Obj} (hnm2:n<m)
  (hal:∀(a:Act) (W:World),(execOp a.eval on).run P W= .ok (.value (r (some ⟨W.heap.size,0,none⟩))) (W.alloc obj))
  (hL:∀W w' listed a,Cm w W->Cm (W.alloc obj) w'->L (r (some ⟨W.heap.size,0,none⟩)) listed a->wpAny P md ops Q' g listed a w')
  (hLn:∀p listed a,L p listed a->listed.getD n false=true):
  ∀(f:Nat) (listed:Array Bool) (a:Act) (w':World),listed.size=ops.size→Cm w w'→listed.getD n false=false→
    (∀p,eO P md ops w n (fun i=>if i=n then p else val i) m x (L p) f listed a)->wpAny P md ops Q' (f+g) listed a w'
 | 0,listed,a,w',_,hw,hl,h=>by
   have h1:=hLn _ _ _ (h (r none))
   rw [hl]at h1;cases h1
 |f+1,listed,a,w',hz,hw,hl,h=>by
   have hnm:n< ops.size:=(Array.getElem?_eq_some_iff.1 hn).1
   rw [show f+1+g=(f+g)+1 by omega]
   by_cases hxr:x∈Region.ready md ops listed
   · have hwt : Region.wanted ox (yielded ops a.tmps) = true := by unfold Region.wanted; rw [hpx.1]
     have hq:∀p,(x=n\/QAll P w ox a (val x))/\eO P md ops w n (fun i=>if i=n then p else val i) m x (L p) f (listed.setIfInBounds x true) (a.put ox.dst (val x)):=fun p=>by
       have hq:=(((h p).2 x hxr).resolve_right fun h=>by omega).2
       unfold qV at hq
       simp only [hx,hwt,if_true,if_neg hxn]at hq
       exact hq
     have hy:Yields P ops ox (val x) a:= .inl ⟨hwt,hpx.2 a _ _ _ (((hq undef).1.resolve_left hxn) w (mE w) w' hw)⟩
     refine wpAny_first hx (Region.noSelect_spec hsel) (fun c a w h=>hQ c a (val x) w h) (f+g) listed a w' (fun j oj hoj hjx hun hno=>Region.free_spec hx hfx j oj hoj hjx ?_ hno) hxr hy ?_
     ·exact depB_no hx hxr (Array.getElem?_eq_some_iff.1 hoj).1 hun
     · refine fZ hx hxm hxn hpx hsel hfx hQ hn hg hnm2 hal hL hLn f _ _ w' (by simpa using hz) hw ?_ fun p => (hq p).2
       rw [getD_set_ne false hxn];exact hl
   · refine ⟨fun h0 => absurd h0 (h undef).1, fun i hi => ?_⟩
     by_cases hin:i=n
     · subst hin
       have hq:=(((h (r (some ⟨w'.heap.size,0,none⟩))).2 i hi).resolve_right fun h=>hxr h.2).2
       unfold qV at hq
       simp only [hn]at hq
       have hwt:Region.wanted on (yielded ops a.tmps)=true:=by unfold Region.wanted;rw [hg]
       simp only [hwt,if_true]at hq
       unfold wpOp
       simp only [hn,hwt,if_true]
       refine .inl ?_
       unfold Oper.wp;rw [hal a w']
       show wpAny P md ops Q' (f+g) (listed.setIfInBounds i true) (a.put on.dst (r (some ⟨w'.heap.size,0,none⟩))) (w'.alloc obj)
       refine fY hx hxm hxn hpx hsel hfx hQ (cm_alloc hw obj) hnm (fun listed' a' w'' hw'' hL'=>hL w' w'' listed' a' hw hw'' hL') f _ _ _ (by simpa using hz) (mE _) ?_ hq.2
       have:i< listed.size:=by omega
       simp [this]
     · have hq2 : qOp P ops (Cm w) i (fun a' => ∀ p, eO P md ops w n (fun i => if i = n then p else val i) m x (L p) f (listed.setIfInBounds i true) a') a := by
         unfold qOp
         cases ho:ops[i]? with
         |none=>
           simp only
           intro p
           have hq:=(((h p).2 i hi).resolve_right fun h=>hxr h.2).2
           unfold qV at hq
           simp only [ho]at hq
           exact hq
         |some o=>
           simp only
           split
           · rename_i hwt
             have key:∀p,(i=n\/QAll P w o a (val i))/\eO P md ops w n (fun i=>if i=n then p else val i) m x (L p) f (listed.setIfInBounds i true) (a.put o.dst (val i)):=fun p=>by
               have hq:=(((h p).2 i hi).resolve_right fun h=>hxr h.2).2
               unfold qV at hq
               simp only [ho,hwt,if_true,if_neg hin]at hq
               exact hq
             exact⟨val i,((key undef).1.resolve_left hin) w (mE w),fun p=>(key p).2⟩
           · rename_i hwt
             intro p
             have hq:=(((h p).2 i hi).resolve_right fun h=>hxr h.2).2
             unfold qV at hq
             simp only [ho,hwt]at hq
             exact hq
       refine wpOp_of_qOp hw (fun a' w'' hw'' h'=>fZ hx hxm hxn hpx hsel hfx hQ hn hg hnm2 hal hL hLn f _ a' w'' (by simpa using hz) hw'' ?_ h') hq2
       rw [getD_set_ne false hin];exact hl
def dstB:List Oper->List Nat->Nat->Bool
 | [],_,_=>true
 |o::l,ds,z=>match o.dst with|some d=>decide (d<z) && !ds.contains d&&dstB l (d::ds) z|none=>false
theorem j8{C:World->Prop}{aF:Act}:∀{l:List Oper} {ds:List Nat} {a:Act},dstB l ds a.tmps.size=true->wpQuiet P ops C (fun a'=>a'=aF) l a->∀d∈ds,aF.tmps.getD d undef=a.tmps.getD d undef
 | [],ds,a,_,h,d,_=>by
   have:a=aF:=h;rw [this]
 |o::l,ds,a,hB,h,d,hd=>by
   unfold dstB at hB
   cases hdst:o.dst with
   |none=>rw [hdst]at hB;cases hB
   |some d0=>
     rw [hdst]at hB
     simp only [Bool.and_eq_true,decide_eq_true_eq,Bool.not_eq_true']at hB
     obtain⟨⟨-,h2⟩,h3⟩:=hB
     have hne:d0≠d:=by
       intro e
       subst e;rw [List.contains_eq_mem]at h2
       simp at h2
       exact h2 hd
     have key:∀v,wpQuiet P ops C (fun a'=>a'=aF) l (a.put (some d0) v)->aF.tmps.getD d undef=a.tmps.getD d undef:=fun v hv=>by
       have:=j8 (ds:=d0::ds) (a:=a.put (some d0) v) (by simpa [Act.put]using h3) hv d (by simp [hd])
       rw [this]
       simp [Act.put,Array.getElem?_setIfInBounds,hne]
     unfold wpQuiet at h;rw [hdst]at h
     split at h
     · obtain ⟨v, _, hv⟩ := h
       rw [hdst]at hv
       exact key v hv
     ·exact key undef h
theorem frame_val{C:World->Prop}{aF:Act}{l:List Oper}{ds:List Nat}{a:Act}{d:Nat}{v:Value}(hd:d<a.tmps.size)(hB:dstB l (d::ds) a.tmps.size=true)(h:wpQuiet P ops C (fun a'=>a'=aF) l (a.put (some d) v)):v=aF.tmps.getD d undef:=by
 have:=j8 (ds:=d::ds) (a:=a.put (some d) v) (by simpa[Act.put]using hB) h d (by simp)
 rw[this]
 simp[Act.put,hd]
theorem eN{aF:Act}(Q:Act->Prop)(hQ:Q aF){dn:Nat}{on:Oper}(p:Value):
  ∀(l:List Oper) (k:Nat) (ds:List Nat) (a:Act),k+l.length=n→dstB l ds a.tmps.size=true→
    (∀i,k<=i->i< n-> ∀o,l[i-k]? =some o->val i=aF.tmps.getD (o.dst.getD 0) undef)->
    (∀X,Cm w X->wpQuiet P ops (Cm X) (fun a'=>a'=aF) l a)->wpV P ops w n (fun i=>if i=n then p else val i) (fun a'=>Q a') l k a
 | [],k,ds,a,_,_,_,h=>by
   have:a=aF:=h w (mE w)
   rw [this];exact hQ
 |o::l,k,ds,a,hk,hB,hv,h=>by
   unfold dstB at hB
   cases hdst:o.dst with
   |none=>rw [hdst]at hB;cases hB
   |some d0=>
     rw [hdst]at hB
     simp only [Bool.and_eq_true,decide_eq_true_eq,Bool.not_eq_true']at hB
     obtain⟨⟨h1, -⟩,h3⟩:=hB
     have hkn:k≠n:=by simp at hk;omega
     have hval:val k=aF.tmps.getD d0 undef:=by have:=hv k (Nat.le_refl _) (by simp at hk;omega) o (by simp);rw [hdst]at this;exact this
     have hv':∀i,k+1<=i->i< n-> ∀o,l[i-(k+1)]? =some o->val i=aF.tmps.getD (o.dst.getD 0) undef:=fun i hi1 hi2 o' ho'=>hv i (by omega) hi2 o' (by
       rw [show i-k=(i-(k+1))+1 by omega];simpa using ho')
     unfold wpV
     split
     · rename_i hw
       refine⟨.inr fun X hX=>?_,?_⟩
       · have hX' := h X hX
         unfold wpQuiet at hX';rw [if_pos hw]at hX';obtain⟨v,hq,hr⟩:=hX';rw [hdst]at hr;rw [hval, <-frame_val h1 h3 hr]
         exact hq
       · refine eN Q hQ (dn := dn) (on := on) p l (k + 1) (d0 :: ds) _ (by simp at hk ⊢; omega) (by rw [hdst]; simpa [Act.put] using h3) hv' fun X hX => ?_
         have hX':=h X hX;unfold wpQuiet at hX';rw [if_pos hw]at hX';obtain⟨v, -,hr⟩:=hX';rw [hdst]at hr ⊢;rw [hval, <-frame_val h1 h3 hr]
         exact hr
     · rename_i hw
       refine eN Q hQ (dn:=dn) (on:=on) p l (k+1) (d0::ds) _ (by simp at hk ⊢;omega) (by rw [hdst];simpa [Act.put]using h3) hv' fun X hX=>?_
       have hX':=h X hX;unfold wpQuiet at hX';rw [if_neg hw]at hX'
       exact hX'
theorem wpV_app(Q:Act->Prop):∀(l:List Oper) (k:Nat) (a:Act) (o:Oper),k+l.length=n->o.guard=none->(∀a',Q a'->True)->
  wpV P ops w n val (fun a'=>Q (a'.put o.dst (val n))) l k a->wpV P ops w n val Q (l++[o]) k a
 | [],k,a,o,hk,hg,_,h=>by
   have hkn:k=n:=by simpa using hk
   subst hkn
   have hwt:Region.wanted o (yielded ops a.tmps)=true:=by unfold Region.wanted;rw [hg]
   show wpV P ops w k val Q [o] k a
   unfold wpV;rw [if_pos hwt]
   exact⟨.inl rfl,h⟩
 |x::l,k,a,o,hk,hg,ht,h=>by
   show wpV P ops w n val Q (x::(l++[o])) k a
   unfold wpV at h ⊢
   split
   · rename_i hw
     rw [if_pos hw]at h
     exact⟨h.1,wpV_app Q l (k+1) _ o (by simp at hk ⊢;omega) hg ht h.2⟩
   · rename_i hw
     rw [if_neg hw]at h
     exact wpV_app Q l (k+1) _ o (by simp at hk ⊢;omega) hg ht h
def blkB(md:Region.Mode)(ops:Array Oper)(n x:Nat):Bool:=
 Region.noSelect ops&&decide (n+1<ops.size)&&decide (x<n)&&sinkX md ops (n+1) x&&Region.chainB md ops (n+1)&&Region.lexHead md ops (ops.size-(n+1)) (n+1) 0 (Array.replicate ops.size false)&&(match ops[x]? with|some ox=>Region.free md ops (depB md ops ox) x|none=>false)
theorem aQ{id:Nat}{Q:Exit->Act->World->Prop}{a:Act}{l:List Oper}(n x dn:Nat)(on ox:Oper)(obj:Obj)(hm:P.follows .mixedOrders=true)(hB:blkB .any l.toArray n x=true)
  (hn:l[n]? =some on) (hg:on.guard=none) (hdn:on.dst=some dn) (hal:∀(a:Act) (W:World),(execOp a.eval on).run P W= .ok (.value (r (some ⟨W.heap.size,0,none⟩))) (W.alloc obj))
  (hx:l[x]? =some ox) (hpx:PureO P ox) (hQ:∀c a v w,Q (.panic c) (Act.put a ox.dst v) w->Q (.panic c) a w)
  (hD:dstB (l.take n) [] a.tmps.size=true)
  (h:∃aF,(∀X,(∃t,X=more w t)→wpQuiet P l.toArray (fun w'=>∃t,w'=more X t) (fun a'=>a'=aF) (l.take n) a)∧
   ∀t1 t2,wpList P l.toArray Q (l.drop (n+1)) (aF.put (some dn) (r (some ⟨(more w t1).heap.size,0,none⟩))) (more ((more w t1).alloc obj) t2)):(Code.region id l.toArray true).wp P Q a w:=by
 obtain⟨aF,h,hT⟩:=h
 simp only[blkB,Bool.and_eq_true,decide_eq_true_eq]at hB
 obtain⟨⟨⟨⟨⟨⟨hsel,hsz⟩,hxn⟩,hs⟩,hc⟩,hlex⟩,hfx⟩:=hB
 have hx0:l.toArray[x]? =some ox:=by simpa using hx
 rw[hx0]at hfx
 simp only at hfx
 have hsz':n+1<l.length:=by simpa using hsz
 have htl:(l.take (n+1)).length=n+1:=by simp;omega
 have hdl:(l.drop (n+1)).length=l.toArray.size-(n+1):=by simp
 have inv0:HeadInv .any l.toArray (n+1) (Array.replicate l.toArray.size false):=
  ⟨by simp,fun j oj _ hl=>(by rw[getD_replicate_false]at hl;cases hl),fun t _ ht=>getD_in (by simpa using ht) (getD_replicate_false _ _)⟩
 have htk:l.take (n+1)=l.take n++[on]:=by
  rw[List.take_add_one,hn];rfl
 let val:Nat->Value:=fun i=>aF.tmps.getD (((l[i]?.bind (·.dst))).getD 0) undef
 have H:∀p,eO P .any l.toArray w n (fun i=>if i=n then p else val i) (n+1) x (fun listed' a'=>Region.seqB .any l.toArray (l.toArray.size-(n+1)) (n+1) listed'=true/\(∀j,j<n+1->listed'.getD j false=true)/\a'=aF.put (some dn) p) (n+1) (Array.replicate l.toArray.size false) a:=fun p=>by
  have hV:wpV P l.toArray w n (fun i=>if i=n then p else val i) (fun a'=>a'=aF.put (some dn) p) (l.take (n+1)) 0 a:=by
   rw[htk]
   refine wpV_app _ (l.take n) 0 a on (by simp;omega) hg (fun _ _=>trivial) ?_
   rw[hdn]
   simp only[if_true]
   refine eN (fun a'=>a'.put (some dn) p=aF.put (some dn) p) rfl (dn:=dn) (on:=on) p (l.take n) 0 [] a (by simp;omega) hD (fun i _ hi o ho=>?_) h
   show aF.tmps.getD (((l[i]?.bind (·.dst))).getD 0) undef=_
   rw[Nat.sub_zero,List.getElem?_take_of_lt hi]at ho
   rw[ho];rfl
  have:=kG (md:=.any) (P:=P) (w:=w) (n:=n) (x:=x) (val:=fun i=>if i=n then p else val i) (g:=l.toArray.size-(n+1)) hsel hs hc hsz (l.take (n+1)) 0 (Array.replicate l.toArray.size false) a (fun j hj=>by
   have hj':j<n+1:=by rw[htl]at hj;exact hj
   simp[hj']) (by simpa using htl) inv0 (fun j hj=>absurd hj (by omega)) (by rw[htl];exact hlex) hV
  rwa [htl]at this
 refine wp_region_any hm ?_
 have:=fZ (md:=.any) (w:=w) (Q':=Q) (g:=l.toArray.size-(n+1)) (obj:=obj) (L:=fun p listed' a'=>Region.seqB .any l.toArray (l.toArray.size-(n+1)) (n+1) listed'=true/\(∀j,j<n+1->listed'.getD j false=true)/\a'=aF.put (some dn) p)
  (show l.toArray[x]? =some ox by simpa using hx) (by omega) (by omega) hpx hsel hfx hQ (show l.toArray[n]? =some on by simpa using hn) hg (by omega) hal
  (fun W w' listed a' hW hw' hL=>by
   obtain⟨t1,rfl⟩:=hW;obtain⟨t2,rfl⟩:=hw';obtain⟨h1,_,h2⟩:=hL;subst h2
   have:=wpAny_of_seq (md:=.any) (Q':=Q) (l.drop (n+1)) (n+1) listed _ _ (fun j=>by simp[List.getElem?_drop]) (by rw[hdl];exact h1) (hT t1 t2)
   rwa [hdl]at this)
  (fun p listed a' hL=>hL.2.1 n (by omega)) (n+1) (Array.replicate l.toArray.size false) a { w with drawn:=w.drawn+1 } (by simp) (eC ⟨rfl,rfl,rfl,Nat.le_refl _,fun _ _=>rfl⟩) (getD_replicate_false _ _) H
 rw[show n+1+(l.toArray.size-(n+1))=l.toArray.size by simp;omega]at this
 exact this
end
theorem aV(W t1 t2:World)(cs:Array Value)(T:TypeId)(j:Nat){v:Value}(h:cs[j]? =some v):(more ((more W t1).alloc (D cs T)) t2).cell? ⟨(more W t1).heap.size,j,none⟩=some v:=
 (kj _ t2 _ (by simp)).trans (by simp[go_sem,h])
theorem aU(W t1 t2:World)(cs:Array Value)(T:TypeId)(j:Nat):(more ((more W t1).alloc (D cs T)) t2).frozen? ⟨(more W t1).heap.size,j,none⟩=false:=
 (gn _ t2 _ (by simp)).trans (by simp[go_sem])
theorem fW(W t1 t2:World)(o:Obj):(more W t1).heap.size<(more ((more W t1).alloc o) t2).heap.size:=by
 have:=ai ((more W t1).alloc o) t2;simp at this;omega
open Go.RowKit
theorem lR(w:World){base:Nat}(e:TypeId){z n:Nat}(cs:Array Value)(hb:base<=w.heap.size)(hm:n<=maxLen)(hs:cs.size=n*z):
  (w.alloc (D cs e)).ownsRow base e z (q (some ⟨w.heap.size,0,none⟩) n n) n cs.toList:=
 ⟨by simp[hs],.inr ⟨w.heap.size,n,cs,rfl,hb,heap_alloc_new w _,Nat.le_refl _,hm,hs,by rw[List.take_of_length_le (by simp[hs])]⟩⟩
theorem OwnS.made(w:World){base:Nat}(e:TypeId)(xs:List Int){n:Nat}(cs:Array Value)(hn:xs.length=n)(hc:cs.toList=xs.map (Value.int .i64))(hb:base<=w.heap.size)(hm:n<=maxLen):
  OwnS (w.alloc (D cs e)) base e (q (some ⟨w.heap.size,0,none⟩) n n) xs:=by
 unfold OwnS;rw[<-hc,hn]
 exact lR w e cs hb hm (by rw[Nat.mul_one,<-Array.length_toList,hc,List.length_map,hn])
theorem row_block{w:World}{base:Nat}{e:TypeId}{z n:Nat}{v:Value}{xs:List Value}(h:w.ownsRow base e z v n xs):∀k,some k=v.ownBlock->base<=k:=fun k hk=>(World.ownsRow.lt h k hk.symm).1
theorem Fr.grow{w W w1:World}{L:List (List Value)}(h:Fr w W L){v:Value}(hg:W.grownBy w1 v.ownBlock){base:Nat}{e:TypeId}{z n:Nat}{xs:List Value}(ho:W.ownsRow base e z v n xs)(hb:w.heap.size+L.length<=base):Fr w w1 L:=
 h.frm (Frm.of_grown hg) (fun k hk=>by have:=row_block ho k hk;omega) (fun k hk=>by have:=row_block ho k hk;omega)
theorem OwnS.alloc'{w:World}{base:Nat}{e:TypeId}{v:Value}{xs:List Int}(h:OwnS w base e v xs)(o:Obj):OwnS (w.alloc o) base e v xs:=h.below ((Below.refl _ _).alloc (Nat.le_refl _) o)
theorem row_alloc{w:World}{base:Nat}{e:TypeId}{z n:Nat}{v:Value}{xs:List Value}(h:w.ownsRow base e z v n xs)(o:Obj):(w.alloc o).ownsRow base e z v n xs:=own_below h ((Below.refl _ _).alloc (Nat.le_refl _) o)
theorem row_more{w:World}{base:Nat}{e:TypeId}{z n:Nat}{v:Value}{xs:List Value}(h:w.ownsRow base e z v n xs)(t:World):(more w t).ownsRow base e z v n xs:=own_below h (aa w t)
theorem one_new(w:World)(v:Value)(e:TypeId):∀j u,[v][j]? =some u->(w.alloc (D #[v] e)).cell? ((⟨w.heap.size,0,none⟩:Addr).add j)=some u:=by
 intro j u hu
 have hj:j=0:=by
  have:=(List.getElem?_eq_some_iff.1 hu).1
  simpa using this
 subst hj
 simp at hu
 subst hu;rw[Addr.add_lit]
 simp[go_sem]
theorem int_cell(x:Int):∀u∈[Value.int .i64 x],u.oneCell'=true:=fun u hu=>by simp at hu;subst hu;rfl
theorem Frm.set(w:World)(b i:Nat)(v:Value):Frm (fun k=>k=b) w (w.setCell ⟨b,i,none⟩ v):=by
 have h:=(Below.refl 0 w).setCell (p:=⟨b,i,none⟩) (Nat.zero_le _) v
 exact⟨h.os,h.tape,h.output,h.size,fun k _ hk=>RowKit.Below.heap_setCell _ _ _ _ hk⟩
theorem Fr.setOut{w wr:World}{L:List (List Value)}(h:Fr w wr L){b i:Nat}{v:Value}(hb:w.heap.size+L.length<=b):Fr w (wr.setCell ⟨b,i,none⟩ v) L:=
 h.frm (Frm.set wr b i v) (fun k hk=>by omega) (fun k hk=>by omega)
theorem eo(W t1 t2:World)(o:Obj):Below W.heap.size W (more ((more W t1).alloc o) t2):=blw (alw (aa W t1) (Nat.le_refl _)) (Nat.le_refl _)
open Go.RowKit Pl
def StV(S:Nat->Prop)(w:World)(m:Nat)(u:Value):Prop:=∃A n c vs,u=q A n c/\SLZ 4 S w A n vs/\n<=c/\n<=m/\∀x∈vs,x.oneCell'=true
def PE(S:Nat->Prop)(w:World)(m:Nat)(s u v:Value)(b:Bd):Prop:=StV S w m s/\PV S w u b.1/\PV S w v b.2
def PEs(S:Nat->Prop)(w:World)(m:Nat)(cs:List Value)(bs:List Bd):Prop:=cs.length=bs.length*3/\∀i,i<bs.length->PE S w m (cs.getD (i*3) undef) (cs.getD (i*3+1) undef) (cs.getD (i*3+2) undef) (bs.getD i ([],[]))
def PLs(S:Nat->Prop)(w:World)(m:Nat)(A:Option Addr)(n:Nat)(bs:List Bd):Prop:=∃cs,SLZ 3 S w A n cs/\PEs S w m cs bs
def OPl(S:Nat->Prop)(w:World)(m base:Nat)(e:TypeId)(v:Value)(bs:List Bd):Prop:=∃cs,w.ownsRow base e 3 v bs.length cs/\PEs (wth S v) w m cs bs/\∀k,v.ownBlock=some k->¬S k
section
variable {S S':Nat->Prop}{w w':World}{A:Option Addr}{n m m' z:Nat}{cs:List Value}{s u v:Value}{b:Bd}{bs:List Bd}{base:Nat}{e:TypeId}
theorem SLZ.set(h:SLZ z S w A n cs)(hS:∀k,S' k->S k\/w.heap.size<=k):SLZ z S' w A n cs:=by
 refine⟨h.1,fun hn=>?_⟩
 obtain⟨b,off,hA,hlt,hs,hc⟩:=h.2 hn
 exact⟨b,off,hA,hlt,fun hb=>by rcases hS b hb with h|h;exact hs h;omega,hc⟩
theorem StV.frm(h:StV S w m u)(hf:Frm S w w'):StV S w' m u:=let ⟨A,n,c,vs,h1,h2,h3⟩:=h;⟨A,n,c,vs,h1,h2.frm hf,h3⟩
theorem StV.set(h:StV S w m u)(hS:∀k,S' k->S k\/w.heap.size<=k):StV S' w m u:=let ⟨A,n,c,vs,h1,h2,h3⟩:=h;⟨A,n,c,vs,h1,h2.set hS,h3⟩
theorem StV.up(h:StV S w m u)(hm:m<=m'):StV S w m' u:=let ⟨A,n,c,vs,h1,h2,h3,h4,h5⟩:=h;⟨A,n,c,vs,h1,h2,h3,Nat.le_trans h4 hm,h5⟩
theorem StV.nil_(S:Nat->Prop)(w:World)(m:Nat):StV S w m (q none 0 0):=⟨none,0,0,[],rfl,SLZ.nil_ _ _ _,Nat.le_refl _,Nat.zero_le _,fun _ h=>by cases h⟩
theorem StV.cell(h:StV S w m u):u.oneCell'=true:=by obtain⟨A,n,c,vs,rfl,_⟩:=h;rfl
theorem PV.cell(h:PV S w u b.1):u.oneCell'=true:=by obtain⟨A,n,c,rfl,_⟩:=h;rfl
theorem PV.cell'{p:List Int}(h:PV S w u p):u.oneCell'=true:=by obtain⟨A,n,c,rfl,_⟩:=h;rfl
theorem PE.frm(h:PE S w m s u v b)(hf:Frm S w w'):PE S w' m s u v b:=⟨h.1.frm hf,h.2.1.frm hf,h.2.2.frm hf⟩
theorem PE.set(h:PE S w m s u v b)(hS:∀k,S' k->S k\/w.heap.size<=k):PE S' w m s u v b:=⟨h.1.set hS,h.2.1.set hS,h.2.2.set hS⟩
theorem PE.up(h:PE S w m s u v b)(hm:m<=m'):PE S w m' s u v b:=⟨h.1.up hm,h.2⟩
theorem PEs.frm(h:PEs S w m cs bs)(hf:Frm S w w'):PEs S w' m cs bs:=⟨h.1,fun i hi=>(h.2 i hi).frm hf⟩
theorem PEs.set(h:PEs S w m cs bs)(hS:∀k,S' k->S k\/w.heap.size<=k):PEs S' w m cs bs:=⟨h.1,fun i hi=>(h.2 i hi).set hS⟩
theorem PEs.up(h:PEs S w m cs bs)(hm:m<=m'):PEs S w m' cs bs:=⟨h.1,fun i hi=>(h.2 i hi).up hm⟩
theorem PEs.nil_(S:Nat->Prop)(w:World)(m:Nat):PEs S w m [] []:=⟨rfl,fun i hi=>absurd hi (by simp)⟩
theorem PEs.one(h:PE S w m s u v b):PEs S w m [s,u,v] [b]:=⟨rfl,fun i hi=>by
 have:i=0:=by simpa using hi
 subst this;exact h⟩
theorem PEs.append{ds:List Value}{qs:List Bd}(h:PEs S w m cs bs)(k:PEs S w m ds qs):PEs S w m (cs++ds) (bs++qs):=by
 have h1:=h.1;have k1:=k.1
 refine⟨by rw[List.length_append,List.length_append,h1,k1];omega,fun i hi=>?_⟩
 rw[List.length_append]at hi
 by_cases hlt:i<bs.length
 ·have:=h.2 i hlt
  rw[bF _ _ _ (by omega),bF _ _ _ (by omega),bF _ _ _ (by omega),bF _ _ _ hlt];exact this
 ·rw[aK _ _ _ (by omega),aK _ _ _ (by omega),aK _ _ _ (by omega),aK _ _ _ (by omega)]
  have:=k.2 (i-bs.length) (by omega)
  rw[show i*3-cs.length=(i-bs.length)*3 by omega,show i*3+1-cs.length=(i-bs.length)*3+1 by omega,show i*3+2-cs.length=(i-bs.length)*3+2 by omega]
  exact this
theorem PEs.cells(h:PEs S w m cs bs):∀x∈cs,x.oneCell'=true:=by
 intro x hx
 obtain⟨j,hj,rfl⟩:=List.getElem_of_mem hx;have h1:=h.1
 have e:cs.getD j undef=cs[j]:=by simp[List.getD,hj]
 have hi:j/3<bs.length:=by omega
 obtain⟨q1,q2,q3⟩:=h.2 (j/3) hi
 rcases(show j=j/3*3\/j=j/3*3+1\/j=j/3*3+2 by omega)with hj3|hj3|hj3
 ·rw[<-hj3,e]at q1;exact q1.cell
 ·rw[<-hj3,e]at q2;exact q2.cell'
 ·rw[<-hj3,e]at q3;exact q3.cell'
theorem PLs.frm(h:PLs S w m A n bs)(hf:Frm S w w'):PLs S w' m A n bs:=let ⟨cs,h1,h2⟩:=h;⟨cs,h1.frm hf,h2.frm hf⟩
theorem PLs.below(h:PLs S w m A n bs)(hb:Below w.heap.size w w'):PLs S w' m A n bs:=h.frm (Frm.of_below' S hb)
theorem PLs.alloc(h:PLs S w m A n bs)(o:Obj):PLs S (w.alloc o) m A n bs:=h.frm ((Frm.refl S w).alloc o)
theorem PLs.set(h:PLs S w m A n bs)(hS:∀k,S' k->S k\/w.heap.size<=k):PLs S' w m A n bs:=let ⟨cs,h1,h2⟩:=h;⟨cs,h1.set hS,h2.set hS⟩
theorem PLs.up(h:PLs S w m A n bs)(hm:m<=m'):PLs S w m' A n bs:=let ⟨cs,h1,h2⟩:=h;⟨cs,h1,h2.up hm⟩
theorem PLs.len(h:PLs S w m A n bs):bs.length=n:=by obtain⟨cs,h1,h2⟩:=h;have:=h1.1;have:=h2.1;omega
theorem PLs.at(h:PLs S w m A n bs){k:Nat}(hk:k<n):∃b off A0 n0 c0 A1 n1 c1 A2 n2 c2,A=some ⟨b,off,none⟩/\b<w.heap.size/\¬S b/\w.cell? ⟨b,off+k*3,none⟩=some (q A0 n0 c0)/\w.cell? ⟨b,off+k*3+1,none⟩=some (q A1 n1 c1)/\w.cell? ⟨b,off+k*3+2,none⟩=some (q A2 n2 c2)/\
  (∃vs,SLZ 4 S w A0 n0 vs/\n0<=c0/\n0<=m/\∀x∈vs,x.oneCell'=true)/\SQ S w A1 n1 (bs.getD k ([],[])).1/\n1<=c1/\SQ S w A2 n2 (bs.getD k ([],[])).2/\n2<=c2:=by
 have hlen:=h.len;obtain⟨cs,⟨-,hc⟩,ha⟩:=h
 obtain⟨b,off,hA,hlt,hs,hcell⟩:=hc (by omega)
 obtain⟨⟨A0,n0,c0,vs,e0,q0,q1,q2,q3⟩,⟨A1,n1,c1,e1,p1,m1⟩,A2,n2,c2,e2,p2,m2⟩:=ha.2 k (by omega)
 exact⟨b,off,A0,n0,c0,A1,n1,c1,A2,n2,c2,hA,hlt,hs,by rw[hcell (k*3) (by omega),e0],by rw[Nat.add_assoc,hcell (k*3+1) (by omega),e1],by rw[Nat.add_assoc,hcell (k*3+2) (by omega),e2],⟨vs,q0,q1,q2,q3⟩,p1,m1,p2,m2⟩
theorem OPl.frm(h:OPl S w m base e v bs)(hf:Frm S w w'):OPl S w' m base e v bs:=
 let ⟨cs,h1,h2,h3⟩:=h;⟨cs,hf.row h1 h3,h2.frm (hf.mono fun k hk=>.inl hk),h3⟩
theorem OPl.below(h:OPl S w m base e v bs)(hb:Below w.heap.size w w'):OPl S w' m base e v bs:=h.frm (Frm.of_below' S hb)
theorem OPl.alloc(h:OPl S w m base e v bs)(o:Obj):OPl S (w.alloc o) m base e v bs:=h.frm ((Frm.refl S w).alloc o)
theorem OPl.mono(h:OPl S w m base e v bs){base':Nat}(hb:base'<=base):OPl S w m base' e v bs:=let ⟨cs,h1,h2,h3⟩:=h;⟨cs,aH h1 hb,h2,h3⟩
theorem OPl.set(h:OPl S w m base e v bs)(hS:∀k,S' k->S k):OPl S' w m base e v bs:=
 let ⟨cs,h1,h2,h3⟩:=h;⟨cs,h1,h2.set fun k hk=>.inl (hk.elim (fun h=>.inl (hS k h)) .inr),fun k hk hs=>h3 k hk (hS k hs)⟩
theorem OPl.nil_(S:Nat->Prop)(w:World)(m base:Nat)(e:TypeId):OPl S w m base e (q none 0 0) []:=⟨[],World.ownsRow_nil _ _ _ _,PEs.nil_ _ _ _,fun k hk=>by cases hk⟩
theorem OPl.made(w:World)(hb:base<=w.heap.size)(hS:∀k,base<=k->¬S k)(h:PEs S w m cs bs)(hm:bs.length<=maxLen):OPl S (w.alloc (D cs.toArray e)) m base e (q (some ⟨w.heap.size,0,none⟩) bs.length bs.length) bs:=by
 refine⟨cs,⟨h.1,.inr ⟨w.heap.size,bs.length,cs.toArray,rfl,hb,heap_alloc_new w _,Nat.le_refl _,hm,by simp[h.1],by rw[List.take_of_length_le (by simp[h.1])]⟩⟩,?_,fun k hk=>?_⟩
 ·refine (h.set fun k hk=>?_).frm ((Frm.refl _ w).alloc _)
  rcases hk with hk|hk
  ·exact .inl hk
  ·simp[Value.ownBlock]at hk;exact .inr (by omega)
 ·simp[Value.ownBlock]at hk;subst hk;exact hS _ hb
theorem OPl.read(h:OPl S w m base e v bs):∃A c,v=q A bs.length c/\PLs S w m A bs.length bs/\bs.length<=c:=by
 obtain⟨cs,h1,h2,h3⟩:=h
 obtain⟨A,c,hv,hs,hc⟩:=bp h1 h3 (by omega)
 exact⟨A,c,hv,⟨cs,hs,h2.set fun k hk=>.inl (.inl hk)⟩,hc⟩
end
end Go.Proofs.YtcmeoenkgmghkaaGreat

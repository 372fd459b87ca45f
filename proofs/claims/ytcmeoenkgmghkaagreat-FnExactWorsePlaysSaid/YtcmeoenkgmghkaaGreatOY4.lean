/- Part of one proof. There are no conditions. -/
import Derived.Test.YtcmeoenkgmghkaaGreatON80
set_option linter.unusedVariables false
set_option linter.unusedSimpArgs false
set_option maxHeartbeats 0
set_option maxRecDepth 100000
open Go.Value renaming int->r,slice->z,bool->D,agg->F,pointer->J,tuple->jz
open Go.IntKind renaming i64->y
open Go.Ending renaming returned->O
open Go.Obj renaming cells->U
open Go renaming execOp->j0,undef->qa,World->qb,Value->qc,bodyPost_ret->qd
open Go.Act renaming eval->qe
open Nat renaming le_refl->qf
namespace Go.Proofs.YtcmeoenkgmghkaaGreat
open Go.RowKit
theorem dp{n:Nat}{Q G:Nat->Prop}(h:∀j,j<n->Q j->G j)(j:Nat)(h1:j<n:=by omega)(h2:Q j:=by kernel_rfl):G j:=h j h1 h2
theorem gq{n:Nat}{G:Nat->Prop}(h:∀i,i<n->G i)(i:Nat)(h1:i<n:=by omega):G i:=h i h1
theorem fr{Q R:Nat->Prop}(h:∀t,Q t->R t)(t:Nat)(h1:Q t:=by decide):R t:=h t h1
def cntL(listed:Array Bool):Nat->Nat
 | 0=>0
 |n+1=>cntL listed n+if listed.getD n false=true then 1 else 0
theorem cntL_le(listed:Array Bool):∀n,cntL listed n<=n
 | 0=>qf _
 |n+1=>by have:=cntL_le listed n;unfold cntL;split<;>omega
theorem ei{listed:Array Bool}:∀{n:Nat},cntL listed n=n->∀i,i<n->listed.getD i false=true
 | 0,_,i,h=>by omega
 |n+1,h,i,hi=>by
   have h1:=cntL_le listed n;unfold cntL at h
   split at h
   · rename_i hn
     by_cases e:i=n
     ·rw [e];exact hn
     ·exact ei (n:=n) (by omega) i (by omega)
   ·omega
theorem fe(m:Nat):∀n,cntL (Array.replicate m false) n=0
 | 0=>rfl
 |n+1=>by unfold cntL;rw[fe m n,getD_replicate_false];rfl
theorem ff{listed:Array Bool}:∀{n:Nat},cntL listed n<n->∃i,i<n/\listed.getD i false=false/\∀j,j<i->listed.getD j false=true
 | 0,h=>by omega
 |n+1,h=>by
   by_cases h1:cntL listed n< n
   · obtain⟨i,h2,h3,h4⟩:=ff h1
     exact⟨i,by omega,h3,h4⟩
   · have h2:=cntL_le listed n
     have h3:=ei (show cntL listed n=n by omega)
     unfold cntL at h
     split at h
     ·omega
     · rename_i hn
       exact⟨n,by omega,by simpa using hn,h3⟩
theorem dI{listed:Array Bool}{i:Nat}(hs:i<listed.size)(h:listed.getD i false=false):∀n,cntL (listed.setIfInBounds i true) n=cntL listed n+if i<n then 1 else 0
 | 0=>rfl
 |n+1=>by
   unfold cntL;rw [dI hs h n]
   by_cases e:i=n
   · subst e
     have h1:(listed.setIfInBounds i true).getD i false=true:=by simp [hs]
     rw [h1,h];simp
   · rw [getD_set_ne false e]
     have e2:(if i< n+1 then 1 else 0)=if i< n then 1 else 0:=by
       by_cases hlt:i< n
       ·rw [if_pos hlt,if_pos (by omega)]
       ·rw [if_neg hlt,if_neg (by omega)]
     rw [e2];omega
section
variable {P:Program}{w:qb}
def putV(a:Act)(ds:Nat->Nat)(v:Nat->qc):Nat->Act
 | 0=>a
 |k+1=>(putV a ds v k).put (some (ds k)) (v k)
theorem dm(a:Act)(ds:Nat->Nat)(v:Nat->qc):∀n,(putV a ds v n).defers=a.defers
 | 0=>rfl
 |n+1=>by unfold putV;simp[Act.put,dm a ds v n]
theorem dW(a:Act)(ds:Nat->Nat)(v:Nat->qc):∀n,(putV a ds v n).tmps.size=a.tmps.size
 | 0=>rfl
 |n+1=>by unfold putV;simp[Act.put,dW a ds v n]
theorem aJ(a:Act){d t:Nat}(h:d≠t)(v:qc):(a.put (some d) v).tmps.getD t qa=a.tmps.getD t qa:=by
 simp only[Act.put,Array.getD_eq_getD_getElem?];rw[Array.getElem?_setIfInBounds_ne h]
theorem bS(a:Act){d:Nat}(h:d<a.tmps.size)(v:qc):(a.put (some d) v).tmps.getD d qa=v:=by
 simp[Act.put,h]
theorem gR(a:Act)(ds:Nat->Nat)(v:Nat->qc){t:Nat}:∀n,(∀i,i<n->ds i≠t)->(putV a ds v n).tmps.getD t qa=a.tmps.getD t qa
 | 0,_=>rfl
 |n+1,h=>by unfold putV;rw[aJ _ (h n (by omega)),gR a ds v n fun i hi=>h i (by omega)]
theorem jN(a:Act)(ds:Nat->Nat)(v:Nat->qc):∀n,(∀i,i<n->ds i<a.tmps.size)->(∀i j,i<n->j<n->i≠j->ds i≠ds j)->∀i,i<n->(putV a ds v n).tmps.getD (ds i) qa=v i
 | 0,_,_,i,hi=>by omega
 |n+1,hs,hd,i,hi=>by
   unfold putV
   by_cases e:i=n
   ·subst e;exact bS _ (by rw [dW];exact hs i (by omega)) _
   · rw [aJ _ (hd n i (by omega) (by omega) (by omega))]
     exact jN a ds v n (fun i hi=>hs i (by omega)) (fun i j hi hj=>hd i j (by omega) (by omega)) i (by omega)
def MGood(G:Nat->qc->qb->Prop)(own:Nat->qc->Option Nat)(i:Nat)(W:qb)(v:qc)(W':qb):Prop:=
 Below W.heap.size W W'/\G i v W'/\∀b,own i v=some b->W.heap.size<=b
def MStep(P:Program)(o:Oper)(a:Act)(W:qb)(good:qc->qb->Prop):Prop:=
 (∃v W',(j0 a.eval o).run P W= .ok (.value v) W'/\good v W')\/∃f args,(j0 a.eval o).run P W= .ok (.enter f args) W/\Calls P f args W fun e W'=>∃v,e=O v/\good v W'
theorem MStep.wp{o:Oper}{a:Act}{W:qb}{good:qc->qb->Prop}{K:Act->qb->Prop}{Q:Exit->Act->qb->Prop}(h:MStep P o a W good)(hK:∀v W',good v W'->K (a.put o.dst v) W'):o.wp P a W K Q:=by
 unfold Oper.wp
 rcases h with⟨v,W',hr,hg⟩|⟨f,args,hr,hc⟩
 ·rw[hr,Oper.upon_value];exact hK v W' hg
 ·rw[hr,Oper.upon_enter]
  refine hc.mono ?_
  rintro e W' ⟨v,rfl,hg⟩
  exact hK v W' hg
def iK(n m:Nat):Array Bool:=((List.range m).map fun i=>decide (i<n)).toArray
def makesB(ops:Array Oper)(n:Nat)(ds:Nat->Nat)(m:Nat):Bool:=
 decide (n<ops.size)&&Region.sinkB .any ops n&&Region.chainB .any ops n&&Region.seqB .any ops (ops.size-n) n (iK n ops.size) &&
 ((List.range n).all fun i=>match ops[i]? with
   |some o=>o.guard.isNone&&decide (o.dst=some (ds i))&&decide (ds i< m)&&(o.after.all fun e=> !Region.binds .any e ||decide (e.on< i))&&((List.range n).all fun j=>i==j ||decide (ds i≠ds j))
   |none=>false)
structure MInv(ops:Array Oper)(a0:Act)(w:qb)(n:Nat)(ds:Nat->Nat)(G:Nat->qc->qb->Prop)(own:Nat->qc->Option Nat)(listed:Array Bool)(a:Act)(W:qb):Prop where
 inv:HeadInv .any ops n listed
 b:Below w.heap.size w W
 df:a.defers=a0.defers
 sz:a.tmps.size=a0.tmps.size
 far:∀t,(∀i,i<n->ds i≠t)->a.tmps.getD t qa=a0.tmps.getD t qa
 g:∀i,i<n->listed.getD i false=true->G i (a.tmps.getD (ds i) qa) W
 ap:∀i j,i<n->j<n->i≠j->listed.getD i false=true->listed.getD j false=true->∀b,own i (a.tmps.getD (ds i) qa)=some b->own j (a.tmps.getD (ds j) qa)≠some b
theorem fE{ops:Array Oper}{n:Nat}{listed:Array Bool}(inv:HeadInv .any ops n listed)(hall:∀i,i<n->listed.getD i false=true):listed=iK n ops.size:=by
 apply Array.ext
 ·rw[inv.size];simp[iK]
 ·intro i h1 h2
  by_cases hi:i<n
  ·have:=hall i hi
   simp[h1]at this
   simp[iK,hi,this]
  ·have:=inv.tail i (by omega) (by rw[<-inv.size];exact h1)
   simp[h1]at this
   simp[iK,hi,this]
theorem aR{id:Nat}{Q:Exit->Act->qb->Prop}{a:Act}{l:List Oper}(n:Nat)(ds:Nat->Nat)(G:Nat->qc->qb->Prop)(own:Nat->qc->Option Nat)
  (hm:P.follows .mixedOrders=true) (hB:makesB l.toArray n ds a.tmps.size=true)
  (stab:∀i v W W',G i v W->Below W.heap.size W W'->G i v W') (hlt:∀i v W b,G i v W->own i v=some b->b<W.heap.size)
  (step:∀i o,i<n→l[i]? =some o→∀(a':Act) (W:qb),Below w.heap.size w W→(∀t,(∀i,i<n→ds i≠t)→a'.tmps.getD t qa=a.tmps.getD t qa)→
   (∀j,j<n->Region.waitsFor .any l.toArray i j=true->G j (a'.tmps.getD (ds j) qa) W)->MStep P o a' W (MGood G own i W))
  (tail:∀(v:Nat->qc) (W:qb),Below w.heap.size w W->(∀i,i<n->G i (v i) W)->(∀i j,i<n->j<n->i≠j->∀b,own i (v i)=some b->own j (v j)≠some b)->wpList P l.toArray Q (l.drop n) (putV a ds v n) W):
  (Code.region id l.toArray true).wp P Q a w:=by
 simp only[makesB,Bool.and_eq_true,decide_eq_true_eq]at hB
 obtain⟨⟨⟨⟨hn,hs⟩,hc⟩,hq⟩,hh⟩:=hB
 have hop:∀i,i<n->∃o,l.toArray[i]? =some o/\l[i]? =some o/\o.guard=none/\o.dst=some (ds i)/\ds i<a.tmps.size/\(∀e∈o.after,Region.binds .any e=true->e.on<i)/\∀j,j<n->i≠j->ds i≠ds j:=fun i hi=>by
  have h:=List.all_eq_true.1 hh i (List.mem_range.2 hi)
  rcases ho:l.toArray[i]? with _|o
  ·rw[ho]at h;cases h
  ·rw[ho]at h
   simp only[Bool.and_eq_true,decide_eq_true_eq]at h
   obtain⟨⟨⟨⟨h1,h2⟩,h3⟩,h4⟩,h5⟩:=h
   refine⟨o,rfl,by simpa using ho,by simpa using h1,h2,h3,fun e he hb=>?_,fun j hj hij=>?_⟩
   ·have h6:=(Array.all_eq_true'.1 h4) e he
    simpa[hb]using h6
   ·have h6:=List.all_eq_true.1 h5 j (List.mem_range.2 hj)
    simpa[hij]using h6
 have hdd:∀i j,i<n->j<n->i≠j->ds i≠ds j:=fun i j hi hj hij=>by obtain⟨_,_,_,_,_,_,_,h⟩:=hop i hi;exact h j hj hij
 have hdz:∀i,i<n->ds i<a.tmps.size:=fun i hi=>by obtain⟨_,_,_,_,_,h,_⟩:=hop i hi;exact h
 have H:∀(f:Nat) (listed:Array Bool) (a':Act) (W:qb),cntL listed n+f=n->MInv l.toArray a w n ds G own listed a' W->wpAny P .any l.toArray Q (f+(l.toArray.size-n)) listed a' W:=by
  intro f
  induction f with
  |zero=>
   intro listed a' W hcnt I
   have hall:=ei (listed:=listed) (n:=n) (by omega)
   have hl:=fE I.inv hall
   have hv:putV a ds (fun i=>a'.tmps.getD (ds i) qa) n=a':=by
    have e1:(putV a ds (fun i=>a'.tmps.getD (ds i) qa) n).tmps=a'.tmps:=by
     apply Array.ext
     ·rw[dW,I.sz]
     ·intro t h1 h2
      have e:∀(A:Array qc) (h:t<A.size),A[t]=A.getD t qa:=fun A h=>by simp[h]
      rw[e _ h1,e _ h2]
      by_cases hx:∃i,i<n/\ds i=t
      ·obtain⟨i,hi,rfl⟩:=hx
       exact jN a ds _ n hdz hdd i hi
      ·have hx':∀i,i<n->ds i≠t:=fun i hi he=>hx ⟨i,hi,he⟩
       rw[gR a ds _ n hx',I.far t hx']
    have e2:(putV a ds (fun i=>a'.tmps.getD (ds i) qa) n).defers=a'.defers:=by rw[dm,I.df]
    generalize putV a ds (fun i=>a'.tmps.getD (ds i) qa) n=x at *
    cases x;cases a'
    simp only at e1 e2
    rw[e1,e2]
   have ht:=tail (fun i=>a'.tmps.getD (ds i) qa) W I.b (fun i hi=>I.g i hi (hall i hi)) (fun i j hi hj hij b=>I.ap i j hi hj hij (hall i hi) (hall j hj) b)
   rw[hv]at ht;rw[Nat.zero_add]
   have hdl:(l.drop n).length=l.toArray.size-n:=by simp
   have:=wpAny_of_seq (md:=.any) (Q':=Q) (ops:=l.toArray) (l.drop n) n listed a' W (fun j=>by simp[List.getElem?_drop]) (by rw[hdl,hl];exact hq) ht
   rwa [hdl]at this
  |succ f ih=>
   intro listed a' W hcnt I
   obtain⟨k,hk,hkf,hkl⟩:=ff (listed:=listed) (n:=n) (by omega)
   have hkr:k∈Region.ready .any l.toArray listed:=by
    obtain⟨o,ho,_,_,_,_,h5,_⟩:=hop k hk
    exact mem_ready.2 ⟨getD_in (by rw[I.inv.size];omega) hkf,o,ho,fun e he hb=>hkl _ (h5 e he hb)⟩
   rw[show f+1+(l.toArray.size-n)=(f+(l.toArray.size-n))+1 by omega]
   refine⟨fun h0=>(by rw[h0]at hkr;cases hkr),fun i hi=>?_⟩
   have hin:i<n:=by
    rcases Nat.lt_or_ge i n with h|h
    ·exact h
    ·exact absurd hi (tail_waits hs hc hn I.inv _ k rfl hk (getD_in (by rw[I.inv.size];omega) hkf) i h)
   obtain⟨hun,o',ho',hall'⟩:=mem_ready.1 hi;obtain⟨o,ho,hol,hg,hd,hz,_,_⟩:=hop i hin;have:o'=o:=Option.some.inj (ho'.symm.trans ho);subst this
   have hst:=step i o' hin hol a' W I.b I.far fun j hj hw=>by
    obtain⟨oj,hoj,e,he,hb,hon⟩:=Region.waitsFor_spec hw;have:oj=o':=Option.some.inj (hoj.symm.trans ho');subst this
    exact I.g j hj (by have:=hall' e he hb;rwa [hon]at this)
   unfold wpOp;rw[ho']
   simp only[Region.wanted,hg]
   simp only[if_true]
   refine .inl (hst.wp fun v W' hgd=>?_)
   obtain⟨hb,hG,hf⟩:=hgd;rw[hd]
   have hsz:i<listed.size:=by rw[I.inv.size];omega
   refine ih _ _ _ (by rw[dI hsz (getD_both hun),if_pos hin];omega) ⟨I.inv.set hi hin,I.b.trans (hb.mono I.b.size),by simp[Act.put,I.df],by simp[Act.put,I.sz],fun t ht=>?_,fun j hj hlj=>?_,fun j1 j2 h1 h2 h12 l1 l2 b hb1=>?_⟩
   ·rw[aJ _ (ht i hin)];exact I.far t ht
   ·by_cases e:j=i
    ·subst e;rw[bS _ (by rw[I.sz];exact hz)];exact hG
    ·rw[aJ _ (hdd i j hin hj (Ne.symm e))]
     rw[getD_set_ne false (Ne.symm e)]at hlj
     exact stab _ _ _ _ (I.g j hj hlj) hb
   ·by_cases e1:j1=i
    ·subst e1
     have e2:j1≠j2:=h12
     rw[bS _ (by rw[I.sz];exact hz)]at hb1
     rw[aJ _ (hdd j1 j2 hin h2 e2)];rw[getD_set_ne false e2]at l2
     intro hb2
     have:=hlt _ _ _ _ (I.g j2 h2 l2) hb2;have:=hf b hb1
     omega
    ·rw[aJ _ (hdd i j1 hin h1 (Ne.symm e1))]at hb1
     rw[getD_set_ne false (Ne.symm e1)]at l1
     by_cases e2:j2=i
     ·subst e2
      rw[bS _ (by rw[I.sz];exact hz)]
      intro hb2
      have:=hlt _ _ _ _ (I.g j1 h1 l1) hb1;have:=hf b hb2
      omega
     ·rw[aJ _ (hdd i j2 hin h2 (Ne.symm e2))]
      rw[getD_set_ne false (Ne.symm e2)]at l2
      exact I.ap j1 j2 h1 h2 h12 l1 l2 b hb1
 refine wp_region_any hm ?_
 have:=H n (Array.replicate l.toArray.size false) a { w with drawn:=w.drawn+1 } (by rw[fe];omega)
  ⟨⟨by simp,fun j oj _ hl=>(by rw [getD_replicate_false]at hl;cases hl),fun t _ ht=>getD_in (by simpa using ht) (getD_replicate_false _ _)⟩,⟨rfl,rfl,rfl,qf _,fun _ _=>rfl⟩,rfl,rfl,fun _ _=>rfl,
    fun i _ h=>(by rw [getD_replicate_false]at h;cases h),fun i j _ _ _ h=>(by rw [getD_replicate_false]at h;cases h)⟩
 rwa [show n+(l.toArray.size-n)=l.toArray.size by omega]at this
end
theorem i_3{i:Nat}(h:i<4):i=0\/i=1\/i=2\/i=3:=by omega
theorem i_4{i:Nat}(h:i<5):i=0\/i=1\/i=2\/i=3\/i=4:=by omega
theorem i_5{i:Nat}(h:i<6):i=0\/i=1\/i=2\/i=3\/i=4\/i=5:=by omega
theorem i_6{i:Nat}(h:i<7):i=0\/i=1\/i=2\/i=3\/i=4\/i=5\/i=6:=by omega
theorem i_7{i:Nat}(h:i<8):i=0\/i=1\/i=2\/i=3\/i=4\/i=5\/i=6\/i=7:=by omega
theorem i_8{i:Nat}(h:i<9):i=0\/i=1\/i=2\/i=3\/i=4\/i=5\/i=6\/i=7\/i=8:=by omega
theorem i_9{i:Nat}(h:i<10):i=0\/i=1\/i=2\/i=3\/i=4\/i=5\/i=6\/i=7\/i=8\/i=9:=by omega
theorem i_10{i:Nat}(h:i<11):i=0\/i=1\/i=2\/i=3\/i=4\/i=5\/i=6\/i=7\/i=8\/i=9\/i=10:=by omega
theorem i_11{i:Nat}(h:i<12):i=0\/i=1\/i=2\/i=3\/i=4\/i=5\/i=6\/i=7\/i=8\/i=9\/i=10\/i=11:=by omega
theorem i_16{i:Nat}(h:i<17):i=0\/i=1\/i=2\/i=3\/i=4\/i=5\/i=6\/i=7\/i=8\/i=9\/i=10\/i=11\/i=12\/i=13\/i=14\/i=15\/i=16:=by omega
theorem i_17{i:Nat}(h:i<18):i=0\/i=1\/i=2\/i=3\/i=4\/i=5\/i=6\/i=7\/i=8\/i=9\/i=10\/i=11\/i=12\/i=13\/i=14\/i=15\/i=16\/i=17:=by omega
open Go.RowKit
section
variable {P:Program}{w:qb}
structure RInv(ops:Array Oper)(a0:Act)(w:qb)(n:Nat)(ds:Nat->Nat)(Rel:qb->qb->Prop)(Inv:qb->Prop)(G:Nat->qc->qb->Prop)(listed:Array Bool)(a:Act)(W:qb):Prop where
 inv:HeadInv .any ops n listed
 b:Rel w W
 i:Inv W
 df:a.defers=a0.defers
 sz:a.tmps.size=a0.tmps.size
 far:∀t,(∀i,i<n->ds i≠t)->a.tmps.getD t qa=a0.tmps.getD t qa
 g:∀i,i<n->listed.getD i false=true->G i (a.tmps.getD (ds i) qa) W
end
open Go.RowKit
section
variable {P:Program}{w:qb}
def sinkXs(ops:Array Oper)(m:Nat)(X:Nat->Bool):Bool:=
 (List.range m).all fun i=>X i||(List.range (m+1)).any fun j=>decide (i<j) && !X j&&Region.waitsFor .any ops j i
theorem eP{ops:Array Oper}{m:Nat}{X:Nat->Bool}{listed:Array Bool}(hs:sinkXs ops m X=true)(hc:Region.chainB .any ops m=true)(hm:m<ops.size)(inv:HeadInv .any ops m listed):
  ∀(d i:Nat),m-i=d->i<m->X i=false->listed.getD i true=false->∀t,m<=t->t∉Region.ready .any ops listed:=by
 intro d
 induction d using Nat.strongRecOn with
 |_ d ih=>
  intro i hd hi hix hun t ht hr
  obtain⟨_,ot,hot,hall⟩:=mem_ready.1 hr;have htlt:t<ops.size:=(Array.getElem?_eq_some_iff.1 hot).1
  by_cases htm:t=m
  ·subst htm
   have h1:=List.all_eq_true.1 hs i (List.mem_range.2 hi)
   simp only[hix,Bool.false_or]at h1
   obtain⟨j,hj,hj2⟩:=List.any_eq_true.1 h1
   simp only[Bool.and_eq_true,decide_eq_true_eq,Bool.not_eq_true']at hj2
   obtain⟨⟨hij,hjx⟩,hjw⟩:=hj2;obtain⟨oj,hoj,e,he,hb,hon⟩:=Region.waitsFor_spec hjw
   have hjle:j<=t:=by have:=List.mem_range.1 hj;omega
   by_cases hjt:j=t
   ·subst hjt
    have:oj=ot:=Option.some.inj (hoj.symm.trans hot);subst this;have h2:=hall e he hb;rw[hon,getD_both hun]at h2
    cases h2
   ·rcases hl:listed.getD j false with _|_
    ·have hjs:j<listed.size:=by rw[inv.size];omega
     exact ih (t-j) (by omega) j rfl (by omega) hjx (getD_in hjs hl) t (qf _) hr
    ·have h2:=inv.closed j oj hoj hl e he hb;rw[hon,getD_both hun]at h2
     cases h2
  ·have h1:=List.all_eq_true.1 hc t (List.mem_range.2 htlt)
   simp only[Bool.or_eq_true,decide_eq_true_eq]at h1
   rcases h1 with h1|h1
   ·omega
   ·obtain⟨o',ho',e,he,hb,hon⟩:=Region.waitsFor_spec h1
    have:o'=ot:=Option.some.inj (ho'.symm.trans hot);subst this;have h2:=hall e he hb
    rw[hon,getD_both (inv.tail (t-1) (by omega) (by omega))]at h2
    cases h2
def j8(ops:Array Oper)(n:Nat)(X:Nat->Bool)(ds:Nat->Nat)(m:Nat):Bool:=
 decide (n<ops.size)&&sinkXs ops n X&&Region.chainB .any ops n&&Region.seqB .any ops (ops.size-n) n (iK n ops.size)&&Region.noSelect ops &&
 ((List.range n).all fun i=>match ops[i]? with
   |some o=>o.guard.isNone&&decide (o.dst=some (ds i))&&decide (ds i< m)&&(o.after.all fun e=> !Region.binds .any e ||decide (e.on< i))&&((List.range n).all fun j=>i==j ||decide (ds i≠ds j))
   |none=>false) &&
 ((List.range n).all fun x=> !X x ||match ops[x]? with
   |some ox=>(List.range ops.size).all fun j=>j==x ||Region.waitsFor .any ops j x ||Region.waitsFor .any ops x j ||(match ops[j]? with
     |some oj=>ox.apart ops oj
     |none=>true)
   |none=>false)
theorem bI{id:Nat}{Q:Exit->Act->qb->Prop}{a:Act}{l:List Oper}(n:Nat)(X:Nat->Bool)(ds:Nat->Nat)(Rel:qb->qb->Prop)(Inv:qb->Prop)(G:Nat->qc->qb->Prop)
  (hm:P.follows .mixedOrders=true) (hB:j8 l.toArray n X ds a.tmps.size=true) (hQ:∀(c:List PanicEntry) (a:Act) (d:Tmp) (v:qc) (w:qb),Q (.panic c) (Act.put a (some d) v) w->Q (.panic c) a w) (rtr:∀a b c,Rel a b->Rel b c->Rel a c) (rrf:∀a,Rel a a)
  (stab:∀i v W W',G i v W->Rel W W'->G i v W') (hr0:Rel w { w with drawn:=w.drawn+1 }) (hi0:Inv { w with drawn:=w.drawn+1 })
  (early:∀i o,i<n→X i=true→l[i]? =some o→∀(a':Act) (W:qb),Rel w W→Inv W→(∀t,(∀i,i<n→ds i≠t)→a'.tmps.getD t qa=a.tmps.getD t qa)→
   (∀j,j<n->Region.waitsFor .any l.toArray i j=true->G j (a'.tmps.getD (ds j) qa) W)->∃v,(∀W',(j0 a'.eval o).run P W'= .ok (.value v) W')/\G i v W)
  (step:∀i o,i<n→X i=false→l[i]? =some o→∀(a':Act) (W:qb),Rel w W→Inv W→(∀t,(∀i,i<n→ds i≠t)→a'.tmps.getD t qa=a.tmps.getD t qa)→
   (∀j,j<n->Region.waitsFor .any l.toArray i j=true->G j (a'.tmps.getD (ds j) qa) W)->MStep P o a' W (fun v W'=>Rel W W'/\Inv W'/\G i v W'))
  (tail:∀(v:Nat->qc) (W:qb),Rel w W->Inv W->(∀i,i<n->G i (v i) W)->wpList P l.toArray Q (l.drop n) (putV a ds v n) W):
  (Code.region id l.toArray true).wp P Q a w:=by
 simp only[j8,Bool.and_eq_true,decide_eq_true_eq]at hB
 obtain⟨⟨⟨⟨⟨⟨hn,hs⟩,hc⟩,hq⟩,hsel⟩,hh⟩,hx⟩:=hB
 have hop:∀i,i<n->∃o,l.toArray[i]? =some o/\l[i]? =some o/\o.guard=none/\o.dst=some (ds i)/\ds i<a.tmps.size/\(∀e∈o.after,Region.binds .any e=true->e.on<i)/\∀j,j<n->i≠j->ds i≠ds j:=fun i hi=>by
  have h:=List.all_eq_true.1 hh i (List.mem_range.2 hi)
  rcases ho:l.toArray[i]? with _|o
  ·rw[ho]at h;cases h
  ·rw[ho]at h
   simp only[Bool.and_eq_true,decide_eq_true_eq]at h
   obtain⟨⟨⟨⟨h1,h2⟩,h3⟩,h4⟩,h5⟩:=h
   refine⟨o,rfl,by simpa using ho,by simpa using h1,h2,h3,fun e he hb=>?_,fun j hj hij=>?_⟩
   ·have h6:=(Array.all_eq_true'.1 h4) e he
    simpa[hb]using h6
   ·have h6:=List.all_eq_true.1 h5 j (List.mem_range.2 hj)
    simpa[hij]using h6
 have hdd:∀i j,i<n->j<n->i≠j->ds i≠ds j:=fun i j hi hj hij=>by obtain⟨_,_,_,_,_,_,_,h⟩:=hop i hi;exact h j hj hij
 have hdz:∀i,i<n->ds i<a.tmps.size:=fun i hi=>by obtain⟨_,_,_,_,_,h,_⟩:=hop i hi;exact h
 have H:∀(f:Nat) (listed:Array Bool) (a':Act) (W:qb),cntL listed n+f=n->RInv l.toArray a w n ds Rel Inv G listed a' W->wpAny P .any l.toArray Q (f+(l.toArray.size-n)) listed a' W:=by
  intro f
  induction f with
  |zero=>
   intro listed a' W hcnt I
   have hall:=ei (listed:=listed) (n:=n) (by omega)
   have hl:=fE I.inv hall
   have hv:putV a ds (fun i=>a'.tmps.getD (ds i) qa) n=a':=by
    have e1:(putV a ds (fun i=>a'.tmps.getD (ds i) qa) n).tmps=a'.tmps:=by
     apply Array.ext
     ·rw[dW,I.sz]
     ·intro t h1 h2
      have e:∀(A:Array qc) (h:t<A.size),A[t]=A.getD t qa:=fun A h=>by simp[h]
      rw[e _ h1,e _ h2]
      by_cases hx:∃i,i<n/\ds i=t
      ·obtain⟨i,hi,rfl⟩:=hx
       exact jN a ds _ n hdz hdd i hi
      ·have hx':∀i,i<n->ds i≠t:=fun i hi he=>hx ⟨i,hi,he⟩
       rw[gR a ds _ n hx',I.far t hx']
    have e2:(putV a ds (fun i=>a'.tmps.getD (ds i) qa) n).defers=a'.defers:=by rw[dm,I.df]
    generalize putV a ds (fun i=>a'.tmps.getD (ds i) qa) n=x at *
    cases x;cases a'
    simp only at e1 e2
    rw[e1,e2]
   have ht:=tail (fun i=>a'.tmps.getD (ds i) qa) W I.b I.i (fun i hi=>I.g i hi (hall i hi))
   rw[hv]at ht;rw[Nat.zero_add]
   have hdl:(l.drop n).length=l.toArray.size-n:=by simp
   have:=wpAny_of_seq (md:=.any) (Q':=Q) (ops:=l.toArray) (l.drop n) n listed a' W (fun j=>by simp[List.getElem?_drop]) (by rw[hdl,hl];exact hq) ht
   rwa [hdl]at this
  |succ f ih=>
   intro listed a' W hcnt I
   by_cases hxr:∃x,x∈Region.ready .any l.toArray listed/\x<n/\X x=true
   ·obtain⟨x,hxr,hxn,hxX⟩:=hxr
    obtain⟨hun,o',ho',hall'⟩:=mem_ready.1 hxr;obtain⟨o,ho,hol,hg,hd,hz,_,_⟩:=hop x hxn;have:o'=o:=Option.some.inj (ho'.symm.trans ho);subst this
    obtain⟨v,hrun,hG⟩:=early x o' hxn hxX hol a' W I.b I.i I.far fun j hj hw=>by
     obtain⟨oj,hoj,e,he,hb,hon⟩:=Region.waitsFor_spec hw;have:oj=o':=Option.some.inj (hoj.symm.trans ho');subst this
     exact I.g j hj (by have:=hall' e he hb;rwa [hon]at this)
    have hfree:∀j oj,l.toArray[j]? =some oj->j≠x->listed.getD j true=false->(∀e∈oj.after,Region.binds .any e=true->e.on≠x)->o'.apart l.toArray oj=true:=fun j oj hj hjx hju hno=>by
     have h:=List.all_eq_true.1 hx x (List.mem_range.2 hxn);rw[hxX,ho']at h
     simp only[Bool.not_true,Bool.false_or]at h
     have h2:=List.all_eq_true.1 h j (List.mem_range.2 (Array.getElem?_eq_some_iff.1 hj).1);rw[hj]at h2
     simp only[Bool.or_eq_true,beq_iff_eq]at h2
     rcases h2 with ((h2|h2)|h2)|h2
     ·exact absurd h2 hjx
     ·obtain⟨oj',hoj',e,he,hb,hon⟩:=Region.waitsFor_spec h2
      have:oj'=oj:=Option.some.inj (hoj'.symm.trans hj);subst this
      exact absurd hon (hno e he hb)
     ·obtain⟨oj',hoj',e,he,hb,hon⟩:=Region.waitsFor_spec h2
      have:oj'=o':=Option.some.inj (hoj'.symm.trans ho');subst this;have h3:=hall' e he hb;rw[hon,getD_both hju]at h3
      cases h3
     ·exact h2
    have hsz:x<listed.size:=by rw[I.inv.size];omega
    rw[show f+1+(l.toArray.size-n)=(f+(l.toArray.size-n))+1 by omega]
    refine wpAny_first ho' (Region.noSelect_spec hsel) (fun c a w h=>hQ c a (ds x) v w (by rw[<-hd];exact h)) _ listed a' W hfree hxr (.inl ⟨by simp[Region.wanted,hg],hrun⟩) ?_
    rw[hd]
    refine ih _ _ _ (by rw[dI hsz (getD_both hun),if_pos hxn];omega) ⟨I.inv.set hxr hxn,I.b,I.i,by simp[Act.put,I.df],by simp[Act.put,I.sz],fun t ht=>?_,fun j hj hlj=>?_⟩
    ·rw[aJ _ (ht x hxn)];exact I.far t ht
    ·by_cases e:j=x
     ·subst e;rw[bS _ (by rw[I.sz];exact hz)];exact hG
     ·rw[aJ _ (hdd x j hxn hj (Ne.symm e))]
      rw[getD_set_ne false (Ne.symm e)]at hlj
      exact I.g j hj hlj
   obtain⟨k,hk,hkf,hkl⟩:=ff (listed:=listed) (n:=n) (by omega)
   have hkr:k∈Region.ready .any l.toArray listed:=by
    obtain⟨o,ho,_,_,_,_,h5,_⟩:=hop k hk
    exact mem_ready.2 ⟨getD_in (by rw[I.inv.size];omega) hkf,o,ho,fun e he hb=>hkl _ (h5 e he hb)⟩
   have hkX:X k=false:=by
    rcases h:X k with _|_
    ·rfl
    ·exact absurd ⟨k,hkr,hk,h⟩ hxr
   rw[show f+1+(l.toArray.size-n)=(f+(l.toArray.size-n))+1 by omega]
   refine⟨fun h0=>(by rw[h0]at hkr;cases hkr),fun i hi=>?_⟩
   have hin:i<n:=by
    rcases Nat.lt_or_ge i n with h|h
    ·exact h
    ·exact absurd hi (eP hs hc hn I.inv _ k rfl hk hkX (getD_in (by rw[I.inv.size];omega) hkf) i h)
   have hiX:X i=false:=by
    rcases h:X i with _|_
    ·rfl
    ·exact absurd ⟨i,hi,hin,h⟩ hxr
   obtain⟨hun,o',ho',hall'⟩:=mem_ready.1 hi;obtain⟨o,ho,hol,hg,hd,hz,_,_⟩:=hop i hin;have:o'=o:=Option.some.inj (ho'.symm.trans ho);subst this
   have hst:=step i o' hin hiX hol a' W I.b I.i I.far fun j hj hw=>by
    obtain⟨oj,hoj,e,he,hb,hon⟩:=Region.waitsFor_spec hw;have:oj=o':=Option.some.inj (hoj.symm.trans ho');subst this
    exact I.g j hj (by have:=hall' e he hb;rwa [hon]at this)
   unfold wpOp;rw[ho']
   simp only[Region.wanted,hg]
   simp only[if_true]
   refine .inl (hst.wp fun v W' hgd=>?_)
   obtain⟨hb,hI,hG⟩:=hgd;rw[hd]
   have hsz:i<listed.size:=by rw[I.inv.size];omega
   refine ih _ _ _ (by rw[dI hsz (getD_both hun),if_pos hin];omega) ⟨I.inv.set hi hin,rtr _ _ _ I.b hb,hI,by simp[Act.put,I.df],by simp[Act.put,I.sz],fun t ht=>?_,fun j hj hlj=>?_⟩
   ·rw[aJ _ (ht i hin)];exact I.far t ht
   ·by_cases e:j=i
    ·subst e;rw[bS _ (by rw[I.sz];exact hz)];exact hG
    ·rw[aJ _ (hdd i j hin hj (Ne.symm e))]
     rw[getD_set_ne false (Ne.symm e)]at hlj
     exact stab _ _ _ _ (I.g j hj hlj) hb
 refine wp_region_any hm ?_
 have:=H n (Array.replicate l.toArray.size false) a { w with drawn:=w.drawn+1 } (by rw[fe];omega)
  ⟨⟨by simp,fun j oj _ hl=>(by rw [getD_replicate_false]at hl;cases hl),fun t _ ht=>getD_in (by simpa using ht) (getD_replicate_false _ _)⟩,hr0,hi0,rfl,rfl,fun _ _=>rfl,
    fun i _ h=>(by rw [getD_replicate_false]at h;cases h)⟩
 rwa [show n+(l.toArray.size-n)=l.toArray.size by omega]at this
end
open Go.RowKit
def Bel(a b:qb):Prop:=Below a.heap.size a b
theorem Bel.trans{a b c:qb}(h:Bel a b)(k:Bel b c):Bel a c:=Below.trans h (Below.mono k (Below.size h))
theorem Bel.rfl'(a:qb):Bel a a:=Below.refl _ _
theorem Bel.out{a b:qb}(h:Bel a b):Below a.heap.size a b:=h
theorem Bel.drew(a:qb):Bel a { a with drawn:=a.drawn+1 }:=⟨rfl,rfl,rfl,qf _,fun _ _=>rfl⟩
theorem Bel.alloc(a:qb)(o:Obj):Bel a (a.alloc o):=(Below.refl _ _).alloc (qf _) o
structure Cel(W:qb)(g:Nat)(cs:List qc):Prop where
 lt:g<W.heap.size
 cell:∀i x,cs[i]? =some x->W.cell? ⟨g,i,none⟩=some x
 froz:∀i x,cs[i]? =some x->W.frozen? ⟨g,i,none⟩=false
theorem Cel.below{W W':qb}{g:Nat}{cs:List qc}(h:Cel W g cs)(hb:Below W.heap.size W W'):Cel W' g cs:=
 ⟨Nat.lt_of_lt_of_le h.lt hb.size,fun i x hx=>ae (h.cell i x hx) hb,fun i x hx=>aS (h.froz i x hx) (h.cell i x hx) hb⟩
theorem Cel.alloc{W:qb}{g:Nat}{cs:List qc}(h:Cel W g cs)(o:Obj):Cel (W.alloc o) g cs:=h.below (Bel.alloc W o)
theorem Cel.new(W:qb)(cs:Array qc)(T:TypeId):Cel (W.alloc (U cs T)) W.heap.size cs.toList:=by
 have h:=(Fr.start W).allocT (by simp) cs T
 exact⟨by simp,fun i x hx=>h.cellA 0 i rfl (by simpa[frAt]using hx),fun i x hx=>h.frozA 0 i rfl (by simpa[frAt]using hx)⟩
theorem Cel.new'(W:qb)(cs:Array qc)(T:TypeId){g:Nat}(hg:g=W.heap.size):Cel (W.alloc (U cs T)) g cs.toList:=by subst hg;exact Cel.new W cs T
theorem Cel.at{W:qb}{g:Nat}{cs:List qc}(h:Cel W g cs)(i:Nat){x:qc}(hx:cs[i]? =some x):W.cell? ⟨g,i,none⟩=some x:=h.cell i x hx
theorem Cel.st{W:qb}{g:Nat}{cs:List qc}(h:Cel W g cs){i:Nat}{v:qc}(hi:i<cs.length):Cel (W.setCell ⟨g,i,none⟩ v) g (cs.set i v):=by
 have hc:W.cell? ⟨g,i,none⟩=some cs[i]:=h.cell i _ (List.getElem?_eq_getElem hi)
 refine⟨by simpa using h.lt,fun j x hx=>?_,fun j x hx=>?_⟩
 ·by_cases e:j=i
  ·subst e
   rw[List.getElem?_set_self hi]at hx
   injection hx with hx;subst hx
   simp[go_sem,hc]
  ·rw[List.getElem?_set_ne (Ne.symm e)]at hx
   have:=h.cell j x hx
   simp[go_sem,e,this]
 ·by_cases e:j=i
  ·subst e
   have:=h.froz j _ (List.getElem?_eq_getElem hi)
   simpa[go_sem]using this
  ·rw[List.getElem?_set_ne (Ne.symm e)]at hx
   have:=h.froz j x hx
   simpa[go_sem]using this
abbrev RP:Type:=qc->qb->Prop
def Stb(P:RP):Prop:=∀v W W',P v W->Bel W W'->P v W'
def GL(l:List RP)(i:Nat)(v:qc)(W:qb):Prop:=(l.getD i (fun _ _=>True)) v W
inductive AllStb:List RP->Prop
 |nil:AllStb []
 |cons {P:RP} {l:List RP}:Stb P->AllStb l->AllStb (P::l)
theorem GL.stab:∀{l:List RP},AllStb l->∀i v W W',GL l i v W->Bel W W'->GL l i v W'
 |_,.nil,_,_,_,_,_,_=>trivial
 |_,.cons h _,0,v,W,W',hg,hb=>h v W W' hg hb
 |_,.cons _ h,i+1,v,W,W',hg,hb=>GL.stab h i v W W' hg hb
def Eqv(x:qc):RP:=fun v _=>v=x
theorem a6(x:qc):Stb (Eqv x):=fun _ _ _ h _=>h
def Cpy(xs:List Int):RP:=fun v W=>∃X k,v=z X xs.length k/\SL W X xs.length xs/\xs.length<=k
theorem stb_cpy(xs:List Int):Stb (Cpy xs):=fun _ _ _ ⟨X,k,h1,h2,h3⟩ hb=>⟨X,k,h1,h2.below hb,h3⟩
def Any:RP:=fun _ _=>True
theorem w_{P:Program}{w:qb}{id:Nat}{Q:Exit->Act->qb->Prop}{a:Act}{l:List Oper}(n:Nat)(X:Nat->Bool)(ds:Nat->Nat)(L:List RP)(sb:AllStb L)
  (early:∀i o,i<n->X i=true->l[i]? =some o->∀(a':Act) (W:qb),Bel w W->True->(∀t,(∀i,i<n->ds i≠t)->a'.tmps.getD t qa=a.tmps.getD t qa)->(∀j,j<n->Region.waitsFor .any l.toArray i j=true->GL L j (a'.tmps.getD (ds j) qa) W)->∃v,(∀W',(j0 a'.eval o).run P W'=.ok (.value v) W')/\GL L i v W)
  (step:∀i o,i<n->X i=false->l[i]? =some o->∀(a':Act) (W:qb),Bel w W->True->(∀t,(∀i,i<n->ds i≠t)->a'.tmps.getD t qa=a.tmps.getD t qa)->(∀j,j<n->Region.waitsFor .any l.toArray i j=true->GL L j (a'.tmps.getD (ds j) qa) W)->MStep P o a' W (fun v W'=>Bel W W'/\True/\GL L i v W'))
  (tail:∀(v:Nat->qc) (W:qb),Bel w W->True->(∀i,i<n->GL L i (v i) W)->wpList P l.toArray Q (l.drop n) (putV a ds v n) W)
  (hm:P.follows .mixedOrders=true:=by kernel_rfl) (hB:j8 l.toArray n X ds a.tmps.size=true:=by kernel_rfl) (hQ:∀(c:List PanicEntry) (a:Act) (d:Tmp) (v:qc) (w:qb),Q (.panic c) (Act.put a (some d) v) w->Q (.panic c) a w:=by exact fun _ _ _ _ _ h=>h):(Code.region id l.toArray true).wp P Q a w:=
 bI n X ds Bel (fun _=>True) (GL L) hm hB hQ (fun _ _ _ h1 h2=>Bel.trans h1 h2) Bel.rfl' (GL.stab sb) (Bel.drew _) trivial early step tail
theorem il{P:Program}{o:Oper}{a:Act}{W:qb}{u:qc}{Q:qc->qb->Prop}(h:(j0 a.eval o).run P W=.ok (.value u) W)(q:Q u W:=by exact rfl):MStep P o a W (fun v W'=>Bel W W'/\True/\Q v W'):=.inl ⟨u,W,h,Bel.rfl' _,trivial,q⟩
open Go.RowKit Pl
def stVal(s:Stp)(die:Nat):qc:=F #[r y (s.src:Int),r y s.dst,r y (die:Int),D s.hit]
def RetStp(w:qb)(die:Nat)(o:Option Stp)(e:Ending)(w':qb):Prop:=(match o with
 |some s=>e=O (jz #[stVal s die,D true])
 |none=>∃a b c d,e=O (jz #[F #[r y a,r y b,r y c,D d],D false]))/\Below w.heap.size w w'
theorem RetStp.yes{w w':qb}{die:Nat}{o:Option Stp}{v:qc}(s:Stp)(h:o=some s)(hv:v=jz #[stVal s die,D true])(hb:Below w.heap.size w w'):RetStp w die o (O v) w':=by subst h hv;exact⟨rfl,hb⟩
theorem RetStp.no{w w':qb}{die:Nat}{o:Option Stp}{a b c:Int}{d:Bool}(h:o=none)(hb:Below w.heap.size w w'):RetStp w die o (O (jz #[F #[r y a,r y b,r y c,D d],D false])) w':=by subst h;exact⟨⟨a,b,c,d,rfl⟩,hb⟩
theorem lW(P i:Nat)(c h s:Int)(A1 A2:Option Addr)(n1 c1 n2 c2:Nat)(other:List Int)(w:qb)(h2:SL w A2 n2 other)(hn:n2=P+1)(hP:P<=1000)(hi:i<P):
  Calls Tryz.prog 244 #[F #[r y (P:Int),r y c,r y h,r y s],F #[z A1 n1 c1,z A2 n2 c2],r y (i:Int)] w fun e w'=>e=O (D (decide (other.getD (P-1-i) 0<=1)))/\Below w.heap.size w w':=by
 have HF:Hid (Fr w ((w.alloc (U #[r y (P:Int),r y c,r y h,r y s] 33)).alloc (U #[z A1 n1 c1,z A2 n2 c2] 35)) [[r y (P:Int),r y c,r y h,r y s],[z A1 n1 c1,z A2 n2 c2]]):=((Fr.start w).allocT (by simp) _ _).allocT (by simp) _ _
 obtain⟨x2,o2,hA,hb2,hcl⟩:=(h2.below HF.out.b).2 (by omega)
 subst hA
 have q2:=hcl (P-1-i) (by omega)
 have a0:(P:Int)-1-(i:Int)<(n2:Int):=by omega
 have a2:((P:Int)-1-(i:Int)).toNat=P-1-i:=by omega
 have HB:=h_ HF.out.b;clear hcl h2 hn;generalize other.getD (P-1-i) 0=u at *
 go_enter Tryz.func244,Tryz.ntmps244
 go_wp2_with (fail)
 go_ret
 exact⟨rfl,HB.out⟩
theorem l04Open_any(P i:Nat)(c h s:Int)(A1 A2:Option Addr)(n1 c1 n2 c2:Nat)(other:List Int)(w:qb)(h2:SL w A2 n2 other)(hn:n2=P+1)(hP:P<=1000)(hi:i<P):
  Calls Tryz.prog 238 #[F #[r y (P:Int),r y c,r y h,r y s],F #[z A1 n1 c1,z A2 n2 c2],r y (i:Int)] w fun e w'=>e=O (D (decide (other.getD (P-1-i) 0<=1)))/\Below w.heap.size w w':=by
 have HF:Hid (Fr w ((w.alloc (U #[r y (P:Int),r y c,r y h,r y s] 33)).alloc (U #[z A1 n1 c1,z A2 n2 c2] 35)) [[r y (P:Int),r y c,r y h,r y s],[z A1 n1 c1,z A2 n2 c2]]):=((Fr.start w).allocT (by simp) _ _).allocT (by simp) _ _
 obtain⟨x2,o2,hA,hb2,hcl⟩:=(h2.below HF.out.b).2 (by omega)
 subst hA
 have q2:=hcl (P-1-i) (by omega)
 have a0:(P:Int)-1-(i:Int)<(n2:Int):=by omega
 have a2:((P:Int)-1-(i:Int)).toNat=P-1-i:=by omega
 have HB:=h_ HF.out.b;clear hcl h2 hn;generalize other.getD (P-1-i) 0=u at *
 go_enter Tryz.func238,Tryz.ntmps238
 go_wp2_with (fail)
 go_ret
 exact⟨rfl,HB.out⟩
theorem stepFrom_any(P h src die:Nat)(c s:Int)(A1 A2:Option Addr)(n1 c1 n2 c2:Nat)(own other:List Int)(w:qb)(h1:SL w A1 n1 own)(h2:SL w A2 n2 other)(hl1:n1=P+1)(hl2:n2=P+1)(hP:P<=1000)(hsrc:src<=P)(hd1:1<=die)(hd2:die<=1000)(hh:h<=1000):
  Calls Tryz.prog 236 #[F #[r y (P:Int),r y c,r y (h:Int),r y s],F #[z A1 n1 c1,z A2 n2 c2],r y (src:Int),r y (die:Int)] w (RetStp w die (stepP P h (own,other) src die)):=by
 have HF:Hid (Fr w (((w.alloc (U #[r y (P:Int),r y c,r y (h:Int),r y s] 33)).alloc (U #[z A1 n1 c1,z A2 n2 c2] 35)).alloc (U #[r y 0,r y 0,r y 0,D false] 242)) [[r y (P:Int),r y c,r y (h:Int),r y s],[z A1 n1 c1,z A2 n2 c2],[r y 0,r y 0,r y 0,D false]]):=(((Fr.start w).allocT (by simp) _ _).allocT (by simp) _ _).allocT (by simp) _ _
 have HB:=h_ HF.out.b
 have COP:=h_ fun(i:Nat) (W:qb) (hw:Below w.heap.size w W) (hi:i<P)=>lW P i c h s A1 A2 n1 c1 n2 c2 other W (h2.below hw) hl2 hP hi
 have CHI:=h_ fun(W:qb) (hw:Below w.heap.size w W)=>cL A1 n1 c1 own W (h1.below hw) (by omega)
 have HL:Hid (own.length=n1):=h1.1
 obtain⟨x1,o1,hA,hb1,hcl1⟩:=(h1.below HF.out.b).2 (by omega)
 obtain⟨x2,o2,hA2,hb2,hcl2⟩:=(h2.below HF.out.b).2 (by omega)
 subst hA hA2
 have q1:=hcl1 src (by omega)
 have qP:=hcl1 P (by omega)
 have HS:Hid (stepP P h (own,other) src die=if own.getD src 0=0 then none else if 0<own.getD P 0/\src≠P then none
  else if die<=src then(if other.getD (P-1-(src-die)) 0<=1 then some ⟨src,(src:Int)-die,other.getD (P-1-(src-die)) 0==1⟩else none)
  else if(h:Int)<=topI own n1 then none else if src+1≠die/\(src:Int)<topI own n1 then none else some ⟨src,-1,false⟩):=by unfold Hid stepP;rw[<-HL.out]
 have HQ2:=h_ hcl2
 have hs1:(src:Int)<(n1:Int):=by omega
 have hp1:(P:Int)<(n1:Int):=by omega
 have HL2:=h_ hl2;clear h1 h2 hcl1 hcl2 hl1 hl2;generalize hX:own.getD src 0=X at *;generalize hY:own.getD P 0=Y at *
 by_cases hX0:X=0
 focus
  have HN:=h_ (HS.out.trans (if_pos hX0))
  have b0:(X==0)=true:=by simp[hX0]
  clear hX0
  go_enter Tryz.func236,Tryz.ntmps236
  refine ?zh
 rotate_left
 focus
  have b0:(X==0)=false:=by simp[hX0]
  have HS:=h_ (HS.out.trans (if_neg hX0));clear hX0
  by_cases hY0:0<Y/\src≠P
  focus
   have HN:=h_ (HS.out.trans (if_pos hY0))
   have b1:=hY0.1
   have b2:((src:Int) !=(P:Int))=true:=by have:=hY0.2;simp;omega
   clear hY0
   go_enter Tryz.func236,Tryz.ntmps236
   refine ?ze
  rotate_left
  focus
   have HS:=h_ (HS.out.trans (if_neg hY0))
   have B:Hid (¬0<Y)\/Hid (0<Y/\((src:Int) !=(P:Int))=false):=by
    by_cases hy:0<Y
    ·exact .inr ⟨hy,by have:src=P:=Decidable.byContradiction fun h=>hY0 ⟨hy,h⟩;simp[this]⟩
    ·exact .inl hy
   clear hY0
   by_cases hds:die<=src
   focus
    have HS:=h_ (HS.out.trans (if_pos hds))
    have q2:=HQ2.out (P-1-(src-die)) (by have:=HL2.out;omega)
    have CO:=h_ fun(W:qb) (hw:Below w.heap.size w W)=>COP.out (src-die) W hw (by omega)
    have eqd:(((src-die:Nat)):Int)=(src:Int)-(die:Int):=by omega
    have a0:(P:Int)-1-((src:Int)-(die:Int))<(n2:Int):=by have:=HL2.out;omega
    have a1:0<=(P:Int)-1-((src:Int)-(die:Int)):=by omega
    have a2:((P:Int)-1-((src:Int)-(die:Int))).toNat=P-1-(src-die):=by omega
    rw[eqd]at CO;clear HQ2 eqd COP CHI;generalize other.getD (P-1-(src-die)) 0=Z at *
    by_cases hZ:Z<=1
    focus
     have HS:=h_ (HS.out.trans (if_pos hZ))
     have hd:decide (Z<=1)=true:=decide_eq_true hZ;rw[hd]at CO;clear hd hZ
     rcases B with B|B
     focus
      have b1:=B.out
      refine ?zn
     rotate_left
     focus
      have b1:=B.out.1
      have b2:=B.out.2
      refine ?zm
    rotate_left 2
    focus
     have HN:=h_ (HS.out.trans (if_neg hZ))
     have hd:decide (Z<=1)=false:=decide_eq_false hZ;rw[hd]at CO;clear hd hZ
     rcases B with B|B
     focus
      have b1:=B.out
      refine ?zb
     rotate_left
     focus
      have b1:=B.out.1
      have b2:=B.out.2
      refine ?za
   rotate_left 4
   focus
    have HS:=h_ (HS.out.trans (if_neg hds))
    have hge:¬0<=(src:Int)-(die:Int):=by omega
    have CH:=h_ CHI.out;clear HQ2 COP CHI hds;generalize topI own n1=T at *
    by_cases hT:(h:Int)<=T
    focus
     have HN:=h_ (HS.out.trans (if_pos hT))
     rcases B with B|B
     focus
      have b1:=B.out
      refine ?zf
     rotate_left
     focus
      have b1:=B.out.1
      have b2:=B.out.2
      refine ?zc
    rotate_left 2
    focus
     have HS:=h_ (HS.out.trans (if_neg hT))
     by_cases hE:src+1≠die/\(src:Int)<T
     focus
      have HN:=h_ (HS.out.trans (if_pos hE))
      have b3:((src:Int) !=(die:Int)-1)=true:=by have:=hE.1;simp;omega
      have b4:=hE.2;clear hE
      rcases B with B|B
      focus
       have b1:=B.out
       refine ?zg
      rotate_left
      focus
       have b1:=B.out.1
       have b2:=B.out.2
       refine ?zd
     rotate_left 2
     focus
      have HS:=h_ (HS.out.trans (if_neg hE))
      have C:Hid (((src:Int) !=(die:Int)-1)=false)\/Hid (((src:Int) !=(die:Int)-1)=true/\¬(src:Int)<T):=by
       by_cases h1:src+1=die
       ·exact .inl (by unfold Hid;simp;omega)
       ·exact .inr ⟨by simp;omega,fun h=>hE ⟨h1,h⟩⟩
      clear hE
      rcases C with C|C
      focus
       have b3:=C.out
       rcases B with B|B
       focus
        have b1:=B.out
        refine ?zk
       rotate_left
       focus
        have b1:=B.out.1
        have b2:=B.out.2
        refine ?zi
      rotate_left 2
      focus
       have b3:=C.out.1
       have b4:=C.out.2
       rcases B with B|B
       focus
        have b1:=B.out
        refine ?zl
       rotate_left
       focus
        have b1:=B.out.1
        have b2:=B.out.2
        refine ?zj
 rotate_left 13
 case' zc|zd|zf|zg|zi|zj|zk|zl=>
  go_enter Tryz.func236,Tryz.ntmps236
  go_wp2_with (fail)
  refine(CH.out _ HB.out).mono ?_
  rintro e w1 ⟨rfl,rfl⟩
 case zi|zj|zk|zl=>
  go_wp2_with (fail)
  refine qd (v:=jz #[F #[r y (src:Int),r y (-1),r y (die:Int),D false],D true]) (by simp[results,Tryz.results236,go_sem, *]) rfl (RetStp.yes _ HS.out rfl ?_)
  repeat (first|exact HB.out|exact Below.refl _ _|refine alw ?_ (qf _)|refine stw ?_ (by omega))
 case' zm|zn|za|zb=>
  go_enter Tryz.func236,Tryz.ntmps236
  go_wp2_with (fail)
  refine(CO.out _ HB.out).mono ?_
  rintro e w1 ⟨rfl,hb1⟩
 case zm|zn=>
  have HF1:=h_ (HF.out.below hb1);have HBk:=h_ HF1.out.b;have q2:=ae q2 hb1;clear hb1 HF CO;have c00:=HF1.out.c0 0 rfl;have c11:=HF1.out.c1 1 rfl;have c20:=HF1.out.c2 0 rfl;have f20:=HF1.out.f2 0 rfl;have c21:=HF1.out.c2 1 rfl;have f21:=HF1.out.f2 1 rfl;have c22:=HF1.out.c2 2 rfl;have f22:=HF1.out.f2 2 rfl;have c23:=HF1.out.c2 3 rfl;have f23:=HF1.out.f2 3 rfl
  go_wp2_with (fail)
  refine qd (v:=jz #[F #[r y (src:Int),r y ((src:Int)-(die:Int)),r y (die:Int),D (Z==1)],D true]) (by simp[results,Tryz.results236,go_sem, *]) rfl (RetStp.yes _ HS.out rfl ?_)
  repeat (first|exact HBk.out|refine stw ?_ (by omega))
 case' za|zb=>
  have HF1:=h_ (HF.out.below hb1);have HBk:=h_ HF1.out.b;clear hb1 HF CO;have c20:=HF1.out.c2 0 rfl;have f20:=HF1.out.f2 0 rfl;have c21:=HF1.out.c2 1 rfl;have f21:=HF1.out.f2 1 rfl;have c22:=HF1.out.c2 2 rfl;have f22:=HF1.out.f2 2 rfl;have c23:=HF1.out.c2 3 rfl;have f23:=HF1.out.f2 3 rfl
 case za|zb|zc|zd|ze|zf|zg|zh=>
  go_wp2_with (fail)
  refine qd (v:=jz #[F #[r y 0,r y 0,r y 0,D false],D false]) (by simp[results,Tryz.results236,go_sem, *]) rfl (RetStp.no HN.out ?_)
  repeat (first|exact HB.out|exact HBk.out|refine stw ?_ (by omega))
def dSp:Nat->Nat
 | 0=>43
 | 1=>44
 | 2=>45
 | 3=>46
 | 4=>47
 | 5=>48
 | 6=>49
 | 7=>50
 | 8=>51
 | 9=>52
 | 10=>53
 | 11=>54
 | 12=>55
 | 13=>56
 | 14=>57
 | 15=>58
 | 16=>59
 | 17=>60
 |_=>0
theorem l04Step_any(P h src die:Nat)(c s:Int)(A1 A2:Option Addr)(n1 c1 n2 c2:Nat)(own other:List Int)(w:qb)(h1:SL w A1 n1 own)(h2:SL w A2 n2 other)(hl1:n1=P+1)(hl2:n2=P+1)(hP:P<=1000)(hsrc:src<=P)(hd1:1<=die)(hd2:die<=1000)(hh:h<=1000)
  (hq1:∀x∈own,0<=x) (hq2:∀x∈other,0<=x) (hm1:own.sum<=2000000) (hm2:other.sum<=2000000):
  Calls Tryz.prog 233 #[F #[r y (P:Int),r y c,r y (h:Int),r y s],F #[z A1 n1 c1,z A2 n2 c2],r y (src:Int),r y (die:Int)] w (RetStp w die (if overB (own,other)=true then none else stepP P h (own,other) src die)):=by
 have HF:Hid (Fr w (((w.alloc (U #[r y (P:Int),r y c,r y (h:Int),r y s] 33)).alloc (U #[z A1 n1 c1,z A2 n2 c2] 35)).alloc (U #[r y 0,r y 0,r y 0,D false] 242)) [[r y (P:Int),r y c,r y (h:Int),r y s],[z A1 n1 c1,z A2 n2 c2],[r y 0,r y 0,r y 0,D false]]):=(((Fr.start w).allocT (by simp) _ _).allocT (by simp) _ _).allocT (by simp) _ _
 have HB:=h_ HF.out.b
 have CV0:=h_ fun(W:qb) (hw:Below w.heap.size w W)=>gj A1 A2 n1 c1 n2 c2 own other W (h1.below hw) (h2.below hw) hq1 hq2 hm1 hm2 (by omega) (by omega)
 have COP:=h_ fun(i:Nat) (W:qb) (hw:Below w.heap.size w W) (hi:i<P)=>l04Open_any P i c h s A1 A2 n1 c1 n2 c2 other W (h2.below hw) hl2 hP hi
 have CHI:=h_ fun(W:qb) (hw:Below w.heap.size w W)=>dt A1 n1 c1 own W (h1.below hw) (by omega)
 have HL:Hid (own.length=n1):=h1.1
 obtain⟨x1,o1,hA,hb1,hcl1⟩:=(h1.below HF.out.b).2 (by omega)
 obtain⟨x2,o2,hA2,hb2,hcl2⟩:=(h2.below HF.out.b).2 (by omega)
 subst hA hA2
 have q1:=hcl1 src (by omega)
 have qP:=hcl1 P (by omega)
 have HS:Hid (stepP P h (own,other) src die=if own.getD src 0=0 then none else if 0<own.getD P 0/\src≠P then none
  else if die<=src then(if other.getD (P-1-(src-die)) 0<=1 then some ⟨src,(src:Int)-die,other.getD (P-1-(src-die)) 0==1⟩else none)
  else if(h:Int)<=topI own n1 then none else if src+1≠die/\(src:Int)<topI own n1 then none else some ⟨src,-1,false⟩):=by unfold Hid stepP;rw[<-HL.out]
 have HQ2:=h_ hcl2
 have hs1:(src:Int)<(n1:Int):=by omega
 have hp1:(P:Int)<(n1:Int):=by omega
 have HL2:=h_ hl2;clear h1 h2 hcl1 hcl2 hl1 hl2;generalize hX:own.getD src 0=X at *;generalize hY:own.getD P 0=Y at *
 obtain⟨RR,hRR⟩:∃RR,RR=(if overB (own,other)=true then none else stepP P h (own,other) src die):=⟨_,rfl⟩
 rw[<-hRR]
 by_cases hov:overB (own,other)=true
 focus
  have HN:Hid (RR=none):=hRR.trans (if_pos hov)
  clear hRR
  have CV:Hid (∀W:qb,Below w.heap.size w W->Calls Tryz.prog 95 #[F #[z (some ⟨x1,o1,none⟩) n1 c1,z (some ⟨x2,o2,none⟩) n2 c2]] W fun e w'=>e=O (D true)/\Below W.heap.size W w'):=fun W hw=>by
   have h:=CV0.out W hw
   rw[show decide (own.sum=0\/other.sum=0)=true from hov]at h
   exact h
  clear hov CV0
  refine ?zx
 rotate_left
 focus
  have hov2:overB (own,other)=false:=by simpa using hov
  have CV:Hid (∀W:qb,Below w.heap.size w W->Calls Tryz.prog 95 #[F #[z (some ⟨x1,o1,none⟩) n1 c1,z (some ⟨x2,o2,none⟩) n2 c2]] W fun e w'=>e=O (D false)/\Below W.heap.size W w'):=fun W hw=>by
   have h:=CV0.out W hw
   rw[show decide (own.sum=0\/other.sum=0)=false from hov2]at h
   exact h
  have HS:=h_ ((hRR.trans (if_neg hov)).trans HS.out);clear hov hov2 CV0 hRR
  by_cases hX0:X=0
  focus
   have HN:=h_ (HS.out.trans (if_pos hX0))
   have b0:(X==0)=true:=by simp[hX0]
   clear hX0
   refine ?zz
  rotate_left
  focus
   have b0:(X==0)=false:=by simp[hX0]
   have HS:=h_ (HS.out.trans (if_neg hX0));clear hX0
   by_cases hY0:0<Y/\src≠P
   focus
    have HN:=h_ (HS.out.trans (if_pos hY0))
    have b1:=hY0.1
    have b2:((src:Int) !=(P:Int))=true:=by have:=hY0.2;simp;omega
    clear hY0
    refine ?zy
   rotate_left
   focus
    have HS:=h_ (HS.out.trans (if_neg hY0))
    have B:Hid (¬0<Y)\/Hid (0<Y/\((src:Int) !=(P:Int))=false):=by
     by_cases hy:0<Y
     ·exact .inr ⟨hy,by have:src=P:=Decidable.byContradiction fun h=>hY0 ⟨hy,h⟩;simp[this]⟩
     ·exact .inl hy
    clear hY0
    by_cases hds:die<=src
    focus
     have HS:=h_ (HS.out.trans (if_pos hds))
     have q2:=HQ2.out (P-1-(src-die)) (by have:=HL2.out;omega)
     have CO:=h_ fun(W:qb) (hw:Below w.heap.size w W)=>COP.out (src-die) W hw (by omega)
     have eqd:(((src-die:Nat)):Int)=(src:Int)-(die:Int):=by omega
     have a0:(P:Int)-1-((src:Int)-(die:Int))<(n2:Int):=by have:=HL2.out;omega
     have a1:0<=(P:Int)-1-((src:Int)-(die:Int)):=by omega
     have a2:((P:Int)-1-((src:Int)-(die:Int))).toNat=P-1-(src-die):=by omega
     rw[eqd]at CO;clear HQ2 eqd COP CHI;generalize other.getD (P-1-(src-die)) 0=Z at *
     by_cases hZ:Z<=1
     focus
      have HS:=h_ (HS.out.trans (if_pos hZ))
      have hd:decide (Z<=1)=true:=decide_eq_true hZ;rw[hd]at CO;clear hd hZ
      rcases B with B|B
      focus
       have b1:=B.out
       refine ?zv
      rotate_left
      focus
       have b1:=B.out.1
       have b2:=B.out.2
       refine ?zt
     rotate_left 2
     focus
      have HN:=h_ (HS.out.trans (if_neg hZ))
      have hd:decide (Z<=1)=false:=decide_eq_false hZ;rw[hd]at CO;clear hd hZ
      rcases B with B|B
      focus
       have b1:=B.out
       refine ?zw
      rotate_left
      focus
       have b1:=B.out.1
       have b2:=B.out.2
       refine ?zu
    rotate_left 4
    focus
     have HS:=h_ (HS.out.trans (if_neg hds))
     have hge:¬0<=(src:Int)-(die:Int):=by omega
     have CH:=h_ CHI.out;clear HQ2 COP CHI hds;generalize topI own n1=T at *
     by_cases hT:(h:Int)<=T
     focus
      have HN:=h_ (HS.out.trans (if_pos hT))
      rcases B with B|B
      focus
       have b1:=B.out
       refine ?zi
      rotate_left
      focus
       have b1:=B.out.1
       have b2:=B.out.2
       refine ?zg
     rotate_left 2
     focus
      have HS:=h_ (HS.out.trans (if_neg hT))
      by_cases hE:src+1≠die/\(src:Int)<T
      focus
       have HN:=h_ (HS.out.trans (if_pos hE))
       have b3:(src:Int)-(die:Int)< -1:=by have:=hE.1;omega
       have b4:=hE.2;clear hE
       rcases B with B|B
       focus
        have b1:=B.out
        refine ?zl
       rotate_left
       focus
        have b1:=B.out.1
        have b2:=B.out.2
        refine ?zh
      rotate_left 2
      focus
       have HS:=h_ (HS.out.trans (if_neg hE))
       have C:Hid (¬(src:Int)-(die:Int)< -1)\/Hid ((src:Int)-(die:Int)< -1/\¬(src:Int)<T):=by
        by_cases h1:src+1=die
        ·exact .inl (by unfold Hid;omega)
        ·exact .inr ⟨by omega,fun h=>hE ⟨h1,h⟩⟩
       clear hE
       rcases C with C|C
       focus
        have b3:=C.out
        rcases B with B|B
        focus
         have b1:=B.out
         refine ?zj
        rotate_left
        focus
         have b1:=B.out.1
         have b2:=B.out.2
         refine ?ze
       rotate_left 2
       focus
        have b3:=C.out.1
        have b4:=C.out.2
        rcases B with B|B
        focus
         have b1:=B.out
         refine ?zk
        rotate_left
        focus
         have b1:=B.out.1
         have b2:=B.out.2
         refine ?zf
 rotate_left 14
 case' zx|zy|zz|ze|zf|zg|zh|zi|zj|zk|zl|zt|zu|zv|zw=>
  go_enter Tryz.func233,Tryz.ntmps233
  go_wp2_with (fail)
  refine(CV.out _ HB.out).mono ?_
  rintro e w1 ⟨rfl,hb1⟩
 case' zx=>
  have HF1:=h_ (HF.out.below hb1);have HBk:=h_ HF1.out.b;clear hb1 HF CV HB;have c20:=HF1.out.c2 0 rfl;have f20:=HF1.out.f2 0 rfl;have c21:=HF1.out.c2 1 rfl;have f21:=HF1.out.f2 1 rfl;have c22:=HF1.out.c2 2 rfl;have f22:=HF1.out.f2 2 rfl;have c23:=HF1.out.c2 3 rfl;have f23:=HF1.out.f2 3 rfl
  go_wp2_with (fail)
 case' zy=>
  have HF1:=h_ (HF.out.below hb1);have HBk:=h_ HF1.out.b;have q1:=ae q1 hb1;have qP:=ae qP hb1;clear hb1 HF CV HB;have c00:=HF1.out.c0 0 rfl;have c10:=HF1.out.c1 0 rfl;have c20:=HF1.out.c2 0 rfl;have f20:=HF1.out.f2 0 rfl;have c21:=HF1.out.c2 1 rfl;have f21:=HF1.out.f2 1 rfl;have c22:=HF1.out.c2 2 rfl;have f22:=HF1.out.f2 2 rfl;have c23:=HF1.out.c2 3 rfl;have f23:=HF1.out.f2 3 rfl
  go_wp2_with (fail)
 case' zz=>
  have HF1:=h_ (HF.out.below hb1);have HBk:=h_ HF1.out.b;have q1:=ae q1 hb1;clear hb1 HF CV HB;have c10:=HF1.out.c1 0 rfl;have c20:=HF1.out.c2 0 rfl;have f20:=HF1.out.f2 0 rfl;have c21:=HF1.out.c2 1 rfl;have f21:=HF1.out.f2 1 rfl;have c22:=HF1.out.c2 2 rfl;have f22:=HF1.out.f2 2 rfl;have c23:=HF1.out.c2 3 rfl;have f23:=HF1.out.f2 3 rfl
  go_wp2_with (fail)
 case' ze|zf|zg|zh|zi|zj|zk|zl=>
  have HF1:=h_ (HF.out.below hb1);have HBk:=h_ HF1.out.b;have q1:=ae q1 hb1;have qP:=ae qP hb1;clear hb1 HF CV HB;have c00:=HF1.out.c0 0 rfl;have c02:=HF1.out.c0 2 rfl;have c10:=HF1.out.c1 0 rfl;have c20:=HF1.out.c2 0 rfl;have f20:=HF1.out.f2 0 rfl;have c21:=HF1.out.c2 1 rfl;have f21:=HF1.out.f2 1 rfl;have c22:=HF1.out.c2 2 rfl;have f22:=HF1.out.f2 2 rfl;have c23:=HF1.out.c2 3 rfl;have f23:=HF1.out.f2 3 rfl
  go_wp2_with (fail)
  refine(CH.out _ HBk.out).mono ?_
  rintro e w2 ⟨rfl,rfl⟩
  go_wp2_with (fail)
 case zx|zy|zz|zg|zh|zi|zl=>
  refine qd (v:=jz #[F #[r y 0,r y 0,r y 0,D false],D false]) (by simp[results,Tryz.results233,go_sem, *]) rfl (RetStp.no HN.out ?_)
  repeat (first|exact HBk.out|exact Below.refl _ _|refine alw ?_ (qf _)|refine stw ?_ (by omega))
 case ze|zf|zj|zk=>
  refine qd (v:=jz #[F #[r y (src:Int),r y (-1),r y (die:Int),D false],D true]) (by simp[results,Tryz.results233,go_sem, *]) rfl (RetStp.yes _ HS.out rfl ?_)
  repeat (first|exact HBk.out|exact Below.refl _ _|refine alw ?_ (qf _)|refine stw ?_ (by omega))
 case' zt|zu|zv|zw=>
  have HF1:=h_ (HF.out.below hb1);have HBk:=h_ HF1.out.b;have q1:=ae q1 hb1;have qP:=ae qP hb1;have q2:=ae q2 hb1;clear hb1 HF CV HB;have c00:=HF1.out.c0 0 rfl;have c10:=HF1.out.c1 0 rfl
  go_wp2_with (fail)
  clear c00 c10;clear q1 qP
 case' zt=>
  refine w_ 18 (fun _=>false) dSp [Eqv (r y (src:Int)),Eqv (r y ((src:Int)-(die:Int))),Eqv (r y (die:Int)),Eqv (J (some ⟨w.heap.size+1,1,none⟩)),Eqv (z (some ⟨x2,o2,none⟩) n2 c2),Eqv (J (some ⟨w.heap.size,0,none⟩)),Eqv (r y (P:Int)),Eqv (r y ((P:Int)-1)),Eqv (r y ((src:Int)-(die:Int))),Eqv (r y ((P:Int)-1-((src:Int)-(die:Int)))),Eqv (J (some ⟨x2,o2+(P-1-(src-die)),none⟩)),Eqv (r y Z),Eqv (D (Z==1)),Eqv (F #[r y (src:Int),r y ((src:Int)-(die:Int)),r y (die:Int),D (Z==1)]),Eqv (F #[r y (P:Int),r y c,r y (h:Int),r y s]),Eqv (F #[z (some ⟨x1,o1,none⟩) n1 c1,z (some ⟨x2,o2,none⟩) n2 c2]),Eqv (r y ((src:Int)-(die:Int))),Eqv (D true)] (by repeat (first|exact AllStb.nil|refine AllStb.cons (by first|exact a6 _|exact bp _ _ _) ?_)) (fun i o' _ hX=>by cases hX) ?_ ?_
  focus
   refine ?zb
  rotate_left
  intro v W2 hW hIW hg
 case' zu=>
  refine w_ 18 (fun _=>false) dSp [Eqv (r y (src:Int)),Eqv (r y ((src:Int)-(die:Int))),Eqv (r y (die:Int)),Eqv (J (some ⟨w.heap.size+1,1,none⟩)),Eqv (z (some ⟨x2,o2,none⟩) n2 c2),Eqv (J (some ⟨w.heap.size,0,none⟩)),Eqv (r y (P:Int)),Eqv (r y ((P:Int)-1)),Eqv (r y ((src:Int)-(die:Int))),Eqv (r y ((P:Int)-1-((src:Int)-(die:Int)))),Eqv (J (some ⟨x2,o2+(P-1-(src-die)),none⟩)),Eqv (r y Z),Eqv (D (Z==1)),Eqv (F #[r y (src:Int),r y ((src:Int)-(die:Int)),r y (die:Int),D (Z==1)]),Eqv (F #[r y (P:Int),r y c,r y (h:Int),r y s]),Eqv (F #[z (some ⟨x1,o1,none⟩) n1 c1,z (some ⟨x2,o2,none⟩) n2 c2]),Eqv (r y ((src:Int)-(die:Int))),Eqv (D false)] (by repeat (first|exact AllStb.nil|refine AllStb.cons (by first|exact a6 _|exact bp _ _ _) ?_)) (fun i o' _ hX=>by cases hX) ?_ ?_
  focus
   refine ?zd
  rotate_left
  intro v W2 hW hIW hg
 case' zv=>
  refine w_ 18 (fun _=>false) dSp [Eqv (r y (src:Int)),Eqv (r y ((src:Int)-(die:Int))),Eqv (r y (die:Int)),Eqv (J (some ⟨w.heap.size+1,1,none⟩)),Eqv (z (some ⟨x2,o2,none⟩) n2 c2),Eqv (J (some ⟨w.heap.size,0,none⟩)),Eqv (r y (P:Int)),Eqv (r y ((P:Int)-1)),Eqv (r y ((src:Int)-(die:Int))),Eqv (r y ((P:Int)-1-((src:Int)-(die:Int)))),Eqv (J (some ⟨x2,o2+(P-1-(src-die)),none⟩)),Eqv (r y Z),Eqv (D (Z==1)),Eqv (F #[r y (src:Int),r y ((src:Int)-(die:Int)),r y (die:Int),D (Z==1)]),Eqv (F #[r y (P:Int),r y c,r y (h:Int),r y s]),Eqv (F #[z (some ⟨x1,o1,none⟩) n1 c1,z (some ⟨x2,o2,none⟩) n2 c2]),Eqv (r y ((src:Int)-(die:Int))),Eqv (D true)] (by repeat (first|exact AllStb.nil|refine AllStb.cons (by first|exact a6 _|exact bp _ _ _) ?_)) (fun i o' _ hX=>by cases hX) ?_ ?_
  focus
   refine ?za
  rotate_left
  intro v W2 hW hIW hg
 case' zw=>
  refine w_ 18 (fun _=>false) dSp [Eqv (r y (src:Int)),Eqv (r y ((src:Int)-(die:Int))),Eqv (r y (die:Int)),Eqv (J (some ⟨w.heap.size+1,1,none⟩)),Eqv (z (some ⟨x2,o2,none⟩) n2 c2),Eqv (J (some ⟨w.heap.size,0,none⟩)),Eqv (r y (P:Int)),Eqv (r y ((P:Int)-1)),Eqv (r y ((src:Int)-(die:Int))),Eqv (r y ((P:Int)-1-((src:Int)-(die:Int)))),Eqv (J (some ⟨x2,o2+(P-1-(src-die)),none⟩)),Eqv (r y Z),Eqv (D (Z==1)),Eqv (F #[r y (src:Int),r y ((src:Int)-(die:Int)),r y (die:Int),D (Z==1)]),Eqv (F #[r y (P:Int),r y c,r y (h:Int),r y s]),Eqv (F #[z (some ⟨x1,o1,none⟩) n1 c1,z (some ⟨x2,o2,none⟩) n2 c2]),Eqv (r y ((src:Int)-(die:Int))),Eqv (D false)] (by repeat (first|exact AllStb.nil|refine AllStb.cons (by first|exact a6 _|exact bp _ _ _) ?_)) (fun i o' _ hX=>by cases hX) ?_ ?_
  focus
   refine ?zc
  rotate_left
  intro v W2 hW hIW hg
 case za|zb|zc|zd=>
  intro i o hi hX ho a' W hW hIW hfar hdep
  have e2:a'.tmps.getD 2 qa=r y (src:Int):=(fr hfar 2).trans rfl
  have e3:a'.tmps.getD 3 qa=r y (die:Int):=(fr hfar 3).trans rfl
  have e4:a'.tmps.getD 4 qa=J (some ⟨w.heap.size,0,none⟩):=(fr hfar 4).trans rfl
  have e5:a'.tmps.getD 5 qa=J (some ⟨w.heap.size+1,0,none⟩):=(fr hfar 5).trans rfl
  have e10:a'.tmps.getD 10 qa=r y ((src:Int)-(die:Int)):=(fr hfar 10).trans rfl
  have hi8:=i_17 hi
  clear hfar hX hi
  rcases hi8 with rfl|rfl|rfl|rfl|rfl|rfl|rfl|rfl|rfl|rfl|rfl|rfl|rfl|rfl|rfl|rfl|rfl|rfl
  all_goals (simp at ho;subst ho)
  ·refine il ?_;simp only[j0,qe,e2];go_simp
  ·refine il ?_;simp only[j0,qe,e10];go_simp
  ·refine il ?_;simp only[j0,qe,e3];go_simp
  ·refine il ?_;simp only[j0,qe,e5];go_simp
  ·have d1:a'.tmps.getD 46 qa=_:=dp hdep 3
   have y0:=(HF1.out.below hW).c1 1 rfl
   refine il ?_;simp only[j0,qe,d1];go_simp
  ·refine il ?_;simp only[j0,qe,e4];go_simp
  ·have d1:a'.tmps.getD 48 qa=_:=dp hdep 5
   have y0:=(HF1.out.below hW).c0 0 rfl
   refine il ?_;simp only[j0,qe,d1];go_simp
  ·have d1:a'.tmps.getD 49 qa=_:=dp hdep 6
   refine il ?_;simp only[j0,qe,d1];go_simp;first|done|(simp[IntKind.wrap,IntKind.bits,IntKind.signed];omega)
  ·refine il ?_;simp only[j0,qe,e10];go_simp
  ·have d1:a'.tmps.getD 50 qa=_:=dp hdep 7
   have d2:a'.tmps.getD 51 qa=_:=dp hdep 8
   refine il ?_;simp only[j0,qe,d1,d2];go_simp;first|done|(simp[IntKind.wrap,IntKind.bits,IntKind.signed];omega)
  ·have d1:a'.tmps.getD 47 qa=_:=dp hdep 4
   have d2:a'.tmps.getD 52 qa=_:=dp hdep 9
   refine il ?_;simp only[j0,qe,d1,d2];go_simp;first|done|(intro hq9;exfalso;omega)
  ·have d1:a'.tmps.getD 53 qa=_:=dp hdep 10
   have y0:=ae q2 hW
   refine il ?_;simp only[j0,qe,d1];go_simp
  ·have d1:a'.tmps.getD 54 qa=_:=dp hdep 11
   refine il ?_;simp only[j0,qe,d1];go_simp
  ·have d1:a'.tmps.getD 43 qa=_:=dp hdep 0
   have d2:a'.tmps.getD 44 qa=_:=dp hdep 1
   have d3:a'.tmps.getD 45 qa=_:=dp hdep 2
   have d4:a'.tmps.getD 55 qa=_:=dp hdep 12
   have d1':=d1;rw[Array.getD_eq_getD_getElem?]at d1';have d2':=d2;rw[Array.getD_eq_getD_getElem?]at d2';have d3':=d3;rw[Array.getD_eq_getD_getElem?]at d3';have d4':=d4;rw[Array.getD_eq_getD_getElem?]at d4'
   refine il ?_;simp only[j0,qe,d1,d2,d3,d4];go_simp
  ·have y0:=(HF1.out.below hW).c0 0 rfl
   have y1:=(HF1.out.below hW).c0 1 rfl;have y2:=(HF1.out.below hW).c0 2 rfl;have y3:=(HF1.out.below hW).c0 3 rfl
   refine il ?_;simp only[j0,qe,e4];go_simp
  ·have y0:=(HF1.out.below hW).c1 0 rfl
   have y1:=(HF1.out.below hW).c1 1 rfl
   refine il ?_;simp only[j0,qe,e5];go_simp
  ·refine il ?_;simp only[j0,qe,e10];go_simp
  ·have d1:a'.tmps.getD 57 qa=_:=dp hdep 14
   have d2:a'.tmps.getD 58 qa=_:=dp hdep 15
   have d3:a'.tmps.getD 59 qa=_:=dp hdep 16
   refine .inr ⟨238,#[F #[r y (P:Int),r y c,r y (h:Int),r y s],F #[z (some ⟨x1,o1,none⟩) n1 c1,z (some ⟨x2,o2,none⟩) n2 c2],r y ((src:Int)-(die:Int))],by simp only[j0,qe,d1,d2,d3];go_simp,?_⟩
   refine(CO.out W (HBk.out.trans (hW.mono HBk.out.size))).mono ?_
   rintro e W' ⟨rfl,hb'⟩
   exact⟨_,rfl,hb',trivial,rfl⟩
 case' zu|zt|zv|zw=>
  have g0:v 0=_:=gq hg 0
  have g1:v 1=_:=gq hg 1
  have g2:v 2=_:=gq hg 2
  have g3:v 3=_:=gq hg 3
  have g4:v 4=_:=gq hg 4
  have g5:v 5=_:=gq hg 5
  have g6:v 6=_:=gq hg 6
  have g7:v 7=_:=gq hg 7
  have g8:v 8=_:=gq hg 8
  have g9:v 9=_:=gq hg 9
  have g10:v 10=_:=gq hg 10
  have g11:v 11=_:=gq hg 11
  have g12:v 12=_:=gq hg 12
  have g13:v 13=_:=gq hg 13
  have g14:v 14=_:=gq hg 14
  have g15:v 15=_:=gq hg 15
  have g16:v 16=_:=gq hg 16
  have g17:v 17=_:=gq hg 17
  simp only[List.drop_succ_cons,List.drop_zero,putV,dSp,g0,g1,g2,g3,g4,g5,g6,g7,g8,g9,g10,g11,g12,g13,g14,g15,g16,g17,Act.put]
  clear g0 g1 g2 g3 g4 g5 g6 g7 g8 g9 g10 g11 g12 g13 g14 g15 g16 g17 hg hIW;have HF2:=h_ (HF1.out.below hW);have HB2:=h_ HF2.out.b;clear hW q2 HF1 HBk;have c20:=HF2.out.c2 0 rfl;have f20:=HF2.out.f2 0 rfl;have c21:=HF2.out.c2 1 rfl;have f21:=HF2.out.f2 1 rfl;have c22:=HF2.out.c2 2 rfl;have f22:=HF2.out.f2 2 rfl;have c23:=HF2.out.c2 3 rfl;have f23:=HF2.out.f2 3 rfl
  go_wp2_with (fail)
 case zt|zv=>
  refine qd (v:=jz #[F #[r y (src:Int),r y ((src:Int)-(die:Int)),r y (die:Int),D (Z==1)],D true]) (by simp[results,Tryz.results233,go_sem, *]) rfl (RetStp.yes _ HS.out rfl ?_)
  repeat (first|exact HB2.out|refine stw ?_ (by omega))
 case zu|zw=>
  refine qd (v:=jz #[F #[r y (src:Int),r y ((src:Int)-(die:Int)),r y (die:Int),D (Z==1)],D false]) (by simp[results,Tryz.results233,go_sem, *]) rfl (RetStp.no HN.out ?_)
  repeat (first|exact HB2.out|refine stw ?_ (by omega))
end Go.Proofs.YtcmeoenkgmghkaaGreat

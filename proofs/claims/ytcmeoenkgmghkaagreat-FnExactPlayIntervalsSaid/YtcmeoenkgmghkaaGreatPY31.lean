/- Part of one proof. There are no conditions. -/
import Derived.Test.YtcmeoenkgmghkaaGreatPY27
set_option linter.unusedVariables false
set_option linter.unusedSimpArgs false
set_option maxHeartbeats 0
set_option maxRecDepth 100000
open Go.Value renaming int->C,slice->K,agg->O,bool->Y,pointer->jz,tuple->j1
open Go.IntKind renaming i64->J
open Go.Obj renaming cells->R
open Go.Ending renaming returned->U
namespace Go.Proofs.YtcmeoenkgmghkaaGreat
open Go.RowKit
section
variable {P:Program}{w:World}
def dropB(ops:Array Oper)(n:Nat)(D F:Nat->Nat->Bool):Bool:=
 ((List.range n).all fun k=>(List.range n).all fun j=>!D k j||(List.range n).all fun i=>i==k || !Region.waitsFor .any ops i j||Region.waitsFor .any ops k i) &&
 ((List.range n).all fun i=>(List.range n).all fun j=>!F i j||Region.waitsFor .any ops j i||(List.range j).any fun m=>F i m&&Region.waitsFor .any ops j m)
theorem eP{ops:Array Oper}{n:Nat}{listed:Array Bool}(inv:HeadInv .any ops n listed){i j:Nat}(h:Region.waitsFor .any ops i j=true)(hl:listed.getD i false=true):listed.getD j false=true:=by
 obtain⟨oi,hoi,e,he,hb,hon⟩:=Region.waitsFor_spec h;have:=inv.closed i oi hoi hl e he hb
 rwa [hon]at this
theorem drop_use{ops:Array Oper}{n:Nat}{D F:Nat->Nat->Bool}{listed:Array Bool}(hD:dropB ops n D F=true)(inv:HeadInv .any ops n listed){i j:Nat}(hi:i<n)(hj:j<n)(hun:listed.getD i false=false)(hw:Region.waitsFor .any ops i j=true):
  ∀k,k<n->D k j=true->listed.getD k false=false:=fun k hk hd=>by
 simp only[dropB,Bool.and_eq_true]at hD
 have h1:=List.all_eq_true.1 (List.all_eq_true.1 hD.1 k (List.mem_range.2 hk)) j (List.mem_range.2 hj)
 simp only[hd,Bool.not_true,Bool.false_or]at h1
 have h2:=List.all_eq_true.1 h1 i (List.mem_range.2 hi)
 simp only[hw,Bool.not_true,Bool.or_false,Bool.or_eq_true,beq_iff_eq]at h2
 rcases h2 with h2|h2
 ·rw[<-h2];exact hun
 ·rcases hl:listed.getD k false with _|_
  ·rfl
  ·rw[eP inv h2 hl]at hun;cases hun
theorem drop_after{ops:Array Oper}{n:Nat}{D F:Nat->Nat->Bool}{listed:Array Bool}(hD:dropB ops n D F=true)(inv:HeadInv .any ops n listed){i:Nat}(hi:i<n):
  ∀j,j<n->F i j=true->listed.getD j false=true->listed.getD i false=true:=by
 simp only[dropB,Bool.and_eq_true]at hD
 intro j
 induction j using Nat.strongRecOn with
 |_ j ih=>
  intro hj hf hl
  have h1:=List.all_eq_true.1 (List.all_eq_true.1 hD.2 i (List.mem_range.2 hi)) j (List.mem_range.2 hj)
  simp only[hf,Bool.not_true,Bool.false_or,Bool.or_eq_true]at h1
  rcases h1 with h1|h1
  ·exact eP inv h1 hl
  ·obtain⟨m,hm,h2⟩:=List.any_eq_true.1 h1
   simp only[Bool.and_eq_true]at h2
   have hm':=List.mem_range.1 hm
   exact ih m hm' (by omega) h2.1 (eP inv h2.2 hl)
theorem fP{id:Nat}{Q:Exit->Act->World->Prop}{a:Act}{l:List Oper}(n:Nat)(X:Nat->Bool)(D F:Nat->Nat->Bool)(ds:Nat->Nat)(Rel:World->World->Prop)(Inv:World->Prop)(G:Nat->Value->World->Prop)
  (hm:P.follows .mixedOrders=true) (hB:ke l.toArray n X ds a.tmps.size=true) (hD:dropB l.toArray n D F=true) (hQ:∀(c:List PanicEntry) (a:Act) (d:Tmp) (v:Value) (w:World),Q (.panic c) (Act.put a (some d) v) w->Q (.panic c) a w) (rtr:∀a b c,Rel a b->Rel b c->Rel a c) (rrf:∀a,Rel a a)
  (hr0:Rel w { w with drawn:=w.drawn+1 }) (hi0:Inv { w with drawn:=w.drawn+1 })
  (early:∀i o,i<n→X i=true→l[i]? = some o→∀(a':Act) (W:World),Rel w W→Inv W→(∀t,(∀i,i<n→ds i≠t)→a'.tmps.getD t undef=a.tmps.getD t undef)→
   (∀j,j<n->Region.waitsFor .any l.toArray i j=true->G j (a'.tmps.getD (ds j) undef) W)->∃v,(∀W',(execOp a'.eval o).run P W'= .ok (.value v) W')/\G i v W)
  (step:∀i o,i<n→X i=false→l[i]? = some o→∀(a':Act) (W:World),Rel w W→Inv W→(∀t,(∀i,i<n→ds i≠t)→a'.tmps.getD t undef=a.tmps.getD t undef)→
   (∀j,j<n->Region.waitsFor .any l.toArray i j=true->G j (a'.tmps.getD (ds j) undef) W)->MStep P o a' W (fun v W'=>Rel W W'/\Inv W'/\G i v W'/\∀j u,j<n->j≠i->D i j=false->F i j=false->G j u W->G j u W'))
  (tail:∀(v:Nat->Value) (W:World),Rel w W->Inv W->(∀i,i<n->(∀k,k<n->D k i=false)->G i (v i) W)->wpList P l.toArray Q (l.drop n) (putV a ds v n) W):
  (Code.region id l.toArray true).wp P Q a w:=by
 simp only[ke,Bool.and_eq_true,decide_eq_true_eq]at hB
 obtain⟨⟨⟨⟨⟨⟨hn,hs⟩,hc⟩,hq⟩,hsel⟩,hh⟩,hx⟩:=hB
 have hop:∀i,i<n->∃o,l.toArray[i]? =some o/\l[i]? =some o/\o.guard=none/\o.dst=some (ds i)/\ds i<a.tmps.size/\(∀e∈o.after,Region.binds .any e=true->e.on<i)/\∀j,j<n->i≠j->ds i≠ds j:=fun i hi=>by
  have h:=List.all_eq_true.1 hh i (List.mem_range.2 hi)
  rcases ho:l.toArray[i]? with _|o
  ·rw[ho]at h;cases h
  ·rw[ho]at h
   simp only[Bool.and_eq_true,decide_eq_true_eq]at h
   obtain⟨⟨⟨⟨h1,h2⟩,h3⟩,h4⟩,h5⟩:=h
   refine⟨o,rfl,by simpa using ho,by simpa using h1,h2,h3,fun e he hb=>?_,fun j hj hij=>?_⟩
   ·have h6:=(Array.all_eq_true'.1 h4) e he
    simpa[hb]using h6
   ·have h6:=List.all_eq_true.1 h5 j (List.mem_range.2 hj)
    simpa[hij]using h6
 have hdd:∀i j,i<n->j<n->i≠j->ds i≠ds j:=fun i j hi hj hij=>by obtain⟨_,_,_,_,_,_,_,h⟩:=hop i hi;exact h j hj hij
 have hdz:∀i,i<n->ds i<a.tmps.size:=fun i hi=>by obtain⟨_,_,_,_,_,h,_⟩:=hop i hi;exact h
 have H:∀(f:Nat) (listed:Array Bool) (a':Act) (W:World),cntL listed n+f=n->RInv l.toArray a w n ds Rel Inv (fun j v W=>(∀k,k<n->D k j=true->listed.getD k false=false)->G j v W) listed a' W->wpAny P .any l.toArray Q (f+(l.toArray.size-n)) listed a' W:=by
  intro f
  induction f with
  |zero=>
   intro listed a' W hcnt I
   have hall:=ei (listed:=listed) (n:=n) (by omega)
   have hl:=fJ I.inv hall
   have hv:putV a ds (fun i=>a'.tmps.getD (ds i) undef) n=a':=by
    have e1:(putV a ds (fun i=>a'.tmps.getD (ds i) undef) n).tmps=a'.tmps:=by
     apply Array.ext
     ·rw[dT,I.sz]
     ·intro t h1 h2
      have e:∀(A:Array Value) (h:t<A.size),A[t]=A.getD t undef:=fun A h=>by simp[h]
      rw[e _ h1,e _ h2]
      by_cases hx:∃i,i<n/\ds i=t
      ·obtain⟨i,hi,rfl⟩:=hx
       exact jQ a ds _ n hdz hdd i hi
      ·have hx':∀i,i<n->ds i≠t:=fun i hi he=>hx ⟨i,hi,he⟩
       rw[gS a ds _ n hx',I.far t hx']
    have e2:(putV a ds (fun i=>a'.tmps.getD (ds i) undef) n).defers=a'.defers:=by rw[de,I.df]
    generalize putV a ds (fun i=>a'.tmps.getD (ds i) undef) n=x at *
    cases x;cases a'
    simp only at e1 e2
    rw[e1,e2]
   have ht:=tail (fun i=>a'.tmps.getD (ds i) undef) W I.b I.i (fun i hi hno=>I.g i hi (hall i hi) fun k hk hd=>by rw[hno k hk]at hd;cases hd)
   rw[hv]at ht;rw[Nat.zero_add]
   have hdl:(l.drop n).length=l.toArray.size-n:=by simp
   have:=wpAny_of_seq (md:=.any) (Q':=Q) (ops:=l.toArray) (l.drop n) n listed a' W (fun j=>by simp[List.getElem?_drop]) (by rw[hdl,hl];exact hq) ht
   rwa [hdl]at this
  |succ f ih=>
   intro listed a' W hcnt I
   by_cases hxr:∃x,x∈Region.ready .any l.toArray listed/\x<n/\X x=true
   ·obtain⟨x,hxr,hxn,hxX⟩:=hxr
    obtain⟨hun,o',ho',hall'⟩:=mem_ready.1 hxr;obtain⟨o,ho,hol,hg,hd,hz,_,_⟩:=hop x hxn;have:o'=o:=Option.some.inj (ho'.symm.trans ho);subst this
    obtain⟨v,hrun,hG⟩:=early x o' hxn hxX hol a' W I.b I.i I.far fun j hj hw=>by
     obtain⟨oj,hoj,e,he,hb,hon⟩:=Region.waitsFor_spec hw;have:oj=o':=Option.some.inj (hoj.symm.trans ho');subst this
     exact I.g j hj (by have:=hall' e he hb;rwa [hon]at this) (drop_use hD I.inv hxn hj (getD_both hun) hw)
    have hfree:∀j oj,l.toArray[j]? =some oj->j≠x->listed.getD j true=false->(∀e∈oj.after,Region.binds .any e=true->e.on≠x)->o'.apart l.toArray oj=true:=fun j oj hj hjx hju hno=>by
     have h:=List.all_eq_true.1 hx x (List.mem_range.2 hxn);rw[hxX,ho']at h
     simp only[Bool.not_true,Bool.false_or]at h
     have h2:=List.all_eq_true.1 h j (List.mem_range.2 (Array.getElem?_eq_some_iff.1 hj).1);rw[hj]at h2
     simp only[Bool.or_eq_true,beq_iff_eq]at h2
     rcases h2 with ((h2|h2)|h2)|h2
     ·exact absurd h2 hjx
     ·obtain⟨oj',hoj',e,he,hb,hon⟩:=Region.waitsFor_spec h2
      have:oj'=oj:=Option.some.inj (hoj'.symm.trans hj);subst this
      exact absurd hon (hno e he hb)
     ·obtain⟨oj',hoj',e,he,hb,hon⟩:=Region.waitsFor_spec h2
      have:oj'=o':=Option.some.inj (hoj'.symm.trans ho');subst this;have h3:=hall' e he hb;rw[hon,getD_both hju]at h3
      cases h3
     ·exact h2
    have hsz:x<listed.size:=by rw[I.inv.size];omega
    rw[show f+1+(l.toArray.size-n)=(f+(l.toArray.size-n))+1 by omega]
    refine wpAny_first ho' (Region.noSelect_spec hsel) (fun c a w h=>hQ c a (ds x) v w (by rw[<-hd];exact h)) _ listed a' W hfree hxr (.inl ⟨by simp[Region.wanted,hg],hrun⟩) ?_
    rw[hd]
    refine ih _ _ _ (by rw[dF hsz (getD_both hun),if_pos hxn];omega) ⟨I.inv.set hxr hxn,I.b,I.i,by simp[Act.put,I.df],by simp[Act.put,I.sz],fun t ht=>?_,fun j hj hlj=>?_⟩
    ·rw[aJ _ (ht x hxn)];exact I.far t ht
    ·by_cases e:j=x
     ·subst e;rw[bR _ (by rw[I.sz];exact hz)];exact fun _=>hG
     ·rw[aJ _ (hdd x j hxn hj (Ne.symm e))]
      rw[getD_set_ne false (Ne.symm e)]at hlj
      intro hno
      refine I.g j hj hlj fun k hk hd=>?_
      by_cases ek:k=x
      ·subst ek;exact getD_both hun
      ·have:=hno k hk hd
       rwa [getD_set_ne false (Ne.symm ek)]at this
   obtain⟨k,hk,hkf,hkl⟩:=fi (listed:=listed) (n:=n) (by omega)
   have hkr:k∈Region.ready .any l.toArray listed:=by
    obtain⟨o,ho,_,_,_,_,h5,_⟩:=hop k hk
    exact mem_ready.2 ⟨getD_in (by rw[I.inv.size];omega) hkf,o,ho,fun e he hb=>hkl _ (h5 e he hb)⟩
   have hkX:X k=false:=by
    rcases h:X k with _|_
    ·rfl
    ·exact absurd ⟨k,hkr,hk,h⟩ hxr
   rw[show f+1+(l.toArray.size-n)=(f+(l.toArray.size-n))+1 by omega]
   refine⟨fun h0=>(by rw[h0]at hkr;cases hkr),fun i hi=>?_⟩
   have hin:i<n:=by
    rcases Nat.lt_or_ge i n with h|h
    ·exact h
    ·exact absurd hi (eR hs hc hn I.inv _ k rfl hk hkX (getD_in (by rw[I.inv.size];omega) hkf) i h)
   have hiX:X i=false:=by
    rcases h:X i with _|_
    ·rfl
    ·exact absurd ⟨i,hi,hin,h⟩ hxr
   obtain⟨hun,o',ho',hall'⟩:=mem_ready.1 hi;obtain⟨o,ho,hol,hg,hd,hz,_,_⟩:=hop i hin;have:o'=o:=Option.some.inj (ho'.symm.trans ho);subst this
   have hst0:=step i o' hin hiX hol a' W I.b I.i I.far fun j hj hw=>by
    obtain⟨oj,hoj,e,he,hb,hon⟩:=Region.waitsFor_spec hw;have:oj=o':=Option.some.inj (hoj.symm.trans ho');subst this
    exact I.g j hj (by have:=hall' e he hb;rwa [hon]at this) (drop_use hD I.inv hin hj (getD_both hun) hw)
   unfold wpOp;rw[ho']
   simp only[Region.wanted,hg]
   simp only[if_true]
   refine .inl (hst0.wp fun v W' hgd=>?_)
   obtain⟨hb,hI,hG,hst⟩:=hgd;rw[hd]
   have hsz:i<listed.size:=by rw[I.inv.size];omega
   refine ih _ _ _ (by rw[dF hsz (getD_both hun),if_pos hin];omega) ⟨I.inv.set hi hin,rtr _ _ _ I.b hb,hI,by simp[Act.put,I.df],by simp[Act.put,I.sz],fun t ht=>?_,fun j hj hlj=>?_⟩
   ·rw[aJ _ (ht i hin)];exact I.far t ht
   ·by_cases e:j=i
    ·subst e;rw[bR _ (by rw[I.sz];exact hz)];exact fun _=>hG
    ·rw[aJ _ (hdd i j hin hj (Ne.symm e))]
     rw[getD_set_ne false (Ne.symm e)]at hlj
     intro hno
     have hdi:D i j=false:=by
      rcases hd:D i j with _|_
      ·rfl
      ·have:=hno i hin hd
       simp[hsz]at this
     have hfi:F i j=false:=by
      rcases hf:F i j with _|_
      ·rfl
      ·have:=drop_after hD I.inv hin j hj hf hlj;rw[getD_both hun]at this
       cases this
     refine hst j _ hj e hdi hfi (I.g j hj hlj fun k hk hd=>?_)
     by_cases ek:k=i
     ·subst ek;exact getD_both hun
     ·have:=hno k hk hd
      rwa [getD_set_ne false (Ne.symm ek)]at this
 refine wp_region_any hm ?_
 have:=H n (Array.replicate l.toArray.size false) a { w with drawn:=w.drawn+1 } (by rw[fh];omega)
  ⟨⟨by simp,fun j oj _ hl=>(by rw [getD_replicate_false]at hl;cases hl),fun t _ ht=>getD_in (by simpa using ht) (getD_replicate_false _ _)⟩,hr0,hi0,rfl,rfl,fun _ _=>rfl,
    fun i _ h=>(by rw [getD_replicate_false]at h;cases h)⟩
 rwa [show n+(l.toArray.size-n)=l.toArray.size by omega]at this
end
open Go.RowKit Pl Ps Ra Ex
theorem iv_all(t:RT)(ht:t.Ok)(P:Nat)(hP:t.p=(P:Int))(hsm:smB t.p t.c t.h t.s=true):∀tu,tu<=2->IvC t P tu
 | 0,_=>ij t ht P 0 hP hsm (by omega) fun tu' h=>by omega
 |tu+1,h=>ij t ht P (tu+1) hP hsm h fun tu' e=>by
   have e:tu'=tu:=by omega
   subst e
   exact dB t ht P tu' hP (by have:=(ew hsm).2.2.1;omega) (by omega) (iv_all t ht P hP hsm tu' (by omega))
theorem pl_all(t:RT)(ht:t.Ok)(P:Nat)(hP:t.p=(P:Int))(hsm:smB t.p t.c t.h t.s=true)(tu:Nat)(htu:tu<=2):PlC t P tu:=
 dB t ht P tu hP (by have:=(ew hsm).2.2.1;omega) htu (iv_all t ht P hP hsm tu htu)
noncomputable def piR(p c h s:Int)(own other:List Int)(tu ra rb:Int):Int×Option (List Iv):=
 if cdT p c h s own other tu (rollB s ra rb)=0 then(match plE s.toNat p.toNat h.toNat (ivE s.toNat p.toNat h.toNat tu.toNat) (own,other) (ra.toNat,rb.toNat)with
  |some L=>(0,some L)
  |none=>(3,none))else(cdT p c h s own other tu (rollB s ra rb),none)
def RowO(W:World)(lo:Nat)(o:Option (List Iv))(v:Value):Prop:=match o with
 |some L=>W.ownsRow lo 47 4 v L.length (ivCs L)
 |none=>v=K none 0 0
theorem RowO.low{W:World}{lo lo':Nat}{o:Option (List Iv)}{v:Value}(h:RowO W lo o v)(hl:lo'<=lo):RowO W lo' o v:=by
 rcases o with _|L
 ·exact h
 ·exact aH h hl
theorem RowO.below{W W':World}{lo:Nat}{o:Option (List Iv)}{v:Value}(h:RowO W lo o v)(hb:Below W.heap.size W W'):RowO W' lo o v:=by
 rcases o with _|L
 ·exact h
 ·exact own_below h hb
def RetPX(w:World)(r:Int×Option (List Iv))(e:Ending)(w':World):Prop:=∃v,e=U (j1 #[v,C J r.1])/\RowO w' w.heap.size r.2 v/\Below w.heap.size w w'
def RcQ(lo:Nat)(p:Int)(c h s:Nat):RP:=fun v W=>∃t:RT,v=jz (some ⟨t.bt,0,none⟩)/\t.p=p/\t.c=c/\t.h=h/\t.s=s/\t.Ok/\RaceI t t.S W/\∀k,t.S k->lo<=k
def PiQ(lo:Nat)(o:Option (List Iv)):RP:=fun v W=>∃u,v=j1 #[u,Y o.isSome]/\RowO W lo o u
def ExQ(lo:Nat)(o:Option (List Iv)):RP:=fun v W=>RowO W lo o v
theorem stb_rcQ(lo:Nat)(p:Int)(c h s:Nat):Stb (RcQ lo p c h s):=fun _ _ _ ⟨t,h1,h2,h3,h4,h5,h6,h7,h8⟩ hb=>⟨t,h1,h2,h3,h4,h5,h6,h7.below hb,h8⟩
theorem stb_piQ(lo:Nat)(o:Option (List Iv)):Stb (PiQ lo o):=fun _ _ _ ⟨u,h1,h2⟩ hb=>⟨u,h1,h2.below hb⟩
theorem stb_exQ(lo:Nat)(o:Option (List Iv)):Stb (ExQ lo o):=fun _ _ _ h hb=>RowO.below h hb
theorem cdT_mo(p c h s:Int)(own other:List Int)(tu ra rb:Int):cdT p c h s own other tu (isVar p c h s&&rollB s ra rb)=cdT p c h s own other tu (rollB s ra rb):=by
 unfold cdT
 by_cases hb:bZ p c h s own other=true
 ·rw[if_pos hb,if_pos hb,(is hb).1,Bool.true_and]
 ·rw[if_neg hb,if_neg hb]
theorem cdT_yes{p c h s:Int}{own other:List Int}{tu:Int}{mo:Bool}(h0:cdT p c h s own other tu mo=0):bZ p c h s own other=true/\inB tu 0 2=true/\mo=true/\smB p c h s=true:=by
 unfold cdT at h0
 by_cases h1:bZ p c h s own other=true
 ·rw[if_pos h1]at h0
  by_cases h2:(inB tu 0 2&&mo)=true
  ·rw[if_pos h2]at h0
   by_cases h3:smB p c h s=true
   ·rw[Bool.and_eq_true]at h2
    exact⟨h1,h2.1,h2.2,h3⟩
   ·rw[if_neg h3]at h0;exact absurd h0 (by decide)
  ·rw[if_neg h2]at h0;exact absurd h0 (by decide)
 ·rw[if_neg h1]at h0;exact absurd h0 (by decide)
theorem cdT_bd{p c h s:Int}{own other:List Int}{tu:Int}{mo:Bool}:0<=cdT p c h s own other tu mo/\cdT p c h s own other tu mo<=3:=by
 unfold cdT
 repeat (first|split|decide)
theorem sq_of{S:Nat->Prop}{w:World}{A:Option Addr}{n:Nat}{xs:List Int}(h:SL w A n xs)(hS:∀k,k<w.heap.size->¬S k):SQ S w A n xs:=by
 refine⟨h,fun hn b off s hA h9=>?_⟩
 obtain⟨b',o',hA',hlt,_⟩:=h.2 hn;rw[hA']at hA;injection hA with hA;injection hA with hA
 exact hS b (by omega) h9
def dsQ4:Nat->Nat
 | 0=>24
 | 1=>25
 | 2=>26
 | 3=>27
 | 4=>28
 | 5=>29
 | 6=>23
 | 7=>30
 | 8=>31
 |_=>0
def dsQ1:Nat->Nat
 | 0=>13
 | 1=>14
 | 2=>15
 | 3=>16
 | 4=>17
 | 5=>18
 | 6=>19
 |_=>0
theorem iT(p c h s tu ra rb:Int)(A1 A2:Option Addr)(n1 c1 n2 c2:Nat)(own other:List Int)(w:World)(h1:SL w A1 n1 own)(h2:SL w A2 n2 other)(hc1:n1<=c1)(hc2:n2<=c2)(hm1:n1<=2000000)(hm2:n2<=2000000):
  Calls Tryz.prog 16 #[(O #[C J p,C J c,C J h,C J s]),(O #[K A1 n1 c1,K A2 n2 c2]),(O #[C J ra,C J rb]),C J tu] w (RetPX w (piR p c h s own other tu ra rb)):=by
 obtain⟨mo,hmo⟩:∃mo,mo=(isVar p c h s&&rollB s ra rb):=⟨_,rfl⟩;obtain⟨Z,hZ⟩:∃Z,Z=cdT p c h s own other tu mo:=⟨_,rfl⟩
 have CR:Hid (∀W:World,Calls Tryz.prog 70 #[(O #[C J p,C J c,C J h,C J s]),(O #[C J ra,C J rb])] W fun e w'=>e=U (Y mo)/\Below W.heap.size W w'):=fun W=>by rw[hmo];exact IsRoll_any p c h s ra rb W
 have CC:Hid (∀W:World,Below w.heap.size w W->Calls Tryz.prog 69 #[(O #[C J p,C J c,C J h,C J s]),(O #[K A1 n1 c1,K A2 n2 c2]),C J tu,Y mo] W fun e w'=>e=U (C J Z)/\Below W.heap.size W w'):=fun W hw=>by rw[hZ];exact iQ p c h s tu mo A1 A2 n1 c1 n2 c2 own other W (h1.below hw) (h2.below hw) hm1 hm2
 have HF:Hid (Fr w (((w.alloc (R #[C J p,C J c,C J h,C J s] 33)).alloc (R #[K A1 n1 c1,K A2 n2 c2] 35)).alloc (R #[C J ra,C J rb] 37)) [[C J p,C J c,C J h,C J s],[K A1 n1 c1,K A2 n2 c2],[C J ra,C J rb]]):=(((Fr.start w).allocT (by simp) _ _).allocT (by simp) _ _).allocT (by simp) _ _
 have hZ2:Z=cdT p c h s own other tu (rollB s ra rb):=by rw[hZ,hmo,cdT_mo]
 have hZb:=cdT_bd (p:=p) (c:=c) (h:=h) (s:=s) (own:=own) (other:=other) (tu:=tu) (mo:=rollB s ra rb);rw[<-hZ2]at hZb
 have HPR:Hid (piR p c h s own other tu ra rb=if Z=0 then(match plE s.toNat p.toNat h.toNat (ivE s.toNat p.toNat h.toNat tu.toNat) (own,other) (ra.toNat,rb.toNat)with
  |some L=>(0,some L)
  |none=>(3,none))else(Z,none)):=by unfold Hid piR;rw[hZ2]
 have HZ:=h_ hZ2;have H1:=h_ h1;have H2:=h_ h2;generalize piR p c h s own other tu ra rb=RR at *;clear hZ hmo hZ2 h1 h2
 go_enter Tryz.func16,Tryz.ntmps16
 go_wp2_with (fail)
 generalize (((w.alloc (R #[C J p,C J c,C J h,C J s] 33)).alloc (R #[K A1 n1 c1,K A2 n2 c2] 35)).alloc (R #[C J ra,C J rb] 37))=V at *
 refine w_ 7 (fun _=>false) dsQ1 [Eqv (O #[C J p,C J c,C J h,C J s]),Eqv (O #[K A1 n1 c1,K A2 n2 c2]),Eqv (C J tu),Eqv (O #[C J p,C J c,C J h,C J s]),Eqv (O #[C J ra,C J rb]),Eqv (Y mo),Eqv (C J Z)] (by repeat (first|exact AllStb.nil|refine AllStb.cons (by first|exact aY _|exact bi _ _ _) ?_)) (fun i o' _ hX=>by cases hX) ?_ ?_
 focus
  intro i o hi hX ho a' W hW hIW hfar hdep
  have e3:a'.tmps.getD 3 undef=(C J tu):=(fr hfar 3).trans rfl
  refine ?za
 rotate_left
 focus
  intro v w2 hW hIW hg
  have g0:v 0=_:=gq hg 0
  have g1:v 1=_:=gq hg 1
  have g2:v 2=_:=gq hg 2
  have g3:v 3=_:=gq hg 3
  have g4:v 4=_:=gq hg 4
  have g5:v 5=_:=gq hg 5
  have g6:v 6=_:=gq hg 6
  simp only[List.drop_succ_cons,List.drop_zero,putV,dsQ1,g0,g1,g2,g3,g4,g5,g6,Act.put]
  clear g0 g1 g2 g3 g4 g5 g6 hg hIW;have HF2:=h_ (HF.out.below hW);have hzz:=HF2.out.b.size;clear hW HF CR CC
  by_cases h0:Z=0
  focus
   obtain⟨hbd,hin,hro,hsm⟩:=cdT_yes (by rw[<-HZ.out];exact h0)
   have b0:(Z !=0)=false:=by simp[h0]
   rw[if_pos h0]at HPR;obtain⟨hvv,hsd1,hsd2,_,_⟩:=is hbd;obtain⟨hl1,hq1,hms1⟩:=bQ hsd1;obtain⟨hl2,hq2,hms2⟩:=bQ hsd2;have hv8:=aA hvv;obtain⟨_,hp6,hc3,hs3⟩:=ew hsm;have hro2:1<=ra/\ra<=s/\1<=rb/\rb<=ra:=of_decide_eq_true hro;have hin2:0<=tu/\tu<=2:=of_decide_eq_true hin
   obtain⟨P,rfl⟩:∃P:Nat,p=P:=⟨p.toNat,by omega⟩
   obtain⟨c',rfl⟩:∃c':Nat,c=c':=⟨c.toNat,by omega⟩
   obtain⟨h',rfl⟩:∃h':Nat,h=h':=⟨h.toNat,by omega⟩
   obtain⟨s',rfl⟩:∃s':Nat,s=s':=⟨s.toNat,by omega⟩
   obtain⟨da,rfl⟩:∃da:Nat,ra=da:=⟨ra.toNat,by omega⟩
   obtain⟨db,rfl⟩:∃db:Nat,rb=db:=⟨rb.toNat,by omega⟩
   obtain⟨tu',rfl⟩:∃tu':Nat,tu=tu':=⟨tu.toNat,by omega⟩
   simp only[Int.toNat_natCast]at HPR
   have hsd:Sd P c' (own,other):=⟨⟨hl1,hq1,hms1⟩,⟨hl2,hq2,hms2⟩⟩
   have CN:=h_ fun(W:World)=>newRace_any (P:Int) c' h' s' W hvv (gw (by omega) (by omega))
   have CP0:∀(t:RT) (W:World),t.p=(P:Int)->t.c=c'->t.h=h'->t.s=s'->t.Ok->RaceI t t.S W->(∀k,t.S k->w2.heap.size<=k)->Below w2.heap.size w2 W->
     Calls Tryz.prog 72 #[jz (some ⟨t.bt,0,none⟩),(O #[K A1 n1 c1,K A2 n2 c2]),O #[C J (da:Int),C J (db:Int)],C J (tu':Int)] W fun e W'=>∃u,e=U (j1 #[u,Y (plE s' P h' (ivE s' P h' tu') (own,other) (da,db)).isSome])/\RowO W' W.heap.size (plE s' P h' (ivE s' P h' tu') (own,other) (da,db)) u/\Frm t.S W W':=fun t W t1 t2 t3 t4 tOk tI tS hw=>by
    subst t2 t3 t4;have hw2:Below w.heap.size w W:=HF2.out.b.trans (hw.mono hzz)
    have hlow:∀k,k<w.heap.size->¬t.S k:=fun k hk h9=>by have:=tS k h9;omega
    have h9:=pl_all t tOk P t1 (by rw[t1];exact hsm) tu' (by omega) t.S own other A1 A2 n1 c1 n2 c2 da db W (fun k hk h9=>by have:=tI.ltS k h9;omega) tI ((sq_of H1.out hlow).frm (Frm.of_below' _ hw2)) ((sq_of H2.out hlow).frm (Frm.of_below' _ hw2)) hsd hc1 hc2 (by omega) (by omega)
    refine h9.mono ?_
    rintro e W' ⟨hr,_,hf⟩
    generalize plE t.s P t.h (ivE t.s P t.h tu') (own,other) (da,db)=o at *
    rcases o with _|L
    ·exact⟨_,hr,rfl,hf⟩
    ·obtain⟨v,hv,hrow⟩:=hr
     exact⟨v,hv,hrow,hf⟩
   have CP:=h_ CP0;generalize plE s' P h' (ivE s' P h' tu') (own,other) (da,db)=o at *
   have gp_stab:∀i v W W',GL [Eqv (O #[C J (P:Int),C J (c':Int),C J (h':Int),C J (s':Int)]),RcQ w2.heap.size (P:Int) c' h' s',Eqv (O #[K A1 n1 c1,K A2 n2 c2]),Eqv (O #[C J (da:Int),C J (db:Int)]),Eqv (C J (tu':Int)),PiQ w2.heap.size o,PiQ w2.heap.size o,ExQ w2.heap.size o,Eqv (Y o.isSome)] i v W->Below W.heap.size W W'->GL [Eqv (O #[C J (P:Int),C J (c':Int),C J (h':Int),C J (s':Int)]),RcQ w2.heap.size (P:Int) c' h' s',Eqv (O #[K A1 n1 c1,K A2 n2 c2]),Eqv (O #[C J (da:Int),C J (db:Int)]),Eqv (C J (tu':Int)),PiQ w2.heap.size o,PiQ w2.heap.size o,ExQ w2.heap.size o,Eqv (Y o.isSome)] i v W':=GL.stab (by repeat (first|exact AllStb.nil|refine AllStb.cons (by first|exact aY _|exact stb_rcQ _ _ _ _ _|exact stb_piQ _ _|exact stb_exQ _ _) ?_))
   have gp_run:∀(j:Nat) (u:Value) (W W':World),GL [Eqv (O #[C J (P:Int),C J (c':Int),C J (h':Int),C J (s':Int)]),RcQ w2.heap.size (P:Int) c' h' s',Eqv (O #[K A1 n1 c1,K A2 n2 c2]),Eqv (O #[C J (da:Int),C J (db:Int)]),Eqv (C J (tu':Int)),PiQ w2.heap.size o,PiQ w2.heap.size o,ExQ w2.heap.size o,Eqv (Y o.isSome)] j u W->(5==5&&j==1)=false->(5==5&&(j==6||j==7||j==8))=false->j≠5->j<9->GL [Eqv (O #[C J (P:Int),C J (c':Int),C J (h':Int),C J (s':Int)]),RcQ w2.heap.size (P:Int) c' h' s',Eqv (O #[K A1 n1 c1,K A2 n2 c2]),Eqv (O #[C J (da:Int),C J (db:Int)]),Eqv (C J (tu':Int)),PiQ w2.heap.size o,PiQ w2.heap.size o,ExQ w2.heap.size o,Eqv (Y o.isSome)] j u W':=fun j u W W' hg hD hF9 hne hj=>by
    simp at hD hF9
    have hj4:j=0\/j=2\/j=3\/j=4:=by omega
    rcases hj4 with rfl|rfl|rfl|rfl<;>exact hg
   clear CP0 hbd hin hro hsm hvv hsd1 hsd2 hl1 hl2 hq1 hq2 hms1 hms2 hsd H1 H2 HZ h0
   go_wp2_with (fail)
   refine fP 9 (fun i=>i==8) (fun k j=>k==5&&j==1) (fun i j=>i==5&&(j==6||j==7||j==8)) dsQ4 (Below w2.heap.size) (fun _=>True) (GL [Eqv (O #[C J (P:Int),C J (c':Int),C J (h':Int),C J (s':Int)]),RcQ w2.heap.size (P:Int) c' h' s',Eqv (O #[K A1 n1 c1,K A2 n2 c2]),Eqv (O #[C J (da:Int),C J (db:Int)]),Eqv (C J (tu':Int)),PiQ w2.heap.size o,PiQ w2.heap.size o,ExQ w2.heap.size o,Eqv (Y o.isSome)]) (by kernel_rfl) (by kernel_rfl) (by kernel_rfl) (fun _ _ _ _ _ h=>h) (fun _ _ _ h1 h2=>Below.trans h1 h2) (fun _=>Below.refl _ _) (Below.drew (Below.refl _ _)) trivial ?_ ?_ ?_
   ·intro i op hi hX ho a' W hW _ hfar hdep
    have hi8:i=8:=by simpa using hX
    clear hfar hX hi;subst hi8
    simp at ho
    subst ho
    obtain⟨u9,q6,_⟩:PiQ w2.heap.size o (a'.tmps.getD 23 undef) W:=dp hdep 6
    exact⟨Y o.isSome,fun W'=>by simp only[execOp,Act.eval,q6];go_simp,rfl⟩
   focus
    intro i op hi hX ho a' W hW _ hfar hdep
    have e3:a'.tmps.getD 3 undef=(C J (tu':Int)):=(fr hfar 3).trans rfl
    refine ?zb
   rotate_left
   intro v w3 hW _ hg
   have hx7:ExQ w2.heap.size o (v 7) w3:=hg 7 (by omega) (by decide)
   have g8:v 8=Y o.isSome:=hg 8 (by omega) (by decide)
   obtain⟨vz,hvz⟩:∃vz,vz=v 7:=⟨_,rfl⟩
   simp only[List.drop_succ_cons,List.drop_zero,putV,dsQ4,<-hvz,g8,Act.put]
   rw[<-hvz]at hx7;clear hg g8 hvz;have hzw:w.heap.size<=w2.heap.size:=hzz;have HBx:Hid (Below w.heap.size w w3):=HF2.out.b.trans (hW.mono hzw);have HX:=h_ hx7;clear hx7 hW gp_stab gp_run CN CP
   rcases o with _|L
   ·have HRE:Hid (RetPX w RR (U (j1 #[K none 0 0,C J 3])) w3):=by
     rw[HPR.out]
     exact⟨_,rfl,rfl,HBx.out⟩
    go_wp2_with (fail)
    go_ret2
    exact HRE.out
   ·have HRE:Hid (RetPX w RR (U (j1 #[vz,C J 0])) w3):=by
     rw[HPR.out]
     exact⟨vz,rfl,RowO.low HX.out hzw,HBx.out⟩
    go_wp2_with (fail)
    go_ret2
    exact HRE.out
  rotate_left
  ·have b0:(Z != 0)=true:=by simp[h0]
   rw[if_neg h0]at HPR
   have HRE:Hid (RetPX w RR (U (j1 #[K none 0 0,C J Z])) w2):=by
    rw[HPR.out]
    exact⟨_,rfl,rfl,HF2.out.b⟩
   clear h0
   go_wp2_with (fail)
   go_ret2
   exact HRE.out
 case' za|zb=>
  have e4:a'.tmps.getD 4 undef=(jz (some ⟨w.heap.size,0,none⟩)):=(fr hfar 4).trans rfl
  have e5:a'.tmps.getD 5 undef=(jz (some ⟨w.heap.size+1,0,none⟩)):=(fr hfar 5).trans rfl
  have e6:a'.tmps.getD 6 undef=(jz (some ⟨w.heap.size+1+1,0,none⟩)):=(fr hfar 6).trans rfl
 case za=>
  have hi8:i=0\/i=1\/i=2\/i=3\/i=4\/i=5\/i=6:=by omega
  clear hfar hX hi
  rcases hi8 with rfl|rfl|rfl|rfl|rfl|rfl|rfl
  all_goals (simp at ho;subst ho)
  ·have y0:=(HF.out.below hW).c0 0 rfl
   have y1:=(HF.out.below hW).c0 1 rfl;have y2:=(HF.out.below hW).c0 2 rfl;have y3:=(HF.out.below hW).c0 3 rfl
   refine il ?_;simp only[execOp,Act.eval,e4];go_simp
  ·have y0:=(HF.out.below hW).c1 0 rfl
   have y1:=(HF.out.below hW).c1 1 rfl
   refine il ?_;simp only[execOp,Act.eval,e5];go_simp
  ·refine il ?_;simp only[execOp,Act.eval,e3];go_simp
  ·have y0:=(HF.out.below hW).c0 0 rfl
   have y1:=(HF.out.below hW).c0 1 rfl;have y2:=(HF.out.below hW).c0 2 rfl;have y3:=(HF.out.below hW).c0 3 rfl
   refine il ?_;simp only[execOp,Act.eval,e4];go_simp
  ·have y0:=(HF.out.below hW).c2 0 rfl
   have y1:=(HF.out.below hW).c2 1 rfl
   refine il ?_;simp only[execOp,Act.eval,e6];go_simp
  ·have d1:a'.tmps.getD 16 undef=_:=dp hdep 3
   have d2:a'.tmps.getD 17 undef=_:=dp hdep 4
   refine .inr ⟨70,#[(O #[C J p,C J c,C J h,C J s]),(O #[C J ra,C J rb])],by simp only[execOp,Act.eval,d1,d2];go_simp,?_⟩
   refine(CR.out W).mono ?_
   rintro e W' ⟨rfl,hb'⟩
   exact⟨_,rfl,hb',trivial,rfl⟩
  ·have d1:a'.tmps.getD 13 undef=_:=dp hdep 0
   have d2:a'.tmps.getD 14 undef=_:=dp hdep 1
   have d3:a'.tmps.getD 15 undef=_:=dp hdep 2
   have d4:a'.tmps.getD 18 undef=_:=dp hdep 5
   refine .inr ⟨69,#[(O #[C J p,C J c,C J h,C J s]),(O #[K A1 n1 c1,K A2 n2 c2]),(C J tu),(Y mo)],by simp only[execOp,Act.eval,d1,d2,d3,d4];go_simp,?_⟩
   refine(CC.out W (HF.out.below hW).b).mono ?_
   rintro e W' ⟨rfl,hb'⟩
   exact⟨_,rfl,hb',trivial,rfl⟩
 case zb=>
  have hi8:i=0\/i=1\/i=2\/i=3\/i=4\/i=5\/i=6\/i=7:=by simp at hX;omega
  clear hfar hX hi
  rcases hi8 with rfl|rfl|rfl|rfl|rfl|rfl|rfl|rfl
  all_goals (simp at ho;subst ho)
  ·have y0:=(HF2.out.below hW).c0 0 rfl
   have y1:=(HF2.out.below hW).c0 1 rfl;have y2:=(HF2.out.below hW).c0 2 rfl;have y3:=(HF2.out.below hW).c0 3 rfl
   exact .inl ⟨(O #[C J (P:Int),C J (c':Int),C J (h':Int),C J (s':Int)]),W,by simp only[execOp,Act.eval,e4];go_simp,Below.refl _ _,trivial,rfl,fun _ _ _ _ _ _ h=>h⟩
  ·have d0:a'.tmps.getD 24 undef=_:=dp hdep 0
   refine .inr ⟨71,#[(O #[C J (P:Int),C J (c':Int),C J (h':Int),C J (s':Int)])],by simp only[execOp,Act.eval,d0];go_simp,?_⟩
   refine(CN.out W).mono ?_
   rintro e W' ⟨t,t1,t2,t3,t4,rfl,tOk,tI,tS,_,hb'⟩
   exact⟨_,rfl,hb'.mono (Below.size hW),trivial,⟨t,rfl,t1,t2,t3,t4,tOk,tI,fun k hk=>Nat.le_trans (Below.size hW) (tS k hk)⟩,fun j u hj _ _ _ hg=>gp_stab j u W W' hg hb'⟩
  ·have y0:=(HF2.out.below hW).c1 0 rfl
   have y1:=(HF2.out.below hW).c1 1 rfl
   exact .inl ⟨(O #[K A1 n1 c1,K A2 n2 c2]),W,by simp only[execOp,Act.eval,e5];go_simp,Below.refl _ _,trivial,rfl,fun _ _ _ _ _ _ h=>h⟩
  ·have y0:=(HF2.out.below hW).c2 0 rfl
   have y1:=(HF2.out.below hW).c2 1 rfl
   exact .inl ⟨(O #[C J (da:Int),C J (db:Int)]),W,by simp only[execOp,Act.eval,e6];go_simp,Below.refl _ _,trivial,rfl,fun _ _ _ _ _ _ h=>h⟩
  ·exact .inl ⟨(C J (tu':Int)),W,by simp only[execOp,Act.eval,e3];go_simp,Below.refl _ _,trivial,rfl,fun _ _ _ _ _ _ h=>h⟩
  ·obtain⟨t,d1,t1,t2,t3,t4,tOk,tI,tS⟩:RcQ w2.heap.size (P:Int) c' h' s' (a'.tmps.getD 25 undef) W:=dp hdep 1
   have d2:a'.tmps.getD 26 undef=_:=dp hdep 2
   have d3:a'.tmps.getD 27 undef=_:=dp hdep 3
   have d4:a'.tmps.getD 28 undef=_:=dp hdep 4
   refine .inr ⟨72,#[jz (some ⟨t.bt,0,none⟩),(O #[K A1 n1 c1,K A2 n2 c2]),(O #[C J (da:Int),C J (db:Int)]),(C J (tu':Int))],by simp only[execOp,Act.eval,d1,d2,d3,d4];go_simp,?_⟩
   refine(CP.out t W t1 t2 t3 t4 tOk tI (fun k hk=>tS k hk) hW).mono ?_
   rintro e W' ⟨u9,rfl,hres,hF'⟩
   exact⟨_,rfl,hF'.below (Below.size hW) tS,trivial,⟨u9,rfl,hres.low (Below.size hW)⟩,fun j u hj hne hD hF9 hg=>gp_run j u W W' hg hD hF9 hne hj⟩
  ·obtain⟨u9,q5,hres⟩:PiQ w2.heap.size o (a'.tmps.getD 29 undef) W:=dp hdep 5
   exact .inl ⟨j1 #[u9,Y o.isSome],W,by simp only[execOp,Act.eval,q5];go_simp,Below.refl _ _,trivial,⟨u9,rfl,hres⟩,fun _ _ _ _ _ _ h=>h⟩
  ·obtain⟨u9,q6,hres⟩:PiQ w2.heap.size o (a'.tmps.getD 23 undef) W:=dp hdep 6
   exact .inl ⟨u9,W,by simp only[execOp,Act.eval,q6];go_simp,Below.refl _ _,trivial,hres,fun _ _ _ _ _ _ h=>h⟩
def flA(B:Int)(x:Iv):Iv:=((oneM B x.2).getD ⟨0,0⟩,(oneM B x.1).getD ⟨0,0⟩)
theorem flA_some{B:Int}{x y:Iv}(h:flipE B x=some y):flA B x=y:=by
 unfold flipE at h;unfold flA
 rcases h1:oneM B x.2 with _|a
 ·rw[h1]at h;cases h
 ·rcases h2:oneM B x.1 with _|b
  ·rw[h1,h2]at h;cases h
  ·rw[h1,h2]at h;injection h
theorem l15Flip_any(p c h ln hn:Int)(s ld hd:Nat)(w:World)(hs1:1<=s)(hs6:s<=6)(hv:VI (sq s) (⟨ln,ld⟩,⟨hn,hd⟩)):
  Calls Tryz.prog 137 #[(O #[C J p,C J c,C J h,C J (s:Int)]),(O #[C J ln,C J (ld:Int),C J hn,C J (hd:Int)])] w fun e w'=>e=U (j1 #[ivV (flA (sq s) (⟨ln,ld⟩,⟨hn,hd⟩)),Y (flipE (sq s) (⟨ln,ld⟩,⟨hn,hd⟩)).isSome])/\Below w.heap.size w w':=by
 have CMA:=fun(W:World)=>fb p c h hn s hd W hs1 hs6 hv.2
 have CMB:=fun(W:World)=>fb p c h ln s ld W hs1 hs6 hv.1
 have HFL:Hid (flipE (sq s) (⟨ln,ld⟩,⟨hn,hd⟩)=(oneM (sq s) ⟨hn,hd⟩).bind fun lo=>(oneM (sq s) ⟨ln,ld⟩).map fun hi=>(lo,hi)):=rfl
 have HFA:Hid (flA (sq s) (⟨ln,ld⟩,⟨hn,hd⟩)=((oneM (sq s) ⟨hn,hd⟩).getD ⟨0,0⟩,(oneM (sq s) ⟨ln,ld⟩).getD ⟨0,0⟩)):=rfl;generalize flA (sq s) (⟨ln,ld⟩,⟨hn,hd⟩)=FA at *;generalize flipE (sq s) (⟨ln,ld⟩,⟨hn,hd⟩)=RES at *;generalize oneM (sq s) ⟨hn,hd⟩=r1 at *;generalize oneM (sq s) ⟨ln,ld⟩=r2 at *;obtain⟨a1,ha1⟩:∃x:Int,x=(r1.getD ⟨0,0⟩).num:=⟨_,rfl⟩;obtain⟨b1,hb1⟩:∃x:Int,x=((r1.getD ⟨0,0⟩).depth:Int):=⟨_,rfl⟩;obtain⟨ok1,hok1⟩:∃x:Bool,x=r1.isSome:=⟨_,rfl⟩;obtain⟨a2,ha2⟩:∃x:Int,x=(r2.getD ⟨0,0⟩).num:=⟨_,rfl⟩;obtain⟨b2,hb2⟩:∃x:Int,x=((r2.getD ⟨0,0⟩).depth:Int):=⟨_,rfl⟩;obtain⟨ok2,hok2⟩:∃x:Bool,x=r2.isSome:=⟨_,rfl⟩
 have CM1:Hid (∀W:World,Calls Tryz.prog 192 #[(O #[C J p,C J c,C J h,C J (s:Int)]),O #[C J hn,C J (hd:Int)]] W fun e W'=>e=U (j1 #[O #[C J a1,C J b1],Y ok1])/\Below W.heap.size W W'):=fun W=>by
  rw[ha1,hb1,hok1]
  exact CMA W
 have CM2:Hid (∀W:World,Calls Tryz.prog 192 #[(O #[C J p,C J c,C J h,C J (s:Int)]),O #[C J ln,C J (ld:Int)]] W fun e W'=>e=U (j1 #[O #[C J a2,C J b2],Y ok2])/\Below W.heap.size W W'):=fun W=>by
  rw[ha2,hb2,hok2]
  exact CMB W
 have HE1:Hid (a1=(r1.getD ⟨0,0⟩).num/\b1=((r1.getD ⟨0,0⟩).depth:Int)/\ok1=r1.isSome):=⟨ha1,hb1,hok1⟩;have HE2:Hid (a2=(r2.getD ⟨0,0⟩).num/\b2=((r2.getD ⟨0,0⟩).depth:Int)/\ok2=r2.isSome):=⟨ha2,hb2,hok2⟩
 have HF:Hid (Fr w (((w.alloc (R #[C J p,C J c,C J h,C J (s:Int)] 33)).alloc (R #[C J ln,C J (ld:Int),C J hn,C J (hd:Int)] 47)).alloc (R #[C J 0,C J 0,C J 0,C J 0] 47)) [[C J p,C J c,C J h,C J (s:Int)],[C J ln,C J (ld:Int),C J hn,C J (hd:Int)],[C J 0,C J 0,C J 0,C J 0]]):=(((Fr.start w).allocT (by simp) _ _).allocT (by simp) _ _).allocT (by simp) _ _
 have hzV:(((w.alloc (R #[C J p,C J c,C J h,C J (s:Int)] 33)).alloc (R #[C J ln,C J (ld:Int),C J hn,C J (hd:Int)] 47)).alloc (R #[C J 0,C J 0,C J 0,C J 0] 47)).heap.size=w.heap.size+3:=by simp
 clear CMA CMB ha1 hb1 hok1 ha2 hb2 hok2 hv
 go_enter Tryz.func137,Tryz.ntmps137
 go_wp2_with (fail)
 refine(CM1.out _).mono ?_
 rintro e w5 ⟨rfl,hb5⟩
 have hz5:=hb5.size;rw[hzV]at hz5;have HF5:=h_ (HF.out.below hb5);have HFa:=h_ (HF5.out.alloc (R #[C J a1,C J b1] 45));have HCa:=h_ (Cel.new w5 #[C J a1,C J b1] 45);clear hb5 HF CM1 hzV;obtain⟨z0,c00,f00,c01,f01,c02,f02,c03,f03,z1,c10,f10,c11,f11,c12,f12,c13,f13,z2,c20,f20,c21,f21,c22,f22,c23,f23⟩:=HF5.out.xf1
 go_wp2_with (fail)
 clear z0 c00 f00 c01 f01 c02 f02 c03 f03 z1 c10 f10 c11 f11 c12 f12 c13 f13 z2 c20 f20 c21 f21 c22 f22 c23 f23
 refine(CM2.out _).mono ?_
 rintro e w6 ⟨rfl,hb6⟩
 have HF6:=h_ (HFa.out.below hb6);have HC6:=h_ (HCa.out.below hb6)
 have hz6:w5.heap.size+1<=w6.heap.size:=by have:=hb6.size;simpa using this
 have u0:=HC6.out.cell 0 _ rfl;have u1:=HC6.out.cell 1 _ rfl;have uz:=HC6.out.lt
 have hn1:w.heap.size+1+1≠w5.heap.size:=by omega
 have hn2:w5.heap.size≠w.heap.size+1+1:=by omega
 have hww:w.heap.size<=w6.heap.size:=by omega
 clear hb6 CM2 HFa HCa HF5
 rcases r1 with _|x1
 focus
  have hk:ok1=false:=HE1.out.2.2;subst hk
  refine ?za
 rotate_left
 focus
  have hk:ok1=true:=HE1.out.2.2;subst hk
  rcases r2 with _|x2
  focus
   have hk:ok2=false:=HE2.out.2.2;subst hk
   refine ?zb
  rotate_left
  focus
   have hk:ok2=true:=HE2.out.2.2;subst hk
   have HRE:Hid (Ending.returned (j1 #[O #[C J a1,C J b1,C J a2,C J b2],Y true])=U (j1 #[ivV FA,Y RES.isSome])):=by rw[HFA.out,HFL.out,HE1.out.1,HE1.out.2.1,HE2.out.1,HE2.out.2.1];rfl
   refine ?zc
 rotate_left 2
 case' za|zb=>
  have HRE:Hid (Ending.returned (j1 #[O #[C J a1,C J b1,C J a2,C J b2],Y false])=U (j1 #[ivV FA,Y RES.isSome])):=by rw[HFA.out,HFL.out,HE1.out.1,HE1.out.2.1,HE2.out.1,HE2.out.2.1];rfl
 case' zc|za|zb=>
  obtain⟨z0,c00,f00,c01,f01,c02,f02,c03,f03,z1,c10,f10,c11,f11,c12,f12,c13,f13,z2,c20,f20,c21,f21,c22,f22,c23,f23⟩:=HF6.out.xf1
  go_wp2_with (fail)
 case' zc=>
  refine bodyPost_ret (v:=j1 #[O #[C J a1,C J b1,C J a2,C J b2],Y true]) (by simp[results,Tryz.results137,go_sem,c20,c21,c22,c23,z2,f20,f21,f22,f23,u0,u1]) rfl ⟨HRE.out,?_⟩
 case' za|zb=>
  refine bodyPost_ret (v:=j1 #[O #[C J a1,C J b1,C J a2,C J b2],Y false]) (by simp[results,Tryz.results137,go_sem,c20,c21,c22,c23,z2,f20,f21,f22,f23,u0,u1]) rfl ⟨HRE.out,?_⟩
 case zc|za|zb=>
  repeat (first|with_reducible exact HF6.out.b|refine alw ?_ (by omega)|refine stw ?_ (by omega))
def RetIv2(t:RT2)(w:World)(o:Option Iv)(e:Ending)(w':World):Prop:=IvM o e/\TabI t w'/\Frm t.S w w'
def RetPi2(t:RT2)(w:World)(o:Option (List Iv))(e:Ending)(w':World):Prop:=(match o with
 |some L=>∃v,e=U (j1 #[v,Y true])/\w'.ownsRow w.heap.size 47 4 v L.length (ivCs L)
 |none=>e=U (j1 #[K none 0 0,Y false]))/\TabI t w'/\Frm t.S w w'
def IvC2(t:RT2)(P tu:Nat):Prop:=∀(own other:List Int) (A1 A2:Option Addr) (n1 c1 n2 c2:Nat) (w:World),TabI t w->SQ t.S w A1 n1 own->SQ t.S w A2 n2 other->Sd P t.c (own,other)->n1<=c1->n2<=c2->
 Calls Tryz.prog 73 #[jz (some ⟨t.bt,0,none⟩),O #[K A1 n1 c1,K A2 n2 c2],C J (tu:Int)] w (RetIv2 t w (ivE t.s P t.h tu (own,other)))
def PlC2(t:RT2)(P tu:Nat):Prop:=∀(own other:List Int) (A1 A2:Option Addr) (n1 c1 n2 c2 ra rb:Nat) (w:World),TabI t w->SQ t.S w A1 n1 own->SQ t.S w A2 n2 other->Sd P t.c (own,other)->n1<=c1->n2<=c2->(1<=ra/\ra<=1000)->(1<=rb/\rb<=1000)->
 Calls Tryz.prog 66 #[jz (some ⟨t.bt,0,none⟩),O #[K A1 n1 c1,K A2 n2 c2],O #[C J (ra:Int),C J (rb:Int)],C J (tu:Int)] w (RetPi2 t w (plE t.s P t.h (ivE t.s P t.h tu) (own,other) (ra,rb)))
def AlQ(lo m:Nat)(l:List Bd)(fl:Bool):RP:=fun v W=>∃A c,v=j1 #[K A l.length c,Y fl]/\PLs (fun k=>k<lo) W m A l.length l/\l.length<=c
theorem stb_alQ(lo m:Nat)(l:List Bd)(fl:Bool):Stb (AlQ lo m l fl):=fun _ _ _ ⟨A,c,h1,h2,h3⟩ hb=>⟨A,c,h1,h2.below hb,h3⟩
def dsU1:Nat->Nat
 | 0=>19
 | 1=>20
 | 2=>21
 | 3=>22
 | 4=>23
 | 5=>24
 | 6=>25
 | 7=>18
 | 8=>26
 | 9=>27
 |_=>0
def dsU9:Nat->Nat
 | 0=>50
 | 1=>51
 | 2=>52
 | 3=>53
 | 4=>54
 | 5=>55
 | 6=>49
 | 7=>56
 | 8=>57
 | 9=>16
 |_=>0
theorem hJ(t:RT2)(ht:t.Ok)(P tu:Nat)(hP:t.p=(P:Int))(hc3:t.c<=3)(IH:IvC2 t P tu):PlC2 t P tu:=by
 intro own other A1 A2 n1 c1 n2 c2 ra rb w hI hA hB hsd hc1 hc2 hra hrb
 obtain⟨j0,hj,jz0,jz1,jz2⟩:=info_parts Tryz.infoIv;have hv:=aA ht.v
 have hP24:P<=24:=by omega
 have hs1:1<=t.s:=by omega
 have hs6:t.s<=6:=by omega
 have hh9:t.h<=1000:=by omega
 obtain⟨hq1,-,_⟩:=sq_bd hs1 hs6;have hlow:=hI.ltS;have HLOW:=h_ hlow;have HBT:Hid (t.bt<w.heap.size):=hI.ltB;have HIH:=h_ IH
 have HVX:=fun(y:Iv) (tu':Nat) (b:Bd) (h:ivE t.s P t.h tu' b=some y)=>mn (P:=P) (h:=t.h) hq1 h
 have HVV:=h_ HVX
 have CAP0:∀W:World,Below w.heap.size w W->Calls Tryz.prog 136 #[(O #[C J t.p,C J (t.c:Int),C J (t.h:Int),C J (t.s:Int)]),(O #[K A1 n1 c1,K A2 n2 c2]),(O #[C J (ra:Int),C J (rb:Int)])] W (RetAl W 4 (playsP P t.h (own,other) ra rb) (fineR P t.h (own,other) ra rb)):=fun W hw=>by
  have h9:=l05All_any P t.h t.c ra rb (t.c:Int) (t.s:Int) A1 A2 n1 c1 n2 c2 own other W (hA.1.below hw) (hB.1.below hw) hsd (by omega) hP24 hh9 hra hrb
  rw[<-hP]at h9
  exact h9
 have HF0:Hid (FrS t.S w ((w.alloc (R #[K A1 n1 c1,K A2 n2 c2] 35)).alloc (R #[C J (ra:Int),C J (rb:Int)] 37)) [[K A1 n1 c1,K A2 n2 c2],[C J (ra:Int),C J (rb:Int)]]):=((FrS.start w hlow).allocT (by simp) _ _).allocT (by simp) _ _
 have HBV:Hid (Below w.heap.size w ((w.alloc (R #[K A1 n1 c1,K A2 n2 c2] 35)).alloc (R #[C J (ra:Int),C J (rb:Int)] 37))):=((Below.refl _ _).alloc (Nat.le_refl _) _).alloc (by simp) _
 have HI0:=h_ (hI.below HBV.out)
 have hzV:((w.alloc (R #[K A1 n1 c1,K A2 n2 c2] 35)).alloc (R #[C J (ra:Int),C J (rb:Int)] 37)).heap.size=w.heap.size+2:=by simp
 have HSX:Hid (∀x∈playsP P t.h (own,other) ra rb,Sd P t.c x):=gU hsd hra.1 hrb.1;have HPLL:Hid ((playsP P t.h (own,other) ra rb).length<=781250):=dW hsd hP24 hra hrb
 have CAP:=h_ fun(W:World) (hW:Below ((w.alloc (R #[K A1 n1 c1,K A2 n2 c2] 35)).alloc (R #[C J (ra:Int),C J (rb:Int)] 37)).heap.size ((w.alloc (R #[K A1 n1 c1,K A2 n2 c2] 35)).alloc (R #[C J (ra:Int),C J (rb:Int)] 37)) W)=>CAP0 W (HBV.out.trans (hW.mono HBV.out.size))
 have HRES:Hid (plE t.s P t.h (ivE t.s P t.h tu) (own,other) (ra,rb)=mapO (fun x=>(ivE t.s P t.h tu (x.2,x.1)).bind (flipE (sq t.s))) (playsP P t.h (own,other) ra rb)):=rfl
 generalize plE t.s P t.h (ivE t.s P t.h tu) (own,other) (ra,rb)=RES at *;generalize playsP P t.h (own,other) ra rb=PL at *;generalize fineR P t.h (own,other) ra rb=fl at *;clear hI hA hB hsd hlow HVX CAP0 IH hra hrb hP;have HF:=HF0;have HI:=HI0;clear HF0 HI0
 go_enter Tryz.func66,Tryz.ntmps66
 go_wp2_with (fail)
 generalize ((w.alloc (R #[K A1 n1 c1,K A2 n2 c2] 35)).alloc (R #[C J (ra:Int),C J (rb:Int)] 37))=V at *
 refine w_ 10 (fun i=>i==9) dsU1 [Eqv (jz (some ⟨t.bt,0,none⟩)),Eqv (jz (some ⟨t.bt,0,none⟩)),Eqv (jz (some ⟨t.bt,0,none⟩)),Eqv (O #[C J t.p,C J (t.c:Int),C J (t.h:Int),C J (t.s:Int)]),Eqv (O #[K A1 n1 c1,K A2 n2 c2]),Eqv (O #[C J (ra:Int),C J (rb:Int)]),AlQ V.heap.size 4 PL fl,AlQ V.heap.size 4 PL fl,PlQ V.heap.size 4 PL,Eqv (Y fl)] (by repeat (first|exact AllStb.nil|refine AllStb.cons (by first|exact aY _|exact stb_alQ _ _ _ _|exact f9 _ _ _) ?_)) ?_ ?_ ?_
 ·intro i o hi hX ho a' W hW hIW hfar hdep
  have hi8:i=9:=by simpa[or_assoc]using hX
  clear hfar hX hi;subst hi8
  simp at ho
  subst ho
  ·obtain⟨Ae,ce,q7,-⟩:AlQ V.heap.size 4 PL fl (a'.tmps.getD 18 undef) W:=dp hdep 7
   exact⟨(Y fl),fun W'=>by simp only[execOp,Act.eval,q7];go_simp,rfl⟩
 ·intro i o hi hX ho a' W hW hIW hfar hdep
  have e0:a'.tmps.getD 0 undef=(jz (some ⟨t.bt,0,none⟩)):=(fr hfar 0).trans rfl
  have e5:a'.tmps.getD 5 undef=(jz (some ⟨w.heap.size,0,none⟩)):=(fr hfar 5).trans rfl
  have e6:a'.tmps.getD 6 undef=(jz (some ⟨w.heap.size+1,0,none⟩)):=(fr hfar 6).trans rfl
  have hi8:i=0\/i=1\/i=2\/i=3\/i=4\/i=5\/i=6\/i=7\/i=8:=by simp at hX;omega
  clear hfar hX hi
  rcases hi8 with rfl|rfl|rfl|rfl|rfl|rfl|rfl|rfl|rfl
  all_goals (simp at ho;subst ho)
  ·refine il ?_;simp only[execOp,Act.eval,e0];go_simp
  ·have d1:a'.tmps.getD 19 undef=_:=dp hdep 0
   refine il ?_;simp only[execOp,Act.eval,d1];go_simp
  ·have d1:a'.tmps.getD 20 undef=_:=dp hdep 1
   refine il ?_;simp only[execOp,Act.eval,d1];go_simp
  ·have d1:a'.tmps.getD 21 undef=_:=dp hdep 2
   have y0:=(HI.out.below hW).tb 0 _ rfl;have y1:=(HI.out.below hW).tb 1 _ rfl;have y2:=(HI.out.below hW).tb 2 _ rfl;have y3:=(HI.out.below hW).tb 3 _ rfl
   refine il ?_;simp only[execOp,Act.eval,d1];go_simp
  ·have y0:=(HF.out.below hW).c0 0 rfl
   have y1:=(HF.out.below hW).c0 1 rfl
   refine il ?_;simp only[execOp,Act.eval,e5];go_simp
  ·have y0:=(HF.out.below hW).c1 0 rfl
   have y1:=(HF.out.below hW).c1 1 rfl
   refine il ?_;simp only[execOp,Act.eval,e6];go_simp
  ·have d1:a'.tmps.getD 22 undef=_:=dp hdep 3
   have d2:a'.tmps.getD 23 undef=_:=dp hdep 4
   have d3:a'.tmps.getD 24 undef=_:=dp hdep 5
   refine .inr ⟨136,#[(O #[C J t.p,C J (t.c:Int),C J (t.h:Int),C J (t.s:Int)]),(O #[K A1 n1 c1,K A2 n2 c2]),(O #[C J (ra:Int),C J (rb:Int)])],by simp only[execOp,Act.eval,d1,d2,d3];go_simp,?_⟩
   refine(CAP.out W hW).mono ?_
   rintro e W' ⟨Ae,ce,rfl,hpe,hce,hb'⟩
   exact⟨_,rfl,hb',trivial,Ae,ce,rfl,hpe.set (fun k hk=>.inl (Nat.lt_of_lt_of_le hk (Below.size hW))),hce⟩
  ·obtain⟨Ae,ce,q6,hpe,hce⟩:AlQ V.heap.size 4 PL fl (a'.tmps.getD 25 undef) W:=dp hdep 6
   have q6':=q6;rw[Array.getD_eq_getD_getElem?]at q6'
   exact .inl ⟨j1 #[K Ae PL.length ce,Y fl],W,by simp only[execOp,Act.eval,q6];go_simp,Bel.rfl' _,trivial,Ae,ce,rfl,hpe,hce⟩
  ·obtain⟨Ae,ce,q7,hpe,hce⟩:AlQ V.heap.size 4 PL fl (a'.tmps.getD 18 undef) W:=dp hdep 7
   have q7':=q7;rw[Array.getD_eq_getD_getElem?]at q7'
   exact .inl ⟨K Ae PL.length ce,W,by simp only[execOp,Act.eval,q7];go_simp,Bel.rfl' _,trivial,Ae,ce,rfl,hpe,hce⟩
 intro v w1 hW hIW hg
 have g0:v 0=_:=gq hg 0
 have g1:v 1=_:=gq hg 1
 have g2:v 2=_:=gq hg 2
 have g3:v 3=_:=gq hg 3
 have g4:v 4=_:=gq hg 4
 have g5:v 5=_:=gq hg 5
 obtain⟨_,_,g6,_,_⟩:AlQ V.heap.size 4 PL fl (v 6) w1:=hg 6 (by omega)
 obtain⟨_,_,g7,_,_⟩:AlQ V.heap.size 4 PL fl (v 7) w1:=hg 7 (by omega)
 obtain⟨A9,k9,g8,hp9,-⟩:PlQ V.heap.size 4 PL (v 8) w1:=hg 8 (by omega)
 have g9:v 9=_:=gq hg 9
 simp only[List.drop_succ_cons,List.drop_zero,putV,dsU1,g0,g1,g2,g3,g4,g5,g6,g7,g8,g9,Act.put]
 clear g0 g1 g2 g3 g4 g5 g6 g7 g8 g9 hg hIW;have HF1:=h_ (HF.out.below hW);have HI1:=h_ (HI.out.below hW);have HP1:=h_ hp9;have hz1:=Below.size hW;clear hp9 hW HF HI CAP;obtain⟨n,hn⟩:∃n,n=PL.length:=⟨_,rfl⟩;have HN:=h_ hn
 have hn6:n<=781250:=by rw[hn];exact HPLL.out
 rw[<-hn]at HP1 ⊢;clear hn
 go_wp2_with (fail)
 go_loopw [12,13] (fun v12 v13 wr=>∃(q:Nat) (L:List Iv),q<=n/\v13=C J q/\(∃vx,vx=v12/\Hid (wr.ownsRow w1.heap.size 47 4 vx L.length (ivCs L)))/\Hid (mapO (fun x=>(ivE t.s P t.h tu (x.2,x.1)).bind (flipE (sq t.s))) (PL.take q)=some L)/\Hid (TabI t wr)/\Hid (Frm t.S w1 wr)/\Hid (FrS t.S w wr [[K A1 n1 c1,K A2 n2 c2],[C J (ra:Int),C J (rb:Int)]])) (fun _ v13 _=>n-(intOf v13).toNat)
 case atStart=>exact⟨0,[],by omega,rfl,⟨_,rfl,World.ownsRow_lit w1 #[] 0 (Nat.le_refl _) (by decide) (by simp)⟩,rfl,HI1.out.alloc _,(Frm.refl _ _).alloc _,HF1.out.alloc _⟩
 case round=>
  clear HF1 HI1;obtain⟨q,L,hqn,rfl,⟨vx,rfl,HO⟩,HM,HI,HFX,HF⟩:=hrel;have hz1r:w1.heap.size<=wr.heap.size:=HFX.out.size
  by_cases hlt:q<n
  ·have hji:(q:Int)<(n:Int):=by omega
   have hqPL:q<PL.length:=by have:=HN.out;omega
   obtain⟨b,off,A0,n0,c0,E1,m1,kE1,E2,m2,kE2,rfl,hbl,hbs,y0,y1,y2,_,p1,r1,p2,r2⟩:=HP1.out.at hlt
   have hsub:∀k,t.S k->k<V.heap.size:=fun k hk=>by have:=HLOW.out k hk;omega
   have hnb:¬t.S b:=fun h9=>hbs (hsub b h9)
   have z1:=HFX.out.cell' y1 hnb;have z2:=HFX.out.cell' y2 hnb;have HSn:=h_ (HSX.out _ (ak PL ([],[]) hqPL))
   have HMT:Hid (mapO (fun x=>(ivE t.s P t.h tu (x.2,x.1)).bind (flipE (sq t.s))) (PL.take (q+1))=(some L).bind fun xs=>((ivE t.s P t.h tu ((PL.getD q ([],[])).2,(PL.getD q ([],[])).1)).bind (flipE (sq t.s))).map fun x=>xs++[x]):=by
    unfold Hid;rw[eZ ([],[]) hqPL,HM.out]
   have HMS:Hid ((ivE t.s P t.h tu ((PL.getD q ([],[])).2,(PL.getD q ([],[])).1)).bind (flipE (sq t.s))=none->RES=none):=fun h9=>by
    rw[HRES.out]
    exact gX ([],[]) hqPL h9
   obtain⟨⟨o2,t2⟩,hbb⟩:∃bb,bb=PL.getD q ([],[]):=⟨_,rfl⟩;rw[<-hbb]at p1 p2 HSn HMT HMS
   simp only at p1 p2 HMT HMS
   have e1:m1=P+1:=by rw[<-p1.1.1];exact HSn.out.len1
   have e2:m2=P+1:=by rw[<-p2.1.1];exact HSn.out.len2
   have HQ1:=h_ (p1.frm (HFX.out.mono hsub)).1;have HQ2:=h_ (p2.frm (HFX.out.mono hsub)).1
   have CSW:Hid (∀W:World,Below wr.heap.size wr W->Calls Tryz.prog 106 #[O #[K E1 m1 kE1,K E2 m2 kE2]] W (RetBq W t2 o2)):=fun W hw=>l02Swap_any E1 E2 m1 kE1 m2 kE2 o2 t2 W (HQ1.out.below hw) (HQ2.out.below hw) (by omega) (by omega) (by omega) (by omega)
   have HVO:Hid (∀k,vx.ownBlock=some k->w1.heap.size<=k/\k<wr.heap.size):=fun k hk=>World.ownsRow.lt HO.out k hk
   clear y0 y1 y2 p1 p2 r1 r2 hbb e1 e2 HQ1 HQ2 hnb
   go_wp2_with (fail)
   refine(CSW.out _ (Below.refl _ _)).mono ?_
   rintro e w3 ⟨ga,k1,gb,k2,rfl,ho1,ho2,_,hb3⟩
   have HB3:=h_ hb3;have hz3:wr.heap.size<=w3.heap.size:=hb3.size;have HI3:=h_ (HI.out.below HB3.out);have HF3:=h_ (HF.out.below HB3.out);have HO3:=h_ (own_below HO.out HB3.out);have HFX3:Hid (Frm t.S w1 w3):=HFX.out.trans (Frm.of_below' _ HB3.out)
   have hTw:∀k,wr.heap.size<=k->¬t.S k:=fun k hk h9=>by have:=HLOW.out k h9;omega
   obtain⟨qs1,qc1⟩:=sq_own (S:=t.S) ho1 (fun k hk=>hTw k (by omega))
   obtain⟨qs2,qc2⟩:=sq_own (S:=t.S) ho2 (fun k hk=>hTw k (by omega))
   have CIV:Hid (Calls Tryz.prog 73 #[(jz (some ⟨t.bt,0,none⟩)),O #[K (some ⟨ga,0,none⟩) t2.length k1,K (some ⟨gb,0,none⟩) o2.length k2],C J (tu:Int)] w3 (RetIv2 t w3 (ivE t.s P t.h tu (t2,o2)))):=
    HIH.out t2 o2 (some ⟨ga,0,none⟩) (some ⟨gb,0,none⟩) t2.length k1 o2.length k2 w3 HI3.out qs1 qs2 ⟨HSn.out.2,HSn.out.1⟩ qc1 qc2
   clear ho1 ho2 hb3 qs1 qs2 qc1 qc2 HI HF HO HFX hTw CSW HI3
   go_wp2_with (fail)
   refine CIV.out.mono ?_
   rintro e w4 ⟨hres,hI4,hF4⟩
   have hz4:w3.heap.size<=w4.heap.size:=hF4.size;have HF4:=h_ (HF3.out.frm hF4);have HI4:=h_ hI4
   have HO4:Hid (w4.ownsRow w1.heap.size 47 4 vx L.length (ivCs L)):=hF4.row HO3.out (fun k hk h9=>by have:=(HVO.out k hk).1;have:=HLOW.out k h9;omega)
   have HFX4:Hid (Frm t.S w1 w4):=HFX3.out.trans hF4;clear hI4 hF4 HF3 HO3 HFX3 CIV HB3
   cases hiv:ivE t.s P t.h tu (t2,o2)with
   |none=>
    rw[hiv]at hres HMS;obtain⟨x1,x2,x3,x4,rfl⟩:=hres
    have HRE:Hid (RetPi2 t w RES (U (j1 #[K none 0 0,Y false])) (w4.alloc (R #[C J x1,C J x2,C J x3,C J x4] 47))):=by
     rw[HMS.out rfl]
     exact⟨rfl,HI4.out.alloc _,HF4.out.f.alloc _⟩
    clear HMT HMS hiv HI4 HF4 HO4 HFX4
    go_wp2_with (fail)
    go_ret2
    exact HRE.out
   |some y=>
    have HVY:=h_ (HVV.out y tu _ hiv);rw[hiv]at hres HMT HMS;obtain⟨⟨ln,ld⟩,⟨hn,hd⟩⟩:=y;replace hres:e=U (j1 #[O #[C J ln,C J (ld:Int),C J hn,C J (hd:Int)],Y true]):=hres;subst hres
    have HMT2:Hid (mapO (fun x=>(ivE t.s P t.h tu (x.2,x.1)).bind (flipE (sq t.s))) (PL.take (q+1))=(flipE (sq t.s) (⟨ln,ld⟩,⟨hn,hd⟩)).map fun x=>L++[x]):=HMT.out
    have HMS2:Hid (flipE (sq t.s) (⟨ln,ld⟩,⟨hn,hd⟩)=none->RES=none):=HMS.out
    have CF0:=fun(W:World)=>l15Flip_any t.p (t.c:Int) (t.h:Int) ln hn t.s ld hd W hs1 hs6 HVY.out
    have HFS:Hid (∀z,flipE (sq t.s) (⟨ln,ld⟩,⟨hn,hd⟩)=some z->flA (sq t.s) (⟨ln,ld⟩,⟨hn,hd⟩)=z):=fun z h9=>flA_some h9
    generalize flA (sq t.s) (⟨ln,ld⟩,⟨hn,hd⟩)=FA at *;generalize flipE (sq t.s) (⟨ln,ld⟩,⟨hn,hd⟩)=FE at *;obtain⟨⟨a1,b1⟩,⟨a2,b2⟩⟩:=FA;obtain⟨okf,hokf⟩:∃x:Bool,x=FE.isSome:=⟨_,rfl⟩
    have CFL:Hid (∀W:World,Calls Tryz.prog 137 #[(O #[C J t.p,C J (t.c:Int),C J (t.h:Int),C J (t.s:Int)]),(O #[C J ln,C J (ld:Int),C J hn,C J (hd:Int)])] W fun e W'=>e=U (j1 #[(O #[C J a1,C J (b1:Int),C J a2,C J (b2:Int)]),Y okf])/\Below W.heap.size W W'):=fun W=>by
     rw[hokf]
     exact CF0 W
    have HOK:=h_ hokf;clear hiv HMT HMS HVY CF0 hokf
    go_upto_region 9 with (fail)
    obtain⟨V5,hV5⟩:∃W,W=w4.alloc (R #[C J ln,C J (ld:Int),C J hn,C J (hd:Int)] 47):=⟨_,rfl⟩;rw[<-hV5]
    have HB5:Hid (Below w4.heap.size w4 V5):=by rw[hV5];exact(Below.refl _ _).alloc (Nat.le_refl _) _
    have HCV5:Hid (Cel V5 w4.heap.size [C J ln,C J (ld:Int),C J hn,C J (hd:Int)]):=by rw[hV5];exact Cel.new w4 #[C J ln,C J (ld:Int),C J hn,C J (hd:Int)] 47
    have HIV5:=h_ (HI4.out.below HB5.out);clear hV5
    go_wp2_with (fail)
    refine w_ 10 (fun i=>i==8) dsU9 [Eqv (jz (some ⟨t.bt,0,none⟩)),Eqv (jz (some ⟨t.bt,0,none⟩)),Eqv (jz (some ⟨t.bt,0,none⟩)),Eqv (O #[C J t.p,C J (t.c:Int),C J (t.h:Int),C J (t.s:Int)]),Eqv (O #[C J ln,C J (ld:Int),C J hn,C J (hd:Int)]),Eqv ((j1 #[(O #[C J a1,C J (b1:Int),C J a2,C J (b2:Int)]),Y okf])),Eqv ((j1 #[(O #[C J a1,C J (b1:Int),C J a2,C J (b2:Int)]),Y okf])),Eqv (O #[C J a1,C J (b1:Int),C J a2,C J (b2:Int)]),Eqv (Y okf),AlcD V5.heap.size 47 [C J 0,C J 0,C J 0,C J 0]] (by repeat (first|exact AllStb.nil|refine AllStb.cons (by first|exact aY _|exact bi _ _ _) ?_)) ?_ ?_ ?_
    ·intro i o hi hX ho a' W hW hIW hfar hdep
     have hi8:i=8:=by simpa[or_assoc]using hX
     clear hfar hX hi;subst hi8
     simp at ho
     subst ho
     ·have d1:a'.tmps.getD 49 undef=_:=dp hdep 6
      exact⟨(Y okf),fun W'=>by simp only[execOp,Act.eval,d1];go_simp,rfl⟩
    ·intro i o hi hX ho a' W hW hIW hfar hdep
     have e0:a'.tmps.getD 0 undef=(jz (some ⟨t.bt,0,none⟩)):=(fr hfar 0).trans rfl
     have e14:a'.tmps.getD 14 undef=(jz (some ⟨w4.heap.size,0,none⟩)):=(fr hfar 14).trans rfl
     have hi8:i=0\/i=1\/i=2\/i=3\/i=4\/i=5\/i=6\/i=7\/i=9:=by simp at hX;omega
     clear hfar hX hi
     rcases hi8 with rfl|rfl|rfl|rfl|rfl|rfl|rfl|rfl|rfl
     all_goals (simp at ho;subst ho)
     ·refine il ?_;simp only[execOp,Act.eval,e0];go_simp
     ·have d1:a'.tmps.getD 50 undef=_:=dp hdep 0
      refine il ?_;simp only[execOp,Act.eval,d1];go_simp
     ·have d1:a'.tmps.getD 51 undef=_:=dp hdep 1
      refine il ?_;simp only[execOp,Act.eval,d1];go_simp
     ·have d1:a'.tmps.getD 52 undef=_:=dp hdep 2
      have y0:=(HIV5.out.below hW).tb 0 _ rfl;have y1:=(HIV5.out.below hW).tb 1 _ rfl;have y2:=(HIV5.out.below hW).tb 2 _ rfl;have y3:=(HIV5.out.below hW).tb 3 _ rfl
      refine il ?_;simp only[execOp,Act.eval,d1];go_simp
     ·have y0:=(HCV5.out.below hW).cell 0 _ rfl
      have y1:=(HCV5.out.below hW).cell 1 _ rfl;have y2:=(HCV5.out.below hW).cell 2 _ rfl;have y3:=(HCV5.out.below hW).cell 3 _ rfl
      refine il ?_;simp only[execOp,Act.eval,e14];go_simp
     ·have d1:a'.tmps.getD 53 undef=_:=dp hdep 3
      have d2:a'.tmps.getD 54 undef=_:=dp hdep 4
      refine .inr ⟨137,#[(O #[C J t.p,C J (t.c:Int),C J (t.h:Int),C J (t.s:Int)]),(O #[C J ln,C J (ld:Int),C J hn,C J (hd:Int)])],by simp only[execOp,Act.eval,d1,d2];go_simp,?_⟩
      refine(CFL.out W).mono ?_
      rintro e W' ⟨rfl,hb'⟩
      exact⟨_,rfl,hb',trivial,rfl⟩
     ·have d1:a'.tmps.getD 55 undef=_:=dp hdep 5
      refine il ?_;simp only[execOp,Act.eval,d1];go_simp
     ·have d1:a'.tmps.getD 49 undef=_:=dp hdep 6
      refine il ?_;simp only[execOp,Act.eval,d1];go_simp
     ·exact .inl ⟨jz (some ⟨W.heap.size,0,none⟩),W.alloc (R #[C J 0,C J 0,C J 0,C J 0] 47),by kernel_rfl,Bel.alloc _ _,trivial,jv _ _ _ (Below.size hW)⟩
    intro v w6 hW hIW hg
    have g0:v 0=_:=gq hg 0
    have g1:v 1=_:=gq hg 1
    have g2:v 2=_:=gq hg 2
    have g3:v 3=_:=gq hg 3
    have g4:v 4=_:=gq hg 4
    have g5:v 5=_:=gq hg 5
    have g6:v 6=_:=gq hg 6
    have g7:v 7=_:=gq hg 7
    have g8:v 8=_:=gq hg 8
    obtain⟨gx,g9,glgx,hAx,_⟩:AlcD V5.heap.size 47 [C J 0,C J 0,C J 0,C J 0] (v 9) w6:=hg 9 (by omega)
    simp only[List.drop_succ_cons,List.drop_zero,putV,dsU9,g0,g1,g2,g3,g4,g5,g6,g7,g8,g9,Act.put]
    clear g0 g1 g2 g3 g4 g5 g6 g7 g8 g9 hg hIW;have c0x:=hAx.cell 0 _ rfl;have f0x:=hAx.froz 0 _ rfl;have c1x:=hAx.cell 1 _ rfl;have f1x:=hAx.froz 1 _ rfl;have c2x:=hAx.cell 2 _ rfl;have f2x:=hAx.froz 2 _ rfl;have c3x:=hAx.cell 3 _ rfl;have f3x:=hAx.froz 3 _ rfl;have HAX:=h_ hAx;have HBW:=h_ hW;have HGL:=h_ glgx;clear hAx hW glgx
    go_upto_region 10 with (fail)
    obtain⟨V7,hVn⟩:∃W,W=((((w6.setCell ⟨gx,0,none⟩ (C J a1)).setCell ⟨gx,1,none⟩ (C J (b1:Int))).setCell ⟨gx,2,none⟩ (C J a2)).setCell ⟨gx,3,none⟩ (C J (b2:Int))):=⟨_,rfl⟩;rw[<-hVn]
    have HBn:Hid (Below V5.heap.size V5 V7):=by rw[hVn];exact stw (stw (stw (stw HBW.out HGL.out) HGL.out) HGL.out) HGL.out
    have HXV7:Hid (Cel V7 gx [C J a1,C J (b1:Int),C J a2,C J (b2:Int)]):=by rw[hVn];exact(((HAX.out.st (i:=0) (v:=C J a1) (by simp)).st (i:=1) (v:=C J (b1:Int)) (by simp)).st (i:=2) (v:=C J a2) (by simp)).st (i:=3) (v:=C J (b2:Int)) (by simp)
    have HIV7:=h_ (HIV5.out.below HBn.out);clear hVn HAX HBW HGL c0x c1x c2x c3x f0x f1x f2x f3x HIV5 HCV5;have HB47:Hid (Below w4.heap.size w4 V7):=HB5.out.trans (HBn.out.mono HB5.out.size);have HF7:=h_ (HF4.out.below HB47.out);have HFX7:Hid (Frm t.S w1 V7):=HFX4.out.trans (Frm.of_below' _ HB47.out);have HO7:=h_ (own_below HO4.out HB47.out);have hz7:w4.heap.size<=V7.heap.size:=HB47.out.size
    have HNO:Hid (∀k,some k=vx.ownBlock->¬t.S k):=fun k hk h9=>by have:=(HVO.out k hk.symm).1;have:=HLOW.out k h9;omega
    clear HB5 HBn HF4 HFX4 HO4 HI4 CFL
    rcases FE with _|z
    ·have hk:okf=false:=HOK.out;subst hk
     have HRE:Hid (RetPi2 t w RES (U (j1 #[K none 0 0,Y false])) V7):=by
      rw[HMS2.out rfl]
      exact⟨rfl,HIV7.out,HF7.out.f⟩
     clear HMS2 HMT2 HFS
     go_wp2_with (fail)
     go_ret2
     exact HRE.out
    ·have hk:okf=true:=HOK.out;subst hk;have hz9:((⟨a1,b1⟩,⟨a2,b2⟩):Iv)=z:=HFS.out z rfl;subst hz9
     have HM2:Hid (mapO (fun x=>(ivE t.s P t.h tu (x.2,x.1)).bind (flipE (sq t.s))) (PL.take (q+1))=some (L++[((⟨a1,b1⟩,⟨a2,b2⟩):Iv)])):=HMT2.out
     have HEC:Hid (ivCs (L++[((⟨a1,b1⟩,⟨a2,b2⟩):Iv)])=ivCs L++[C J a1,C J (b1:Int),C J a2,C J (b2:Int)]):=by
      unfold Hid
      rw[ivCs_snoc];rfl
     have HLL:Hid (L.length<=781250):=by
      have h9:=bN HM.out;rw[List.length_take]at h9
      unfold Hid;omega
     have HROW:Hid ((V7.alloc (R #[C J a1,C J (b1:Int),C J a2,C J (b2:Int)] 47)).ownsRow w1.heap.size 47 4 vx L.length (ivCs L)):=World.ownsRow.alloc HO7.out _
     have HNW:Hid (∀j u,[C J a1,C J (b1:Int),C J a2,C J (b2:Int)][j]? =some u->(V7.alloc (R #[C J a1,C J (b1:Int),C J a2,C J (b2:Int)] 47)).cell? ((⟨V7.heap.size,0,none⟩:Addr).add j)=some u):=fun j u hj=>by
      have h9:=(Cel.new V7 #[C J a1,C J (b1:Int),C J a2,C J (b2:Int)] 47).cell j u hj;unfold Addr.add
      split
      ·rename_i h0;rw[h0]at h9;exact h9
      ·rw[Nat.zero_add];exact h9
     have x0:=HXV7.out.cell 0 _ rfl;have x1:=HXV7.out.cell 1 _ rfl;have x2:=HXV7.out.cell 2 _ rfl;have x3:=HXV7.out.cell 3 _ rfl
     have hzb:w1.heap.size<=(V7.alloc (R #[C J a1,C J (b1:Int),C J a2,C J (b2:Int)] 47)).heap.size:=by simp;omega
     clear HMT2 HMS2 HFS HM
     go_wp2_with (at_builtin;(refine wpList_append_own_at _ rfl _ _ 30 rfl w1.heap.size 47 j0 (O #[C J 0,C J 0,C J 0,C J 0]) 4 32 Tryz.underlying30 hj jz0 jz1 jz2 rfl (by decide) _ _ _ rfl HROW.out ⟨V7.heap.size,0,none⟩ 1 1 [C J a1,C J (b1:Int),C J a2,C J (b2:Int)] rfl rfl HNW.out (fun u hu=>by simp at hu;rcases hu with rfl|rfl|rfl|rfl<;>rfl) (by have:=HLL.out;unfold maxLen;omega) (by have:=HLL.out;omega) hzb ?_);intro v' w8 hown hgrow _ hat)
     have hba:Below V7.heap.size V7 (V7.alloc (R #[C J a1,C J (b1:Int),C J a2,C J (b2:Int)] 47)):=(Below.refl _ _).alloc (Nat.le_refl _) _
     have HO8:Hid (w8.ownsRow w1.heap.size 47 4 v' (L++[((⟨a1,b1⟩,⟨a2,b2⟩):Iv)]).length (ivCs (L++[((⟨a1,b1⟩,⟨a2,b2⟩):Iv)]))):=by
      unfold Hid;rw[HEC.out,List.length_append]
      exact hown
     have hbt9:t.bt<w.heap.size:=HBT.out
     have HI8:Hid (TabI t w8):=(HIV7.out.below hba).frm (Frm.of_grown hgrow) (fun k hk=>HNO.out k hk) (fun h9=>by have:=(HVO.out _ h9.symm).1;omega)
     have HFX8:Hid (Frm t.S w1 w8):=(HFX7.out.trans (Frm.of_below' _ hba)).outs' (Frm.of_grown hgrow) (fun k hk=>.inr (HVO.out k hk.symm).1)
     have HF8:Hid (FrS t.S w w8 [[K A1 n1 c1,K A2 n2 c2],[C J (ra:Int),C J (rb:Int)]]):=(HF7.out.below hba).out (Frm.of_grown hgrow) (fun k hk=>by have:=(HVO.out k hk.symm).1;simp;omega)
     clear hown hgrow hat hba HROW HNW HIV7 HFX7 HF7 HO7 hbt9
     exact⟨⟨q+1,L++[((⟨a1,b1⟩,⟨a2,b2⟩):Iv)],by omega,by go_num,⟨v',rfl,HO8⟩,HM2,HI8,HFX8,HF8⟩,by simp[intOf];omega⟩
  ·have hji:¬(q:Int)<(n:Int):=by omega
   have HRE:Hid (RetPi2 t w RES (U (j1 #[vx,Y true])) wr):=by
    have h9:=HM.out
    rw[List.take_of_length_le (by have:=HN.out;omega)]at h9
    rw[HRES.out,h9]
    exact⟨⟨vx,rfl,aH HO.out (by omega)⟩,HI.out,HF.out.f⟩
   clear HO HI HM HFX HF
   go_wp2_with (fail)
   go_ret2
   exact HRE.out
end Go.Proofs.YtcmeoenkgmghkaaGreat

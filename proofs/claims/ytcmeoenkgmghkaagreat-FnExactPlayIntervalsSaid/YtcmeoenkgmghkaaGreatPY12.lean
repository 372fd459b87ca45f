/- Part of one proof. There are no conditions. -/
import Derived.Maps.OwnSet
import Derived.Maps.Ext
import Derived.Maps.Keyed
import Derived.Laws.MakeOwn
import Derived.Laws.BytesArg
import Derived.Test.YtcmeoenkgmghkaaGreatPY8
set_option linter.unusedVariables false
set_option linter.unusedSimpArgs false
set_option maxHeartbeats 0
set_option maxRecDepth 100000
open Go.Value renaming slice->Y,bool->j1,pointer->qa
open Go.IntKind renaming i64->Z
open Go.Obj renaming cells->jz
open Go.Ending renaming returned->qb
namespace Go.Proofs.YtcmeoenkgmghkaaGreat
open Go.RowKit Go.Maps
open Go.ChangeMaps Go.MapKept Go.WideShapes
def heldV(v:Value):Option (DataW Value×List MemPlace):=some (.held v,[])
theorem kY{α:Type}[DecidableEq α]:∀{l U:List α},l.Pairwise (fun a b=>a≠b)->(∀x∈l,x∈U)->l.length<=U.length
 | [],_,_,_=>Nat.zero_le _
 |x::r,U,hp,hm=>by
   have hp':=List.pairwise_cons.1 hp
   have hx:=hm x (by simp)
   have h1:(U.erase x).length=U.length-1:=List.length_erase_of_mem hx
   have h2:=kY (l:=r) (U:=U.erase x) hp'.2 fun y hy=>(List.mem_erase_of_ne (Ne.symm (hp'.1 y hy))).2 (hm y (by simp [hy]))
   have h3: 1<=U.length:=List.length_pos_of_mem hx
   simp only [List.length_cons]
   omega
def MapV(P:Program)(k:TypeId)(w:World)(b:Nat)(U:List Lit)(f:Lit->Option Value):Prop:=
 ∃D:DataW Value,w.ownsMap P k heldV b U.length D/\(∀l,WideAt.IsKeyLit l->has D l=(f l).isSome/\∀z,D.atKey l (.held z)= .held ((f l).getD z))/\∀l,has D l=true->l∈U
section
variable {P:Program}{k:TypeId}{w w':World}{b:Nat}{U:List Lit}{f:Lit->Option Value}
theorem MapV.lt(h:MapV P k w b U f):b<w.heap.size:=let ⟨_,h,_⟩:=h;h.lt
theorem lW{n m:Nat}{D:DataW Value}{R:Value->Option (DataW Value×List MemPlace)}(h:w.ownsMap P k R b n D)(hs:size D<=m):w.ownsMap P k R b m D:=by
 obtain⟨es,clock,hb,F,_,hD⟩:=h
 refine⟨es,clock,hb,F,?_,hD⟩
 rw[hD]at hs
 simpa[Maps.size,length_sorted]using hs
theorem MapV.made(P:Program)(k:TypeId)(w:World)(U:List Lit):MapV P k (w.alloc (.map #[] 0)) w.heap.size U (fun _=>none):=by
 refine⟨.map [],(World.ownsMap_made w P k heldV).mono (Nat.zero_le _),fun l hl=>⟨rfl,fun z=>rfl⟩,fun l h=>by simp[has]at h⟩
theorem MapV.frm{S:Nat->Prop}(h:MapV P k w b U f)(hf:Frm S w w')(hn:¬S b):MapV P k w' b U f:=by
 obtain⟨D,hD,h1,h2⟩:=h
 refine⟨D,?_,h1,h2⟩
 have hlt:=hD.lt;obtain⟨es,clock,hb,r⟩:=hD
 exact⟨es,clock,(hf.block b hlt hn).trans hb,r⟩
theorem MapV.below(h:MapV P k w b U f)(hb:Below w.heap.size w w'):MapV P k w' b U f:=h.frm (Frm.of_below hb) id
theorem MapV.alloc(h:MapV P k w b U f)(o:Obj):MapV P k (w.alloc o) b U f:=h.below ((Below.refl _ _).alloc (Nat.le_refl _) o)
theorem heldV_inj{v:Value}{z:Value}{ps:List MemPlace}(h:heldV v=some (.held z,ps)):v=z:=by
 simp only[heldV,Option.some.injEq,Prod.mk.injEq,DataW.held.injEq]at h
 exact h.1
theorem MapV.look{t e:TypeId}(h:MapV P k w b U f)(K:Keyed P k)(ht:P.underlying t=some (.map k e)){z:Value}(hz:(zeroValue e).run P w= .ok z w){key:Value}{kl:Lit}(hkey:keyOf P k key=some kl):
  (Instr.lookup t (.map (some b)) key false).run P w= .ok ((f kl).getD z) w:=by
 obtain⟨D,hD,h1,_⟩:=h;obtain⟨v,ps,hrun,hv⟩:=hD.lookup K ht hz (zd:=.held z) (zp:=[]) rfl hkey;rw[(h1 kl (K.key hkey)).2 z]at hv;rw[heldV_inj hv]at hrun
 exact hrun
theorem MapV.look_ok{t e:TypeId}(h:MapV P k w b U f)(K:Keyed P k)(ht:P.underlying t=some (.map k e)){z:Value}(hz:(zeroValue e).run P w= .ok z w){key:Value}{kl:Lit}(hkey:keyOf P k key=some kl):
  (Instr.lookup t (.map (some b)) key true).run P w= .ok (.tuple #[(f kl).getD z,j1 (f kl).isSome]) w:=by
 obtain⟨D,hD,h1,_⟩:=h;obtain⟨v,ps,hrun,hv⟩:=World.ownsMap.look_ok hD K ht hz (zd:=.held z) (zp:=[]) rfl hkey;rw[(h1 kl (K.key hkey)).2 z]at hv;rw[heldV_inj hv,(h1 kl (K.key hkey)).1]at hrun
 exact hrun
open Classical in
noncomputable def putF(f:Lit->Option Value)(l:Lit)(v:Value):Lit->Option Value:=fun l'=>if l'=l then some v else f l'
theorem gT(f:Lit->Option Value)(l:Lit)(v:Value):putF f l v l=some v:=by unfold putF;exact if_pos rfl
theorem dV(f:Lit->Option Value){l l':Lit}(h:l'≠l)(v:Value):putF f l v l'=f l':=by unfold putF;exact if_neg h
theorem MapV.store{t e:TypeId}(h:MapV P k w b U f)(K:Keyed P k)(ht:P.underlying t=some (.map k e))(hn:U.length<maxLen){key val:Value}{kl:Lit}(hkey:keyOf P k key=some kl)(hU:kl∈U):
  ∃w',(Instr.mapUpdate t (.map (some b)) key val).run P w= .ok () w'/\MapV P k w' b U (putF f kl val)/\w.grownBy w' (some b):=by
 obtain⟨D,hD,h1,h2⟩:=h;obtain⟨w',hrun,hD',hg⟩:=hD.update K ht hn hkey (val:=val) (d:=.held val) (ps:=[]) rfl;have hM:=World.ownsMap.isMap hD;have hT:=World.ownsMap.tidy hD' K;have hl:=K.key hkey
 have h2':∀l,has (D.put kl (.held val)) l=true->l∈U:=by
  intro l hh
  by_cases e:l=kl
  ·rw[e];exact hU
  ·rw[has_put_other e]at hh;exact h2 l hh
 refine⟨w',hrun,⟨D.put kl (.held val),lW hD' ?_,fun l hl'=>?_,h2'⟩,hg⟩
 ·classical
  obtain⟨es,hes,hp0,hkl⟩:=World.ownsMap.canon hD' K;have hp:=Go.Maps.apart_of_rising hp0;rw[hes,size_eq]
  have hp2:(es.map (·.1)).Pairwise (fun a b=>a≠b):=List.pairwise_map.2 hp
  have:=kY hp2 (U:=U) fun x hx=>by
   obtain⟨p,hp',rfl⟩:=List.mem_map.1 hx
   apply h2'
   rw[hes,has_eq]
   exact List.any_eq_true.2 ⟨p,hp',by have:=hkl p hp';revert this;cases p.1<;>simp[Lit.sameKey,WideAt.IsKeyLit]⟩
  simpa using this
 ·by_cases e:l=kl
  ·subst e
   rw[gT]
   exact⟨has_put_same hM hl' _,fun z=>atKey_put_same hM hl' _ _⟩
  ·rw[dV f e]
   exact⟨(has_put_other e _).trans (h1 l hl').1,fun z=>(atKey_put_other e _ _).trans ((h1 l hl').2 z)⟩
end
open Go.RowKit Pl Go.Maps
def kbL(b:Bd):List UInt8:=(b.1++b.2).map fun x=>UInt8.ofNat x.toNat
theorem kW:∀{l k:List Int},(∀x∈l,0<=x/\x<=255)->(∀x∈k,0<=x/\x<=255)->l.map (fun x=>UInt8.ofNat x.toNat)=k.map (fun x=>UInt8.ofNat x.toNat)->l=k
 | [],[],_,_,_=>rfl
 | [],y::k,_,_,h=>by simp at h
 |x::l,[],_,_,h=>by simp at h
 |x::l,y::k,h1,h2,h=>by
   rw [List.map_cons,List.map_cons]at h;injection h with h3 h4;have hx:=h1 x List.mem_cons_self;have hy:=h2 y List.mem_cons_self;have h5:=congrArg UInt8.toNat h3
   simp only [UInt8.toNat_ofNat']at h5
   have e:x=y:=by omega
   rw [e,kW (fun z hz=>h1 z (List.mem_cons_of_mem _ hz)) (fun z hz=>h2 z (List.mem_cons_of_mem _ hz)) h4]
theorem dA{p c:Nat}{l:List Int}(h:SideP p c l)(hc:c<=255):∀x∈l,0<=x/\x<=255:=fun x hx=>by
 refine⟨h.2.1 x hx,?_⟩
 have:=iI l h.2.1 x hx;have:=h.2.2
 omega
theorem kbL_inj{p c:Nat}(hc:c<=255){a b:Bd}(ha:Sd p c a)(hb:Sd p c b)(h:kbL a=kbL b):a=b:=by
 have e:=kW (l:=a.1++a.2) (k:=b.1++b.2)
  (fun x hx=>(List.mem_append.1 hx).elim (dA ha.1 hc x) (dA ha.2 hc x))
  (fun x hx=>(List.mem_append.1 hx).elim (dA hb.1 hc x) (dA hb.2 hc x)) h
 obtain⟨e1,e2⟩:=List.append_inj e (by rw[ha.len1,hb.len1])
 exact Prod.ext e1 e2
theorem bP{α:Type}{l:List α}{k:Nat}(d:α)(hk:k<l.length):l.take (k+1)=l.take k++[l.getD k d]:=by
 rw[List.take_add_one,List.getD_eq_getElem?_getD,List.getElem?_eq_getElem hk];rfl
theorem kT{p:Nat}{b:Bd}{out:List Bd}{l:List Stp}{k:Nat}(hk:k<l.length):nextI p b out (l.take (k+1))=addN (nextI p b out (l.take k)) (aT p b (l.getD k ⟨0,0,false⟩)):=by
 unfold nextI
 rw[bP ⟨0,0,false⟩ hk,List.foldl_append];rfl
theorem kU{p h die:Nat}{out bs:List Bd}{i:Nat}(hi:i<bs.length):nextF p h die out (bs.take (i+1))=nextI p (bs.getD i ([],[])) (nextF p h die out (bs.take i)) (legal p h (bs.getD i ([],[])) die):=by
 unfold nextF
 rw[bP ([],[]) hi,List.foldl_append];rfl
theorem k7{acc L:List Bd}{k:Nat}(hk:k<L.length):joinP acc (L.take (k+1))=addN (joinP acc (L.take k)) (L.getD k ([],[])):=by
 unfold joinP
 rw[bP ([],[]) hk,List.foldl_append];rfl
theorem mK{out:List Bd}{b:Bd}(h:b∈out):addN out b=out:=if_pos h
theorem jw{out:List Bd}{b:Bd}(h:¬b∈out):addN out b=out++[b]:=if_neg h
def cands(p h die:Nat)(bs:List Bd):List Bd:=bs.flatMap fun b=>(legal p h b die).map (aT p b)
theorem iN{α β:Type}(f:α->List β)(B:Nat):∀(l:List α),(∀x∈l,(f x).length<=B)->(l.flatMap f).length<=l.length*B
 | [],_=>by simp
 |x::l,h=>by
   have h1:=h x List.mem_cons_self
   have h2:=iN f B l fun y hy=>h y (List.mem_cons_of_mem _ hy)
   simp only [List.flatMap_cons,List.length_append,List.length_cons,Nat.add_mul];omega
theorem cands_len(p h die:Nat)(bs:List Bd):(cands p h die bs).length<=bs.length*(p+1):=iN _ _ _ fun b _=>by rw[List.length_map];exact cO
theorem mem_cands{p h die:Nat}{bs:List Bd}{b:Bd}{s:Stp}(hb:b∈bs)(hs:s∈legal p h b die):aT p b s∈cands p h die bs:=List.mem_flatMap.2 ⟨b,hb,List.mem_map_of_mem hs⟩
def keyL(b:Bd):Lit:=.string (kbL b)
def keyV(b:Bd):Value:=.string ⟨(kbL b).toArray⟩
theorem keyS:Keyed Tryz.prog 9:=string_keyed Tryz.underlying9
theorem keyOf_kb(b:Bd)(hl:(kbL b).length<=maxLen):keyOf Tryz.prog 9 (keyV b)=some (keyL b):=by
 have h2:(ByteArray.mk (kbL b).toArray).size<=maxLen:=by simpa[ByteArray.size]using hl
 simp[keyOf,Tryz.underlying9,mapKey,keyV,keyL,Lit.sameKey,h2]
theorem kb_len{p C:Nat}{b:Bd}(hb:Sd p C b)(hp:p<=1000):(kbL b).length<=maxLen:=by
 unfold kbL;rw[List.length_map,List.length_append,hb.len1,hb.len2]
 unfold maxLen;omega
def SeenM(w:World)(g:Nat)(U:List Bd)(p C:Nat)(out:List Bd):Prop:=∃f,MapV Tryz.prog 9 w g (U.map keyL) f/\∀b,Sd p C b->f (keyL b)=if b∈out then some (j1 true)else none
section
variable {w w':World}{g p C:Nat}{U out:List Bd}{b:Bd}
theorem SeenM.made(w:World)(U:List Bd)(p C:Nat):SeenM (w.alloc (.map #[] 0)) w.heap.size U p C []:=⟨_,MapV.made _ _ w _,fun b _=>by simp⟩
theorem SeenM.frm{S:Nat->Prop}(h:SeenM w g U p C out)(hf:Frm S w w')(hn:¬S g):SeenM w' g U p C out:=let ⟨f,h1,h2⟩:=h;⟨f,h1.frm hf hn,h2⟩
theorem SeenM.below(h:SeenM w g U p C out)(hb:Below w.heap.size w w'):SeenM w' g U p C out:=let ⟨f,h1,h2⟩:=h;⟨f,h1.below hb,h2⟩
theorem SeenM.lt(h:SeenM w g U p C out):g<w.heap.size:=let ⟨_,h1,_⟩:=h;h1.lt
theorem SeenM.look(h:SeenM w g U p C out)(hp:p<=1000)(hb:Sd p C b):(Instr.lookup 192 (.map (some g)) (keyV b) false).run Tryz.prog w= .ok (j1 (decide (b∈out))) w:=by
 obtain⟨f,h1,h2⟩:=h
 have h3:=h1.look (t:=192) (e:=4) keyS Tryz.underlying192 (z:=j1 false) (by kernel_rfl) (keyOf_kb b (kb_len hb hp))
 rw[h3,h2 b hb]
 by_cases hm:b∈out
 ·rw[if_pos hm];simp[hm]
 ·rw[if_neg hm];simp[hm]
theorem SeenM.store(h:SeenM w g U p C out)(hC:C<=255)(hp:p<=1000)(hb:Sd p C b)(hU:b∈U)(hn:U.length<maxLen):∃w',(Instr.mapUpdate 192 (.map (some g)) (keyV b) (j1 true)).run Tryz.prog w= .ok () w'/\SeenM w' g U p C (out++[b])/\w.grownBy w' (some g):=by
 obtain⟨f,h1,h2⟩:=h
 obtain⟨w',q1,q2,q3⟩:=h1.store (t:=192) (e:=4) keyS Tryz.underlying192 (by simpa using hn) (keyOf_kb b (kb_len hb hp)) (val:=j1 true) (List.mem_map_of_mem hU)
 refine⟨w',q1,⟨_,q2,fun c hc=>?_⟩,q3⟩
 by_cases e:c=b
 ·subst e
  rw[gT,if_pos (by simp)]
 ·have hk:keyL c≠keyL b:=fun h9=>e (kbL_inj hC hc hb (by unfold keyL at h9;injection h9))
  rw[dV _ hk,h2 c hc]
  simp[e]
end
open Go.RowKit
section
variable {P:Program}{w:World}
def Upd(n i:Nat)(v:Value)(L:Nat->Bool)(vs:Nat->Value)(L':Nat->Bool)(vs':Nat->Value):Prop:=
 L' i=true/\vs' i=v/\∀k,k<n->k≠i->L' k=L k/\vs' k=vs k
structure JInv(ops:Array Oper)(a0:Act)(n:Nat)(ds:Nat->Nat)(J:(Nat->Bool)->(Nat->Value)->World->Prop)(listed:Array Bool)(a:Act)(W:World):Prop where
 inv:HeadInv .any ops n listed
 df:a.defers=a0.defers
 sz:a.tmps.size=a0.tmps.size
 far:∀t,(∀i,i<n->ds i≠t)->a.tmps.getD t undef=a0.tmps.getD t undef
 j:J (fun k=>listed.getD k false) (fun k=>a.tmps.getD (ds k) undef) W
theorem gC{id:Nat}{Q:Exit->Act->World->Prop}{a:Act}{l:List Oper}(n:Nat)(X:Nat->Bool)(ds:Nat->Nat)(J:(Nat->Bool)->(Nat->Value)->World->Prop)
  (hm:P.follows .mixedOrders=true) (hB:ke l.toArray n X ds a.tmps.size=true) (hQ:∀(c:List PanicEntry) (a:Act) (d:Tmp) (v:Value) (w:World),Q (.panic c) (Act.put a (some d) v) w->Q (.panic c) a w)
  (start:∀vs,J (fun _=>false) vs { w with drawn:=w.drawn+1 })
  (early:∀i o,i<n→X i=true→l[i]? = some o→∀(L:Nat→Bool) (a':Act) (W:World),J L (fun k=>a'.tmps.getD (ds k) undef) W→L i=false→(∀t,(∀i,i<n→ds i≠t)→a'.tmps.getD t undef=a.tmps.getD t undef)→
   (∀j,j<n->Region.waitsFor .any l.toArray i j=true->L j=true)->∃v,(∀W',(execOp a'.eval o).run P W'= .ok (.value v) W')/\∀L' vs',Upd n i v L (fun k=>a'.tmps.getD (ds k) undef) L' vs'->J L' vs' W)
  (step:∀i o,i<n→X i=false→l[i]? = some o→∀(L:Nat→Bool) (a':Act) (W:World),J L (fun k=>a'.tmps.getD (ds k) undef) W→L i=false→(∀t,(∀i,i<n→ds i≠t)→a'.tmps.getD t undef=a.tmps.getD t undef)→
   (∀j,j<n->Region.waitsFor .any l.toArray i j=true->L j=true)->MStep P o a' W (fun v W'=>∀L' vs',Upd n i v L (fun k=>a'.tmps.getD (ds k) undef) L' vs'->J L' vs' W'))
  (tail:∀(L:Nat->Bool) (v:Nat->Value) (W:World),(∀i,i<n->L i=true)->J L v W->wpList P l.toArray Q (l.drop n) (putV a ds v n) W):
  (Code.region id l.toArray true).wp P Q a w:=by
 simp only[ke,Bool.and_eq_true,decide_eq_true_eq]at hB
 obtain⟨⟨⟨⟨⟨⟨hn,hs⟩,hc⟩,hq⟩,hsel⟩,hh⟩,hx⟩:=hB
 have hop:∀i,i<n->∃o,l.toArray[i]? =some o/\l[i]? =some o/\o.guard=none/\o.dst=some (ds i)/\ds i<a.tmps.size/\(∀e∈o.after,Region.binds .any e=true->e.on<i)/\∀j,j<n->i≠j->ds i≠ds j:=fun i hi=>by
  have h:=List.all_eq_true.1 hh i (List.mem_range.2 hi)
  rcases ho:l.toArray[i]? with _|o
  ·rw[ho]at h;cases h
  ·rw[ho]at h
   simp only[Bool.and_eq_true,decide_eq_true_eq]at h
   obtain⟨⟨⟨⟨h1,h2⟩,h3⟩,h4⟩,h5⟩:=h
   refine⟨o,rfl,by simpa using ho,by simpa using h1,h2,h3,fun e he hb=>?_,fun j hj hij=>?_⟩
   ·have h6:=(Array.all_eq_true'.1 h4) e he
    simpa[hb]using h6
   ·have h6:=List.all_eq_true.1 h5 j (List.mem_range.2 hj)
    simpa[hij]using h6
 have hdd:∀i j,i<n->j<n->i≠j->ds i≠ds j:=fun i j hi hj hij=>by obtain⟨_,_,_,_,_,_,_,h⟩:=hop i hi;exact h j hj hij
 have hdz:∀i,i<n->ds i<a.tmps.size:=fun i hi=>by obtain⟨_,_,_,_,_,h,_⟩:=hop i hi;exact h
 have H:∀(f:Nat) (listed:Array Bool) (a':Act) (W:World),cntL listed n+f=n->JInv l.toArray a n ds J listed a' W->wpAny P .any l.toArray Q (f+(l.toArray.size-n)) listed a' W:=by
  intro f
  induction f with
  |zero=>
   intro listed a' W hcnt I
   have hall:=ei (listed:=listed) (n:=n) (by omega)
   have hl:=fJ I.inv hall
   have hv:putV a ds (fun i=>a'.tmps.getD (ds i) undef) n=a':=by
    have e1:(putV a ds (fun i=>a'.tmps.getD (ds i) undef) n).tmps=a'.tmps:=by
     apply Array.ext
     ·rw[dT,I.sz]
     ·intro t h1 h2
      have e:∀(A:Array Value) (h:t<A.size),A[t]=A.getD t undef:=fun A h=>by simp[h]
      rw[e _ h1,e _ h2]
      by_cases hx:∃i,i<n/\ds i=t
      ·obtain⟨i,hi,rfl⟩:=hx
       exact jQ a ds _ n hdz hdd i hi
      ·have hx':∀i,i<n->ds i≠t:=fun i hi he=>hx ⟨i,hi,he⟩
       rw[gS a ds _ n hx',I.far t hx']
    have e2:(putV a ds (fun i=>a'.tmps.getD (ds i) undef) n).defers=a'.defers:=by rw[de,I.df]
    generalize putV a ds (fun i=>a'.tmps.getD (ds i) undef) n=x at *
    cases x;cases a'
    simp only at e1 e2
    rw[e1,e2]
   have ht:=tail (fun k=>listed.getD k false) (fun i=>a'.tmps.getD (ds i) undef) W (fun i hi=>hall i hi) I.j
   rw[hv]at ht;rw[Nat.zero_add]
   have hdl:(l.drop n).length=l.toArray.size-n:=by simp
   have:=wpAny_of_seq (md:=.any) (Q':=Q) (ops:=l.toArray) (l.drop n) n listed a' W (fun j=>by simp[List.getElem?_drop]) (by rw[hdl,hl];exact hq) ht
   rwa [hdl]at this
  |succ f ih=>
   intro listed a' W hcnt I
   by_cases hxr:∃x,x∈Region.ready .any l.toArray listed/\x<n/\X x=true
   ·obtain⟨x,hxr,hxn,hxX⟩:=hxr
    obtain⟨hun,o',ho',hall'⟩:=mem_ready.1 hxr;obtain⟨o,ho,hol,hg,hd,hz,_,_⟩:=hop x hxn;have:o'=o:=Option.some.inj (ho'.symm.trans ho);subst this
    obtain⟨v,hrun,hG⟩:=early x o' hxn hxX hol (fun k=>listed.getD k false) a' W I.j (getD_both hun) I.far fun j hj hw=>by
     obtain⟨oj,hoj,e,he,hb,hon⟩:=Region.waitsFor_spec hw;have:oj=o':=Option.some.inj (hoj.symm.trans ho');subst this
     have:=hall' e he hb;rwa [hon]at this
    have hfree:∀j oj,l.toArray[j]? =some oj->j≠x->listed.getD j true=false->(∀e∈oj.after,Region.binds .any e=true->e.on≠x)->o'.apart l.toArray oj=true:=fun j oj hj hjx hju hno=>by
     have h:=List.all_eq_true.1 hx x (List.mem_range.2 hxn);rw[hxX,ho']at h
     simp only[Bool.not_true,Bool.false_or]at h
     have h2:=List.all_eq_true.1 h j (List.mem_range.2 (Array.getElem?_eq_some_iff.1 hj).1);rw[hj]at h2
     simp only[Bool.or_eq_true,beq_iff_eq]at h2
     rcases h2 with ((h2|h2)|h2)|h2
     ·exact absurd h2 hjx
     ·obtain⟨oj',hoj',e,he,hb,hon⟩:=Region.waitsFor_spec h2
      have:oj'=oj:=Option.some.inj (hoj'.symm.trans hj);subst this
      exact absurd hon (hno e he hb)
     ·obtain⟨oj',hoj',e,he,hb,hon⟩:=Region.waitsFor_spec h2
      have:oj'=o':=Option.some.inj (hoj'.symm.trans ho');subst this;have h3:=hall' e he hb;rw[hon,getD_both hju]at h3
      cases h3
     ·exact h2
    have hsz:x<listed.size:=by rw[I.inv.size];omega
    rw[show f+1+(l.toArray.size-n)=(f+(l.toArray.size-n))+1 by omega]
    refine wpAny_first ho' (Region.noSelect_spec hsel) (fun c a w h=>hQ c a (ds x) v w (by rw[<-hd];exact h)) _ listed a' W hfree hxr (.inl ⟨by simp[Region.wanted,hg],hrun⟩) ?_
    rw[hd]
    refine ih _ _ _ (by rw[dF hsz (getD_both hun),if_pos hxn];omega) ⟨I.inv.set hxr hxn,by simp[Act.put,I.df],by simp[Act.put,I.sz],fun t ht=>?_,hG _ _ ⟨?_,?_,fun j hj hne=>⟨?_,?_⟩⟩⟩
    ·rw[aJ _ (ht x hxn)];exact I.far t ht
    ·simp[hsz]
    ·exact bR _ (by rw[I.sz];exact hz) _
    ·exact getD_set_ne false (Ne.symm hne)
    ·exact aJ _ (hdd x j hxn hj (Ne.symm hne)) _
   obtain⟨k,hk,hkf,hkl⟩:=fi (listed:=listed) (n:=n) (by omega)
   have hkr:k∈Region.ready .any l.toArray listed:=by
    obtain⟨o,ho,_,_,_,_,h5,_⟩:=hop k hk
    exact mem_ready.2 ⟨getD_in (by rw[I.inv.size];omega) hkf,o,ho,fun e he hb=>hkl _ (h5 e he hb)⟩
   have hkX:X k=false:=by
    rcases h:X k with _|_
    ·rfl
    ·exact absurd ⟨k,hkr,hk,h⟩ hxr
   rw[show f+1+(l.toArray.size-n)=(f+(l.toArray.size-n))+1 by omega]
   refine⟨fun h0=>(by rw[h0]at hkr;cases hkr),fun i hi=>?_⟩
   have hin:i<n:=by
    rcases Nat.lt_or_ge i n with h|h
    ·exact h
    ·exact absurd hi (eR hs hc hn I.inv _ k rfl hk hkX (getD_in (by rw[I.inv.size];omega) hkf) i h)
   have hiX:X i=false:=by
    rcases h:X i with _|_
    ·rfl
    ·exact absurd ⟨i,hi,hin,h⟩ hxr
   obtain⟨hun,o',ho',hall'⟩:=mem_ready.1 hi;obtain⟨o,ho,hol,hg,hd,hz,_,_⟩:=hop i hin;have:o'=o:=Option.some.inj (ho'.symm.trans ho);subst this
   have hst:=step i o' hin hiX hol (fun k=>listed.getD k false) a' W I.j (getD_both hun) I.far fun j hj hw=>by
    obtain⟨oj,hoj,e,he,hb,hon⟩:=Region.waitsFor_spec hw;have:oj=o':=Option.some.inj (hoj.symm.trans ho');subst this
    have:=hall' e he hb;rwa [hon]at this
   unfold wpOp;rw[ho']
   simp only[Region.wanted,hg]
   simp only[if_true]
   refine .inl (hst.wp fun v W' hgd=>?_)
   rw[hd]
   have hsz:i<listed.size:=by rw[I.inv.size];omega
   refine ih _ _ _ (by rw[dF hsz (getD_both hun),if_pos hin];omega) ⟨I.inv.set hi hin,by simp[Act.put,I.df],by simp[Act.put,I.sz],fun t ht=>?_,hgd _ _ ⟨?_,?_,fun j hj hne=>⟨?_,?_⟩⟩⟩
   ·rw[aJ _ (ht i hin)];exact I.far t ht
   ·simp[hsz]
   ·exact bR _ (by rw[I.sz];exact hz) _
   ·exact getD_set_ne false (Ne.symm hne)
   ·exact aJ _ (hdd i j hin hj (Ne.symm hne)) _
 refine wp_region_any hm ?_
 have:=H n (Array.replicate l.toArray.size false) a { w with drawn:=w.drawn+1 } (by rw[fh];omega)
  ⟨⟨by simp,fun j oj _ hl=>(by rw [getD_replicate_false]at hl;cases hl),fun t _ ht=>getD_in (by simpa using ht) (getD_replicate_false _ _)⟩,rfl,rfl,fun _ _=>rfl,by
    have h:=start (fun k=>a.tmps.getD (ds k) undef)
    have e:(fun k=>(Array.replicate l.toArray.size false).getD k false)=fun _=>false:=funext fun k=>getD_replicate_false _ _
    rw [e];exact h⟩
 rwa [show n+(l.toArray.size-n)=l.toArray.size by omega]at this
end
open Go.RowKit Pl
theorem gg{P:Program}(w:World)(base:Nat)(t ty e:TypeId)(i:TypeInfo)(size c:Nat)(ht:P.underlying t=some (.slice e))(hi:P.info? e=some i)
  (v:Value) (n:Nat) (xs:List Value) (hown:w.ownsRow base e size v n xs):
  (Builtin.append_ #[t,t] ty #[v,Y none 0 c]).run P w= .ok v w:=by
 rcases hown.2 with⟨rfl,rfl⟩|⟨g,cap,cur,rfl,_,_,hnc,_⟩
 ·simp[Builtin.append_,run_underlying ht,sizeOf,typeInfo,hi,Builtin.lenOf,Builtin.firstCells]
 ·simp[Builtin.append_,run_underlying ht,sizeOf,typeInfo,hi,Builtin.lenOf,Builtin.firstCells,hnc,storeCells]
theorem grownBy_self(w:World)(q:Option Nat):w.grownBy w q:=⟨rfl,rfl,rfl,Nat.le_refl _,fun _ _ _=>rfl⟩
theorem cU{P:Program}(w:World)(base:Nat)(t ty e:TypeId)(i:TypeInfo)(z:Value)(size bytes:Nat)(ht:P.underlying t=some (.slice e))(hi:P.info? e=some i)(hz:i.zero=some z)
  (hsize:i.size=size) (hby:i.bytes=bytes) (hzs:z.cells.size=size) (hsz:0<size)
  (v:Value) (n:Nat) (xs:List Value) (hown:w.ownsRow base e size v n xs)
  (S:Nat->Prop) (A:Option Addr) (m c:Nat) (news:List Value) (hn:SLZ size S w A m news) (h1:∀u∈news,u.oneCell'=true)
  (h63:n+m<=maxLen) (hbytes:(n+m)*bytes<=140737488355328) (hbase:base<=w.heap.size):
  ∃v' w',(Builtin.append_ #[t,t] ty #[v,Y A m c]).run P w= .ok v' w'/\w'.ownsRow base e size v' (n+m) (xs++news)/\w.grownBy w' v.ownBlock/\(v'.ownBlock=v.ownBlock\/v'.ownBlock=some w.heap.size):=by
 by_cases hm:m=0/\A=none
 ·obtain⟨rfl,rfl⟩:=hm
  have hnil:news=[]:=List.eq_nil_of_length_eq_zero (by have:=hn.1;omega)
  subst hnil
  exact⟨v,w,gg (P:=P) w base t ty e i size c ht hi v n xs hown,by simpa using hown,grownBy_self w _,.inl rfl⟩
 ·obtain⟨ad,rfl⟩:∃ad,A=some ad:=by
   rcases Nat.eq_zero_or_pos m with h0|h0
   ·rcases A with _|ad
    ·exact absurd ⟨h0,rfl⟩ hm
    ·exact⟨ad,rfl⟩
   ·obtain⟨b,off,hA,_⟩:=hn.2 h0
    exact⟨_,hA⟩
  obtain⟨v',w',q1,q2,q3,_,q5⟩:=run_append_own_at (P:=P) w base t ty e i z size bytes ht hi hz hsize hby hzs hsz v n xs hown ad m c news hn.1 (fun j u hj=>by
   have hj2:=(List.getElem?_eq_some_iff.1 hj).1
   have hm0:0<m:=by
    rcases Nat.eq_zero_or_pos m with h0|h0
    ·have:=hn.1;rw[h0]at this;omega
    ·exact h0
   obtain⟨b,off,hA,_,_,hc⟩:=hn.2 hm0;injection hA with hA;subst hA
   have h5:=hc j (by have:=hn.1;omega)
   rw[show news.getD j undef=u by rw[List.getD_eq_getElem?_getD,hj];rfl]at h5
   unfold Addr.add
   split
   ·rename_i h0
    rw[h0,Nat.add_zero]at h5;exact h5
   ·exact h5) h1 h63 hbytes hbase
  exact⟨v',w',q1,q2,q3,q5⟩
def appC(p s n n1 st:Value):Nat->Option Value
 | 0=>some p
 | 1=>some s
 | 2=>some n
 | 3=>some n1
 | 5=>some p
 | 6=>some s
 | 8=>some st
 |_=>none
structure JG(V:World)(T:TypeId)(c:Nat->Option Value)(vs st:List Value)(n0:Nat)(L:Nat->Bool)(u:Nat->Value)(W:World):Prop where
 b:Below V.heap.size V W
 k:∀i,i<11->L i=true->∀y,c i=some y->u i=y
 w7:L 7=true->L 4=true
 w10:L 10=true->L 7=true/\L 9=true
 r4:L 4=true->L 7=false->W.ownsRow V.heap.size T 4 (u 4) 0 []
 r7:L 7=true->L 10=false->W.ownsRow V.heap.size T 4 (u 7) n0 vs
 r10:L 10=true->W.ownsRow V.heap.size T 4 (u 10) (n0+1) (vs++st)
 s9:L 9=true->L 10=false->∃g,u 9=Y (some ⟨g,0,none⟩) 1 1/\V.heap.size<=g/\g<W.heap.size/\(∀i,i<st.length->W.cell? ⟨g,0+i,none⟩=some (st.getD i undef))/\(L 4=true->L 7=false->(u 4).ownBlock≠some g)/\(L 7=true->(u 7).ownBlock≠some g)
section
variable {V W W':World}{T:TypeId}{c:Nat->Option Value}{vs st:List Value}{n0 i:Nat}{L L':Nat->Bool}{u u':Nat->Value}{v:Value}
theorem JG.start(V:World)(T:TypeId)(c:Nat->Option Value)(vs st:List Value)(n0:Nat)(u:Nat->Value):JG V T c vs st n0 (fun _=>false) u V.drew:=
 ⟨Below.drew (Below.refl _ _),fun _ _ h=>(by cases h),fun h=>(by cases h),fun h=>(by cases h),fun h=>(by cases h),fun h=>(by cases h),fun h=>(by cases h),fun h=>(by cases h)⟩
theorem JG.pure(H:JG V T c vs st n0 L u W)(hu:Upd 11 i v L u L' u')(h1:i≠4/\i≠7/\i≠9/\i≠10)(hv:∀y,c i=some y->v=y):JG V T c vs st n0 L' u' W:=by
 obtain⟨a1,a2,a3⟩:=hu
 obtain⟨l4,u4⟩:=a3 4 (by omega) (by omega)
 obtain⟨l7,u7⟩:=a3 7 (by omega) (by omega)
 obtain⟨l9,u9⟩:=a3 9 (by omega) (by omega)
 obtain⟨l10,u10⟩:=a3 10 (by omega) (by omega)
 refine⟨H.b,fun j hj hl y hy=>?_,(by rw[l4,l7];exact H.w7),(by rw[l7,l9,l10];exact H.w10),(by rw[l4,l7,u4];exact H.r4),(by rw[l7,l10,u7];exact H.r7),(by rw[l10,u10];exact H.r10),(by rw[l9,l10,l4,l7,u4,u7,u9];exact H.s9)⟩
 by_cases e:j=i
 ·subst e;rw[a2];exact hv y hy
 ·obtain⟨lj,uj⟩:=a3 j hj e
  rw[uj];rw[lj]at hl;exact H.k j hj hl y hy
theorem JG.no10(H:JG V T c vs st n0 L u W)(h:L 7=false\/L 9=false):L 10=false:=by
 rcases h9:L 10 with _|_
 ·rfl
 ·have:=H.w10 h9
  rcases h with h|h
  ·rw[h]at this;cases this.1
  ·rw[h]at this;cases this.2
theorem JG.no7(H:JG V T c vs st n0 L u W)(h:L 4=false):L 7=false:=by
 rcases h9:L 7 with _|_
 ·rfl
 ·have:=H.w7 h9;rw[h]at this;cases this
theorem JG.keep(H:JG V T c vs st n0 L u W)(hu:Upd 11 i v L u L' u')(hc:c i=none):∀j,j<11->L' j=true->∀y,c j=some y->u' j=y:=fun j hj hl y hy=>by
 by_cases e:j=i
 ·subst e;rw[hc]at hy;cases hy
 ·obtain⟨lj,uj⟩:=hu.2.2 j hj e
  rw[uj];rw[lj]at hl;exact H.k j hj hl y hy
theorem JG.make(H:JG V T c vs st n0 L u W)(hu:Upd 11 4 v L u L' u')(h4:L 4=false)(hc:c 4=none)(ho:W'.ownsRow V.heap.size T 4 v 0 [])(hg:W.grownBy W' none)(hv:v.ownBlock=some W.heap.size):JG V T c vs st n0 L' u' W':=by
 have h7:=H.no7 h4;have h10:=H.no10 (.inl h7)
 obtain⟨l7,-⟩:=hu.2.2 7 (by omega) (by omega)
 obtain⟨l9,u9⟩:=hu.2.2 9 (by omega) (by omega)
 obtain⟨l10,-⟩:=hu.2.2 10 (by omega) (by omega)
 refine⟨H.b.grown hg H.b.size (fun x hx=>by cases hx),H.keep hu hc,fun _=>hu.1,fun h=>(by rw[l10,h10]at h;cases h),fun _ _=>(by rw[hu.2.1];exact ho),fun h=>(by rw[l7,h7]at h;cases h),fun h=>(by rw[l10,h10]at h;cases h),fun h _=>?_⟩
 rw[l9]at h;obtain⟨g,q1,q2,q3,q4,_,_⟩:=H.s9 h h10
 refine⟨g,(by rw[u9];exact q1),q2,Nat.lt_of_lt_of_le q3 hg.size,fun i hi=>hg.cell (q4 i hi) (by simp),fun _ _=>?_,fun h=>(by rw[l7,h7]at h;cases h)⟩
 rw[hu.2.1,hv]
 intro e;injection e with e;omega
theorem JG.bsl(H:JG V T c vs st n0 L u W)(hu:Upd 11 9 (Y (some ⟨W.heap.size,0,none⟩) 1 1) L u L' u')(h9:L 9=false)(hc:c 9=none)(T':TypeId):JG V T c vs st n0 L' u' (W.alloc (jz st.toArray T')):=by
 have h10:=H.no10 (.inr h9)
 obtain⟨l4,u4⟩:=hu.2.2 4 (by omega) (by omega)
 obtain⟨l7,u7⟩:=hu.2.2 7 (by omega) (by omega)
 obtain⟨l10,-⟩:=hu.2.2 10 (by omega) (by omega)
 refine⟨H.b.alloc H.b.size _,H.keep hu hc,(by rw[l4,l7];exact H.w7),fun h=>(by rw[l10,h10]at h;cases h),fun h h'=>?_,fun h h'=>?_,fun h=>(by rw[l10,h10]at h;cases h),fun _ _=>?_⟩
 ·rw[l4]at h;rw[l7]at h';rw[u4];exact(H.r4 h h').alloc _
 ·rw[l7]at h;rw[u7];exact(H.r7 h h10).alloc _
 ·refine⟨W.heap.size,hu.2.1,H.b.size,by simp,fun i hi=>?_,fun h h' e=>?_,fun h e=>?_⟩
  ·rw[Nat.zero_add]
   exact(Cel.new W st.toArray T').cell i _ (by simp[List.getD,hi])
  ·rw[l4]at h;rw[l7]at h';rw[u4]at e
   have:=(World.ownsRow.lt (H.r4 h h') _ e).2
   omega
  ·rw[l7]at h;rw[u7]at e
   have:=(World.ownsRow.lt (H.r7 h h10) _ e).2
   omega
theorem JG.app1(H:JG V T c vs st n0 L u W)(hu:Upd 11 7 v L u L' u')(h7:L 7=false)(h4:L 4=true)(hc:c 7=none)(ho:W'.ownsRow V.heap.size T 4 v n0 vs)(hg:W.grownBy W' (u 4).ownBlock)(hat:v.ownBlock=(u 4).ownBlock\/v.ownBlock=some W.heap.size):JG V T c vs st n0 L' u' W':=by
 have h10:=H.no10 (.inl h7);have hr:=H.r4 h4 h7
 obtain⟨l4,-⟩:=hu.2.2 4 (by omega) (by omega)
 obtain⟨l9,u9⟩:=hu.2.2 9 (by omega) (by omega)
 obtain⟨l10,-⟩:=hu.2.2 10 (by omega) (by omega)
 refine⟨H.b.grown hg H.b.size (fun x hx=>(World.ownsRow.lt hr x hx).1),H.keep hu hc,fun _=>(by rw[l4];exact h4),fun h=>(by rw[l10,h10]at h;cases h),fun _ h=>(by rw[hu.1]at h;cases h),fun _ _=>(by rw[hu.2.1];exact ho),fun h=>(by rw[l10,h10]at h;cases h),fun h _=>?_⟩
 rw[l9]at h;obtain⟨g,q1,q2,q3,q4,q5,_⟩:=H.s9 h h10;have hne:=q5 h4 h7
 refine⟨g,(by rw[u9];exact q1),q2,Nat.lt_of_lt_of_le q3 hg.size,fun i hi=>hg.cell (q4 i hi) (fun e=>hne e.symm),fun _ h=>(by rw[hu.1]at h;cases h),fun _ e=>?_⟩
 rw[hu.2.1]at e
 rcases hat with h'|h'
 ·rw[h']at e;exact hne e
 ·rw[h']at e;injection e with e;omega
theorem JG.app2(H:JG V T c vs st n0 L u W)(hu:Upd 11 10 v L u L' u')(h10:L 10=false)(h7:L 7=true)(h9:L 9=true)(hc:c 10=none)(ho:W'.ownsRow V.heap.size T 4 v (n0+1) (vs++st))(hg:W.grownBy W' (u 7).ownBlock):JG V T c vs st n0 L' u' W':=by
 have hr:=H.r7 h7 h10
 obtain⟨l4,-⟩:=hu.2.2 4 (by omega) (by omega)
 obtain⟨l7,-⟩:=hu.2.2 7 (by omega) (by omega)
 obtain⟨l9,-⟩:=hu.2.2 9 (by omega) (by omega)
 exact⟨H.b.grown hg H.b.size (fun x hx=>(World.ownsRow.lt hr x hx).1),H.keep hu hc,(by rw[l4,l7];exact H.w7),fun _=>⟨(by rw[l7];exact h7),(by rw[l9];exact h9)⟩,fun _ h=>(by rw[l7,h7]at h;cases h),fun _ h=>(by rw[hu.1]at h;cases h),fun _=>(by rw[hu.2.1];exact ho),fun _ h=>(by rw[hu.1]at h;cases h)⟩
end
open Go.RowKit Pl
def u8K(l:List UInt8):List Value:=l.map fun b=>.int .u8 ((b.toNat:Nat):Int)
def kb1(l:List Int):List UInt8:=l.map fun x=>UInt8.ofNat x.toNat
theorem kb1_snoc(pre l:List Int)(k:Nat)(hk:k<l.length)(h0:0<=l.getD k 0)(h1:l.getD k 0<=255):u8K (kb1 (pre++l.take (k+1)))=u8K (kb1 (pre++l.take k))++[.int .u8 (l.getD k 0)]:=by
 rw[bP 0 hk];unfold u8K kb1
 simp only[List.map_append,List.map_cons,List.map_nil,List.append_assoc]
 rw[UInt8.toNat_ofNat',show(((l.getD k 0).toNat%2^8:Nat):Int)=l.getD k 0 by omega]
theorem wrap_u8{x:Int}(h0:0<=x)(h1:x<=255):IntKind.wrap .u8 x=x:=by
 simp[IntKind.wrap,IntKind.bits,IntKind.signed];omega
theorem Tryz.infoU8k:(Tryz.prog.info? 5).map (fun i=>(i.zero,i.size,i.bytes))=some (some (.int .u8 0),1,1):=by kernel_rfl
theorem row_convK{w:World}{base n:Nat}{v:Value}{l:List UInt8}(h:w.ownsRow base 5 1 v n (u8K l)):(convert 61 9 v).run Tryz.prog w= .ok (.string ⟨l.toArray⟩) w:=by
 have hl:l.length=n:=by have:=h.1;simp only[u8K,List.length_map]at this;omega
 rcases h.2 with⟨h1,h2⟩|⟨g,cap,cur,h1,_⟩
 ·have h0:l=[]:=List.eq_nil_of_length_eq_zero (by omega)
  subst h0 h1
  exact run_convert_bytes_nil w 61 5 Tryz.underlying61 Tryz.underlying5 0 0 9 Tryz.underlying9
 ·have hc:=World.ownsRow.cells h (g:=g) (by rw[h1];rfl)
  rw[h1,<-hl]
  refine run_convert_bytes_back w 61 9 5 ⟨g,0,none⟩ cap l Tryz.underlying61 Tryz.underlying5 Tryz.underlying9 fun j hj=>hc j _ ?_
  unfold u8K
  rw[List.getElem?_map,List.getElem?_eq_getElem hj];rfl
theorem jb(A1 A2:Option Addr)(n1 c1 n2 c2:Nat)(own other:List Int)(w:World)(h1:SL w A1 n1 own)(h2:SL w A2 n2 other)(hx1:∀x∈own,0<=x/\x<=255)(hx2:∀x∈other,0<=x/\x<=255)(hn1:n1<=1000)(hn2:n2<=1000):
  Calls Tryz.prog 171 #[.agg #[Y A1 n1 c1,Y A2 n2 c2]] w fun e w'=>e=qb (keyV (own,other))/\Below w.heap.size w w':=by
 obtain⟨j0,hj,jz0,jz1,jz2⟩:=info_parts Tryz.infoU8k
 have H1:=h_ fun(W:World) (hw:Below w.heap.size w W)=>h1.below hw
 have H2:=h_ fun(W:World) (hw:Below w.heap.size w W)=>h2.below hw
 have hl1:own.length=n1:=h1.1;have hl2:other.length=n2:=h2.1
 have HX1:Hid (∀k,k<own.length->0<=own.getD k 0/\own.getD k 0<=255):=fun k hk=>hx1 _ (aX own k hk)
 have HX2:Hid (∀k,k<other.length->0<=other.getD k 0/\other.getD k 0<=255):=fun k hk=>hx2 _ (aX other k hk)
 have HE1:Hid (own.take n1=own):=by unfold Hid;rw[<-hl1,List.take_length]
 have HE2:Hid (other.take n2=other):=by unfold Hid;rw[<-hl2,List.take_length]
 have HF0:Hid (Fr w (w.alloc (jz #[Y A1 n1 c1,Y A2 n2 c2] 35)) [[Y A1 n1 c1,Y A2 n2 c2]]):=(Fr.start w).allocT (by simp) _ _
 obtain⟨W',hrun,hown,hgr⟩:=run_make_own (P:=Tryz.prog) (w.alloc (jz #[Y A1 n1 c1,Y A2 n2 c2] 35)) (w.heap.size+1) 61 5 j0 (.int .u8 0) 1 Tryz.underlying61 hj jz0 jz1 Z Z (n1+n2) (by rw[jz2];omega) (by unfold maxLen;omega) (by simp)
 rw[show(((n1+n2:Nat)):Int)=(n1:Int)+(n2:Int) by omega,show(w.alloc (jz #[Y A1 n1 c1,Y A2 n2 c2] 35)).heap.size=w.heap.size+1 by simp]at hrun
 have HF:Hid (Fr w W' [[Y A1 n1 c1,Y A2 n2 c2]]):=HF0.out.frm (Frm.of_grown hgr) (fun k hk=>by cases hk) (fun k hk=>by cases hk)
 have HO:Hid (W'.ownsRow (w.heap.size+1) 5 1 (Y (some ⟨w.heap.size+1,0,none⟩) 0 (n1+n2)) 0 []):=by
  have hz:(w.alloc (jz #[Y A1 n1 c1,Y A2 n2 c2] 35)).heap.size=w.heap.size+1:=by simp
  rw[hz]at hown
  exact hown
 clear h1 h2 hx1 hx2 hown hgr;have c00:=HF.out.c0 0 rfl;have c01:=HF.out.c0 1 rfl
 go_enter Tryz.func171,Tryz.ntmps171
 go_wp2_with (fail)
 go_loopw [3,19] (fun v3 v19 wr=>∃(k:Nat),k<=n1/\v19= .int Z k/\(∃vx,vx=v3/\Hid (wr.ownsRow (w.heap.size+1) 5 1 vx (0+k) (u8K (kb1 (own.take k)))))/\Hid (Fr w wr [[Y A1 n1 c1,Y A2 n2 c2]])) (fun _ v19 _=>n1-(intOf v19).toNat)
 case atStart=>exact⟨0,by omega,rfl,⟨_,rfl,by exact HO.out⟩,HF.out⟩
 case round=>
  clear HF HO;obtain⟨k,hk,rfl,⟨vx,rfl,HO⟩,HF⟩:=hrel
  by_cases hlt:k<n1
  ·have hki:(k:Int)<(n1:Int):=by omega
   obtain⟨b,off,rfl,hbl,hcell⟩:=(H1.out wr HF.out.b).2 (by omega)
   have hx0:=hcell k hlt
   have hxr:=HX1.out k (by omega)
   have hw8:=wrap_u8 hxr.1 hxr.2
   have HNX:Hid (u8K (kb1 (own.take (k+1)))=u8K (kb1 (own.take k))++[.int .u8 (own.getD k 0)]):=kb1_snoc [] own k (by omega) hxr.1 hxr.2
   generalize own.getD k 0=y at *;have HROW:Hid ((wr.alloc (jz #[.int .u8 y] 5)).ownsRow (w.heap.size+1) 5 1 vx (0+k) (u8K (kb1 (own.take k)))):=World.ownsRow.alloc HO.out _
   have HNW:Hid (∀j u,[Value.int .u8 y][j]? =some u->(wr.alloc (jz #[.int .u8 y] 5)).cell? ((⟨wr.heap.size,0,none⟩:Addr).add j)=some u):=fun j u hj=>by
    match j,hj with
    | 0,hj=>simp at hj;subst hj;simp[go_sem,Addr.add]
    |j+1,hj=>simp at hj
   have HFA:=h_ (HF.out.alloc (jz #[.int .u8 y] 5));have hzr:w.heap.size+1<=wr.heap.size:=HF.out.z
   have HFIN:Hid (∀v' w4 q,w4.ownsRow (w.heap.size+1) 5 1 v' (0+k+1) (u8K (kb1 (own.take k))++[.int .u8 y])->(wr.alloc (jz #[.int .u8 y] 5)).grownBy w4 q->q=vx.ownBlock->
     Hid (w4.ownsRow (w.heap.size+1) 5 1 v' (0+(k+1)) (u8K (kb1 (own.take (k+1)))))/\Hid (Fr w w4 [[Y (some ⟨b,off,none⟩) n1 c1,Y A2 n2 c2]])):=fun v' w4 q ho hg hq=>by
    subst hq
    refine⟨by rw[HNX.out];exact ho,HFA.out.frm (Frm.of_grown hg) (fun k hk=>?_) (fun k hk=>?_)⟩<;>(have:=(World.ownsRow.lt HO.out k hk.symm).1;first|omega|(simp;omega))
   clear HO HF HNX hcell
   go_wp2_with (at_builtin;(refine wpList_append_own_at _ rfl _ _ 61 rfl (w.heap.size+1) 5 j0 (.int .u8 0) 1 1 Tryz.underlying61 hj jz0 jz1 jz2 rfl (by decide) _ _ _ rfl HROW.out ⟨wr.heap.size,0,none⟩ 1 1 [.int .u8 y] rfl rfl HNW.out (fun u hu=>by simp at hu;subst hu;rfl) (by unfold maxLen;omega) (by omega) (by simp;omega) ?_);intro v' w4 hown hgrow _ hat)
   obtain⟨HO2,HF2⟩:=HFIN.out v' w4 _ hown hgrow rfl;clear hown hgrow HFIN HROW HNW hat
   exact⟨⟨k+1,by omega,by go_num,⟨v',rfl,HO2⟩,HF2⟩,by simp[intOf];omega⟩
  ·have hki:¬(k:Int)<(n1:Int):=by omega
   have ek:k=n1:=by omega
   have HO2:Hid (wr.ownsRow (w.heap.size+1) 5 1 vx n1 (u8K (kb1 own))):=by
    have h:=HO.out;rw[Nat.zero_add,ek,HE1.out]at h
    exact h
   replace HO:=HO2;clear HO2 ek
   have z0:=HF.out.l0 (by simp)
   have c00:=HF.out.c0 0 rfl;have f00:=HF.out.f0 0 rfl;have c01:=HF.out.c0 1 rfl;have f01:=HF.out.f0 1 rfl
   go_wp2_with (fail)
   obtain⟨wa,rfl⟩:∃wa:World,wa=wr:=⟨_,rfl⟩
   go_loopw [3,32] (fun v3 v32 wr=>∃(k:Nat),k<=n2/\v32= .int Z k/\(∃vx,vx=v3/\Hid (wr.ownsRow (w.heap.size+1) 5 1 vx (n1+k) (u8K (kb1 (own++other.take k)))))/\Hid (Fr w wr [[Y A1 n1 c1,Y A2 n2 c2]])) (fun _ v32 _=>n2-(intOf v32).toNat)
   case atStart=>exact⟨0,by omega,rfl,⟨_,rfl,by rw[Nat.add_zero,List.take_zero,List.append_nil];exact HO.out⟩,HF.out⟩
   case round=>
    clear HF HO;obtain⟨k,hk,rfl,⟨vx,rfl,HO⟩,HF⟩:=hrel
    by_cases hlt:k<n2
    ·have hki:(k:Int)<(n2:Int):=by omega
     obtain⟨b,off,rfl,hbl,hcell⟩:=(H2.out wr HF.out.b).2 (by omega)
     have hx0:=hcell k hlt
     have hxr:=HX2.out k (by omega)
     have hw8:=wrap_u8 hxr.1 hxr.2
     have HNX:Hid (u8K (kb1 (own++other.take (k+1)))=u8K (kb1 (own++other.take k))++[.int .u8 (other.getD k 0)]):=kb1_snoc own other k (by omega) hxr.1 hxr.2
     generalize other.getD k 0=y at *;have HROW:Hid ((wr.alloc (jz #[.int .u8 y] 5)).ownsRow (w.heap.size+1) 5 1 vx (n1+k) (u8K (kb1 (own++other.take k)))):=World.ownsRow.alloc HO.out _
     have HNW:Hid (∀j u,[Value.int .u8 y][j]? =some u->(wr.alloc (jz #[.int .u8 y] 5)).cell? ((⟨wr.heap.size,0,none⟩:Addr).add j)=some u):=fun j u hj=>by
      match j,hj with
      | 0,hj=>simp at hj;subst hj;simp[go_sem,Addr.add]
      |j+1,hj=>simp at hj
     have HFA:=h_ (HF.out.alloc (jz #[.int .u8 y] 5));have hzr:w.heap.size+1<=wr.heap.size:=HF.out.z
     have HFIN:Hid (∀v' w4 q,w4.ownsRow (w.heap.size+1) 5 1 v' (n1+k+1) (u8K (kb1 (own++other.take k))++[.int .u8 y])->(wr.alloc (jz #[.int .u8 y] 5)).grownBy w4 q->q=vx.ownBlock->
       Hid (w4.ownsRow (w.heap.size+1) 5 1 v' (n1+(k+1)) (u8K (kb1 (own++other.take (k+1)))))/\Hid (Fr w w4 [[Y A1 n1 c1,Y (some ⟨b,off,none⟩) n2 c2]])):=fun v' w4 q ho hg hq=>by
      subst hq
      refine⟨by rw[HNX.out];exact ho,HFA.out.frm (Frm.of_grown hg) (fun k hk=>?_) (fun k hk=>?_)⟩<;>(have:=(World.ownsRow.lt HO.out k hk.symm).1;first|omega|(simp;omega))
     clear HO HF HNX hcell
     go_wp2_with (at_builtin;(refine wpList_append_own_at _ rfl _ _ 61 rfl (w.heap.size+1) 5 j0 (.int .u8 0) 1 1 Tryz.underlying61 hj jz0 jz1 jz2 rfl (by decide) _ _ _ rfl HROW.out ⟨wr.heap.size,0,none⟩ 1 1 [.int .u8 y] rfl rfl HNW.out (fun u hu=>by simp at hu;subst hu;rfl) (by unfold maxLen;omega) (by omega) (by simp;omega) ?_);intro v' w4 hown hgrow _ hat)
     obtain⟨HO2,HF2⟩:=HFIN.out v' w4 _ hown hgrow rfl;clear hown hgrow HFIN HROW HNW hat
     exact⟨⟨k+1,by omega,by go_num,⟨v',rfl,HO2⟩,HF2⟩,by simp[intOf];omega⟩
    ·have hki2:¬(k:Int)<(n2:Int):=by omega
     have HT:Hid (Value.string ⟨(kb1 (own++other.take k)).toArray⟩=keyV (own,other)):=by unfold Hid;rw[show k=n2 by omega,HE2.out];rfl
     have hcv:=row_convK HO.out;rw[HT.out]at hcv
     go_wp2_with (fail)
     go_ret
     exact⟨rfl,HF.out.b⟩
open Go.RowKit Ps
theorem Tryz.infoL:(Tryz.prog.info? 24).map (fun i=>(i.zero,i.size,i.bytes))=some (some (Y none 0 0),1,24):=by kernel_rfl
theorem PV.own{S:Nat->Prop}{W:World}{base:Nat}{e:TypeId}{v:Value}{xs:List Int}(h:OwnS W base e v xs)(hS:∀k,base<=k->¬S k):PV S W v xs:=by
 obtain⟨A,c,hv,hs,hc⟩:=h.read
 refine⟨A,_,c,hv,⟨hs,fun hn b off s hA=>?_⟩,hc⟩
 refine hS b (h.lt b ?_).1
 rw[hv,hA];rfl
theorem OP.lt{S:Nat->Prop}{w:World}{base:Nat}{e:TypeId}{v:Value}{ps:List (List Int)}(h:OP S w base e v ps):∀k,v.ownBlock=some k->base<=k/\k<w.heap.size:=let ⟨_,h1,_⟩:=h;World.ownsRow.lt h1
theorem aI(A:Option Addr)(n c:Nat):∀u∈[Value.slice A n c],u.oneCell'=true:=fun u hu=>by simp at hu;subst hu;rfl
theorem fO(A:Option Addr)(n c:Nat)(xs:List Int)(w:World)(hx:SL w A n xs)(hn:n<=2000000)(hn0:0<n):
  Calls Tryz.prog 193 #[Y A n c] w fun e w'=>∃g c',e=qb (Y (some ⟨g,0,none⟩) n c')/\OwnS w' w.heap.size 2 (Y (some ⟨g,0,none⟩) n c') xs/\w.heap.size<=g/\g<w'.heap.size/\
   (∀j,j<n->w'.cell? ⟨g,j,none⟩=some (.int Z (xs.getD j 0)))/\(∀j,w'.frozen? ⟨g,j,none⟩=false)/\Below w.heap.size w w':=by
 refine(fn A n c xs w hx hn).mono ?_
 rintro e w' ⟨A',c',he,ho,hb⟩
 have hl:=hx.1;rw[hl]at he ho;obtain⟨g,hA,h1,h2,h3,h4⟩:=ao ho hn0;subst hA
 exact⟨g,c',he,ho,h1,h2,h3,h4,hb⟩
theorem gJ{p:List Int}{d k:Nat}(h:¬canP p k d):aM p d (k+1)=aM p d k:=by rw[aM,if_neg h,List.append_nil]
theorem dO{p:List Int}{d k:Nat}(h:canP p k d):aM p d (k+1)=aM p d k++[aC p k d]:=by rw[aM,if_pos h]
theorem stepTo_in{p:List Int}{k d:Nat}(h:d<=k):aC p k d=(p.set k (p.getD k 0-1)).set (k-d) (p.getD (k-d) 0+1):=if_pos h
theorem dP{p:List Int}{k d:Nat}(h:¬d<=k):aC p k d=p.set k (p.getD k 0-1):=if_neg h
theorem cn{p:List Int}{d:Nat}:∀k,(aM p d k).length<=k
 | 0=>Nat.le_refl _
 |k+1=>by
   have:=cn (p:=p) (d:=d) k
   rw [aM];split<;>simp<;>omega
theorem dr{p:List Int}(k:Nat)(h0:∀x∈p,0<=x):p.getD k 0<=p.sum:=by
 by_cases hk:k<p.length
 ·have h1:=bL p k hk
  have h2:=bc p k h0;have h3:=ck p (k+1) h0
  omega
 ·have h1:p.getD k 0=0:=by simp[List.getD,List.getElem?_eq_none (by omega:p.length<=k)]
  have h2:=fS h0
  omega
theorem jf(S:Nat->Prop)(A:Option Addr)(n c d:Nat)(p:List Int)(w:World)(hx:SL w A n p)(h0:∀x∈p,0<=x)(hs:p.sum<=15)(hn:n<=24)(hn0:0<n)(hd1:1<=d)(hd6:d<=6)(hS:∀k,w.heap.size<=k->¬S k):
  Calls Tryz.prog 234 #[Y A n c,.int Z d] w fun e w'=>∃v,e=qb v/\OP S w' w.heap.size 24 v (au p d)/\Below w.heap.size w w':=by
 obtain⟨i0,hi,hz0,hz1,hz2⟩:=info_parts Tryz.infoL;have HX:=h_ hx;have HL:=h_ hx.1;have H0:=h_ h0;have HS:=h_ hs;have HSS:=h_ hS
 have HTOP:Hid (∀k,k<n->p.getD k 0≠0->(topI p n=(k:Int)↔(p.drop (k+1)).sum=0)):=fun k hk hc=>by
  have:=topI_last h0 (show k<p.length by rw[HL.out];exact hk) hc
  rwa [HL.out]at this
 clear hx h0 hs hS
 go_enter Tryz.func234,Tryz.ntmps234
 go_wp2_with (fail)
 refine(cJ A n c p _ (by exact HX.out) (by omega)).mono ?_
 rintro e w' ⟨rfl,rfl⟩
 have ht: -1<=topI p n/\topI p n<=24:=by
  rcases dM (p:=p) (k:=n)with⟨h1,_⟩|⟨i,h1,h2,_⟩<;>omega
 generalize topI p n=top at *
 go_wp2_with (fail)
 go_loopw [5,14] (fun vo vi wr=>∃k:Nat,k<=n/\vi= .int Z k/\(∃vx,vx=vo/\OP S wr w.heap.size 24 vx (aM p d k))/\Below w.heap.size w wr) (fun _ vi _=>n-(intOf vi).toNat)
 case atStart=>exact⟨0,by omega,rfl,⟨_,rfl,OP.nil_ _ _ _ _⟩,Below.refl _ _⟩
 case round=>
  obtain⟨k,hk,rfl,⟨vx,rfl,hO⟩,hb⟩:=hrel;have HO:=h_ hO;have HB:=h_ hb;clear hO hb
  by_cases hlt:k<n
  focus
   have hki:(k:Int)<(n:Int):=by omega
   have HXr:Hid (SL wr A n p):=HX.out.below HB.out
   obtain⟨b,off,rfl,_,hcl⟩:=HXr.out.2 (by omega)
   have hcell:=hcl k hlt
   have hpx:=H0.out _ (aX p k (by rw[HL.out];exact hlt))
   have hpm:=dr k H0.out;have hps:=HS.out
   have HLN:Hid ((aM p d k).length<=24):=by unfold Hid;have:=cn (p:=p) (d:=d) k;omega
   clear hcl;obtain⟨x,hx⟩:∃x:Int,p.getD k 0=x:=⟨_,rfl⟩;rw[hx]at hcell hpx hpm
   have hx15:x<=15:=by omega
   clear hpm hps
   by_cases hx0:x=0
   focus
    have HST:Hid (aM p d (k+1)=aM p d k):=gJ fun h=>h.1 (by rw[hx,hx0])
    subst hx0
    refine ?zf
   rotate_left
   focus
    have b0:(x==0)=false:=by simp[hx0]
    have HT:Hid (top=(k:Int)↔(p.drop (k+1)).sum=0):=HTOP.out k hlt (by rw[hx];exact hx0)
    by_cases hdk:(k:Int)+1<d
    focus
     have b1:decide ((k:Int)+1<(d:Int))=true:=decide_eq_true hdk
     by_cases htk:top=k
     focus
      have b2:((k:Int) !=top)=false:=by simp[htk]
      have hcan:canP p k d:=⟨by rw[hx];exact hx0,.inr (HT.out.1 htk)⟩
      have HST:Hid (aM p d (k+1)=aM p d k++[aC p k d]):=dO hcan
      have HSP:Hid (aC p k d=p.set k (x-1)):=by rw[<-hx];exact dP (by omega)
      clear htk
      refine ?za
     rotate_left
     focus
      have b2:((k:Int) !=top)=true:=by simp;omega
      have HST:Hid (aM p d (k+1)=aM p d k):=gJ fun h=>by
       rcases h.2 with h'|h'
       ·omega
       ·exact htk (HT.out.2 h')
      refine ?zg
    rotate_left 2
    focus
     have b1:decide ((k:Int)+1<(d:Int))=false:=decide_eq_false hdk
     have hcan:canP p k d:=⟨by rw[hx];exact hx0,.inl (by omega)⟩
     have HST:Hid (aM p d (k+1)=aM p d k++[aC p k d]):=dO hcan
     by_cases hle:d<=k
     focus
      have b3:decide ((d:Int)<=k)=true:=decide_eq_true (by omega)
      have HSP:Hid (aC p k d=(p.set k (x-1)).set (k-d) (p.getD (k-d) 0+1)):=by rw[<-hx];exact stepTo_in hle
      have hsub:((k:Int)-(d:Int))=((k-d:Nat):Int):=by omega
      have hy0:=H0.out _ (aX p (k-d) (by rw[HL.out];omega))
      have hy1:=dr (k-d) H0.out;have hps:=HS.out
      refine ?ze
     rotate_left
     focus
      have b3:decide ((d:Int)<=k)=false:=decide_eq_false (by omega)
      have HSP:Hid (aC p k d=p.set k (x-1)):=by rw[<-hx];exact dP hle
      refine ?zb
  rotate_left 5
  ·have hkn:k=n:=by omega
   subst hkn
   go_wp2_with (fail)
   go_ret
   exact⟨_,rfl,by unfold au;rw[HL.out];exact HO.out,HB.out⟩
  case' ze|za|zb=>
   go_wp2_with (fail)
   refine(fO _ n c p wr (by exact HXr.out) (by omega) (by omega)).mono ?_
   rintro e w1 ⟨g,c1,rfl,ho,hg1,hg2,hcl,hfz,hb⟩
   have d1:=hcl k (by omega)
  case' ze=>
   have d2:=hfz k;rw[hx]at d1
   have d3:=hcl (k-d) (by omega)
   have d4:=hfz (k-d);generalize p.getD (k-d) 0=y at *
   have hy15:y<=15:=by omega
   have HOW:=h_ ((ho.stored k (x-1)).stored (k-d) (y+1));clear hcl hfz;have HW:Hid (Below wr.heap.size wr ((w1.setCell ⟨g,k,none⟩ (.int Z (x-1))).setCell ⟨g,k-d,none⟩ (.int Z (y+1)))):=stw (stw hb hg1) hg1
   have HOS:Hid (OwnS ((w1.setCell ⟨g,k,none⟩ (.int Z (x-1))).setCell ⟨g,k-d,none⟩ (.int Z (y+1))) wr.heap.size 2 (Y (some ⟨g,0,none⟩) n c1) (aC p k d)):=by rw[HSP.out];exact HOW.out
  case' za|zb=>
   have d2:=hfz k;rw[hx]at d1;have HOW:=h_ (ho.stored k (x-1));clear hcl hfz;have HW:Hid (Below wr.heap.size wr (w1.setCell ⟨g,k,none⟩ (.int Z (x-1)))):=stw hb hg1
   have HOS:Hid (OwnS (w1.setCell ⟨g,k,none⟩ (.int Z (x-1))) wr.heap.size 2 (Y (some ⟨g,0,none⟩) n c1) (aC p k d)):=by rw[HSP.out];exact HOW.out
  case' ze|za|zb=>
   obtain⟨cs,hrow,hpv,-⟩:=HO.out;have HROW:=h_ (row_alloc (own_below hrow HW.out) (jz #[Y (some ⟨g,0,none⟩) n c1] 24));have HPV:=h_ ((hpv.frm (Frm.of_below' _ HW.out)).frm ((Frm.refl (wth S vx) _).alloc (jz #[Y (some ⟨g,0,none⟩) n c1] 24)));have hlt:=h_ (HO.out.lt)
  case' ze=>
   have HPE:Hid (PVs (wth S vx) (((w1.setCell ⟨g,k,none⟩ (.int Z (x-1))).setCell ⟨g,k-d,none⟩ (.int Z (y+1))).alloc (jz #[Y (some ⟨g,0,none⟩) n c1] 24)) [Y (some ⟨g,0,none⟩) n c1] [aC p k d]):=
    PVs.one ((PV.own (HOS.out.alloc' _) fun q hq=>by
     rintro(h'|h')
     ·exact HSS.out q (by have:=HB.out.size;omega) h'
     ·have:=(hlt.out q h').2;omega))
   have HNW:Hid (∀j u,[Value.slice (some ⟨g,0,none⟩) n c1][j]? =some u->(((w1.setCell ⟨g,k,none⟩ (.int Z (x-1))).setCell ⟨g,k-d,none⟩ (.int Z (y+1))).alloc (jz #[Y (some ⟨g,0,none⟩) n c1] 24)).cell? ((⟨w1.heap.size,0,none⟩:Addr).add j)=some u):=by
    have h:=one_new ((w1.setCell ⟨g,k,none⟩ (.int Z (x-1))).setCell ⟨g,k-d,none⟩ (.int Z (y+1))) (Y (some ⟨g,0,none⟩) n c1) 24
    rw[show((w1.setCell ⟨g,k,none⟩ (.int Z (x-1))).setCell ⟨g,k-d,none⟩ (.int Z (y+1))).heap.size=w1.heap.size by simp]at h
    exact h
  case' za|zb=>
   have HPE:Hid (PVs (wth S vx) ((w1.setCell ⟨g,k,none⟩ (.int Z (x-1))).alloc (jz #[Y (some ⟨g,0,none⟩) n c1] 24)) [Y (some ⟨g,0,none⟩) n c1] [aC p k d]):=
    PVs.one ((PV.own (HOS.out.alloc' _) fun q hq=>by
     rintro(h'|h')
     ·exact HSS.out q (by have:=HB.out.size;omega) h'
     ·have:=(hlt.out q h').2;omega))
   have HNW:Hid (∀j u,[Value.slice (some ⟨g,0,none⟩) n c1][j]? =some u->((w1.setCell ⟨g,k,none⟩ (.int Z (x-1))).alloc (jz #[Y (some ⟨g,0,none⟩) n c1] 24)).cell? ((⟨w1.heap.size,0,none⟩:Addr).add j)=some u):=by
    have h:=one_new (w1.setCell ⟨g,k,none⟩ (.int Z (x-1))) (Y (some ⟨g,0,none⟩) n c1) 24
    rw[show(w1.setCell ⟨g,k,none⟩ (.int Z (x-1))).heap.size=w1.heap.size by simp]at h
    exact h
  case ze|za|zb=>
   clear hrow hpv
   go_wp2_with (at_builtin;(refine wpList_append_own_at _ rfl _ _ 186 rfl w.heap.size 24 i0 (Y none 0 0) 1 24 Tryz.underlying186 hi hz0 hz1 hz2 rfl (by decide) _ _ _ rfl HROW.out ⟨w1.heap.size,0,none⟩ 1 1 [Y (some ⟨g,0,none⟩) n c1] rfl rfl HNW.out (aI _ _ _) (by have:=HLN.out;unfold maxLen;omega) (by have:=HLN.out;omega) (by have h1:=HB.out.size;have h2:=HW.out.size;simp;omega) ?_;intro v' w2 hown hgrow _ hat))
   have HO2:Hid (OP S w2 w.heap.size 24 v' (aM p d k++[aC p k d])):=OP.grew HPV.out HPE.out hown rfl hgrow hat HSS.out
   have HB2:Hid (Below w.heap.size w w2):=((HB.out.trans (HW.out.mono HB.out.size)).alloc (by have h1:=HB.out.size;have h2:=HW.out.size;omega) _).grown hgrow (by have h1:=HB.out.size;have h2:=HW.out.size;simp;omega) (fun q hq=>by have:=HROW.out;exact(World.ownsRow.lt this q hq).1)
   clear hown hgrow hat
   go_wp2_with (fail)
   go_roundw
   case rel=>exact⟨k+1,by omega,by go_num,⟨_,rfl,by rw[HST.out];exact HO2.out⟩,HB2.out⟩
   case measure=>(simp[intOf])<;>omega
  case zf|zg=>
   go_wp2_with (fail)
   go_roundw
   case rel=>exact⟨k+1,by omega,by go_num,⟨_,rfl,by rw[HST.out];exact HO.out⟩,HB.out⟩
   case measure=>(simp[intOf])<;>omega
theorem Frm.outs'{S O:Nat->Prop}{w wr w2:World}(h:Frm S w wr)(hf:Frm O wr w2)(hO:∀k,O k->S k\/w.heap.size<=k):Frm S w w2:=
 ⟨hf.os.trans h.os,hf.tape.trans h.tape,hf.output.trans h.output,Nat.le_trans h.size hf.size,fun k hk hn=>(hf.block k (Nat.lt_of_lt_of_le hk h.size) (fun ho=>(hO k ho).elim hn (fun h9=>absurd hk (by omega)))).trans (h.block k hk hn)⟩
theorem OPl.wide{S S':Nat->Prop}{w:World}{m base:Nat}{e:TypeId}{v:Value}{bs:List Bd}(h:OPl S w m base e v bs)(hS:∀k,S' k->S k\/w.heap.size<=k):OPl S' w m base e v bs:=by
 obtain⟨cs,h1,h2,h3⟩:=h
 refine⟨cs,h1,h2.set (fun k hk=>?_),fun k hk hs=>?_⟩
 ·rcases hk with hk|hk
  ·exact(hS k hk).elim (fun h=>.inl (.inl h)) .inr
  ·exact .inl (.inr hk)
 ·rcases hS k hs with h9|h9
  ·exact h3 k hk h9
  ·have:=(World.ownsRow.lt h1 k hk).2;omega
theorem OPl.lt{S:Nat->Prop}{w:World}{m base:Nat}{e:TypeId}{v:Value}{bs:List Bd}(h:OPl S w m base e v bs):∀k,v.ownBlock=some k->base<=k/\k<w.heap.size/\¬S k:=fun k hk=>by
 obtain⟨cs,h1,-,h3⟩:=h
 exact⟨(World.ownsRow.lt h1 k hk).1,(World.ownsRow.lt h1 k hk).2,h3 k hk⟩
theorem lM(die:Nat):∀(l:List Stp) (k:Nat),k<l.length->(stCs die l).getD (k*4) undef= .int Z ((l.getD k ⟨0,0,false⟩).src:Int)/\(stCs die l).getD (k*4+1) undef= .int Z (l.getD k ⟨0,0,false⟩).dst/\(stCs die l).getD (k*4+2) undef= .int Z (die:Int)/\(stCs die l).getD (k*4+3) undef=j1 (l.getD k ⟨0,0,false⟩).hit
 | [],k,h=>absurd h (by simp)
 |x::l,0,_=>⟨rfl,rfl,rfl,rfl⟩
 |x::l,k+1,h=>by
   have h1:=lM die l k (by simpa using h)
   have e:stCs die (x::l)=stC die x++stCs die l:=by simp [stCs]
   have e4:∀j,(stCs die (x::l)).getD ((k+1)*4+j) undef=(stCs die l).getD (k*4+j) undef:=fun j=>by
     rw [e,aK _ _ _ (by simp [stC];omega)]
     congr 1
     simp [stC];omega
   have e0:=e4 0;rw [Nat.add_zero,Nat.add_zero]at e0;rw [List.getD_cons_succ,e0,e4 1,e4 2,e4 3]
   exact h1
theorem OPl.grew2{S:Nat->Prop}{w w1:World}{m base:Nat}{e:TypeId}{v v':Value}{cs ds:List Value}{bs qs:List Bd}{k:Nat}(hp:PEs (wth S v) w m cs bs)(hq:PEs (wth S v) w m ds qs)(hown:w1.ownsRow base e 3 v' (bs.length+k) (cs++ds))(hk:k=qs.length)
  (hg:w.grownBy w1 v.ownBlock) (hat:v'.ownBlock=v.ownBlock\/v'.ownBlock=some w.heap.size) (hv:∀k,v.ownBlock=some k->¬S k) (hn:¬S w.heap.size):OPl S w1 m base e v' (bs++qs):=by
 subst hk
 refine⟨cs++ds,by rw[List.length_append];exact hown,?_,fun k hk=>?_⟩
 ·have h1:=(hp.append hq).set (S':=fun k=>wth S v k\/wth S v' k) fun k hk=>hk.elim .inl (jA hat k)
  exact(h1.frm ((du hg).mono fun k hk=>.inl hk)).set fun k hk=>.inl (.inr hk)
 ·rcases hat with h|h
  ·exact hv k (by rw[<-h];exact hk)
  ·rw[h]at hk;injection hk with hk;rw[<-hk];exact hn
theorem Cel.frmP{S:Nat->Prop}{W W':World}{g:Nat}{cs:List Value}(h:Cel W g cs)(hf:Frm S W W')(hn:¬S g):Cel W' g cs:=
 ⟨Nat.lt_of_lt_of_le h.lt hf.size,fun i x hx=>hf.cell' (h.cell i x hx) hn,fun i x hx=>(World.frozen?_of_block (hf.block g h.lt hn)).trans (h.froz i x hx)⟩
theorem Tryz.infoPl:(Tryz.prog.info? 85).map (fun i=>(i.zero,i.size,i.bytes))=some (some (.agg #[Y none 0 0,Y none 0 0,Y none 0 0]),3,72):=by kernel_rfl
def RetPl(w:World)(m:Nat)(l:List Bd)(e:Ending)(w':World):Prop:=∃A k,e=qb (Y A l.length k)/\PLs (fun k=>k<w.heap.size) w' m A l.length l/\l.length<=k/\Below w.heap.size w w'
theorem goOn_any(P h die C m:Nat)(c s:Int)(A:Option Addr)(n cp:Nat)(bs:List Bd)(w:World)(hx:PLs (fun _=>False) w m A n bs)(hsd:∀b∈bs,Sd P C b)(hC:C<=255)(hP:P<=900)(hd1:1<=die)(hd2:die<=1000)(hh:h<=1000)(hnP:n*(P+1)<=1000000)(hm:m<=1000):
  Calls Tryz.prog 221 #[(.agg #[.int Z (P:Int),.int Z c,.int Z (h:Int),.int Z s]),Y A n cp,.int Z (die:Int)] w (RetPl w (m+1) (nextB P h die bs)):=by
 obtain⟨i0,hi,iz0,iz1,iz2⟩:=info_parts Tryz.infoSt;obtain⟨j0,hj,jz0,jz1,jz2⟩:=info_parts Tryz.infoPl;have hn6:n<=1000000:=Nat.le_trans (Nat.le_mul_of_pos_right n (Nat.succ_pos P)) hnP;have HX:=h_ hx;have HLN:=h_ hx.len
 have HSD:Hid (∀i,i<n->Sd P C (bs.getD i ([],[]))/\bs.getD i ([],[])∈bs):=fun i hi=>by
  have h1:=ak bs ([],[]) (k:=i) (by rw[hx.len];exact hi)
  exact⟨hsd _ h1,h1⟩
 have HUL:Hid ((cands P h die bs).length<maxLen):=by
  have h1:=cands_len P h die bs;rw[hx.len]at h1
  unfold Hid maxLen;omega
 have HSUB:Hid (∀i,i<=n->(nextF P h die [] (bs.take i)).length<=1000000):=fun i hi=>by
  have h1:=di (p:=P) (h:=h) (die:=die) (k:=P+1) (bs:=bs.take i) (out:=[]) (fun _ _=>cO)
  have h2:(bs.take i).length<=n:=by rw[List.length_take,hx.len];omega
  have h3:=Nat.mul_le_mul_right (P+1) h2
  simp only[List.length_nil,Nat.zero_add]at h1
  omega
 have HF:Hid (Fr w ((w.alloc (jz #[.int Z (P:Int),.int Z c,.int Z (h:Int),.int Z s] 33)).alloc (.map #[] 0)) [[.int Z (P:Int),.int Z c,.int Z (h:Int),.int Z s]]):=((Fr.start w).allocT (by simp) _ _).alloc _
 have HS:Hid (SeenM ((w.alloc (jz #[.int Z (P:Int),.int Z c,.int Z (h:Int),.int Z s] 33)).alloc (.map #[] 0)) (w.heap.size+1) (cands P h die bs) P C (nextF P h die [] (bs.take 0))):=by
  have h9:=SeenM.made (w.alloc (jz #[.int Z (P:Int),.int Z c,.int Z (h:Int),.int Z s] 33)) (cands P h die bs) P C
  rw[show(w.alloc (jz #[.int Z (P:Int),.int Z c,.int Z (h:Int),.int Z s] 33)).heap.size=w.heap.size+1 by simp]at h9
  exact h9
 clear hx hsd;have hmm:=@run_makeMap Tryz.prog
 go_enter Tryz.func221,Tryz.ntmps221
 go_wp2_with (fail)
 clear hmm
 go_loopw [8,19] (fun v8 v19 wr=>∃(i:Nat),i<=n/\v19= .int Z i/\(∃vx,vx=v8/\Hid (OPl (fun k=>k<w.heap.size+2) wr (m+1) (w.heap.size+2) 85 vx (nextF P h die [] (bs.take i))))/\Hid (SeenM wr (w.heap.size+1) (cands P h die bs) P C (nextF P h die [] (bs.take i)))/\Hid (Fr w wr [[.int Z (P:Int),.int Z c,.int Z (h:Int),.int Z s]])) (fun _ v19 _=>n-(intOf v19).toNat)
 case atStart=>exact⟨0,by omega,rfl,⟨_,rfl,OPl.nil_ _ _ _ _ _⟩,HS.out,HF.out⟩
 case round=>
  clear HF HS;obtain⟨i,hin,rfl,⟨vx,rfl,HO⟩,HS,HF⟩:=hrel
  by_cases hlt:i<n
  ·have hki:(i:Int)<(n:Int):=by omega
   obtain⟨b,off,A0,n0,c0,A1,n1,c1,A2,n2,c2,hA,-,_,y0,y1,y2,⟨vs,q0,-,q2,q3⟩,p1,-,p2,-⟩:=HX.out.at hlt;have HFB:=Frm.of_below HF.out.b;have z0:=HFB.cell' y0 id;have z1:=HFB.cell' y1 id;have z2:=HFB.cell' y2 id
   have HNF:Hid (nextF P h die [] (bs.take (i+1))=nextI P (bs.getD i ([],[])) (nextF P h die [] (bs.take i)) (legal P h (bs.getD i ([],[])) die)):=kU (by rw[HLN.out];exact hlt)
   have HSDi:=h_ (HSD.out i hlt).1;have HBM:=h_ (HSD.out i hlt).2;obtain⟨⟨own,other⟩,hbb⟩:∃bb,bb=bs.getD i ([],[]):=⟨_,rfl⟩;rw[<-hbb]at p1 p2 HNF HSDi HBM;clear hbb y0 y1 y2 HFB;subst hA
   have HQS:Hid (SLZ 4 (fun _=>False) w A0 n0 vs/\n0<=m/\∀x∈vs,x.oneCell'=true):=⟨q0,q2,q3⟩
   have HL1:Hid (n1=P+1):=by have:=p1.1.1;have:=HSDi.out.len1;unfold Hid;simp at *;omega
   have HL2:Hid (n2=P+1):=by have:=p2.1.1;have:=HSDi.out.len2;unfold Hid;simp at *;omega
   have HP1:Hid (∀W:World,Below w.heap.size w W->SL W A1 n1 own):=fun W hw=>p1.1.below hw
   have HP2:Hid (∀W:World,Below w.heap.size w W->SL W A2 n2 other):=fun W hw=>p2.1.below hw
   have hn0:n0<=1000:=by omega
   have CLS:Hid (∀W:World,Below w.heap.size w W->Calls Tryz.prog 229 #[(.agg #[.int Z (P:Int),.int Z c,.int Z (h:Int),.int Z s]),.agg #[Y A1 n1 c1,Y A2 n2 c2],.int Z (die:Int)] W (RetSt W die (legal P h (own,other) die))):=fun W hw=>by
    have hsd:=HSDi.out
    exact kA P h die c s A1 A2 n1 c1 n2 c2 own other W (HP1.out W hw) (HP2.out W hw) HL1.out HL2.out (by omega) hd1 hd2 hh hsd.1.2.1 hsd.2.2.1 (by have:=hsd.1.2.2;simp at this;omega) (by have:=hsd.2.2.2;simp at this;omega)
   have hgz:w.heap.size+2<=wr.heap.size:=HS.out.lt;clear q0 q2 q3 p1 p2
   have z0:=HF.out.l0 (by simp)
   have c00:=HF.out.c0 0 rfl;have c01:=HF.out.c0 1 rfl;have c02:=HF.out.c0 2 rfl;have c03:=HF.out.c0 3 rfl
   go_wp2_with (fail)
   clear z0 c00 c01 c02 c03;have HBP:Hid (Below wr.heap.size wr (wr.alloc (jz #[Y A0 n0 c0,Y A1 n1 c1,Y A2 n2 c2] 85))):=(Below.refl _ _).alloc (Nat.le_refl _) _;have HC0:=h_ (Cel.new wr #[Y A0 n0 c0,Y A1 n1 c1,Y A2 n2 c2] 85);have HFp:=h_ (HF.out.below HBP.out)
   refine(CLS.out _ HFp.out.b).mono ?_
   rintro e w2 ⟨v9,rfl,hst,hb2⟩
   have hz2:wr.heap.size+1<=w2.heap.size:=by have:=hb2.size;simpa using this
   have HBw2:Hid (Below wr.heap.size wr w2):=HBP.out.trans (hb2.mono HBP.out.size);have HF2:=h_ (HF.out.below HBw2.out);have HC2:=h_ (HC0.out.below hb2);have HS2:=h_ (HS.out.below HBw2.out)
   have HO2:Hid (OPl (fun k=>k<w.heap.size+2\/(wr.heap.size<=k/\k<w2.heap.size)) w2 (m+1) (w.heap.size+2) 85 vx (nextF P h die [] (bs.take i))):=(HO.out.wide (fun k hk=>hk.imp id (fun h=>h.1))).below HBw2.out
   obtain⟨A9,c9,hv9,hr9,hc9⟩:=bp (S:=fun k=>k<wr.heap.size) hst (fun k hk h=>by have:=(World.ownsRow.lt hst k hk).1;simp at this;omega) (by omega)
   subst hv9
   have HR9:Hid (SLZ 4 (fun k=>w.heap.size+1<=k/\k<wr.heap.size) w2 A9 (legal P h (own,other) die).length (stCs die (legal P h (own,other) die))):=hr9.set fun k hk=>.inl hk.2
   clear hst hr9 hb2 HBP HC0 HFp HO HS CLS;generalize hL:legal P h (own,other) die=L at *;have HL:=h_ hL;have HOL:=h_ (HSUB.out i hin);generalize hOUT:nextF P h die [] (bs.take i)=OUT at *
   have hLl:L.length<=P+1:=by rw[<-hL];exact cO
   clear hL hOUT
   go_wp2_with (fail)
   obtain⟨wo,rfl⟩:∃wo:World,wo=wr:=⟨_,rfl⟩
   go_loopw [8,29] (fun v8 v29 wr=>∃(k:Nat),k<=L.length/\v29= .int Z k/\(∃vy,vy=v8/\Hid (OPl (fun k=>k<w.heap.size+2\/(wo.heap.size<=k/\k<w2.heap.size)) wr (m+1) (w.heap.size+2) 85 vy (nextI P (own,other) OUT (L.take k))))/\Hid (SeenM wr (w.heap.size+1) (cands P h die bs) P C (nextI P (own,other) OUT (L.take k)))/\Hid (Frm (fun k=>w.heap.size+1<=k/\k<wo.heap.size) w2 wr)) (fun _ v29 _=>L.length-(intOf v29).toNat)
   case atStart=>exact⟨0,by omega,rfl,⟨_,rfl,HO2.out⟩,HS2.out,Frm.refl _ _⟩
   case round=>
    clear HO2 HS2;obtain⟨k,hkL,rfl,⟨vy,rfl,HO⟩,HS,HFX⟩:=hrel
    have HBi:Hid (Below w.heap.size w wr):=HF2.out.b.trans (HFX.out.below HF2.out.b.size (fun k hk=>by omega))
    have hzi:w2.heap.size<=wr.heap.size:=HFX.out.size
    by_cases hlt2:k<L.length
    ·have hkj:(k:Int)<(L.length:Int):=by omega
     obtain⟨src,hsrc,hst,_⟩:=jZ (p:=P) (h:=h) (b:=(own,other)) (die:=die) (s:=L.getD k ⟨0,0,false⟩) (by rw[HL.out];exact ak L _ hlt2)
     have HNI:Hid (nextI P (own,other) OUT (L.take (k+1))=addN (nextI P (own,other) OUT (L.take k)) (aT P (own,other) (L.getD k ⟨0,0,false⟩))):=kT hlt2
     have HCA:Hid (aT P (own,other) (L.getD k ⟨0,0,false⟩)∈cands P h die bs):=mem_cands HBM.out (by rw[HL.out];exact ak L _ hlt2)
     have HAS:Hid (Sd P C (aT P (own,other) (L.getD k ⟨0,0,false⟩))):=mF HSDi.out hst hsrc hd1;obtain⟨g1,g2,g3,g4⟩:=lM die L k hlt2
     obtain⟨b9,o9,hA9,-,hs9,hcell⟩:=HR9.out.2 (by omega)
     have x0:=HFX.out.cell' (hcell (k*4) (by omega)) hs9
     have x1:=HFX.out.cell' (hcell (k*4+1) (by omega)) hs9
     have x2:=HFX.out.cell' (hcell (k*4+2) (by omega)) hs9
     have x3:=HFX.out.cell' (hcell (k*4+3) (by omega)) hs9
     rw[g1]at x0;rw[g2]at x1;rw[g3]at x2;rw[g4]at x3;rw[<-Nat.add_assoc]at x1 x2 x3;obtain⟨st,hst9⟩:∃st,st=L.getD k ⟨0,0,false⟩:=⟨_,rfl⟩;rw[<-hst9]at hst HNI HCA HAS x0 x1 x3
     have CAS:Hid (∀W:World,Below w.heap.size w W->Calls Tryz.prog 230 #[(.agg #[.int Z (P:Int),.int Z c,.int Z (h:Int),.int Z s]),.agg #[Y A1 n1 c1,Y A2 n2 c2],stVal st die] W (RetBq W (aT P (own,other) st).1 (aT P (own,other) st).2)):=fun W hw=>
      mI P src die h st c h s C A1 A2 n1 c1 n2 c2 own other W (HP1.out W hw) (HP2.out W hw) HSDi.out (by omega) hP hsrc hd1 hst
     obtain⟨nx,hnx⟩:∃nx,nx=aT P (own,other) st:=⟨_,rfl⟩;rw[<-hnx]at CAS HNI HCA HAS;obtain⟨ss,sd,sh⟩:=st;have CAS2:Hid (∀W:World,Below w.heap.size w W->Calls Tryz.prog 230 #[(.agg #[.int Z (P:Int),.int Z c,.int Z (h:Int),.int Z s]),.agg #[Y A1 n1 c1,Y A2 n2 c2],.agg #[.int Z (ss:Int),.int Z sd,.int Z (die:Int),j1 sh]] W (RetBq W nx.1 nx.2)):=CAS.out
     simp only at x0 x1 x2 x3
     have z1:=HFX.out.cell' (HC2.out.cell 1 _ rfl) (by omega)
     have z2:=HFX.out.cell' (HC2.out.cell 2 _ rfl) (by omega)
     have HFi:Hid (Fr w wr [[.int Z (P:Int),.int Z c,.int Z (h:Int),.int Z s]]):=HF2.out.frm HFX.out (fun k hk=>by omega) (fun k hk=>by simp;omega)
     clear g1 g2 g3 g4 hcell hst hst9 hnx CAS HL;subst hA9
     have hwo:wo.heap.size<wr.heap.size:=by omega
     have z0:=HFi.out.l0 (by simp)
     have c00:=HFi.out.c0 0 rfl;have c01:=HFi.out.c0 1 rfl;have c02:=HFi.out.c0 2 rfl;have c03:=HFi.out.c0 3 rfl
     go_wp2_with (fail)
     have HBs:Hid (Below wr.heap.size wr (wr.alloc (jz #[.int Z (ss:Int),.int Z sd,.int Z (die:Int),j1 sh] 242))):=(Below.refl _ _).alloc (Nat.le_refl _) _;have HCs:=h_ (Cel.new wr #[.int Z (ss:Int),.int Z sd,.int Z (die:Int),j1 sh] 242)
     refine(CAS2.out _ (HBi.out.trans (HBs.out.mono HBi.out.size))).mono ?_
     rintro e w3 ⟨g1,k1,g2,k2,rfl,ho1,ho2,_,hb3⟩
     have hz3:wr.heap.size+1<=w3.heap.size:=by have:=hb3.size;simpa using this
     have HB3:Hid (Below wr.heap.size wr w3):=HBs.out.trans (hb3.mono HBs.out.size);have HC3:=h_ (HCs.out.below hb3);have HBb:Hid (Below w3.heap.size w3 (w3.alloc (jz #[Y (some ⟨g1,0,none⟩) nx.1.length k1,Y (some ⟨g2,0,none⟩) nx.2.length k2] 35))):=(Below.refl _ _).alloc (Nat.le_refl _) _;have HCb:=h_ (Cel.new w3 #[Y (some ⟨g1,0,none⟩) nx.1.length k1,Y (some ⟨g2,0,none⟩) nx.2.length k2] 35)
     have hzo:(wr.alloc (jz #[.int Z (ss:Int),.int Z sd,.int Z (die:Int),j1 sh] 242)).heap.size=wr.heap.size+1:=by simp
     rw[hzo]at ho1 ho2
     have HG1:Hid (∀W:World,Below w3.heap.size w3 W->OwnS W (wr.heap.size+1) 2 (Y (some ⟨g1,0,none⟩) nx.1.length k1) nx.1):=fun W hw=>own_below ho1 hw
     have HG2:Hid (∀W:World,Below w3.heap.size w3 W->OwnS W (wr.heap.size+1) 2 (Y (some ⟨g2,0,none⟩) nx.2.length k2) nx.2):=fun W hw=>own_below ho2 hw
     obtain⟨kv,hkv⟩:∃kv,kv=keyV nx:=⟨_,rfl⟩
     have CBK:Hid (∀W:World,Below w3.heap.size w3 W->Calls Tryz.prog 171 #[.agg #[Y (some ⟨g1,0,none⟩) nx.1.length k1,Y (some ⟨g2,0,none⟩) nx.2.length k2]] W fun e w'=>e=qb kv/\Below W.heap.size W w'):=fun W hw=>by
      have h9:=jb (some ⟨g1,0,none⟩) (some ⟨g2,0,none⟩) nx.1.length k1 nx.2.length k2 nx.1 nx.2 W ((HG1.out W hw).sl rfl).1 ((HG2.out W hw).sl rfl).1 (dA HAS.out.1 hC) (dA HAS.out.2 hC) (by rw[HAS.out.len1];omega) (by rw[HAS.out.len2];omega)
      rw[hkv]
      exact h9
     have HKV:=h_ hkv;clear ho1 ho2 hb3 hkv HBs HCs CAS2 hzo x0 x1 x2 x3 z0 z1 z2;clear c00 c01 c02 c03
     go_wp2_with (fail)
     refine(CBK.out _ HBb.out).mono ?_
     rintro e w4 ⟨rfl,hb4⟩
     have HB34:Hid (Below w3.heap.size w3 w4):=HBb.out.trans (hb4.mono HBb.out.size);have HCb4:=h_ (HCb.out.below hb4);have HC4:=h_ (HC3.out.below HB34.out);have HB4:Hid (Below wr.heap.size wr w4):=HB3.out.trans (HB34.out.mono HB3.out.size);have HS4:=h_ (HS.out.below HB4.out);have HO4:=h_ (HO.out.below HB4.out)
     have HFX4:Hid (Frm (fun k=>w.heap.size+1<=k/\k<wo.heap.size) w2 w4):=HFX.out.trans (Frm.of_below' _ HB4.out)
     have hz4:w3.heap.size+1<=w4.heap.size:=by have:=hb4.size;simpa using this
     have HVY:=h_ HO.out.lt
     have hlk:=HS4.out.look (b:=nx) (by omega) HAS.out
     rw[<-HKV.out]at hlk;clear hb4 HB3 HBb HCb CBK HS HO HFX HC3
     by_cases hin2:nx∈nextI P (own,other) OUT (L.take k)
     ·have HE:Hid (nextI P (own,other) OUT (L.take (k+1))=nextI P (own,other) OUT (L.take k)):=by unfold Hid;rw[HNI.out,mK hin2]
      rw[show decide (nx∈nextI P (own,other) OUT (L.take k))=true from decide_eq_true hin2]at hlk
      clear hin2
      go_wp2_with (fail)
      exact⟨⟨k+1,by omega,by go_num,⟨vy,rfl,by rw[HE.out];exact HO4.out⟩,by rw[HE.out];exact HS4.out,HFX4.out⟩,by simp[intOf];omega⟩
     ·have HE:Hid (nextI P (own,other) OUT (L.take (k+1))=nextI P (own,other) OUT (L.take k)++[nx]):=by unfold Hid;rw[HNI.out,jw hin2]
      rw[show decide (nx∈nextI P (own,other) OUT (L.take k))=false from decide_eq_false hin2]at hlk
      obtain⟨w5,hup,hs5,hg5⟩:=HS4.out.store (b:=nx) hC (by omega) HAS.out HCA.out HUL.out
      rw[<-HKV.out]at hup;have HS5:=h_ hs5;have hz5:w4.heap.size<=w5.heap.size:=hg5.size
      have HF45:Hid (Frm (fun k=>k=w.heap.size+1) w4 w5):=(Frm.of_grown hg5).mono fun k hk=>by injection hk
      have HFX5:Hid (Frm (fun k=>w.heap.size+1<=k/\k<wo.heap.size) w2 w5):=HFX4.out.trans (HF45.out.mono fun k hk=>by omega)
      have HO5:Hid (OPl (fun k=>k<w.heap.size+2\/(wo.heap.size<=k/\k<w2.heap.size)) w5 (m+1) (w.heap.size+2) 85 vy (nextI P (own,other) OUT (L.take k))):=HO4.out.frm (HF45.out.mono fun k hk=>.inl (by omega))
      have HC5:Hid (Cel w5 wo.heap.size [Y A0 n0 c0,Y A1 n1 c1,Y A2 n2 c2]):=HC2.out.frmP HFX5.out (by omega)
      have HCs5:Hid (Cel w5 wr.heap.size [.int Z (ss:Int),.int Z sd,.int Z (die:Int),j1 sh]):=HC4.out.frmP HF45.out (by omega)
      have HCb5:Hid (Cel w5 w3.heap.size [Y (some ⟨g1,0,none⟩) nx.1.length k1,Y (some ⟨g2,0,none⟩) nx.2.length k2]):=HCb4.out.frmP HF45.out (by omega)
      have HG15:Hid (OwnS w5 (wr.heap.size+1) 2 (Y (some ⟨g1,0,none⟩) nx.1.length k1) nx.1):=HF45.out.own (HG1.out w4 HB34.out) (fun k hk h9=>by have:=(World.ownsRow.lt (HG1.out w4 HB34.out) k hk).1;omega)
      have HG25:Hid (OwnS w5 (wr.heap.size+1) 2 (Y (some ⟨g2,0,none⟩) nx.2.length k2) nx.2):=HF45.out.own (HG2.out w4 HB34.out) (fun k hk h9=>by have:=(World.ownsRow.lt (HG2.out w4 HB34.out) k hk).1;omega)
      have HBw5:Hid (Below w.heap.size w w5):=HF2.out.b.trans (HFX5.out.below HF2.out.b.size (fun k hk=>by omega))
      clear hin2 hs5 hg5 HS4 HO4 HFX4
      go_wp2_with (fail)
      clear hlk hup
      refine gC 11 (fun _=>false) (fun i=>i+45) (JG w5 242 (appC (qa (some ⟨wo.heap.size,0,none⟩)) (Y A0 n0 c0) (.int Z (n0:Int)) (.int Z ((n0:Int)+1)) (.agg #[.int Z (ss:Int),.int Z sd,.int Z (die:Int),j1 sh])) vs [.int Z (ss:Int),.int Z sd,.int Z (die:Int),j1 sh] n0) (by kernel_rfl) (by kernel_rfl) (fun _ _ _ _ _ h=>h) (fun vs'=>JG.start _ _ _ _ _ _ _) (fun i o' _ hX=>by cases hX) ?_ ?_
      ·intro i o hi9 _ ho L9 a' W HJ hLi hfar hdep
       have e10:a'.tmps.getD 10 undef=qa (some ⟨wo.heap.size,0,none⟩):=(hfar 10 (fun j _=>by omega)).trans rfl
       have e12:a'.tmps.getD 12 undef=qa (some ⟨wr.heap.size,0,none⟩):=(hfar 12 (fun j _=>by omega)).trans rfl
       have hi8:=i_10 hi9
       clear hfar
       rcases hi8 with rfl|rfl|rfl|rfl|rfl|rfl|rfl|rfl|rfl|rfl|rfl
       all_goals (simp at ho;subst ho)
       ·exact .inl ⟨qa (some ⟨wo.heap.size,0,none⟩),W,by simp only[execOp,Act.eval,e10];go_simp,fun L2 v2 hu=>HJ.pure hu (by omega) (fun y hy=>by simp only[appC]at hy;injection hy)⟩
       ·have l0:L9 0=true:=dp hdep 0
        have d0:a'.tmps.getD 45 undef=qa (some ⟨wo.heap.size,0,none⟩):=HJ.k 0 (by omega) l0 _ rfl
        have y0:=(HC5.out.below HJ.b).cell 0 _ rfl
        exact .inl ⟨Y A0 n0 c0,W,by simp only[execOp,Act.eval,d0];go_simp,fun L2 v2 hu=>HJ.pure hu (by omega) (fun y hy=>by simp only[appC]at hy;injection hy)⟩
       ·have l1:L9 1=true:=dp hdep 1
        have d1:a'.tmps.getD 46 undef=Y A0 n0 c0:=HJ.k 1 (by omega) l1 _ rfl
        exact .inl ⟨.int Z (n0:Int),W,by simp only[execOp,Act.eval,d1];go_simp,fun L2 v2 hu=>HJ.pure hu (by omega) (fun y hy=>by simp only[appC]at hy;injection hy)⟩
       ·have l2:L9 2=true:=dp hdep 2
        have d2:a'.tmps.getD 47 undef= .int Z (n0:Int):=HJ.k 2 (by omega) l2 _ rfl
        exact .inl ⟨.int Z ((n0:Int)+1),W,by simp only[execOp,Act.eval,d2];go_simp;first|done|(simp[IntKind.wrap,IntKind.bits,IntKind.signed];omega),fun L2 v2 hu=>HJ.pure hu (by omega) (fun y hy=>by simp only[appC]at hy;injection hy)⟩
       ·have l3:L9 3=true:=dp hdep 3
        have d3:a'.tmps.getD 48 undef= .int Z ((n0:Int)+1):=HJ.k 3 (by omega) l3 _ rfl
        obtain⟨W',hrun,hown,hgr⟩:=run_make_own (P:=Tryz.prog) W w5.heap.size 83 242 i0 (.agg #[.int Z 0,.int Z 0,.int Z 0,j1 false]) 4 Tryz.underlying83 hi iz0 iz1 Z Z (n0+1) (by rw[iz2];omega) (by unfold maxLen;omega) HJ.b.size
        rw[show(((n0+1:Nat)):Int)=(n0:Int)+1 by omega]at hrun
        exact .inl ⟨Y (some ⟨W.heap.size,0,none⟩) 0 (n0+1),W',by simp only[execOp,Act.eval,d3,Sem.run_bind,hrun,Result.andThen_ok,Sem.run_pure],fun L2 v2 hu=>HJ.make hu hLi rfl hown hgr rfl⟩
       ·exact .inl ⟨qa (some ⟨wo.heap.size,0,none⟩),W,by simp only[execOp,Act.eval,e10];go_simp,fun L2 v2 hu=>HJ.pure hu (by omega) (fun y hy=>by simp only[appC]at hy;injection hy)⟩
       ·have l5:L9 5=true:=dp hdep 5
        have d5:a'.tmps.getD 50 undef=qa (some ⟨wo.heap.size,0,none⟩):=HJ.k 5 (by omega) l5 _ rfl
        have y0:=(HC5.out.below HJ.b).cell 0 _ rfl
        exact .inl ⟨Y A0 n0 c0,W,by simp only[execOp,Act.eval,d5];go_simp,fun L2 v2 hu=>HJ.pure hu (by omega) (fun y hy=>by simp only[appC]at hy;injection hy)⟩
       ·have l4:L9 4=true:=dp hdep 4
        have l6:L9 6=true:=dp hdep 6
        have d6:a'.tmps.getD 51 undef=Y A0 n0 c0:=HJ.k 6 (by omega) l6 _ rfl
        have h7:L9 7=false:=hLi;have hr4:W.ownsRow w5.heap.size 242 4 (a'.tmps.getD 49 undef) 0 []:=HJ.r4 l4 h7
        obtain⟨v',W',hrun,hown,hgr,hat⟩:=cU (P:=Tryz.prog) W w5.heap.size 83 83 242 i0 (.agg #[.int Z 0,.int Z 0,.int Z 0,j1 false]) 4 32 Tryz.underlying83 hi iz0 iz1 iz2 rfl (by decide) _ 0 [] hr4 (fun _=>False) A0 n0 c0 vs ((HQS.out.1.frm (Frm.of_below (HBw5.out.trans (HJ.b.mono HBw5.out.size))))) HQS.out.2.2 (by unfold maxLen;omega) (by omega) HJ.b.size
        rw[Nat.zero_add,List.nil_append]at hown
        exact .inl ⟨v',W',by simp only[execOp,Act.eval,d6,resolve,invoke,builtin,Sem.run_bind,Sem.run_pure,Result.andThen_ok,List.map_toArray,List.map_cons,List.map_nil,hrun],fun L2 v2 hu=>HJ.app1 hu h7 l4 rfl hown hgr hat⟩
       ·have y0:=(HCs5.out.below HJ.b).cell 0 _ rfl
        have y1:=(HCs5.out.below HJ.b).cell 1 _ rfl;have y2:=(HCs5.out.below HJ.b).cell 2 _ rfl;have y3:=(HCs5.out.below HJ.b).cell 3 _ rfl
        exact .inl ⟨.agg #[.int Z (ss:Int),.int Z sd,.int Z (die:Int),j1 sh],W,by simp only[execOp,Act.eval,e12];go_simp,fun L2 v2 hu=>HJ.pure hu (by omega) (fun y hy=>by simp only[appC]at hy;injection hy)⟩
       ·have l8:L9 8=true:=dp hdep 8
        have d8:a'.tmps.getD 53 undef= .agg #[.int Z (ss:Int),.int Z sd,.int Z (die:Int),j1 sh]:=HJ.k 8 (by omega) l8 _ rfl
        have d8':=d8;rw[Array.getD_eq_getD_getElem?]at d8'
        exact .inl ⟨Y (some ⟨W.heap.size,0,none⟩) 1 1,W.alloc (jz #[.int Z (ss:Int),.int Z sd,.int Z (die:Int),j1 sh] 242),by simp only[execOp,Act.eval,d8];go_simp,fun L2 v2 hu=>HJ.bsl hu hLi rfl _⟩
       ·have l7:L9 7=true:=dp hdep 7
        have l9:L9 9=true:=dp hdep 9
        have h10:L9 10=false:=hLi;have hr7:W.ownsRow w5.heap.size 242 4 (a'.tmps.getD 52 undef) n0 vs:=HJ.r7 l7 h10;obtain⟨g,d9,-,hg2,hg3,_,_⟩:=HJ.s9 l9 h10;replace d9:a'.tmps.getD 54 undef=Y (some ⟨g,0,none⟩) 1 1:=d9
        obtain⟨v',W',hrun,hown,hgr,-⟩:=cU (P:=Tryz.prog) W w5.heap.size 83 83 242 i0 (.agg #[.int Z 0,.int Z 0,.int Z 0,j1 false]) 4 32 Tryz.underlying83 hi iz0 iz1 iz2 rfl (by decide) _ n0 vs hr7 (fun _=>False) (some ⟨g,0,none⟩) 1 1 [.int Z (ss:Int),.int Z sd,.int Z (die:Int),j1 sh] ⟨rfl,fun _=>⟨g,0,rfl,hg2,id,hg3⟩⟩ (fun u hu=>by simp at hu;rcases hu with rfl|rfl|rfl|rfl<;>rfl) (by unfold maxLen;omega) (by omega) HJ.b.size
        exact .inl ⟨v',W',by simp only[execOp,Act.eval,d9,resolve,invoke,builtin,Sem.run_bind,Sem.run_pure,Result.andThen_ok,List.map_toArray,List.map_cons,List.map_nil,hrun],fun L2 v2 hu=>HJ.app2 hu h10 l7 l9 rfl hown hgr⟩
      ·intro L9 v W hall HJ
       have hr:=HJ.r10 (hall 10 (by omega))
       have HBJ:=h_ HJ.b;clear hall HJ
       have hfar:∀k,w2.heap.size<=k->wr.heap.size<=k->¬wth (fun k=>k<w.heap.size+2\/(wo.heap.size<=k/\k<w2.heap.size)) vy k:=fun k h1 h2 h3=>by
        rcases h3 with h3|h3
        ·rcases h3 with h3|h3<;>omega
        ·have:=(HVY.out k h3).2.1;omega
       obtain⟨Az,cz,hvz,hrz,hcz⟩:=bp (S:=wth (fun k=>k<w.heap.size+2\/(wo.heap.size<=k/\k<w2.heap.size)) vy) hr (fun k hk=>by have:=(World.ownsRow.lt hr k hk).1;exact hfar k (by omega) (by omega)) (by omega)
       simp only[List.drop_succ_cons,List.drop_zero,putV,hvz,Act.put]
       rw[hvz]at hr;clear hvz;have HCW:=h_ (HCb5.out.below HBJ.out);obtain⟨cs,hrow,hpe,hnb⟩:=HO5.out.below HBJ.out;have HROW:Hid ((W.alloc (jz #[Y Az (n0+1) cz,Y (some ⟨g1,0,none⟩) nx.1.length k1,Y (some ⟨g2,0,none⟩) nx.2.length k2] 85)).ownsRow (w.heap.size+2) 85 3 vy (nextI P (own,other) OUT (L.take k)).length cs):=World.ownsRow.alloc hrow _
       have HPV:Hid (PEs (wth (fun k=>k<w.heap.size+2\/(wo.heap.size<=k/\k<w2.heap.size)) vy) (W.alloc (jz #[Y Az (n0+1) cz,Y (some ⟨g1,0,none⟩) nx.1.length k1,Y (some ⟨g2,0,none⟩) nx.2.length k2] 85)) (m+1) cs (nextI P (own,other) OUT (L.take k))):=hpe.frm ((Frm.refl _ _).alloc _)
       have HPE:Hid (PEs (wth (fun k=>k<w.heap.size+2\/(wo.heap.size<=k/\k<w2.heap.size)) vy) (W.alloc (jz #[Y Az (n0+1) cz,Y (some ⟨g1,0,none⟩) nx.1.length k1,Y (some ⟨g2,0,none⟩) nx.2.length k2] 85)) (m+1) [Y Az (n0+1) cz,Y (some ⟨g1,0,none⟩) nx.1.length k1,Y (some ⟨g2,0,none⟩) nx.2.length k2] [nx]):=by
        refine PEs.one ⟨⟨Az,n0+1,cz,_,rfl,hrz.frm ((Frm.refl _ W).alloc _),hcz,by have:=HQS.out.2.1;omega,fun x hx=>?_⟩,PV.own (OwnS.alloc (own_below HG15.out HBJ.out) _) (fun k hk=>hfar k (by omega) (by omega)),PV.own (OwnS.alloc (own_below HG25.out HBJ.out) _) (fun k hk=>hfar k (by omega) (by omega))⟩
        rcases List.mem_append.1 hx with h9|h9
        ·exact HQS.out.2.2 x h9
        ·simp at h9;rcases h9 with rfl|rfl|rfl|rfl<;>rfl
       have HNB:=h_ hnb
       have HKL:Hid ((nextI P (own,other) OUT (L.take k)).length<=1001000):=by
        have h1:=gV (p:=P) (b:=(own,other)) (l:=L.take k) (out:=OUT)
        have h2:(L.take k).length<=L.length:=by rw[List.length_take];omega
        have:=HOL.out
        unfold Hid;omega
       have HNW:Hid (∀j u,[Y Az (n0+1) cz,Y (some ⟨g1,0,none⟩) nx.1.length k1,Y (some ⟨g2,0,none⟩) nx.2.length k2][j]? =some u->(W.alloc (jz #[Y Az (n0+1) cz,Y (some ⟨g1,0,none⟩) nx.1.length k1,Y (some ⟨g2,0,none⟩) nx.2.length k2] 85)).cell? ((⟨W.heap.size,0,none⟩:Addr).add j)=some u):=fun j u hj=>by
        have h9:=(Cel.new W #[Y Az (n0+1) cz,Y (some ⟨g1,0,none⟩) nx.1.length k1,Y (some ⟨g2,0,none⟩) nx.2.length k2] 85).cell j u hj;unfold Addr.add
        split
        ·rename_i h0;rw[h0]at h9;exact h9
        ·rw[Nat.zero_add];exact h9
       have x0:=HCW.out.cell 0 _ rfl;have x1:=HCW.out.cell 1 _ rfl;have xz:=HCW.out.lt;have HSW:=h_ (HS5.out.below HBJ.out)
       have HFXW:Hid (Frm (fun k=>w.heap.size+1<=k/\k<wo.heap.size) w2 W):=HFX5.out.trans (Frm.of_below' _ HBJ.out)
       clear hr hrz hrow hpe hnb hfar HCW HCb5 HCs5 HC5 HO5 HFX5 HS5 HB34 HC4 HCb4 HB4
       go_wp2_with (at_builtin;(refine wpList_append_own_at _ rfl _ _ 79 rfl (w.heap.size+2) 85 j0 (.agg #[Y none 0 0,Y none 0 0,Y none 0 0]) 3 72 Tryz.underlying79 hj jz0 jz1 jz2 rfl (by decide) _ _ _ rfl HROW.out ⟨W.heap.size,0,none⟩ 1 1 [Y Az (n0+1) cz,Y (some ⟨g1,0,none⟩) nx.1.length k1,Y (some ⟨g2,0,none⟩) nx.2.length k2] rfl rfl HNW.out (fun u hu=>by simp at hu;rcases hu with rfl|rfl|rfl<;>rfl) (by have:=HKL.out;unfold maxLen;omega) (by have:=HKL.out;omega) (by simp;omega) ?_);intro v' w6 hown hgrow _ hat)
       have hzA:(W.alloc (jz #[Y Az (n0+1) cz,Y (some ⟨g1,0,none⟩) nx.1.length k1,Y (some ⟨g2,0,none⟩) nx.2.length k2] 85)).heap.size=W.heap.size+1:=by simp
       have HO6:Hid (OPl (fun k=>k<w.heap.size+2\/(wo.heap.size<=k/\k<w2.heap.size)) w6 (m+1) (w.heap.size+2) 85 v' (nextI P (own,other) OUT (L.take (k+1)))):=by
        unfold Hid;rw[HE.out]
        refine OPl.grew2 HPV.out HPE.out hown rfl hgrow hat HNB.out (fun h9=>?_)
        rw[hzA]at h9
        rcases h9 with h9|h9<;>omega
       have HS6:Hid (SeenM w6 (w.heap.size+1) (cands P h die bs) P C (nextI P (own,other) OUT (L.take (k+1)))):=by
        unfold Hid;rw[HE.out]
        exact(HSW.out.below ((Below.refl _ _).alloc (Nat.le_refl _) _)).frm (Frm.of_grown hgrow) (fun h9=>by have:=(HVY.out _ h9.symm).1;omega)
       have HFX6:Hid (Frm (fun k=>w.heap.size+1<=k/\k<wo.heap.size) w2 w6):=(HFXW.out.alloc _).outs' (Frm.of_grown hgrow) (fun k hk=>by
        obtain⟨q1,q2,q3⟩:=HVY.out k hk.symm
        have q4:¬(wo.heap.size<=k/\k<w2.heap.size):=fun h9=>q3 (.inr h9)
        omega)
       clear hown hgrow hat HNW HNB HPE HPV HROW HFXW HSW hzA
       exact⟨⟨k+1,by omega,by go_num,⟨v',rfl,HO6⟩,HS6,HFX6⟩,by simp[intOf];omega⟩
    ·have hge:¬(k:Int)<(L.length:Int):=by omega
     have HEK:Hid (nextI P (own,other) OUT (L.take k)=nextF P h die [] (bs.take (i+1))):=by
      unfold Hid
      rw[HNF.out,List.take_of_length_le (by omega)]
     have HFi:Hid (Fr w wr [[.int Z (P:Int),.int Z c,.int Z (h:Int),.int Z s]]):=HF2.out.frm HFX.out (fun k hk=>by omega) (fun k hk=>by simp;omega)
     have HO7:Hid (OPl (fun k=>k<w.heap.size+2) wr (m+1) (w.heap.size+2) 85 vy (nextF P h die [] (bs.take (i+1)))):=by
      unfold Hid;rw[<-HEK.out]
      exact HO.out.set fun k hk=>.inl hk
     have HS7:Hid (SeenM wr (w.heap.size+1) (cands P h die bs) P C (nextF P h die [] (bs.take (i+1)))):=by
      unfold Hid;rw[<-HEK.out]
      exact HS.out
     clear HO HS HEK HNF
     go_wp2_with (fail)
     exact⟨⟨i+1,by omega,by go_num,⟨vy,rfl,HO7⟩,HS7,HFi⟩,by simp[intOf];omega⟩
  ·have hge:¬(i:Int)<(n:Int):=by omega
   have HE:Hid (nextF P h die [] (bs.take i)=nextB P h die bs):=by
    unfold Hid
    rw[List.take_of_length_le (by rw[HLN.out];omega)];rfl
   have HR:Hid (RetPl w (m+1) (nextB P h die bs) (qb vx) wr):=by
    rw[<-HE.out]
    obtain⟨A9,c9,hv9,hp9,hc9⟩:=(HO.out.set (S':=fun k=>k<w.heap.size) (fun k hk=>by show k<_;have:k<w.heap.size:=hk;omega)).read
    exact⟨A9,c9,by rw[hv9],hp9,hc9,HF.out.b⟩
   clear HE HO
   go_wp2_with (fail)
   go_ret
   exact HR.out
end Go.Proofs.YtcmeoenkgmghkaaGreat

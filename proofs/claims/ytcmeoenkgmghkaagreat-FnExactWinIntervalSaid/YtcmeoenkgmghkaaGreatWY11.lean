/- Part of one proof. There are no conditions. -/
import Derived.Maps.OwnSet
import Derived.Maps.Ext
import Derived.Test.YtcmeoenkgmghkaaGreatWY6
import Derived.Maps.Keyed
import Derived.Laws.MakeOwn
import Derived.Laws.BytesArg
set_option linter.unusedVariables false
set_option linter.unusedSimpArgs false
set_option maxHeartbeats 0
set_option maxRecDepth 100000
namespace Go.Proofs.YtcmeoenkgmghkaaGreat
open Go.Value renaming slice->E
open Go.Obj renaming cells->M
open Go.RowKit Go.Maps
open Go.ChangeMaps Go.MapKept Go.WideShapes
def heldV (v:Value):Option (DataW Value×List MemPlace):=some (.held v,[])
theorem kD {α:Type} [DecidableEq α]:∀{l U:List α},l.Pairwise (fun a b=>a≠b)->(∀x∈l,x∈U)->l.length<=U.length
 | [],_,_,_=>Nat.zero_le _
 | x :: r, U, hp, hm => by
   have hp' := List.pairwise_cons.1 hp
   have hx := hm x (by simp)
   have h1 : (U.erase x).length = U.length - 1 := List.length_erase_of_mem hx
   have h2 := kD (l := r) (U := U.erase x) hp'.2 fun y hy => (List.mem_erase_of_ne (Ne.symm (hp'.1 y hy))).2 (hm y (by simp [hy]))
   have h3 : 1 <= U.length := List.length_pos_of_mem hx
   simp only [List.length_cons]
   omega
def MapV (P:Program) (k:TypeId) (w:World) (b:Nat) (U:List Lit) (f:Lit->Option Value):Prop:=
 ∃D:DataW Value,w.ownsMap P k heldV b U.length D/\(∀l,WideAt.IsKeyLit l->has D l=(f l).isSome/\∀z,D.atKey l (.held z) = .held ((f l).getD z))/\∀l,has D l=true->l∈U
section
variable {P:Program} {k:TypeId} {w w':World} {b:Nat} {U:List Lit} {f:Lit->Option Value}
theorem MapV.lt (h:MapV P k w b U f):b<w.heap.size:=let ⟨_,h,_⟩:=h;h.lt
theorem lC {n m:Nat} {D:DataW Value} {R:Value->Option (DataW Value×List MemPlace)} (h:w.ownsMap P k R b n D) (hs:size D<=m):w.ownsMap P k R b m D:=by
 obtain⟨es,clock,hb,F,_,hD⟩:=h
 refine⟨es,clock,hb,F,?_,hD⟩
 rw[hD]at hs
 simpa[Maps.size,length_sorted]using hs
theorem MapV.made (P:Program) (k:TypeId) (w:World) (U:List Lit):MapV P k (w.alloc (.map #[] 0)) w.heap.size U (fun _=>none):=by
 refine⟨.map [],(World.ownsMap_made w P k heldV).mono (Nat.zero_le _),fun l hl=>⟨rfl,fun z=>rfl⟩,fun l h=>by simp[has]at h⟩
theorem MapV.frm {S:Nat->Prop} (h:MapV P k w b U f) (hf:Frm S w w') (hn:¬S b):MapV P k w' b U f:=by
 obtain⟨D,hD,h1,h2⟩:=h
 refine⟨D,?_,h1,h2⟩
 have hlt:=hD.lt;obtain⟨es,clock,hb,r⟩:=hD
 exact⟨es,clock,(hf.block b hlt hn).trans hb,r⟩
theorem MapV.below (h:MapV P k w b U f) (hb:Below w.heap.size w w'):MapV P k w' b U f:=h.frm (Frm.of_below hb) id
theorem MapV.alloc (h:MapV P k w b U f) (o:Obj):MapV P k (w.alloc o) b U f:=h.below ((Below.refl _ _).alloc (Nat.le_refl _) o)
theorem heldV_inj {v:Value} {z:Value} {ps:List MemPlace} (h:heldV v=some (.held z,ps)):v=z:=by
 simp only[heldV,Option.some.injEq,Prod.mk.injEq,DataW.held.injEq]at h
 exact h.1
theorem MapV.look {t e:TypeId} (h:MapV P k w b U f) (K:Keyed P k) (ht:P.underlying t=some (.map k e)) {z:Value} (hz:(zeroValue e).run P w = .ok z w) {key:Value} {kl:Lit} (hkey:keyOf P k key=some kl):
  (Instr.lookup t (.map (some b)) key false).run P w = .ok ((f kl).getD z) w:=by
 obtain⟨D,hD,h1,_⟩:=h;obtain⟨v,ps,hrun,hv⟩:=hD.lookup K ht hz (zd:=.held z) (zp:=[]) rfl hkey;rw[(h1 kl (K.key hkey)).2 z]at hv;rw[heldV_inj hv]at hrun
 exact hrun
theorem MapV.look_ok {t e:TypeId} (h:MapV P k w b U f) (K:Keyed P k) (ht:P.underlying t=some (.map k e)) {z:Value} (hz:(zeroValue e).run P w = .ok z w) {key:Value} {kl:Lit} (hkey:keyOf P k key=some kl):
  (Instr.lookup t (.map (some b)) key true).run P w = .ok (.tuple #[(f kl).getD z,.bool (f kl).isSome]) w:=by
 obtain⟨D,hD,h1,_⟩:=h;obtain⟨v,ps,hrun,hv⟩:=World.ownsMap.look_ok hD K ht hz (zd:=.held z) (zp:=[]) rfl hkey;rw[(h1 kl (K.key hkey)).2 z]at hv;rw[heldV_inj hv,(h1 kl (K.key hkey)).1]at hrun
 exact hrun
open Classical in
noncomputable def putF (f:Lit->Option Value) (l:Lit) (v:Value):Lit->Option Value:=fun l'=>if l'=l then some v else f l'
theorem gB (f:Lit->Option Value) (l:Lit) (v:Value):putF f l v l=some v:=by unfold putF;exact if_pos rfl
theorem dQ (f:Lit->Option Value) {l l':Lit} (h:l'≠l) (v:Value):putF f l v l'=f l':=by unfold putF;exact if_neg h
theorem MapV.store {t e:TypeId} (h:MapV P k w b U f) (K:Keyed P k) (ht:P.underlying t=some (.map k e)) (hn:U.length<maxLen) {key val:Value} {kl:Lit} (hkey:keyOf P k key=some kl) (hU:kl∈U):
  ∃w',(Instr.mapUpdate t (.map (some b)) key val).run P w = .ok () w'/\MapV P k w' b U (putF f kl val)/\w.grownBy w' (some b):=by
 obtain⟨D,hD,h1,h2⟩:=h;obtain⟨w',hrun,hD',hg⟩:=hD.update K ht hn hkey (val:=val) (d:=.held val) (ps:=[]) rfl;have hM:=World.ownsMap.isMap hD;have hT:=World.ownsMap.tidy hD' K;have hl:=K.key hkey
 have h2':∀l,has (D.put kl (.held val)) l=true->l∈U:=by
  intro l hh
  by_cases e:l=kl
  ·rw[e];exact hU
  ·rw[has_put_other e]at hh;exact h2 l hh
 refine⟨w',hrun,⟨D.put kl (.held val),lC hD' ?_,fun l hl'=>?_,h2'⟩,hg⟩
 ·classical
  obtain⟨es,hes,hp0,hkl⟩:=World.ownsMap.canon hD' K;have hp:=Go.Maps.apart_of_rising hp0;rw[hes,size_eq]
  have hp2:(es.map (·.1)).Pairwise (fun a b=>a≠b):=List.pairwise_map.2 hp
  have:=kD hp2 (U:=U) fun x hx=>by
   obtain⟨p,hp',rfl⟩:=List.mem_map.1 hx
   apply h2'
   rw[hes,has_eq]
   exact List.any_eq_true.2 ⟨p,hp',by have:=hkl p hp';revert this;cases p.1<;>simp[Lit.sameKey,WideAt.IsKeyLit]⟩
  simpa using this
 ·by_cases e:l=kl
  ·subst e
   rw[gB]
   exact⟨has_put_same hM hl' _,fun z=>atKey_put_same hM hl' _ _⟩
  ·rw[dQ f e]
   exact⟨(has_put_other e _).trans (h1 l hl').1,fun z=>(atKey_put_other e _ _).trans ((h1 l hl').2 z)⟩
end
open Go.RowKit Pl Go.Maps
def kbL (b:Bd):List UInt8:=(b.1++b.2).map fun x=>UInt8.ofNat x.toNat
theorem kB:∀{l k:List Int},(∀x∈l,0<=x/\x<=255)->(∀x∈k,0<=x/\x<=255)->l.map (fun x=>UInt8.ofNat x.toNat)=k.map (fun x=>UInt8.ofNat x.toNat)->l=k
 | [],[],_,_,_=>rfl
 | [],y::k,_,_,h=>by simp at h
 | x::l,[],_,_,h=>by simp at h
 | x :: l, y :: k, h1, h2, h => by
   rw [List.map_cons, List.map_cons] at h; injection h with h3 h4; have hx := h1 x List.mem_cons_self; have hy := h2 y List.mem_cons_self; have h5 := congrArg UInt8.toNat h3
   simp only [UInt8.toNat_ofNat'] at h5
   have e : x = y := by omega
   rw [e, kB (fun z hz => h1 z (List.mem_cons_of_mem _ hz)) (fun z hz => h2 z (List.mem_cons_of_mem _ hz)) h4]
theorem dw {p c:Nat} {l:List Int} (h:SideP p c l) (hc:c<=255):∀x∈l,0<=x/\x<=255:=fun x hx=>by
 refine⟨h.2.1 x hx,?_⟩
 have:=ik l h.2.1 x hx;have:=h.2.2
 omega
theorem kbL_inj {p c:Nat} (hc:c<=255) {a b:Bd} (ha:Sd p c a) (hb:Sd p c b) (h:kbL a=kbL b):a=b:=by
 have e:=kB (l:=a.1++a.2) (k:=b.1++b.2)
  (fun x hx=>(List.mem_append.1 hx).elim (dw ha.1 hc x) (dw ha.2 hc x))
  (fun x hx=>(List.mem_append.1 hx).elim (dw hb.1 hc x) (dw hb.2 hc x)) h
 obtain⟨e1,e2⟩:=List.append_inj e (by rw[ha.len1,hb.len1])
 exact Prod.ext e1 e2
theorem bO {α:Type} {l:List α} {k:Nat} (d:α) (hk:k<l.length):l.take (k+1)=l.take k++[l.getD k d]:=by
 rw[List.take_add_one,List.getD_eq_getElem?_getD,List.getElem?_eq_getElem hk];rfl
theorem kx {p:Nat} {b:Bd} {out:List Bd} {l:List Stp} {k:Nat} (hk:k<l.length):nextI p b out (l.take (k+1))=addN (nextI p b out (l.take k)) (aV p b (l.getD k ⟨0,0,false⟩)):=by
 unfold nextI
 rw[bO ⟨0,0,false⟩ hk,List.foldl_append];rfl
theorem ky {p h die:Nat} {out bs:List Bd} {i:Nat} (hi:i<bs.length):nextF p h die out (bs.take (i+1))=nextI p (bs.getD i ([],[])) (nextF p h die out (bs.take i)) (legal p h (bs.getD i ([],[])) die):=by
 unfold nextF
 rw[bO ([],[]) hi,List.foldl_append];rfl
theorem kF {acc L:List Bd} {k:Nat} (hk:k<L.length):joinP acc (L.take (k+1))=addN (joinP acc (L.take k)) (L.getD k ([],[])):=by
 unfold joinP
 rw[bO ([],[]) hk,List.foldl_append];rfl
theorem mg {out:List Bd} {b:Bd} (h:b∈out):addN out b=out:=if_pos h
theorem jc {out:List Bd} {b:Bd} (h:¬b∈out):addN out b=out++[b]:=if_neg h
def cands (p h die:Nat) (bs:List Bd):List Bd:=bs.flatMap fun b=>(legal p h b die).map (aV p b)
theorem ir {α β:Type} (f:α->List β) (B:Nat):∀(l:List α),(∀x∈l,(f x).length<=B)->(l.flatMap f).length<=l.length*B
 | [],_=>by simp
 | x :: l, h => by
   have h1 := h x List.mem_cons_self
   have h2 := ir f B l fun y hy => h y (List.mem_cons_of_mem _ hy)
   simp only [List.flatMap_cons, List.length_append, List.length_cons, Nat.add_mul]; omega
theorem cands_len (p h die:Nat) (bs:List Bd):(cands p h die bs).length<=bs.length*(p+1):=ir _ _ _ fun b _=>by rw[List.length_map];exact cM
theorem mem_cands {p h die:Nat} {bs:List Bd} {b:Bd} {s:Stp} (hb:b∈bs) (hs:s∈legal p h b die):aV p b s∈cands p h die bs:=List.mem_flatMap.2 ⟨b,hb,List.mem_map_of_mem hs⟩
def keyL (b:Bd):Lit:=.string (kbL b)
def keyV (b:Bd):Value:=.string ⟨(kbL b).toArray⟩
theorem keyS:Keyed Tryz.prog 9:=string_keyed Tryz.underlying9
theorem keyOf_kb (b:Bd) (hl:(kbL b).length<=maxLen):keyOf Tryz.prog 9 (keyV b)=some (keyL b):=by
 have h2:(ByteArray.mk (kbL b).toArray).size<=maxLen:=by simpa[ByteArray.size]using hl
 simp[keyOf,Tryz.underlying9,mapKey,keyV,keyL,Lit.sameKey,h2]
theorem kb_len {p C:Nat} {b:Bd} (hb:Sd p C b) (hp:p<=1000):(kbL b).length<=maxLen:=by
 unfold kbL;rw[List.length_map,List.length_append,hb.len1,hb.len2]
 unfold maxLen;omega
def SeenM (w:World) (g:Nat) (U:List Bd) (p C:Nat) (out:List Bd):Prop:=∃f,MapV Tryz.prog 9 w g (U.map keyL) f/\∀b,Sd p C b->f (keyL b)=if b∈out then some (.bool true) else none
section
variable {w w':World} {g p C:Nat} {U out:List Bd} {b:Bd}
theorem SeenM.made (w:World) (U:List Bd) (p C:Nat):SeenM (w.alloc (.map #[] 0)) w.heap.size U p C []:=⟨_,MapV.made _ _ w _,fun b _=>by simp⟩
theorem SeenM.frm {S:Nat->Prop} (h:SeenM w g U p C out) (hf:Frm S w w') (hn:¬S g):SeenM w' g U p C out:=let ⟨f,h1,h2⟩:=h;⟨f,h1.frm hf hn,h2⟩
theorem SeenM.below (h:SeenM w g U p C out) (hb:Below w.heap.size w w'):SeenM w' g U p C out:=let ⟨f,h1,h2⟩:=h;⟨f,h1.below hb,h2⟩
theorem SeenM.lt (h:SeenM w g U p C out):g<w.heap.size:=let ⟨_,h1,_⟩:=h;h1.lt
theorem SeenM.look (h:SeenM w g U p C out) (hp:p<=1000) (hb:Sd p C b):(Instr.lookup 192 (.map (some g)) (keyV b) false).run Tryz.prog w = .ok (.bool (decide (b∈out))) w:=by
 obtain⟨f,h1,h2⟩:=h
 have h3:=h1.look (t:=192) (e:=4) keyS Tryz.underlying192 (z:=.bool false) (by kernel_rfl) (keyOf_kb b (kb_len hb hp))
 rw[h3,h2 b hb]
 by_cases hm:b∈out
 ·rw[if_pos hm];simp[hm]
 ·rw[if_neg hm];simp[hm]
theorem SeenM.store (h:SeenM w g U p C out) (hC:C<=255) (hp:p<=1000) (hb:Sd p C b) (hU:b∈U) (hn:U.length<maxLen):∃w',(Instr.mapUpdate 192 (.map (some g)) (keyV b) (.bool true)).run Tryz.prog w = .ok () w'/\SeenM w' g U p C (out++[b])/\w.grownBy w' (some g):=by
 obtain⟨f,h1,h2⟩:=h
 obtain⟨w',q1,q2,q3⟩:=h1.store (t:=192) (e:=4) keyS Tryz.underlying192 (by simpa using hn) (keyOf_kb b (kb_len hb hp)) (val:=.bool true) (List.mem_map_of_mem hU)
 refine⟨w',q1,⟨_,q2,fun c hc=>?_⟩,q3⟩
 by_cases e:c=b
 ·subst e
  rw[gB,if_pos (by simp)]
 ·have hk:keyL c≠keyL b:=fun h9=>e (kbL_inj hC hc hb (by unfold keyL at h9;injection h9))
  rw[dQ _ hk,h2 c hc]
  simp[e]
end
open Go.RowKit
section
variable {P:Program} {w:World}
def Upd (n i:Nat) (v:Value) (L:Nat->Bool) (vs:Nat->Value) (L':Nat->Bool) (vs':Nat->Value):Prop:=
 L' i=true/\vs' i=v/\∀k,k<n->k≠i->L' k=L k/\vs' k=vs k
structure JInv (ops:Array Oper) (a0:Act) (n:Nat) (ds:Nat->Nat) (J:(Nat->Bool)->(Nat->Value)->World->Prop) (listed:Array Bool) (a:Act) (W:World):Prop where
 inv:HeadInv .any ops n listed
 df:a.defers=a0.defers
 sz:a.tmps.size=a0.tmps.size
 far:∀t,(∀i,i<n->ds i≠t)->a.tmps.getD t undef=a0.tmps.getD t undef
 j:J (fun k=>listed.getD k false) (fun k=>a.tmps.getD (ds k) undef) W
theorem cT {id:Nat} {Q:Exit->Act->World->Prop} {a:Act} {l:List Oper} (n:Nat) (X:Nat->Bool) (ds:Nat->Nat) (J:(Nat->Bool)->(Nat->Value)->World->Prop)
  (hm:P.follows .mixedOrders=true) (hB:earlyB l.toArray n X ds a.tmps.size=true) (hQ:∀(c:List PanicEntry) (a:Act) (d:Tmp) (v:Value) (w:World),Q (.panic c) (Act.put a (some d) v) w->Q (.panic c) a w)
  (start:∀vs,J (fun _=>false) vs { w with drawn:=w.drawn+1 })
  (early:∀i o,i<n→X i=true→l[i]? = some o→∀(L:Nat→Bool) (a':Act) (W:World),J L (fun k=>a'.tmps.getD (ds k) undef) W→L i=false→(∀t,(∀i,i<n→ds i≠t)→a'.tmps.getD t undef=a.tmps.getD t undef)→
   (∀j,j<n->Region.waitsFor .any l.toArray i j=true->L j=true)->∃v,(∀W',(execOp a'.eval o).run P W' = .ok (.value v) W')/\∀L' vs',Upd n i v L (fun k=>a'.tmps.getD (ds k) undef) L' vs'->J L' vs' W)
  (step:∀i o,i<n→X i=false→l[i]? = some o→∀(L:Nat→Bool) (a':Act) (W:World),J L (fun k=>a'.tmps.getD (ds k) undef) W→L i=false→(∀t,(∀i,i<n→ds i≠t)→a'.tmps.getD t undef=a.tmps.getD t undef)→
   (∀j,j<n->Region.waitsFor .any l.toArray i j=true->L j=true)->MStep P o a' W (fun v W'=>∀L' vs',Upd n i v L (fun k=>a'.tmps.getD (ds k) undef) L' vs'->J L' vs' W'))
  (tail:∀(L:Nat->Bool) (v:Nat->Value) (W:World),(∀i,i<n->L i=true)->J L v W->wpList P l.toArray Q (l.drop n) (putV a ds v n) W):
  (Code.region id l.toArray true).wp P Q a w:=by
 simp only[earlyB,Bool.and_eq_true,decide_eq_true_eq]at hB
 obtain⟨⟨⟨⟨⟨⟨hn,hs⟩,hc⟩,hq⟩,hsel⟩,hh⟩,hx⟩:=hB
 have hop:∀i,i<n->∃o,l.toArray[i]? = some o/\l[i]? = some o/\o.guard=none/\o.dst=some (ds i)/\ds i<a.tmps.size/\(∀e∈o.after,Region.binds .any e=true->e.on<i)/\∀j,j<n->i≠j->ds i≠ds j:=fun i hi=>by
  have h:=List.all_eq_true.1 hh i (List.mem_range.2 hi)
  rcases ho:l.toArray[i]? with _|o
  ·rw[ho]at h;cases h
  ·rw[ho]at h
   simp only[Bool.and_eq_true,decide_eq_true_eq]at h
   obtain⟨⟨⟨⟨h1,h2⟩,h3⟩,h4⟩,h5⟩:=h
   refine⟨o,rfl,by simpa using ho,by simpa using h1,h2,h3,fun e he hb=>?_,fun j hj hij=>?_⟩
   ·have h6:=(Array.all_eq_true'.1 h4) e he
    simpa[hb]using h6
   ·have h6:=List.all_eq_true.1 h5 j (List.mem_range.2 hj)
    simpa[hij]using h6
 have hdd:∀i j,i<n->j<n->i≠j->ds i≠ds j:=fun i j hi hj hij=>by obtain⟨_,_,_,_,_,_,_,h⟩:=hop i hi;exact h j hj hij
 have hdz:∀i,i<n->ds i<a.tmps.size:=fun i hi=>by obtain⟨_,_,_,_,_,h,_⟩:=hop i hi;exact h
 have H:∀(f:Nat) (listed:Array Bool) (a':Act) (W:World),cntL listed n+f=n->JInv l.toArray a n ds J listed a' W->wpAny P .any l.toArray Q (f+(l.toArray.size-n)) listed a' W:=by
  intro f
  induction f with
  | zero=>
   intro listed a' W hcnt I
   have hall:=eP (listed:=listed) (n:=n) (by omega)
   have hl:=io I.inv hall
   have hv:putV a ds (fun i=>a'.tmps.getD (ds i) undef) n=a':=by
    have e1:(putV a ds (fun i=>a'.tmps.getD (ds i) undef) n).tmps=a'.tmps:=by
     apply Array.ext
     ·rw[eD,I.sz]
     ·intro t h1 h2
      have e:∀(A:Array Value) (h:t<A.size),A[t]=A.getD t undef:=fun A h=>by simp[h]
      rw[e _ h1,e _ h2]
      by_cases hx:∃i,i<n/\ds i=t
      ·obtain⟨i,hi,rfl⟩:=hx
       exact lw a ds _ n hdz hdd i hi
      ·have hx':∀i,i<n->ds i≠t:=fun i hi he=>hx ⟨i,hi,he⟩
       rw[iY a ds _ n hx',I.far t hx']
    have e2:(putV a ds (fun i=>a'.tmps.getD (ds i) undef) n).defers=a'.defers:=by rw[ec,I.df]
    generalize putV a ds (fun i=>a'.tmps.getD (ds i) undef) n=x at *
    cases x;cases a'
    simp only at e1 e2
    rw[e1,e2]
   have ht:=tail (fun k=>listed.getD k false) (fun i=>a'.tmps.getD (ds i) undef) W (fun i hi=>hall i hi) I.j
   rw[hv]at ht;rw[Nat.zero_add]
   have hdl:(l.drop n).length=l.toArray.size-n:=by simp
   have:=wpAny_of_seq (md:=.any) (Q':=Q) (ops:=l.toArray) (l.drop n) n listed a' W (fun j=>by simp[List.getElem?_drop]) (by rw[hdl,hl];exact hq) ht
   rwa [hdl]at this
  | succ f ih=>
   intro listed a' W hcnt I
   by_cases hxr:∃x,x∈Region.ready .any l.toArray listed/\x<n/\X x=true
   ·obtain⟨x,hxr,hxn,hxX⟩:=hxr
    obtain⟨hun,o',ho',hall'⟩:=mem_ready.1 hxr;obtain⟨o,ho,hol,hg,hd,hz,_,_⟩:=hop x hxn;have:o'=o:=Option.some.inj (ho'.symm.trans ho);subst this
    obtain⟨v,hrun,hG⟩:=early x o' hxn hxX hol (fun k=>listed.getD k false) a' W I.j (getD_both hun) I.far fun j hj hw=>by
     obtain⟨oj,hoj,e,he,hb,hon⟩:=Region.waitsFor_spec hw;have:oj=o':=Option.some.inj (hoj.symm.trans ho');subst this
     have:=hall' e he hb;rwa [hon]at this
    have hfree:∀j oj,l.toArray[j]? = some oj->j≠x->listed.getD j true=false->(∀e∈oj.after,Region.binds .any e=true->e.on≠x)->o'.apart l.toArray oj=true:=fun j oj hj hjx hju hno=>by
     have h:=List.all_eq_true.1 hx x (List.mem_range.2 hxn);rw[hxX,ho']at h
     simp only[Bool.not_true,Bool.false_or]at h
     have h2:=List.all_eq_true.1 h j (List.mem_range.2 (Array.getElem?_eq_some_iff.1 hj).1);rw[hj]at h2
     simp only[Bool.or_eq_true,beq_iff_eq]at h2
     rcases h2 with ((h2|h2)|h2)|h2
     ·exact absurd h2 hjx
     ·obtain⟨oj',hoj',e,he,hb,hon⟩:=Region.waitsFor_spec h2
      have:oj'=oj:=Option.some.inj (hoj'.symm.trans hj);subst this
      exact absurd hon (hno e he hb)
     ·obtain⟨oj',hoj',e,he,hb,hon⟩:=Region.waitsFor_spec h2
      have:oj'=o':=Option.some.inj (hoj'.symm.trans ho');subst this;have h3:=hall' e he hb;rw[hon,getD_both hju]at h3
      cases h3
     ·exact h2
    have hsz:x<listed.size:=by rw[I.inv.size];omega
    rw[show f+1+(l.toArray.size-n)=(f+(l.toArray.size-n))+1 by omega]
    refine wpAny_first ho' (Region.noSelect_spec hsel) (fun c a w h=>hQ c a (ds x) v w (by rw[<- hd];exact h)) _ listed a' W hfree hxr (.inl ⟨by simp[Region.wanted,hg],hrun⟩) ?_
    rw[hd]
    refine ih _ _ _ (by rw[fj hsz (getD_both hun),if_pos hxn];omega) ⟨I.inv.set hxr hxn,by simp[Act.put,I.df],by simp[Act.put,I.sz],fun t ht=>?_,hG _ _ ⟨?_,?_,fun j hj hne=>⟨?_,?_⟩⟩⟩
    ·rw[aR _ (ht x hxn)];exact I.far t ht
    ·simp[hsz]
    ·exact ct _ (by rw[I.sz];exact hz) _
    ·exact getD_set_ne false (Ne.symm hne)
    ·exact aR _ (hdd x j hxn hj (Ne.symm hne)) _
   obtain⟨k,hk,hkf,hkl⟩:=gU (listed:=listed) (n:=n) (by omega)
   have hkr:k∈Region.ready .any l.toArray listed:=by
    obtain⟨o,ho,_,_,_,_,h5,_⟩:=hop k hk
    exact mem_ready.2 ⟨getD_in (by rw[I.inv.size];omega) hkf,o,ho,fun e he hb=>hkl _ (h5 e he hb)⟩
   have hkX:X k=false:=by
    rcases h:X k with _|_
    ·rfl
    ·exact absurd ⟨k,hkr,hk,h⟩ hxr
   rw[show f+1+(l.toArray.size-n)=(f+(l.toArray.size-n))+1 by omega]
   refine⟨fun h0=>(by rw[h0]at hkr;cases hkr),fun i hi=>?_⟩
   have hin:i<n:=by
    rcases Nat.lt_or_ge i n with h|h
    ·exact h
    ·exact absurd hi (iA hs hc hn I.inv _ k rfl hk hkX (getD_in (by rw[I.inv.size];omega) hkf) i h)
   have hiX:X i=false:=by
    rcases h:X i with _|_
    ·rfl
    ·exact absurd ⟨i,hi,hin,h⟩ hxr
   obtain⟨hun,o',ho',hall'⟩:=mem_ready.1 hi;obtain⟨o,ho,hol,hg,hd,hz,_,_⟩:=hop i hin;have:o'=o:=Option.some.inj (ho'.symm.trans ho);subst this
   have hst:=step i o' hin hiX hol (fun k=>listed.getD k false) a' W I.j (getD_both hun) I.far fun j hj hw=>by
    obtain⟨oj,hoj,e,he,hb,hon⟩:=Region.waitsFor_spec hw;have:oj=o':=Option.some.inj (hoj.symm.trans ho');subst this
    have:=hall' e he hb;rwa [hon]at this
   unfold wpOp;rw[ho']
   simp only[Region.wanted,hg]
   simp only[if_true]
   refine .inl (hst.wp fun v W' hgd=>?_)
   rw[hd]
   have hsz:i<listed.size:=by rw[I.inv.size];omega
   refine ih _ _ _ (by rw[fj hsz (getD_both hun),if_pos hin];omega) ⟨I.inv.set hi hin,by simp[Act.put,I.df],by simp[Act.put,I.sz],fun t ht=>?_,hgd _ _ ⟨?_,?_,fun j hj hne=>⟨?_,?_⟩⟩⟩
   ·rw[aR _ (ht i hin)];exact I.far t ht
   ·simp[hsz]
   ·exact ct _ (by rw[I.sz];exact hz) _
   ·exact getD_set_ne false (Ne.symm hne)
   ·exact aR _ (hdd i j hin hj (Ne.symm hne)) _
 refine wp_region_any hm ?_
 have:=H n (Array.replicate l.toArray.size false) a { w with drawn:=w.drawn+1 } (by rw[gT];omega)
  ⟨⟨by simp, fun j oj _ hl => (by rw [getD_replicate_false] at hl; cases hl), fun t _ ht => getD_in (by simpa using ht) (getD_replicate_false _ _)⟩, rfl, rfl, fun _ _ => rfl, by
    have h := start (fun k => a.tmps.getD (ds k) undef)
    have e : (fun k => (Array.replicate l.toArray.size false).getD k false) = fun _ => false := funext fun k => getD_replicate_false _ _
    rw [e]; exact h⟩
 rwa [show n+(l.toArray.size-n)=l.toArray.size by omega]at this
end
open Go.RowKit Pl
theorem fP {P:Program} (w:World) (base:Nat) (t ty e:TypeId) (i:TypeInfo) (size c:Nat) (ht:P.underlying t=some (.slice e)) (hi:P.info? e=some i)
  (v:Value) (n:Nat) (xs:List Value) (hown:w.ownsRow base e size v n xs):
  (Builtin.append_ #[t,t] ty #[v,E none 0 c]).run P w = .ok v w:=by
 rcases hown.2 with⟨rfl,rfl⟩|⟨g,cap,cur,rfl,_,_,hnc,_⟩
 ·simp[Builtin.append_,run_underlying ht,sizeOf,typeInfo,hi,Builtin.lenOf,Builtin.firstCells]
 ·simp[Builtin.append_,run_underlying ht,sizeOf,typeInfo,hi,Builtin.lenOf,Builtin.firstCells,hnc,storeCells]
theorem grownBy_self (w:World) (q:Option Nat):w.grownBy w q:=⟨rfl,rfl,rfl,Nat.le_refl _,fun _ _ _=>rfl⟩
theorem cU {P:Program} (w:World) (base:Nat) (t ty e:TypeId) (i:TypeInfo) (z:Value) (size bytes:Nat) (ht:P.underlying t=some (.slice e)) (hi:P.info? e=some i) (hz:i.zero=some z)
  (hsize:i.size=size) (hby:i.bytes=bytes) (hzs:z.cells.size=size) (hsz:0<size)
  (v:Value) (n:Nat) (xs:List Value) (hown:w.ownsRow base e size v n xs)
  (S:Nat->Prop) (A:Option Addr) (m c:Nat) (news:List Value) (hn:SLZ size S w A m news) (h1:∀u∈news,u.oneCell'=true)
  (h63:n+m<=maxLen) (hbytes:(n+m)*bytes<=140737488355328) (hbase:base<=w.heap.size):
  ∃v' w',(Builtin.append_ #[t,t] ty #[v,E A m c]).run P w = .ok v' w'/\w'.ownsRow base e size v' (n+m) (xs++news)/\w.grownBy w' v.ownBlock/\(v'.ownBlock=v.ownBlock\/v'.ownBlock=some w.heap.size):=by
 by_cases hm:m=0/\A=none
 ·obtain⟨rfl,rfl⟩:=hm
  have hnil:news=[]:=List.eq_nil_of_length_eq_zero (by have:=hn.1;omega)
  subst hnil
  exact⟨v,w,fP (P:=P) w base t ty e i size c ht hi v n xs hown,by simpa using hown,grownBy_self w _,.inl rfl⟩
 ·obtain⟨ad,rfl⟩:∃ad,A=some ad:=by
   rcases Nat.eq_zero_or_pos m with h0|h0
   ·rcases A with _|ad
    ·exact absurd ⟨h0,rfl⟩ hm
    ·exact⟨ad,rfl⟩
   ·obtain⟨b,off,hA,_⟩:=hn.2 h0
    exact⟨_,hA⟩
  obtain⟨v',w',q1,q2,q3,_,q5⟩:=run_append_own_at (P:=P) w base t ty e i z size bytes ht hi hz hsize hby hzs hsz v n xs hown ad m c news hn.1 (fun j u hj=>by
   have hj2:=(List.getElem?_eq_some_iff.1 hj).1
   have hm0:0<m:=by
    rcases Nat.eq_zero_or_pos m with h0|h0
    ·have:=hn.1;rw[h0]at this;omega
    ·exact h0
   obtain⟨b,off,hA,_,_,hc⟩:=hn.2 hm0;injection hA with hA;subst hA
   have h5:=hc j (by have:=hn.1;omega)
   rw[show news.getD j undef=u by rw[List.getD_eq_getElem?_getD,hj];rfl]at h5
   unfold Addr.add
   split
   ·rename_i h0
    rw[h0,Nat.add_zero]at h5;exact h5
   ·exact h5) h1 h63 hbytes hbase
  exact⟨v',w',q1,q2,q3,q5⟩
def appC (p s n n1 st:Value):Nat->Option Value
 | 0=>some p
 | 1=>some s
 | 2=>some n
 | 3=>some n1
 | 5=>some p
 | 6=>some s
 | 8=>some st
 | _=>none
structure JG (V:World) (T:TypeId) (c:Nat->Option Value) (vs st:List Value) (n0:Nat) (L:Nat->Bool) (u:Nat->Value) (W:World):Prop where
 b:Below V.heap.size V W
 k:∀i,i<11->L i=true->∀y,c i=some y->u i=y
 w7:L 7=true->L 4=true
 w10:L 10=true->L 7=true/\L 9=true
 r4:L 4=true->L 7=false->W.ownsRow V.heap.size T 4 (u 4) 0 []
 r7:L 7=true->L 10=false->W.ownsRow V.heap.size T 4 (u 7) n0 vs
 r10:L 10=true->W.ownsRow V.heap.size T 4 (u 10) (n0+1) (vs++st)
 s9:L 9=true->L 10=false->∃g,u 9 = E (some ⟨g,0,none⟩) 1 1/\V.heap.size<=g/\g<W.heap.size/\(∀i,i<st.length->W.cell? ⟨g,0+i,none⟩=some (st.getD i undef))/\(L 4=true->L 7=false->(u 4).ownBlock≠some g)/\(L 7=true->(u 7).ownBlock≠some g)
section
variable {V W W':World} {T:TypeId} {c:Nat->Option Value} {vs st:List Value} {n0 i:Nat} {L L':Nat->Bool} {u u':Nat->Value} {v:Value}
theorem JG.start (V:World) (T:TypeId) (c:Nat->Option Value) (vs st:List Value) (n0:Nat) (u:Nat->Value):JG V T c vs st n0 (fun _=>false) u V.drew:=
 ⟨Below.drew (Below.refl _ _),fun _ _ h=>(by cases h),fun h=>(by cases h),fun h=>(by cases h),fun h=>(by cases h),fun h=>(by cases h),fun h=>(by cases h),fun h=>(by cases h)⟩
theorem JG.pure (H:JG V T c vs st n0 L u W) (hu:Upd 11 i v L u L' u') (h1:i≠4/\i≠7/\i≠9/\i≠10) (hv:∀y,c i=some y->v=y):JG V T c vs st n0 L' u' W:=by
 obtain⟨a1,a2,a3⟩:=hu
 obtain⟨l4,u4⟩:=a3 4 (by omega) (by omega)
 obtain⟨l7,u7⟩:=a3 7 (by omega) (by omega)
 obtain⟨l9,u9⟩:=a3 9 (by omega) (by omega)
 obtain⟨l10,u10⟩:=a3 10 (by omega) (by omega)
 refine⟨H.b,fun j hj hl y hy=>?_,(by rw[l4,l7];exact H.w7),(by rw[l7,l9,l10];exact H.w10),(by rw[l4,l7,u4];exact H.r4),(by rw[l7,l10,u7];exact H.r7),(by rw[l10,u10];exact H.r10),(by rw[l9,l10,l4,l7,u4,u7,u9];exact H.s9)⟩
 by_cases e:j=i
 ·subst e;rw[a2];exact hv y hy
 ·obtain⟨lj,uj⟩:=a3 j hj e
  rw[uj];rw[lj]at hl;exact H.k j hj hl y hy
theorem JG.no10 (H:JG V T c vs st n0 L u W) (h:L 7=false\/L 9=false):L 10=false:=by
 rcases h9:L 10 with _|_
 ·rfl
 ·have:=H.w10 h9
  rcases h with h|h
  ·rw[h]at this;cases this.1
  ·rw[h]at this;cases this.2
theorem JG.no7 (H:JG V T c vs st n0 L u W) (h:L 4=false):L 7=false:=by
 rcases h9:L 7 with _|_
 ·rfl
 ·have:=H.w7 h9;rw[h]at this;cases this
theorem JG.keep (H:JG V T c vs st n0 L u W) (hu:Upd 11 i v L u L' u') (hc:c i=none):∀j,j<11->L' j=true->∀y,c j=some y->u' j=y:=fun j hj hl y hy=>by
 by_cases e:j=i
 ·subst e;rw[hc]at hy;cases hy
 ·obtain⟨lj,uj⟩:=hu.2.2 j hj e
  rw[uj];rw[lj]at hl;exact H.k j hj hl y hy
theorem JG.make (H:JG V T c vs st n0 L u W) (hu:Upd 11 4 v L u L' u') (h4:L 4=false) (hc:c 4=none) (ho:W'.ownsRow V.heap.size T 4 v 0 []) (hg:W.grownBy W' none) (hv:v.ownBlock=some W.heap.size):JG V T c vs st n0 L' u' W':=by
 have h7:=H.no7 h4;have h10:=H.no10 (.inl h7)
 obtain⟨l7,u7⟩:=hu.2.2 7 (by omega) (by omega)
 obtain⟨l9,u9⟩:=hu.2.2 9 (by omega) (by omega)
 obtain⟨l10,u10⟩:=hu.2.2 10 (by omega) (by omega)
 refine⟨H.b.grown hg H.b.size (fun x hx=>by cases hx),H.keep hu hc,fun _=>hu.1,fun h=>(by rw[l10,h10]at h;cases h),fun _ _=>(by rw[hu.2.1];exact ho),fun h=>(by rw[l7,h7]at h;cases h),fun h=>(by rw[l10,h10]at h;cases h),fun h _=>?_⟩
 rw[l9]at h;obtain⟨g,q1,q2,q3,q4,_,_⟩:=H.s9 h h10
 refine⟨g,(by rw[u9];exact q1),q2,Nat.lt_of_lt_of_le q3 hg.size,fun i hi=>hg.cell (q4 i hi) (by simp),fun _ _=>?_,fun h=>(by rw[l7,h7]at h;cases h)⟩
 rw[hu.2.1,hv]
 intro e;injection e with e;omega
theorem JG.bsl (H:JG V T c vs st n0 L u W) (hu:Upd 11 9 (E (some ⟨W.heap.size,0,none⟩) 1 1) L u L' u') (h9:L 9=false) (hc:c 9=none) (T':TypeId):JG V T c vs st n0 L' u' (W.alloc (M st.toArray T')):=by
 have h10:=H.no10 (.inr h9)
 obtain⟨l4,u4⟩:=hu.2.2 4 (by omega) (by omega)
 obtain⟨l7,u7⟩:=hu.2.2 7 (by omega) (by omega)
 obtain⟨l10,u10⟩:=hu.2.2 10 (by omega) (by omega)
 have hb:Below W.heap.size W (W.alloc (M st.toArray T')):=(Below.refl _ _).alloc (Nat.le_refl _) _
 refine⟨H.b.alloc H.b.size _,H.keep hu hc,(by rw[l4,l7];exact H.w7),fun h=>(by rw[l10,h10]at h;cases h),fun h h'=>?_,fun h h'=>?_,fun h=>(by rw[l10,h10]at h;cases h),fun _ _=>?_⟩
 ·rw[l4]at h;rw[l7]at h';rw[u4];exact (H.r4 h h').alloc _
 ·rw[l7]at h;rw[u7];exact (H.r7 h h10).alloc _
 ·refine⟨W.heap.size,hu.2.1,H.b.size,by simp,fun i hi=>?_,fun h h' e=>?_,fun h e=>?_⟩
  ·rw[Nat.zero_add]
   exact (Cel.new W st.toArray T').cell i _ (by simp[List.getD,hi])
  ·rw[l4]at h;rw[l7]at h';rw[u4]at e
   have:=(World.ownsRow.lt (H.r4 h h') _ e).2
   omega
  ·rw[l7]at h;rw[u7]at e
   have:=(World.ownsRow.lt (H.r7 h h10) _ e).2
   omega
theorem JG.app1 (H:JG V T c vs st n0 L u W) (hu:Upd 11 7 v L u L' u') (h7:L 7=false) (h4:L 4=true) (hc:c 7=none) (ho:W'.ownsRow V.heap.size T 4 v n0 vs) (hg:W.grownBy W' (u 4).ownBlock) (hat:v.ownBlock=(u 4).ownBlock\/v.ownBlock=some W.heap.size):JG V T c vs st n0 L' u' W':=by
 have h10:=H.no10 (.inl h7);have hr:=H.r4 h4 h7
 obtain⟨l4,u4⟩:=hu.2.2 4 (by omega) (by omega)
 obtain⟨l9,u9⟩:=hu.2.2 9 (by omega) (by omega)
 obtain⟨l10,u10⟩:=hu.2.2 10 (by omega) (by omega)
 refine⟨H.b.grown hg H.b.size (fun x hx=>(World.ownsRow.lt hr x hx).1),H.keep hu hc,fun _=>(by rw[l4];exact h4),fun h=>(by rw[l10,h10]at h;cases h),fun _ h=>(by rw[hu.1]at h;cases h),fun _ _=>(by rw[hu.2.1];exact ho),fun h=>(by rw[l10,h10]at h;cases h),fun h _=>?_⟩
 rw[l9]at h;obtain⟨g,q1,q2,q3,q4,q5,_⟩:=H.s9 h h10;have hne:=q5 h4 h7
 refine⟨g,(by rw[u9];exact q1),q2,Nat.lt_of_lt_of_le q3 hg.size,fun i hi=>hg.cell (q4 i hi) (fun e=>hne e.symm),fun _ h=>(by rw[hu.1]at h;cases h),fun _ e=>?_⟩
 rw[hu.2.1]at e
 rcases hat with h'|h'
 ·rw[h']at e;exact hne e
 ·rw[h']at e;injection e with e;omega
theorem JG.app2 (H:JG V T c vs st n0 L u W) (hu:Upd 11 10 v L u L' u') (h10:L 10=false) (h7:L 7=true) (h9:L 9=true) (hc:c 10=none) (ho:W'.ownsRow V.heap.size T 4 v (n0+1) (vs++st)) (hg:W.grownBy W' (u 7).ownBlock):JG V T c vs st n0 L' u' W':=by
 have hr:=H.r7 h7 h10
 obtain⟨l4,u4⟩:=hu.2.2 4 (by omega) (by omega)
 obtain⟨l7,u7⟩:=hu.2.2 7 (by omega) (by omega)
 obtain⟨l9,u9⟩:=hu.2.2 9 (by omega) (by omega)
 exact⟨H.b.grown hg H.b.size (fun x hx=>(World.ownsRow.lt hr x hx).1),H.keep hu hc,(by rw[l4,l7];exact H.w7),fun _=>⟨(by rw[l7];exact h7),(by rw[l9];exact h9)⟩,fun _ h=>(by rw[l7,h7]at h;cases h),fun _ h=>(by rw[hu.1]at h;cases h),fun _=>(by rw[hu.2.1];exact ho),fun _ h=>(by rw[hu.1]at h;cases h)⟩
end
open Go.RowKit Pl
def u8K (l:List UInt8):List Value:=l.map fun b=>.int .u8 ((b.toNat:Nat):Int)
def kb1 (l:List Int):List UInt8:=l.map fun x=>UInt8.ofNat x.toNat
theorem kb1_snoc (pre l:List Int) (k:Nat) (hk:k<l.length) (h0:0<=l.getD k 0) (h1:l.getD k 0<=255):u8K (kb1 (pre++l.take (k+1)))=u8K (kb1 (pre++l.take k))++[.int .u8 (l.getD k 0)]:=by
 rw[bO 0 hk];unfold u8K kb1
 simp only[List.map_append,List.map_cons,List.map_nil,List.append_assoc]
 rw[UInt8.toNat_ofNat',show (((l.getD k 0).toNat % 2 ^ 8:Nat):Int)=l.getD k 0 by omega]
theorem wrap_u8 {x:Int} (h0:0<=x) (h1:x<=255):IntKind.wrap .u8 x=x:=by
 simp[IntKind.wrap,IntKind.bits,IntKind.signed];omega
theorem Tryz.infoU8k:(Tryz.prog.info? 5).map (fun i=>(i.zero,i.size,i.bytes))=some (some (.int .u8 0),1,1):=by kernel_rfl
theorem row_convK {w:World} {base n:Nat} {v:Value} {l:List UInt8} (h:w.ownsRow base 5 1 v n (u8K l)):(convert 61 9 v).run Tryz.prog w = .ok (.string ⟨l.toArray⟩) w:=by
 have hl:l.length=n:=by have:=h.1;simp only[u8K,List.length_map]at this;omega
 rcases h.2 with⟨h1,h2⟩|⟨g,cap,cur,h1,_⟩
 ·have h0:l=[]:=List.eq_nil_of_length_eq_zero (by omega)
  subst h0 h1
  exact run_convert_bytes_nil w 61 5 Tryz.underlying61 Tryz.underlying5 0 0 9 Tryz.underlying9
 ·have hc:=World.ownsRow.cells h (g:=g) (by rw[h1];rfl)
  rw[h1,<- hl]
  refine run_convert_bytes_back w 61 9 5 ⟨g,0,none⟩ cap l Tryz.underlying61 Tryz.underlying5 Tryz.underlying9 fun j hj=>hc j _ ?_
  unfold u8K
  rw[List.getElem?_map,List.getElem?_eq_getElem hj];rfl
theorem iL (A1 A2:Option Addr) (n1 c1 n2 c2:Nat) (own other:List Int) (w:World) (h1:SL w A1 n1 own) (h2:SL w A2 n2 other) (hx1:∀x∈own,0<=x/\x<=255) (hx2:∀x∈other,0<=x/\x<=255) (hn1:n1<=1000) (hn2:n2<=1000):
  Calls Tryz.prog 171 #[.agg #[E A1 n1 c1,E A2 n2 c2]] w fun e w'=>e = .returned (keyV (own,other))/\Below w.heap.size w w':=by
 obtain⟨j0,hj,jz0,jz1,jz2⟩:=info_parts Tryz.infoU8k
 have H1:=h_ fun (W:World) (hw:Below w.heap.size w W)=>h1.below hw
 have H2:=h_ fun (W:World) (hw:Below w.heap.size w W)=>h2.below hw
 have hl1:own.length=n1:=h1.1;have hl2:other.length=n2:=h2.1
 have HX1:Hid (∀k,k<own.length->0<=own.getD k 0/\own.getD k 0<=255):=fun k hk=>hx1 _ (aZ own k hk)
 have HX2:Hid (∀k,k<other.length->0<=other.getD k 0/\other.getD k 0<=255):=fun k hk=>hx2 _ (aZ other k hk)
 have HE1:Hid (own.take n1=own):=by unfold Hid;rw[<- hl1,List.take_length]
 have HE2:Hid (other.take n2=other):=by unfold Hid;rw[<- hl2,List.take_length]
 have HF0:Hid (Fr w (w.alloc (M #[E A1 n1 c1,E A2 n2 c2] 35)) [[E A1 n1 c1,E A2 n2 c2]]):=(Fr.start w).allocT (by simp) _ _
 obtain⟨W',hrun,hown,hgr⟩:=run_make_own (P:=Tryz.prog) (w.alloc (M #[E A1 n1 c1,E A2 n2 c2] 35)) (w.heap.size+1) 61 5 j0 (.int .u8 0) 1 Tryz.underlying61 hj jz0 jz1 .i64 .i64 (n1+n2) (by rw[jz2];omega) (by unfold maxLen;omega) (by simp)
 rw[show (((n1+n2:Nat)):Int)=(n1:Int)+(n2:Int) by omega,show (w.alloc (M #[E A1 n1 c1,E A2 n2 c2] 35)).heap.size=w.heap.size+1 by simp]at hrun
 have HF:Hid (Fr w W' [[E A1 n1 c1,E A2 n2 c2]]):=HF0.out.frm (Frm.of_grown hgr) (fun k hk=>by cases hk) (fun k hk=>by cases hk)
 have HO:Hid (W'.ownsRow (w.heap.size+1) 5 1 (E (some ⟨w.heap.size+1,0,none⟩) 0 (n1+n2)) 0 []):=by
  have hz:(w.alloc (M #[E A1 n1 c1,E A2 n2 c2] 35)).heap.size=w.heap.size+1:=by simp
  rw[hz]at hown
  exact hown
 clear h1 h2 hx1 hx2 hown hgr;obtain⟨z0,c00,f00,c01,f01⟩:=HF.out.xf4
 go_enter Tryz.func171,Tryz.ntmps171
 go_wp2_with (fail)
 go_loopw [3,19] (fun v3 v19 wr=>∃(k:Nat),k<=n1/\v19 = .int .i64 k/\(∃vx,vx=v3/\Hid (wr.ownsRow (w.heap.size+1) 5 1 vx (0+k) (u8K (kb1 (own.take k)))))/\Hid (Fr w wr [[E A1 n1 c1,E A2 n2 c2]])) (fun _ v19 _=>n1-(intOf v19).toNat)
 case atStart=>exact⟨0,by omega,rfl,⟨_,rfl,by exact HO.out⟩,HF.out⟩
 case round=>
  clear HF HO;obtain⟨k,hk,rfl,⟨vx,rfl,HO⟩,HF⟩:=hrel
  by_cases hlt:k<n1
  ·have hki:(k:Int)<(n1:Int):=by omega
   obtain⟨b,off,rfl,hbl,hcell⟩:=(H1.out wr HF.out.b).2 (by omega)
   have hx0:=hcell k hlt
   have hxr:=HX1.out k (by omega)
   have hw8:=wrap_u8 hxr.1 hxr.2
   have HNX:Hid (u8K (kb1 (own.take (k+1)))=u8K (kb1 (own.take k))++[.int .u8 (own.getD k 0)]):=kb1_snoc [] own k (by omega) hxr.1 hxr.2
   generalize own.getD k 0=y at *;have HROW:Hid ((wr.alloc (M #[.int .u8 y] 5)).ownsRow (w.heap.size+1) 5 1 vx (0+k) (u8K (kb1 (own.take k)))):=World.ownsRow.alloc HO.out _
   have HNW:Hid (∀j u,[Value.int .u8 y][j]? = some u->(wr.alloc (M #[.int .u8 y] 5)).cell? ((⟨wr.heap.size,0,none⟩:Addr).add j)=some u):=fun j u hj=>by
    match j,hj with
    | 0,hj=>simp at hj;subst hj;simp[go_sem,Addr.add]
    | j+1,hj=>simp at hj
   have HFA:=h_ (HF.out.alloc (M #[.int .u8 y] 5));have hzr:w.heap.size+1<=wr.heap.size:=HF.out.z
   have HFIN:Hid (∀v' w4 q,w4.ownsRow (w.heap.size+1) 5 1 v' (0+k+1) (u8K (kb1 (own.take k))++[.int .u8 y])->(wr.alloc (M #[.int .u8 y] 5)).grownBy w4 q->q=vx.ownBlock->
     Hid (w4.ownsRow (w.heap.size+1) 5 1 v' (0+(k+1)) (u8K (kb1 (own.take (k+1)))))/\Hid (Fr w w4 [[E (some ⟨b,off,none⟩) n1 c1,E A2 n2 c2]])):=fun v' w4 q ho hg hq=>by
    subst hq
    refine⟨by rw[HNX.out];exact ho,HFA.out.frm (Frm.of_grown hg) (fun k hk=>?_) (fun k hk=>?_)⟩<;>(have:=(World.ownsRow.lt HO.out k hk.symm).1;first|omega|(simp;omega))
   obtain⟨z0,c00,f00,c01,f01⟩:=HF.out.xf4;clear HO HF HNX hcell
   go_wp2_with (at_builtin;(refine wpList_append_own_at _ rfl _ _ 61 rfl (w.heap.size+1) 5 j0 (.int .u8 0) 1 1 Tryz.underlying61 hj jz0 jz1 jz2 rfl (by decide) _ _ _ rfl HROW.out ⟨wr.heap.size,0,none⟩ 1 1 [.int .u8 y] rfl rfl HNW.out (fun u hu=>by simp at hu;subst hu;rfl) (by unfold maxLen;omega) (by omega) (by simp;omega) ?_);intro v' w4 hown hgrow _ hat)
   obtain⟨HO2,HF2⟩:=HFIN.out v' w4 _ hown hgrow rfl;clear hown hgrow HFIN HROW HNW hat
   exact⟨⟨k+1,by omega,by go_num,⟨v',rfl,HO2⟩,HF2⟩,by simp[intOf];omega⟩
  ·have hki:¬(k:Int)<(n1:Int):=by omega
   have ek:k=n1:=by omega
   have HO2:Hid (wr.ownsRow (w.heap.size+1) 5 1 vx n1 (u8K (kb1 own))):=by
    have h:=HO.out;rw[Nat.zero_add,ek,HE1.out]at h
    exact h
   replace HO:=HO2;clear HO2 ek;obtain⟨z0,c00,f00,c01,f01⟩:=HF.out.xf4
   go_wp2_with (fail)
   obtain⟨wa,rfl⟩:∃wa:World,wa=wr:=⟨_,rfl⟩
   go_loopw [3,32] (fun v3 v32 wr=>∃(k:Nat),k<=n2/\v32 = .int .i64 k/\(∃vx,vx=v3/\Hid (wr.ownsRow (w.heap.size+1) 5 1 vx (n1+k) (u8K (kb1 (own++other.take k)))))/\Hid (Fr w wr [[E A1 n1 c1,E A2 n2 c2]])) (fun _ v32 _=>n2-(intOf v32).toNat)
   case atStart=>exact⟨0,by omega,rfl,⟨_,rfl,by rw[Nat.add_zero,List.take_zero,List.append_nil];exact HO.out⟩,HF.out⟩
   case round=>
    clear HF HO;obtain⟨k,hk,rfl,⟨vx,rfl,HO⟩,HF⟩:=hrel
    by_cases hlt:k<n2
    ·have hki:(k:Int)<(n2:Int):=by omega
     obtain⟨b,off,rfl,hbl,hcell⟩:=(H2.out wr HF.out.b).2 (by omega)
     have hx0:=hcell k hlt
     have hxr:=HX2.out k (by omega)
     have hw8:=wrap_u8 hxr.1 hxr.2
     have HNX:Hid (u8K (kb1 (own++other.take (k+1)))=u8K (kb1 (own++other.take k))++[.int .u8 (other.getD k 0)]):=kb1_snoc own other k (by omega) hxr.1 hxr.2
     generalize other.getD k 0=y at *;have HROW:Hid ((wr.alloc (M #[.int .u8 y] 5)).ownsRow (w.heap.size+1) 5 1 vx (n1+k) (u8K (kb1 (own++other.take k)))):=World.ownsRow.alloc HO.out _
     have HNW:Hid (∀j u,[Value.int .u8 y][j]? = some u->(wr.alloc (M #[.int .u8 y] 5)).cell? ((⟨wr.heap.size,0,none⟩:Addr).add j)=some u):=fun j u hj=>by
      match j,hj with
      | 0,hj=>simp at hj;subst hj;simp[go_sem,Addr.add]
      | j+1,hj=>simp at hj
     have HFA:=h_ (HF.out.alloc (M #[.int .u8 y] 5));have hzr:w.heap.size+1<=wr.heap.size:=HF.out.z
     have HFIN:Hid (∀v' w4 q,w4.ownsRow (w.heap.size+1) 5 1 v' (n1+k+1) (u8K (kb1 (own++other.take k))++[.int .u8 y])->(wr.alloc (M #[.int .u8 y] 5)).grownBy w4 q->q=vx.ownBlock->
       Hid (w4.ownsRow (w.heap.size+1) 5 1 v' (n1+(k+1)) (u8K (kb1 (own++other.take (k+1)))))/\Hid (Fr w w4 [[E A1 n1 c1,E (some ⟨b,off,none⟩) n2 c2]])):=fun v' w4 q ho hg hq=>by
      subst hq
      refine⟨by rw[HNX.out];exact ho,HFA.out.frm (Frm.of_grown hg) (fun k hk=>?_) (fun k hk=>?_)⟩<;>(have:=(World.ownsRow.lt HO.out k hk.symm).1;first|omega|(simp;omega))
     obtain⟨z0,c00,f00,c01,f01⟩:=HF.out.xf4;clear HO HF HNX hcell
     go_wp2_with (at_builtin;(refine wpList_append_own_at _ rfl _ _ 61 rfl (w.heap.size+1) 5 j0 (.int .u8 0) 1 1 Tryz.underlying61 hj jz0 jz1 jz2 rfl (by decide) _ _ _ rfl HROW.out ⟨wr.heap.size,0,none⟩ 1 1 [.int .u8 y] rfl rfl HNW.out (fun u hu=>by simp at hu;subst hu;rfl) (by unfold maxLen;omega) (by omega) (by simp;omega) ?_);intro v' w4 hown hgrow _ hat)
     obtain⟨HO2,HF2⟩:=HFIN.out v' w4 _ hown hgrow rfl;clear hown hgrow HFIN HROW HNW hat
     exact⟨⟨k+1,by omega,by go_num,⟨v',rfl,HO2⟩,HF2⟩,by simp[intOf];omega⟩
    ·have hki2:¬(k:Int)<(n2:Int):=by omega
     have HT:Hid (Value.string ⟨(kb1 (own++other.take k)).toArray⟩=keyV (own,other)):=by unfold Hid;rw[show k=n2 by omega,HE2.out];rfl
     have hcv:=row_convK HO.out;rw[HT.out]at hcv
     go_wp2_with (fail)
     go_ret
     exact⟨rfl,HF.out.b⟩
end Go.Proofs.YtcmeoenkgmghkaaGreat

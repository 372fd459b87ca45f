/- Joined texts of one proof: Mem, Map, QT, QM, QR, QX, Fr, QA, Fr2, Pw. Each part tells what it shows. There are no conditions. -/
import Derived.Test.YtkaiilmgemaljaaGreatPZa
import Derived.Test.YtkaiilmgemaljaaGreatPZp
import Derived.Maps.OwnSet
import Derived.Maps.Ext
import Derived.StillTail
import Derived.StillTailTactics
import Derived.Maps.AppendAt
set_option linter.unusedVariables false
set_option linter.unusedSimpArgs false
/- Words for memory that race tables use: a frame that spares some blocks, slices whose elements are slices or small structs. No statement is proved here; there are no conditions. -/
namespace Go.Proofs.YtkaiilmgemaljaaGreat
open Go.RowKit
structure Frm (S:Nat→Prop) (w w':World):Prop where
 os:w'.os=w.os
 tape:w'.tape=w.tape
 output:w'.output=w.output
 size:w.heap.size≤w'.heap.size
 block:∀k,k<w.heap.size→¬S k→w'.heap[k]? = w.heap[k]?
theorem Frm.of_grown {w w':World} {r:Option Nat} (h:w.grownBy w' r):Frm (fun k=>some k=r) w w':=⟨h.os,h.tape,h.output,h.size,fun k hk hn=>h.block k hk hn⟩
theorem Frm.of_below {w w':World} (h:Below w.heap.size w w'):Frm (fun _=>False) w w':=⟨h.os,h.tape,h.output,h.size,fun k hk _=>h.block k hk⟩
theorem Frm.mono {S T:Nat→Prop} {w w':World} (h:Frm S w w') (hst:∀k,S k→T k):Frm T w w':=⟨h.os,h.tape,h.output,h.size,fun k hk hn=>h.block k hk fun hs=>hn (hst k hs)⟩
theorem Frm.trans {S:Nat→Prop} {a b c:World} (h:Frm S a b) (k:Frm S b c):Frm S a c:=
 ⟨k.os.trans h.os,k.tape.trans h.tape,k.output.trans h.output,Nat.le_trans h.size k.size,fun i hi hn=>(k.block i (Nat.lt_of_lt_of_le hi h.size) hn).trans (h.block i hi hn)⟩
theorem Frm.below {S:Nat→Prop} {w w':World} (h:Frm S w w') {B:Nat} (hB:B≤w.heap.size) (hS:∀k,S k→B≤k):Below B w w':=
 ⟨h.os,h.tape,h.output,h.size,fun k hk=>h.block k (by omega) fun hs=>by have:=hS k hs;omega⟩
theorem Frm.cell {S:Nat→Prop} {w w':World} (h:Frm S w w') {a:Addr} {v:Value} (hc:w.cell? a=some v) (hn:¬S a.block):w'.cell? a=some v:=
 (World.cell?_of_block (h.block a.block (World.block_lt_of_cell? w a hc) hn)).trans hc
theorem Frm.cell' {S:Nat→Prop} {w w':World} {b i:Nat} {v:Value} (h:Frm S w w') (hc:w.cell? ⟨b,i,none⟩=some v) (hn:¬S b):w'.cell? ⟨b,i,none⟩=some v:=h.cell hc hn
theorem Frm.row {S:Nat→Prop} {w w':World} {base size n:Nat} {e:TypeId} {v:Value} {cs:List Value} (h:Frm S w w') (ho:w.ownsRow base e size v n cs) (hn:∀k,v.ownBlock=some k→¬S k):w'.ownsRow base e size v n cs:=by
 obtain⟨h1,h2⟩:=ho
 refine⟨h1,?_⟩
 rcases h2 with h2|⟨g,cap,cur,hv,hb,hh,r⟩
 ·exact .inl h2
 ·refine .inr ⟨g,cap,cur,hv,hb,?_,r⟩
  rw[h.block g (Array.getElem?_eq_some_iff.1 hh).1 (hn g (by rw[hv];rfl))]
  exact hh
theorem Frm.own {S:Nat→Prop} {w w':World} {base:Nat} {e:TypeId} {v:Value} {xs:List Int} (h:Frm S w w') (ho:OwnS w base e v xs) (hn:∀k,v.ownBlock=some k→¬S k):OwnS w' base e v xs:=h.row ho hn
theorem Frm.refl (S:Nat→Prop) (w:World):Frm S w w:=⟨rfl,rfl,rfl,Nat.le_refl _,fun _ _ _=>rfl⟩
theorem Frm.alloc {S:Nat→Prop} {w w':World} (h:Frm S w w') (o:Obj):Frm S w (w'.alloc o):=h.trans ((Frm.of_below ((Below.refl _ _).alloc (Nat.le_refl _) o)).mono fun _ h=>h.elim)
theorem Frm.drew {S:Nat→Prop} {w w':World} (h:Frm S w w'):Frm S w w'.drew:=⟨h.os,h.tape,h.output,h.size,h.block⟩
theorem Frm.drewN {S:Nat→Prop} {w w':World} (h:Frm S w w') (k:Nat):Frm S w (w'.drewN k):=⟨h.os,h.tape,h.output,h.size,h.block⟩
theorem Frm.of_below' (S:Nat→Prop) {w w':World} (h:Below w.heap.size w w'):Frm S w w':=(Frm.of_below h).mono fun _ h=>h.elim
/-! ### slices outside the blocks of S -/
def SLa (S:Nat→Prop) (w:World) (A:Option Addr) (n:Nat) (xs:List Int):Prop:=SL w A n xs∧∀b off s,A=some ⟨b,off,s⟩→¬S b
def SLZ (z:Nat) (S:Nat→Prop) (w:World) (A:Option Addr) (n:Nat) (cs:List Value):Prop:=
 cs.length=n*z∧(0<n→∃b off,A=some ⟨b,off,none⟩∧b<w.heap.size∧¬S b∧∀i,i<n*z→w.cell? ⟨b,off+i,none⟩=some (cs.getD i undef))
section
variable {S:Nat→Prop} {w w':World} {A:Option Addr} {n z:Nat} {xs:List Int} {cs:List Value}
theorem SLa.frm (h:SLa S w A n xs) (hf:Frm S w w'):SLa S w' A n xs:=by
 refine⟨⟨h.1.1,fun hn=>?_⟩,h.2⟩
 obtain⟨b,off,hA,hlt,hc⟩:=h.1.2 hn
 exact⟨b,off,hA,Nat.lt_of_lt_of_le hlt hf.size,fun i hi=>hf.cell' (hc i hi) (h.2 b off none hA)⟩
theorem SLa.below (h:SLa S w A n xs) (hb:Below w.heap.size w w'):SLa S w' A n xs:=h.frm (Frm.of_below' S hb)
theorem SLa.alloc (h:SLa S w A n xs) (o:Obj):SLa S (w.alloc o) A n xs:=h.frm ((Frm.refl S w).alloc o)
theorem SLa.drew (h:SLa S w A n xs):SLa S w.drew A n xs:=h
theorem SLa.more (h:SLa S w A n xs) (t:World):SLa S (more w t) A n xs:=h.below (below_more w t)
theorem SLZ.frm (h:SLZ z S w A n cs) (hf:Frm S w w'):SLZ z S w' A n cs:=by
 refine⟨h.1,fun hn=>?_⟩
 obtain⟨b,off,hA,hlt,hs,hc⟩:=h.2 hn
 exact⟨b,off,hA,Nat.lt_of_lt_of_le hlt hf.size,hs,fun i hi=>hf.cell' (hc i hi) hs⟩
theorem SLZ.below (h:SLZ z S w A n cs) (hb:Below w.heap.size w w'):SLZ z S w' A n cs:=h.frm (Frm.of_below' S hb)
theorem SLZ.alloc (h:SLZ z S w A n cs) (o:Obj):SLZ z S (w.alloc o) A n cs:=h.frm ((Frm.refl S w).alloc o)
theorem SLZ.drew (h:SLZ z S w A n cs):SLZ z S w.drew A n cs:=h
theorem SLZ.nil_ (z:Nat) (S:Nat→Prop) (w:World):SLZ z S w none 0 []:=⟨by simp,fun h=>absurd h (by omega)⟩
end
/-! ### positions as elements -/
def PosV (S:Nat→Prop) (w:World) (u:Value) (p:List Int):Prop:=∃A n c,u = .slice A n c∧SLa S w A n p∧n≤c
def AllP (S:Nat→Prop) (w:World) (cs:List Value) (ps:List (List Int)):Prop:=cs.length=ps.length∧∀i,i<cs.length→PosV S w (cs.getD i undef) (ps.getD i [])
def LL (S:Nat→Prop) (w:World) (A:Option Addr) (n:Nat) (ps:List (List Int)):Prop:=∃cs,SLZ 1 S w A n cs∧AllP S w cs ps
def OwnL (S:Nat→Prop) (w:World) (base:Nat) (e:TypeId) (v:Value) (ps:List (List Int)):Prop:=∃cs,w.ownsRow base e 1 v ps.length cs∧AllP S w cs ps∧∀k,v.ownBlock=some k→¬S k
section
variable {S:Nat→Prop} {w w':World} {A:Option Addr} {n:Nat} {cs:List Value} {u:Value} {p:List Int} {ps:List (List Int)} {base:Nat} {e:TypeId} {v:Value}
theorem PosV.frm (h:PosV S w u p) (hf:Frm S w w'):PosV S w' u p:=let ⟨A,n,c,hu,hs,hc⟩:=h;⟨A,n,c,hu,hs.frm hf,hc⟩
theorem PosV.below (h:PosV S w u p) (hb:Below w.heap.size w w'):PosV S w' u p:=h.frm (Frm.of_below' S hb)
theorem AllP.frm (h:AllP S w cs ps) (hf:Frm S w w'):AllP S w' cs ps:=⟨h.1,fun i hi=>(h.2 i hi).frm hf⟩
theorem AllP.below (h:AllP S w cs ps) (hb:Below w.heap.size w w'):AllP S w' cs ps:=h.frm (Frm.of_below' S hb)
theorem AllP.append {ds:List Value} {qs:List (List Int)} (h:AllP S w cs ps) (k:AllP S w ds qs):AllP S w (cs++ds) (ps++qs):=by
 refine⟨by simp[h.1,k.1],fun i hi=>?_⟩
 by_cases hlt:i<cs.length
 ·have:=h.2 i hlt
  rw[getD_app_lt _ _ _ hlt,getD_app_lt _ _ _ (by rw[← h.1];exact hlt)];exact this
 ·rw[getD_app_ge _ _ _ (by omega),getD_app_ge _ _ _ (by rw[← h.1];omega),h.1]
  have:=k.2 (i-cs.length) (by simp at hi;omega)
  rwa [h.1]at this
theorem LL.frm (h:LL S w A n ps) (hf:Frm S w w'):LL S w' A n ps:=let ⟨cs,h1,h2⟩:=h;⟨cs,h1.frm hf,h2.frm hf⟩
theorem LL.below (h:LL S w A n ps) (hb:Below w.heap.size w w'):LL S w' A n ps:=h.frm (Frm.of_below' S hb)
theorem LL.alloc (h:LL S w A n ps) (o:Obj):LL S (w.alloc o) A n ps:=h.frm ((Frm.refl S w).alloc o)
theorem LL.drew (h:LL S w A n ps):LL S w.drew A n ps:=h
theorem LL.more (h:LL S w A n ps) (t:World):LL S (more w t) A n ps:=h.below (below_more w t)
theorem LL.at (h:LL S w A n ps) {k:Nat} (hk:k<n):∃b off B m c,A=some ⟨b,off,none⟩∧b<w.heap.size∧¬S b∧w.cell? ⟨b,off+k,none⟩=some (.slice B m c)∧SLa S w B m (ps.getD k [])∧m≤c:=by
 obtain⟨cs,⟨hl,hc⟩,ha⟩:=h
 obtain⟨b,off,hA,hlt,hs,hcell⟩:=hc (by omega)
 obtain⟨B,m,c,hu,hp,hm⟩:=ha.2 k (by omega)
 exact⟨b,off,B,m,c,hA,hlt,hs,by rw[hcell k (by omega),hu],hp,hm⟩
theorem OwnL.frm (h:OwnL S w base e v ps) (hf:Frm S w w'):OwnL S w' base e v ps:=let ⟨cs,h1,h2,h3⟩:=h;⟨cs,hf.row h1 h3,h2.frm hf,h3⟩
theorem OwnL.below (h:OwnL S w base e v ps) (hb:Below w.heap.size w w'):OwnL S w' base e v ps:=h.frm (Frm.of_below' S hb)
theorem OwnL.alloc (h:OwnL S w base e v ps) (o:Obj):OwnL S (w.alloc o) base e v ps:=h.frm ((Frm.refl S w).alloc o)
theorem OwnL.mono (h:OwnL S w base e v ps) {base':Nat} (hb:base'≤base):OwnL S w base' e v ps:=let ⟨cs,h1,h2,h3⟩:=h;⟨cs,own_base h1 hb,h2,h3⟩
theorem row_read {z:Nat} (h:w.ownsRow base e z v n cs) (hS:∀k,v.ownBlock=some k→¬S k) (hz:0<z):∃A c,v = .slice A n c∧SLZ z S w A n cs∧n≤c:=by
 obtain⟨h1,h2⟩:=h
 rcases h2 with⟨rfl,h0⟩|⟨g,cap,cur,rfl,hb,hh,hnc,hcm,hcs,ht⟩
 ·subst h0
  have:cs=[]:=List.eq_nil_of_length_eq_zero (by rw[h1];simp)
  subst this
  exact⟨none,0,rfl,SLZ.nil_ _ _ _,Nat.le_refl _⟩
 ·refine⟨_,_,rfl,⟨h1,fun hn=>⟨g,0,rfl,(Array.getElem?_eq_some_iff.1 hh).1,hS g rfl,fun i hi=>?_⟩⟩,hnc⟩
  have hown:w.ownsRow base e z (.slice (some ⟨g,0,none⟩) n cap) n cs:=⟨h1,.inr ⟨g,cap,cur,rfl,hb,hh,hnc,hcm,hcs,ht⟩⟩
  rw[Nat.zero_add,hown.cellAt i (by omega)]
  simp[List.getD,show i<cs.length by omega]
theorem OwnL.read (h:OwnL S w base e v ps):∃A c,v = .slice A ps.length c∧LL S w A ps.length ps∧ps.length≤c:=by
 obtain⟨cs,h1,h2,h3⟩:=h
 obtain⟨A,c,hv,hs,hc⟩:=row_read h1 h3 (by omega)
 exact⟨A,c,hv,⟨cs,hs,h2⟩,hc⟩
end
end Go.Proofs.YtkaiilmgemaljaaGreat
/- Words for maps of whatever elements: what a map holds, as a function of the key. No statement is proved here; there are no conditions. -/
namespace Go.Proofs.YtkaiilmgemaljaaGreat
open Go.RowKit Go.Maps
open Go.ChangeMaps Go.MapKept Go.WideShapes
def heldV (v:Value):Option (DataW Value×List MemPlace):=some (.held v,[])
theorem length_inj {α:Type} [DecidableEq α]:∀{l U:List α},l.Pairwise (fun a b=>a≠b)→(∀x∈l,x∈U)→l.length≤U.length
 | [],_,_,_=>Nat.zero_le _
 | x :: r, U, hp, hm => by
   have hp' := List.pairwise_cons.1 hp
   have hx := hm x (by simp)
   have h1 : (U.erase x).length = U.length - 1 := List.length_erase_of_mem hx
   have h2 := length_inj (l := r) (U := U.erase x) hp'.2 fun y hy => (List.mem_erase_of_ne (Ne.symm (hp'.1 y hy))).2 (hm y (by simp [hy]))
   have h3 : 1 ≤ U.length := List.length_pos_of_mem hx
   simp only [List.length_cons]
   omega
def MapV (P:Program) (k:TypeId) (w:World) (b:Nat) (U:List Lit) (f:Lit→Option Value):Prop:=
 ∃D:DataW Value,w.ownsMap P k heldV b U.length D∧(∀l,WideAt.IsKeyLit l→has D l=(f l).isSome∧∀z,D.atKey l (.held z) = .held ((f l).getD z))∧∀l,has D l=true→l∈U
section
variable {P:Program} {k:TypeId} {w w':World} {b:Nat} {U:List Lit} {f:Lit→Option Value}
theorem MapV.lt (h:MapV P k w b U f):b<w.heap.size:=let ⟨_,h,_⟩:=h;h.lt
theorem ownsMap_lower {n m:Nat} {D:DataW Value} {R:Value→Option (DataW Value×List MemPlace)} (h:w.ownsMap P k R b n D) (hs:size D≤m):w.ownsMap P k R b m D:=by
 obtain⟨es,clock,hb,F,_,hD⟩:=h
 refine⟨es,clock,hb,F,?_,hD⟩
 rw[hD]at hs
 simpa[Maps.size,length_sorted]using hs
theorem MapV.frm {S:Nat→Prop} (h:MapV P k w b U f) (hf:Frm S w w') (hn:¬S b):MapV P k w' b U f:=by
 obtain⟨D,hD,h1,h2⟩:=h
 refine⟨D,?_,h1,h2⟩
 have hlt:=hD.lt;obtain⟨es,clock,hb,r⟩:=hD
 exact⟨es,clock,(hf.block b hlt hn).trans hb,r⟩
theorem MapV.below (h:MapV P k w b U f) (hb:Below w.heap.size w w'):MapV P k w' b U f:=h.frm (Frm.of_below hb) id
theorem MapV.alloc (h:MapV P k w b U f) (o:Obj):MapV P k (w.alloc o) b U f:=h.below ((Below.refl _ _).alloc (Nat.le_refl _) o)
theorem MapV.drew (h:MapV P k w b U f):MapV P k w.drew b U f:=h
theorem heldV_inj {v:Value} {z:Value} {ps:List MemPlace} (h:heldV v=some (.held z,ps)):v=z:=by
 simp only[heldV,Option.some.injEq,Prod.mk.injEq,DataW.held.injEq]at h
 exact h.1
theorem MapV.look {t e:TypeId} (h:MapV P k w b U f) (K:Keyed P k) (ht:P.underlying t=some (.map k e)) {z:Value} (hz:(zeroValue e).run P w = .ok z w) {key:Value} {kl:Lit} (hkey:keyOf P k key=some kl):
  (Instr.lookup t (.map (some b)) key false).run P w = .ok ((f kl).getD z) w:=by
 obtain⟨D,hD,h1,_⟩:=h;obtain⟨v,ps,hrun,hv⟩:=hD.lookup K ht hz (zd:=.held z) (zp:=[]) rfl hkey;rw[(h1 kl (K.key hkey)).2 z]at hv;rw[heldV_inj hv]at hrun
 exact hrun
theorem MapV.look_ok {t e:TypeId} (h:MapV P k w b U f) (K:Keyed P k) (ht:P.underlying t=some (.map k e)) {z:Value} (hz:(zeroValue e).run P w = .ok z w) {key:Value} {kl:Lit} (hkey:keyOf P k key=some kl):
  (Instr.lookup t (.map (some b)) key true).run P w = .ok (.tuple #[(f kl).getD z,.bool (f kl).isSome]) w:=by
 obtain⟨D,hD,h1,_⟩:=h;obtain⟨v,ps,hrun,hv⟩:=World.ownsMap.look_ok hD K ht hz (zd:=.held z) (zp:=[]) rfl hkey;rw[(h1 kl (K.key hkey)).2 z]at hv;rw[heldV_inj hv,(h1 kl (K.key hkey)).1]at hrun
 exact hrun
open Classical in
noncomputable def putF (f:Lit→Option Value) (l:Lit) (v:Value):Lit→Option Value:=fun l'=>if l'=l then some v else f l'
theorem putF_same (f:Lit→Option Value) (l:Lit) (v:Value):putF f l v l=some v:=by unfold putF;exact if_pos rfl
theorem putF_other (f:Lit→Option Value) {l l':Lit} (h:l'≠l) (v:Value):putF f l v l'=f l':=by unfold putF;exact if_neg h
theorem MapV.store {t e:TypeId} (h:MapV P k w b U f) (K:Keyed P k) (ht:P.underlying t=some (.map k e)) (hn:U.length<maxLen) {key val:Value} {kl:Lit} (hkey:keyOf P k key=some kl) (hU:kl∈U):
  ∃w',(Instr.mapUpdate t (.map (some b)) key val).run P w = .ok () w'∧MapV P k w' b U (putF f kl val)∧w.grownBy w' (some b):=by
 obtain⟨D,hD,h1,h2⟩:=h;obtain⟨w',hrun,hD',hg⟩:=hD.update K ht hn hkey (val:=val) (d:=.held val) (ps:=[]) rfl;have hM:=World.ownsMap.isMap hD;have hT:=World.ownsMap.tidy hD' K;have hl:=K.key hkey
 have h2':∀l,has (D.put kl (.held val)) l=true→l∈U:=by
  intro l hh
  by_cases e:l=kl
  ·rw[e];exact hU
  ·rw[has_put_other e]at hh;exact h2 l hh
 refine⟨w',hrun,⟨D.put kl (.held val),ownsMap_lower hD' ?_,fun l hl'=>?_,h2'⟩,hg⟩
 ·classical
  obtain⟨es,hes,hp0,hkl⟩:=World.ownsMap.canon hD' K;have hp:=Go.Maps.apart_of_rising hp0;rw[hes,size_eq]
  have hp2:(es.map (·.1)).Pairwise (fun a b=>a≠b):=List.pairwise_map.2 hp
  have:=length_inj hp2 (U:=U) fun x hx=>by
   obtain⟨p,hp',rfl⟩:=List.mem_map.1 hx
   apply h2'
   rw[hes,has_eq]
   exact List.any_eq_true.2 ⟨p,hp',by have:=hkl p hp';revert this;cases p.1<;>simp[Lit.sameKey,WideAt.IsKeyLit]⟩
  simpa using this
 ·by_cases e:l=kl
  ·subst e
   rw[putF_same]
   exact⟨has_put_same hM hl' _,fun z=>atKey_put_same hM hl' _ _⟩
  ·rw[putF_other f e]
   exact⟨(has_put_other e _).trans (h1 l hl').1,fun z=>(atKey_put_other e _ _).trans ((h1 l hl').2 z)⟩
end
/-! ### at the operation -/
end Go.Proofs.YtkaiilmgemaljaaGreat
/- A region that draws its order: calls that make memory first, one chain of operations (a store) behind all of them. No statement is proved here; there are no conditions. -/
namespace Go.Proofs.YtkaiilmgemaljaaGreat
open Go.RowKit
section
variable {P:Program} {ops:Array Oper} {md:Region.Mode} {C:World→Prop}
def wpAnyT (P:Program) (md:Region.Mode) (ops:Array Oper) (C:World→Prop) (n:Nat) (L:Array Bool→Act→Prop):Nat→Array Bool→Act→Prop
 | 0,listed,a=>L listed a
 | f+1,listed,a=>Region.ready md ops listed≠[]∧∀i∈Region.ready md ops listed,i<n∧qOp P ops C i (wpAnyT P md ops C n L f (listed.setIfInBounds i true)) a
theorem wpAny_of_headT {n g:Nat} {L:Array Bool→Act→Prop} {Q':Exit→Act→World→Prop} (hL:∀listed a w,C w→L listed a→wpAny P md ops Q' g listed a w):
  ∀(f:Nat) (listed:Array Bool) (a:Act) (w:World),C w→wpAnyT P md ops C n L f listed a→wpAny P md ops Q' (f+g) listed a w
 | 0,listed,a,w,hw,h=>by rw[Nat.zero_add];exact hL _ _ _ hw h
 | f + 1, listed, a, w, hw, h => by
   rw [show f + 1 + g = (f + g) + 1 by omega]
   exact ⟨fun h0 => absurd h0 h.1, fun i hi => wpOp_of_qOp hw (fun a' w' hw' h' => wpAny_of_headT hL f _ a' w' hw' h') (h.2 i hi).2⟩
theorem wpAnyT_first {n i:Nat} {oi:Oper} {v:Value} {L:Array Bool→Act→Prop} (hi:ops[i]? = some oi) (hsel:∀(j:Nat) (o:Oper) cs b,ops[j]? = some o→o.op≠.select cs b)
  (hs:Region.sinkB md ops n=true) (hc:Region.chainB md ops n=true) (hn:n<ops.size) (hin:i<n) (hdone:∀listed a,L listed a→∀j∈Region.ready md ops listed,n≤j):
  ∀ (f : Nat) (listed : Array Bool) (a : Act), HeadInv md ops n listed →
    (∀ j oj, ops[j]? = some oj → j ≠ i → listed.getD j true = false → (∀ e ∈ oj.after, Region.binds md e = true → e.on ≠ i) → oi.apart ops oj = true) →
    i ∈ Region.ready md ops listed → YieldsIn P ops C oi v a →
    wpAnyT P md ops C n L f (listed.setIfInBounds i true) (a.put oi.dst v) → wpAnyT P md ops C n L (f + 1) listed a := by
 intro f
 have low:∀(listed:Array Bool),HeadInv md ops n listed→i∈Region.ready md ops listed→∀j∈Region.ready md ops listed,j<n:=fun listed inv hr j hj=>by
  rcases Nat.lt_or_ge j n with h|h
  ·exact h
  ·exact absurd hj (tail_waits hs hc hn inv _ i rfl hin (mem_ready.1 hr).1 j h)
 induction f with
 | zero =>
   intro listed a inv _ hr hy H
   refine ⟨fun h => (by rw [h] at hr; cases hr), fun j hj => ⟨low listed inv hr j hj, ?_⟩⟩
   by_cases hji : j = i
   · subst hji; exact hy.qOp hi H
   · have := hdone _ _ H j (ready_mono hj hji)
     have := low listed inv hr j hj
     omega
 | succ f ih =>
   intro listed a inv hfree hr hy H
   refine ⟨fun h => (by rw [h] at hr; cases hr), fun j hj => ⟨low listed inv hr j hj, ?_⟩⟩
   by_cases hji : j = i
   · subst hji; exact hy.qOp hi H
   · have h1 := (H.2 j (ready_mono hj hji)).2
     obtain ⟨hjun, oj, hoj, hall⟩ := mem_ready.1 hj
     have hnot : ∀ e ∈ oj.after, Region.binds md e = true → e.on ≠ i := fun e he hb heq => by
       have h1 := hall e he hb; rw [heq, getD_both (mem_ready.1 hr).1] at h1
       cases h1
     have h2 := qOp_put hoj (hfree j oj hoj hji hjun hnot) (fun cs b => hsel i oi cs b hi) (fun cs b => hsel j oj cs b hoj) hy h1
     refine qOp_mono (fun a' h3 => ih (listed.setIfInBounds j true) a' (inv.set hj (low listed inv hr j hj)) (fun k ok hk hki hun hno => hfree k ok hk hki ?_ hno) (ready_mono hr (Ne.symm hji)) h3.1 ?_) h2
     · by_cases hjk : j = k
       · subst hjk; exact hjun
       · rw [getD_set_ne true hjk] at hun; exact hun
     · rw [Array.setIfInBounds_comm _ _ hji]
       exact h3.2
theorem wpAnyT_lex {n g:Nat} {Lq:Act→Prop} (hsel:Region.noSelect ops=true) (hs:Region.sinkB md ops n=true) (hc:Region.chainB md ops n=true) (hn:n<ops.size):
  ∀(l:List Oper) (k:Nat) (listed:Array Bool) (a:Act),(∀j,j<l.length→l[j]? = ops[k+j]?)→k+l.length=n→HeadInv md ops n listed→
  Region.lexHead md ops g l.length k listed=true→wpQuiet P ops C Lq l a→
  wpAnyT P md ops C n (fun listed' a'=>Region.seqB md ops g n listed'=true∧Lq a') l.length listed a
 | [], k, listed, a, _, hk, _, hB, h => by
   have : k = n := by simpa using hk
   subst this
   exact ⟨by simpa [Region.lexHead] using hB, h⟩
 | o :: l, k, listed, a, hl, hk, inv, hB, h => by
   have h0 : ops[k]? = some o := by simpa using (hl 0 (by simp)).symm
   simp only [List.length_cons, Region.lexHead, Bool.and_eq_true] at hB
   obtain ⟨⟨hr, hf⟩, hB'⟩ := hB
   have hkn : k < n := by simp only [List.length_cons] at hk; omega
   have hr' : k ∈ Region.ready md ops listed := by simpa using hr
   have hst : qOp P ops C k (wpQuiet P ops C Lq l) a := by unfold qOp; simp only [h0]; exact h
   obtain ⟨v, hy, hK⟩ := yieldsIn_of_qOp h0 hst
   exact wpAnyT_first h0 (Region.noSelect_spec hsel) hs hc hn hkn (fun listed' a' hL => seqB_ready hL.1) l.length listed a inv (Region.free_spec h0 hf) hr' hy
     (wpAnyT_lex hsel hs hc hn l (k + 1) _ _ (fun j hj => by have := hl (j + 1) (by simp; omega); simpa [Nat.add_assoc, Nat.add_comm 1 j] using this) (by simp only [List.length_cons] at hk; omega) (inv.set hr' hkn) hB' hK)
theorem wp_region_quiet_tail {id:Nat} {Q:Exit→Act→World→Prop} {a:Act} {w:World} {l:List Oper} (n:Nat) (hm:P.follows .mixedOrders=true) (hB:Region.lexTailB .any l.toArray n=true) (hC:C { w with drawn:=w.drawn+1 })
  (h:wpQuiet P l.toArray C (fun a'=>∀w',C w'→wpList P l.toArray Q (l.drop n) a' w') (l.take n) a):(Code.region id l.toArray true).wp P Q a w:=by
 simp only[Region.lexTailB,Bool.and_eq_true,decide_eq_true_eq]at hB
 obtain⟨⟨⟨⟨hsel,hn⟩,hs⟩,hc⟩,hlex⟩:=hB
 have hn':n<l.length:=by simpa using hn
 have htl:(l.take n).length=n:=by simp;omega
 have hdl:(l.drop n).length=l.toArray.size-n:=by simp
 have inv0:HeadInv .any l.toArray n (Array.replicate l.toArray.size false):=
  ⟨by simp,fun j oj _ hl=>(by rw[getD_replicate_false]at hl;cases hl),fun t _ ht=>getD_in (by simpa using ht) (getD_replicate_false _ _)⟩
 have H:=wpAnyT_lex (md:=.any) (g:=l.toArray.size-n) hsel hs hc hn (l.take n) 0 _ a (fun j hj=>by
  have hj':j<n:=by rw[htl]at hj;exact hj
  simp[hj']) (by simpa using htl) inv0 (by rw[htl];exact hlex) h
 refine wp_region_any hm ?_
 have:=wpAny_of_headT (Q':=Q) (g:=l.toArray.size-n) (fun listed a' w' hw' hL=>by
  have:=wpAny_of_seq (md:=.any) (Q':=Q) (l.drop n) n listed a' w' (fun j=>by simp[List.getElem?_drop]) (by rw[hdl];exact hL.1) (hL.2 w' hw')
  rwa [hdl]at this) _ _ _ _ hC H
 rw[htl,show n+(l.toArray.size-n)=l.toArray.size by omega]at this
 exact this
theorem wp_region_tail_more {id:Nat} {Q:Exit→Act→World→Prop} {a:Act} {w:World} {l:List Oper} (n:Nat) (hm:P.follows .mixedOrders=true) (hB:Region.lexTailB .any l.toArray n=true)
  (h:wpQuiet P l.toArray (fun w'=>∃t,w'=more w t) (fun a'=>∀w',(∃t,w'=more w t)→wpList P l.toArray Q (l.drop n) a' w') (l.take n) a):(Code.region id l.toArray true).wp P Q a w:=
 wp_region_quiet_tail (C:=fun w'=>∃t,w'=more w t) n hm hB (more_of ⟨rfl,rfl,rfl,Nat.le_refl _,fun _ _=>rfl⟩) h
theorem wp_region_tail_more2 {id:Nat} {Q:Exit→Act→World→Prop} {a:Act} {w t:World} {l:List Oper} (n:Nat) (hm:P.follows .mixedOrders=true) (hB:Region.lexTailB .any l.toArray n=true)
  (h:wpQuiet P l.toArray (fun w'=>∃t,w'=more w t) (fun a'=>∀w',(∃t,w'=more w t)→wpList P l.toArray Q (l.drop n) a' w') (l.take n) a):(Code.region id l.toArray true).wp P Q a (more w t):=
 wp_region_quiet_tail (C:=fun w'=>∃t,w'=more w t) n hm hB (more_of ⟨(below_more w t).os,(below_more w t).tape,(below_more w t).output,(below_more w t).size,(below_more w t).block⟩) h
end
end Go.Proofs.YtkaiilmgemaljaaGreat
/- A region that draws its order: a head of operations that read, call or make memory in whatever order, each with a value of which only some words are known that last while memory grows; one chain of operations behind all of them. No statement is proved here; there are no conditions. -/
namespace Go.Proofs.YtkaiilmgemaljaaGreat
open Go.RowKit
/-! ### how many of the first n are done -/
def cntL (listed:Array Bool):Nat→Nat
 | 0=>0
 | n+1=>cntL listed n+if listed.getD n false=true then 1 else 0
theorem cntL_le (listed:Array Bool):∀n,cntL listed n≤n
 | 0=>Nat.le_refl _
 | n+1=>by have:=cntL_le listed n;unfold cntL;split<;>omega
theorem cntL_full {listed:Array Bool}:∀{n:Nat},cntL listed n=n→∀i,i<n→listed.getD i false=true
 | 0,_,i,h=>by omega
 | n + 1, h, i, hi => by
   have h1 := cntL_le listed n; unfold cntL at h
   split at h
   · rename_i hn
     by_cases e : i = n
     · rw [e]; exact hn
     · exact cntL_full (n := n) (by omega) i (by omega)
   · omega
theorem cntL_zero (m:Nat):∀n,cntL (Array.replicate m false) n=0
 | 0=>rfl
 | n+1=>by unfold cntL;rw[cntL_zero m n,getD_replicate_false];rfl
theorem cntL_hole {listed:Array Bool}:∀{n:Nat},cntL listed n<n→∃i,i<n∧listed.getD i false=false∧∀j,j<i→listed.getD j false=true
 | 0,h=>by omega
 | n + 1, h => by
   by_cases h1 : cntL listed n < n
   · obtain ⟨i, h2, h3, h4⟩ := cntL_hole h1
     exact ⟨i, by omega, h3, h4⟩
   · have h2 := cntL_le listed n
     have h3 := cntL_full (show cntL listed n = n by omega)
     unfold cntL at h
     split at h
     · omega
     · rename_i hn
       exact ⟨n, by omega, by simpa using hn, h3⟩
theorem cntL_set {listed:Array Bool} {i:Nat} (hs:i<listed.size) (h:listed.getD i false=false):∀n,cntL (listed.setIfInBounds i true) n=cntL listed n+if i<n then 1 else 0
 | 0=>rfl
 | n + 1 => by
   unfold cntL; rw [cntL_set hs h n]
   by_cases e : i = n
   · subst e
     have h1 : (listed.setIfInBounds i true).getD i false = true := by simp [hs]
     rw [h1, h]; simp
   · rw [getD_set_ne false e]
     have e2 : (if i < n + 1 then 1 else 0) = if i < n then 1 else 0 := by
       by_cases hlt : i < n
       · rw [if_pos hlt, if_pos (by omega)]
       · rw [if_neg hlt, if_neg (by omega)]
     rw [e2]; omega
section
variable {P:Program} {w:World}
def putV (a:Act) (ds:Nat→Nat) (v:Nat→Value):Nat→Act
 | 0=>a
 | k+1=>(putV a ds v k).put (some (ds k)) (v k)
theorem putV_defers (a:Act) (ds:Nat→Nat) (v:Nat→Value):∀n,(putV a ds v n).defers=a.defers
 | 0=>rfl
 | n+1=>by unfold putV;simp[Act.put,putV_defers a ds v n]
theorem putV_size (a:Act) (ds:Nat→Nat) (v:Nat→Value):∀n,(putV a ds v n).tmps.size=a.tmps.size
 | 0=>rfl
 | n+1=>by unfold putV;simp[Act.put,putV_size a ds v n]
theorem put_get_ne (a:Act) {d t:Nat} (h:d≠t) (v:Value):(a.put (some d) v).tmps.getD t undef=a.tmps.getD t undef:=by
 simp only[Act.put,Array.getD_eq_getD_getElem?];rw[Array.getElem?_setIfInBounds_ne h]
theorem put_get_eq (a:Act) {d:Nat} (h:d<a.tmps.size) (v:Value):(a.put (some d) v).tmps.getD d undef=v:=by
 simp[Act.put,h]
theorem putV_far (a:Act) (ds:Nat→Nat) (v:Nat→Value) {t:Nat}:∀n,(∀i,i<n→ds i≠t)→(putV a ds v n).tmps.getD t undef=a.tmps.getD t undef
 | 0,_=>rfl
 | n+1,h=>by unfold putV;rw[put_get_ne _ (h n (by omega)),putV_far a ds v n fun i hi=>h i (by omega)]
theorem putV_at (a:Act) (ds:Nat→Nat) (v:Nat→Value):∀n,(∀i,i<n→ds i<a.tmps.size)→(∀i j,i<n→j<n→i≠j→ds i≠ds j)→∀i,i<n→(putV a ds v n).tmps.getD (ds i) undef=v i
 | 0,_,_,i,hi=>by omega
 | n + 1, hs, hd, i, hi => by
   unfold putV
   by_cases e : i = n
   · subst e; exact put_get_eq _ (by rw [putV_size]; exact hs i (by omega)) _
   · rw [put_get_ne _ (hd n i (by omega) (by omega) (by omega))]
     exact putV_at a ds v n (fun i hi => hs i (by omega)) (fun i j hi hj => hd i j (by omega) (by omega)) i (by omega)
def MGood (G:Nat→Value→World→Prop) (own:Nat→Value→Option Nat) (i:Nat) (W:World) (v:Value) (W':World):Prop:=
 Below W.heap.size W W'∧G i v W'∧∀b,own i v=some b→W.heap.size≤b
def MStep (P:Program) (o:Oper) (a:Act) (W:World) (good:Value→World→Prop):Prop:=
 (∃v W',(execOp a.eval o).run P W = .ok (.value v) W'∧good v W')∨∃f args,(execOp a.eval o).run P W = .ok (.enter f args) W∧Calls P f args W fun e W'=>∃v,e = .returned v∧good v W'
theorem MStep.wp {o:Oper} {a:Act} {W:World} {good:Value→World→Prop} {K:Act→World→Prop} {Q:Exit→Act→World→Prop} (h:MStep P o a W good) (hK:∀v W',good v W'→K (a.put o.dst v) W'):o.wp P a W K Q:=by
 unfold Oper.wp
 rcases h with⟨v,W',hr,hg⟩|⟨f,args,hr,hc⟩
 ·rw[hr,Oper.upon_value];exact hK v W' hg
 ·rw[hr,Oper.upon_enter]
  refine hc.mono ?_
  rintro e W' ⟨v,rfl,hg⟩
  exact hK v W' hg
def headArr (n m:Nat):Array Bool:=((List.range m).map fun i=>decide (i<n)).toArray
def makesB (ops:Array Oper) (n:Nat) (ds:Nat→Nat) (m:Nat):Bool:=
 decide (n<ops.size)&&Region.sinkB .any ops n&&Region.chainB .any ops n&&Region.seqB .any ops (ops.size-n) n (headArr n ops.size) &&
 ((List.range n).all fun i => match ops[i]? with
   | some o => o.guard.isNone && decide (o.dst = some (ds i)) && decide (ds i < m) && (o.after.all fun e => !Region.binds .any e || decide (e.on < i)) && ((List.range n).all fun j => i == j || decide (ds i ≠ ds j))
   | none => false)
structure MInv (ops:Array Oper) (a0:Act) (w:World) (n:Nat) (ds:Nat→Nat) (G:Nat→Value→World→Prop) (own:Nat→Value→Option Nat) (listed:Array Bool) (a:Act) (W:World):Prop where
 inv:HeadInv .any ops n listed
 b:Below w.heap.size w W
 df:a.defers=a0.defers
 sz:a.tmps.size=a0.tmps.size
 far:∀t,(∀i,i<n→ds i≠t)→a.tmps.getD t undef=a0.tmps.getD t undef
 g:∀i,i<n→listed.getD i false=true→G i (a.tmps.getD (ds i) undef) W
 ap:∀i j,i<n→j<n→i≠j→listed.getD i false=true→listed.getD j false=true→∀b,own i (a.tmps.getD (ds i) undef)=some b→own j (a.tmps.getD (ds j) undef)≠some b
theorem headArr_of {ops:Array Oper} {n:Nat} {listed:Array Bool} (inv:HeadInv .any ops n listed) (hall:∀i,i<n→listed.getD i false=true):listed=headArr n ops.size:=by
 apply Array.ext
 ·rw[inv.size];simp[headArr]
 ·intro i h1 h2
  by_cases hi:i<n
  ·have:=hall i hi
   simp[h1]at this
   simp[headArr,hi,this]
  ·have:=inv.tail i (by omega) (by rw[← inv.size];exact h1)
   simp[h1]at this
   simp[headArr,hi,this]
theorem wp_region_makes {id:Nat} {Q:Exit→Act→World→Prop} {a:Act} {l:List Oper} (n:Nat) (ds:Nat→Nat) (G:Nat→Value→World→Prop) (own:Nat→Value→Option Nat)
  (hm:P.follows .mixedOrders=true) (hB:makesB l.toArray n ds a.tmps.size=true)
  (stab:∀i v W W',G i v W→Below W.heap.size W W'→G i v W') (hlt:∀i v W b,G i v W→own i v=some b→b<W.heap.size)
  (step:∀i o,i<n→l[i]? = some o→∀(a':Act) (W:World),Below w.heap.size w W→(∀t,(∀i,i<n→ds i≠t)→a'.tmps.getD t undef=a.tmps.getD t undef)→
   (∀j,j<n→Region.waitsFor .any l.toArray i j=true→G j (a'.tmps.getD (ds j) undef) W)→MStep P o a' W (MGood G own i W))
  (tail:∀(v:Nat→Value) (W:World),Below w.heap.size w W→(∀i,i<n→G i (v i) W)→(∀i j,i<n→j<n→i≠j→∀b,own i (v i)=some b→own j (v j)≠some b)→wpList P l.toArray Q (l.drop n) (putV a ds v n) W):
  (Code.region id l.toArray true).wp P Q a w:=by
 simp only[makesB,Bool.and_eq_true,decide_eq_true_eq]at hB
 obtain⟨⟨⟨⟨hn,hs⟩,hc⟩,hq⟩,hh⟩:=hB
 have hop:∀i,i<n→∃o,l.toArray[i]? = some o∧l[i]? = some o∧o.guard=none∧o.dst=some (ds i)∧ds i<a.tmps.size∧(∀e∈o.after,Region.binds .any e=true→e.on<i)∧∀j,j<n→i≠j→ds i≠ds j:=fun i hi=>by
  have h:=List.all_eq_true.1 hh i (List.mem_range.2 hi)
  cases ho:l.toArray[i]? with
  | none=>rw[ho]at h;cases h
  | some o =>
    rw [ho] at h
    simp only [Bool.and_eq_true, decide_eq_true_eq] at h
    obtain ⟨⟨⟨⟨h1, h2⟩, h3⟩, h4⟩, h5⟩ := h
    refine ⟨o, rfl, by simpa using ho, by simpa using h1, h2, h3, fun e he hb => ?_, fun j hj hij => ?_⟩
    · have h6 := (Array.all_eq_true'.1 h4) e he
      simpa [hb] using h6
    · have h6 := List.all_eq_true.1 h5 j (List.mem_range.2 hj)
      simpa [hij] using h6
 have hdd:∀i j,i<n→j<n→i≠j→ds i≠ds j:=fun i j hi hj hij=>by obtain⟨_,_,_,_,_,_,_,h⟩:=hop i hi;exact h j hj hij
 have hdz:∀i,i<n→ds i<a.tmps.size:=fun i hi=>by obtain⟨_,_,_,_,_,h,_⟩:=hop i hi;exact h
 have H:∀(f:Nat) (listed:Array Bool) (a':Act) (W:World),cntL listed n+f=n→MInv l.toArray a w n ds G own listed a' W→wpAny P .any l.toArray Q (f+(l.toArray.size-n)) listed a' W:=by
  intro f
  induction f with
  | zero =>
    intro listed a' W hcnt I
    have hall := cntL_full (listed := listed) (n := n) (by omega)
    have hl := headArr_of I.inv hall
    have hv : putV a ds (fun i => a'.tmps.getD (ds i) undef) n = a' := by
      have e1 : (putV a ds (fun i => a'.tmps.getD (ds i) undef) n).tmps = a'.tmps := by
        apply Array.ext
        · rw [putV_size, I.sz]
        · intro t h1 h2
          have e : ∀ (A : Array Value) (h : t < A.size), A[t] = A.getD t undef := fun A h => by simp [h]
          rw [e _ h1, e _ h2]
          by_cases hx : ∃ i, i < n ∧ ds i = t
          · obtain ⟨i, hi, rfl⟩ := hx
            exact putV_at a ds _ n hdz hdd i hi
          · have hx' : ∀ i, i < n → ds i ≠ t := fun i hi he => hx ⟨i, hi, he⟩
            rw [putV_far a ds _ n hx', I.far t hx']
      have e2 : (putV a ds (fun i => a'.tmps.getD (ds i) undef) n).defers = a'.defers := by rw [putV_defers, I.df]
      generalize putV a ds (fun i => a'.tmps.getD (ds i) undef) n = x at *
      cases x; cases a'
      simp only at e1 e2
      rw [e1, e2]
    have ht := tail (fun i => a'.tmps.getD (ds i) undef) W I.b (fun i hi => I.g i hi (hall i hi)) (fun i j hi hj hij b => I.ap i j hi hj hij (hall i hi) (hall j hj) b)
    rw [hv] at ht; rw [Nat.zero_add]
    have hdl : (l.drop n).length = l.toArray.size - n := by simp
    have := wpAny_of_seq (md := .any) (Q' := Q) (ops := l.toArray) (l.drop n) n listed a' W (fun j => by simp [List.getElem?_drop]) (by rw [hdl, hl]; exact hq) ht
    rwa [hdl] at this
  | succ f ih =>
    intro listed a' W hcnt I
    obtain ⟨k, hk, hkf, hkl⟩ := cntL_hole (listed := listed) (n := n) (by omega)
    have hkr : k ∈ Region.ready .any l.toArray listed := by
      obtain ⟨o, ho, _, _, _, _, h5, _⟩ := hop k hk
      exact mem_ready.2 ⟨getD_in (by rw [I.inv.size]; omega) hkf, o, ho, fun e he hb => hkl _ (h5 e he hb)⟩
    rw [show f + 1 + (l.toArray.size - n) = (f + (l.toArray.size - n)) + 1 by omega]
    refine ⟨fun h0 => (by rw [h0] at hkr; cases hkr), fun i hi => ?_⟩
    have hin : i < n := by
      rcases Nat.lt_or_ge i n with h | h
      · exact h
      · exact absurd hi (tail_waits hs hc hn I.inv _ k rfl hk (getD_in (by rw [I.inv.size]; omega) hkf) i h)
    obtain ⟨hun, o', ho', hall'⟩ := mem_ready.1 hi; obtain ⟨o, ho, hol, hg, hd, hz, _, _⟩ := hop i hin; have : o' = o := Option.some.inj (ho'.symm.trans ho); subst this
    have hst := step i o' hin hol a' W I.b I.far fun j hj hw => by
      obtain ⟨oj, hoj, e, he, hb, hon⟩ := Region.waitsFor_spec hw; have : oj = o' := Option.some.inj (hoj.symm.trans ho'); subst this
      exact I.g j hj (by have := hall' e he hb; rwa [hon] at this)
    unfold wpOp; rw [ho']
    simp only [Region.wanted, hg]
    simp only [if_true]
    refine .inl (hst.wp fun v W' hgd => ?_)
    obtain ⟨hb, hG, hf⟩ := hgd; rw [hd]
    have hsz : i < listed.size := by rw [I.inv.size]; omega
    refine ih _ _ _ (by rw [cntL_set hsz (getD_both hun), if_pos hin]; omega) ⟨I.inv.set hi hin, I.b.trans (hb.mono I.b.size), by simp [Act.put, I.df], by simp [Act.put, I.sz], fun t ht => ?_, fun j hj hlj => ?_, fun j1 j2 h1 h2 h12 l1 l2 b hb1 => ?_⟩
    · rw [put_get_ne _ (ht i hin)]; exact I.far t ht
    · by_cases e : j = i
      · subst e; rw [put_get_eq _ (by rw [I.sz]; exact hz)]; exact hG
      · rw [put_get_ne _ (hdd i j hin hj (Ne.symm e))]
        rw [getD_set_ne false (Ne.symm e)] at hlj
        exact stab _ _ _ _ (I.g j hj hlj) hb
    · by_cases e1 : j1 = i
      · subst e1
        have e2 : j1 ≠ j2 := h12
        rw [put_get_eq _ (by rw [I.sz]; exact hz)] at hb1
        rw [put_get_ne _ (hdd j1 j2 hin h2 e2)]; rw [getD_set_ne false e2] at l2
        intro hb2
        have := hlt _ _ _ _ (I.g j2 h2 l2) hb2; have := hf b hb1
        omega
      · rw [put_get_ne _ (hdd i j1 hin h1 (Ne.symm e1))] at hb1
        rw [getD_set_ne false (Ne.symm e1)] at l1
        by_cases e2 : j2 = i
        · subst e2
          rw [put_get_eq _ (by rw [I.sz]; exact hz)]
          intro hb2
          have := hlt _ _ _ _ (I.g j1 h1 l1) hb1; have := hf b hb2
          omega
        · rw [put_get_ne _ (hdd i j2 hin h2 (Ne.symm e2))]
          rw [getD_set_ne false (Ne.symm e2)] at l2
          exact I.ap j1 j2 h1 h2 h12 l1 l2 b hb1
 refine wp_region_any hm ?_
 have:=H n (Array.replicate l.toArray.size false) a { w with drawn:=w.drawn+1 } (by rw[cntL_zero];omega)
  ⟨⟨by simp, fun j oj _ hl => (by rw [getD_replicate_false] at hl; cases hl), fun t _ ht => getD_in (by simpa using ht) (getD_replicate_false _ _)⟩, ⟨rfl, rfl, rfl, Nat.le_refl _, fun _ _ => rfl⟩, rfl, rfl, fun _ _ => rfl,
    fun i _ h => (by rw [getD_replicate_false] at h; cases h), fun i j _ _ _ h => (by rw [getD_replicate_false] at h; cases h)⟩
 rwa [show n+(l.toArray.size-n)=l.toArray.size by omega]at this
end
end Go.Proofs.YtkaiilmgemaljaaGreat
/- A region that draws its order: a head of operations whose worlds stand in a relation and keep an invariant, each with a value of which only some words are known that last; one chain of operations behind all of them. No statement is proved here; there are no conditions. -/
namespace Go.Proofs.YtkaiilmgemaljaaGreat
open Go.RowKit
section
variable {P:Program} {w:World}
structure RInv (ops:Array Oper) (a0:Act) (w:World) (n:Nat) (ds:Nat→Nat) (Rel:World→World→Prop) (Inv:World→Prop) (G:Nat→Value→World→Prop) (listed:Array Bool) (a:Act) (W:World):Prop where
 inv:HeadInv .any ops n listed
 b:Rel w W
 i:Inv W
 df:a.defers=a0.defers
 sz:a.tmps.size=a0.tmps.size
 far:∀t,(∀i,i<n→ds i≠t)→a.tmps.getD t undef=a0.tmps.getD t undef
 g:∀i,i<n→listed.getD i false=true→G i (a.tmps.getD (ds i) undef) W
end
end Go.Proofs.YtkaiilmgemaljaaGreat
/- A region that draws its order, as in QR; some operations of the head that only compute are done as soon as they may be: the chain behind need not wait for them. No statement is proved here; there are no conditions. -/
namespace Go.Proofs.YtkaiilmgemaljaaGreat
open Go.RowKit
section
variable {P:Program} {w:World}
def sinkXs (ops:Array Oper) (m:Nat) (X:Nat→Bool):Bool:=
 (List.range m).all fun i=>X i||(List.range (m+1)).any fun j=>decide (i<j) && !X j&&Region.waitsFor .any ops j i
theorem tail_waitsXs {ops:Array Oper} {m:Nat} {X:Nat→Bool} {listed:Array Bool} (hs:sinkXs ops m X=true) (hc:Region.chainB .any ops m=true) (hm:m<ops.size) (inv:HeadInv .any ops m listed):
  ∀(d i:Nat),m-i=d→i<m→X i=false→listed.getD i true=false→∀t,m≤t→t∉Region.ready .any ops listed:=by
 intro d
 induction d using Nat.strongRecOn with
 | _ d ih =>
   intro i hd hi hix hun t ht hr
   obtain ⟨_, ot, hot, hall⟩ := mem_ready.1 hr; have htlt : t < ops.size := (Array.getElem?_eq_some_iff.1 hot).1
   by_cases htm : t = m
   · subst htm
     have h1 := List.all_eq_true.1 hs i (List.mem_range.2 hi)
     simp only [hix, Bool.false_or] at h1
     obtain ⟨j, hj, hj2⟩ := List.any_eq_true.1 h1
     simp only [Bool.and_eq_true, decide_eq_true_eq, Bool.not_eq_true'] at hj2
     obtain ⟨⟨hij, hjx⟩, hjw⟩ := hj2; obtain ⟨oj, hoj, e, he, hb, hon⟩ := Region.waitsFor_spec hjw
     have hjle : j ≤ t := by have := List.mem_range.1 hj; omega
     by_cases hjt : j = t
     · subst hjt
       have : oj = ot := Option.some.inj (hoj.symm.trans hot); subst this; have h2 := hall e he hb; rw [hon, getD_both hun] at h2
       cases h2
     · cases hl : listed.getD j false with
       | true =>
         have h2 := inv.closed j oj hoj hl e he hb; rw [hon, getD_both hun] at h2
         cases h2
       | false =>
         have hjs : j < listed.size := by rw [inv.size]; omega
         exact ih (t - j) (by omega) j rfl (by omega) hjx (getD_in hjs hl) t (Nat.le_refl _) hr
   · have h1 := List.all_eq_true.1 hc t (List.mem_range.2 htlt)
     simp only [Bool.or_eq_true, decide_eq_true_eq] at h1
     rcases h1 with h1 | h1
     · omega
     · obtain ⟨o', ho', e, he, hb, hon⟩ := Region.waitsFor_spec h1
       have : o' = ot := Option.some.inj (ho'.symm.trans hot); subst this; have h2 := hall e he hb
       rw [hon, getD_both (inv.tail (t - 1) (by omega) (by omega))] at h2
       cases h2
def earlyB (ops:Array Oper) (n:Nat) (X:Nat→Bool) (ds:Nat→Nat) (m:Nat):Bool:=
 decide (n<ops.size)&&sinkXs ops n X&&Region.chainB .any ops n&&Region.seqB .any ops (ops.size-n) n (headArr n ops.size)&&Region.noSelect ops &&
 ((List.range n).all fun i => match ops[i]? with
   | some o => o.guard.isNone && decide (o.dst = some (ds i)) && decide (ds i < m) && (o.after.all fun e => !Region.binds .any e || decide (e.on < i)) && ((List.range n).all fun j => i == j || decide (ds i ≠ ds j))
   | none => false) &&
 ((List.range n).all fun x => !X x || match ops[x]? with
   | some ox => (List.range ops.size).all fun j => j == x || Region.waitsFor .any ops j x || Region.waitsFor .any ops x j || (match ops[j]? with
     | some oj => ox.apart ops oj
     | none => true)
   | none => false)
theorem wp_region_early {id:Nat} {Q:Exit→Act→World→Prop} {a:Act} {l:List Oper} (n:Nat) (X:Nat→Bool) (ds:Nat→Nat) (Rel:World→World→Prop) (Inv:World→Prop) (G:Nat→Value→World→Prop)
  (hm:P.follows .mixedOrders=true) (hB:earlyB l.toArray n X ds a.tmps.size=true) (hQ:∀(c:List PanicEntry) (a:Act) (d:Tmp) (v:Value) (w:World),Q (.panic c) (Act.put a (some d) v) w→Q (.panic c) a w) (rtr:∀a b c,Rel a b→Rel b c→Rel a c) (rrf:∀a,Rel a a)
  (stab:∀i v W W',G i v W→Rel W W'→G i v W') (hr0:Rel w { w with drawn:=w.drawn+1 }) (hi0:Inv { w with drawn:=w.drawn+1 })
  (early:∀i o,i<n→X i=true→l[i]? = some o→∀(a':Act) (W:World),Rel w W→Inv W→(∀t,(∀i,i<n→ds i≠t)→a'.tmps.getD t undef=a.tmps.getD t undef)→
   (∀j,j<n→Region.waitsFor .any l.toArray i j=true→G j (a'.tmps.getD (ds j) undef) W)→∃v,(∀W',(execOp a'.eval o).run P W' = .ok (.value v) W')∧G i v W)
  (step:∀i o,i<n→X i=false→l[i]? = some o→∀(a':Act) (W:World),Rel w W→Inv W→(∀t,(∀i,i<n→ds i≠t)→a'.tmps.getD t undef=a.tmps.getD t undef)→
   (∀j,j<n→Region.waitsFor .any l.toArray i j=true→G j (a'.tmps.getD (ds j) undef) W)→MStep P o a' W (fun v W'=>Rel W W'∧Inv W'∧G i v W'))
  (tail:∀(v:Nat→Value) (W:World),Rel w W→Inv W→(∀i,i<n→G i (v i) W)→wpList P l.toArray Q (l.drop n) (putV a ds v n) W):
  (Code.region id l.toArray true).wp P Q a w:=by
 simp only[earlyB,Bool.and_eq_true,decide_eq_true_eq]at hB
 obtain⟨⟨⟨⟨⟨⟨hn,hs⟩,hc⟩,hq⟩,hsel⟩,hh⟩,hx⟩:=hB
 have hop:∀i,i<n→∃o,l.toArray[i]? = some o∧l[i]? = some o∧o.guard=none∧o.dst=some (ds i)∧ds i<a.tmps.size∧(∀e∈o.after,Region.binds .any e=true→e.on<i)∧∀j,j<n→i≠j→ds i≠ds j:=fun i hi=>by
  have h:=List.all_eq_true.1 hh i (List.mem_range.2 hi)
  cases ho:l.toArray[i]? with
  | none=>rw[ho]at h;cases h
  | some o =>
    rw [ho] at h
    simp only [Bool.and_eq_true, decide_eq_true_eq] at h
    obtain ⟨⟨⟨⟨h1, h2⟩, h3⟩, h4⟩, h5⟩ := h
    refine ⟨o, rfl, by simpa using ho, by simpa using h1, h2, h3, fun e he hb => ?_, fun j hj hij => ?_⟩
    · have h6 := (Array.all_eq_true'.1 h4) e he
      simpa [hb] using h6
    · have h6 := List.all_eq_true.1 h5 j (List.mem_range.2 hj)
      simpa [hij] using h6
 have hdd:∀i j,i<n→j<n→i≠j→ds i≠ds j:=fun i j hi hj hij=>by obtain⟨_,_,_,_,_,_,_,h⟩:=hop i hi;exact h j hj hij
 have hdz:∀i,i<n→ds i<a.tmps.size:=fun i hi=>by obtain⟨_,_,_,_,_,h,_⟩:=hop i hi;exact h
 have H:∀(f:Nat) (listed:Array Bool) (a':Act) (W:World),cntL listed n+f=n→RInv l.toArray a w n ds Rel Inv G listed a' W→wpAny P .any l.toArray Q (f+(l.toArray.size-n)) listed a' W:=by
  intro f
  induction f with
  | zero =>
    intro listed a' W hcnt I
    have hall := cntL_full (listed := listed) (n := n) (by omega)
    have hl := headArr_of I.inv hall
    have hv : putV a ds (fun i => a'.tmps.getD (ds i) undef) n = a' := by
      have e1 : (putV a ds (fun i => a'.tmps.getD (ds i) undef) n).tmps = a'.tmps := by
        apply Array.ext
        · rw [putV_size, I.sz]
        · intro t h1 h2
          have e : ∀ (A : Array Value) (h : t < A.size), A[t] = A.getD t undef := fun A h => by simp [h]
          rw [e _ h1, e _ h2]
          by_cases hx : ∃ i, i < n ∧ ds i = t
          · obtain ⟨i, hi, rfl⟩ := hx
            exact putV_at a ds _ n hdz hdd i hi
          · have hx' : ∀ i, i < n → ds i ≠ t := fun i hi he => hx ⟨i, hi, he⟩
            rw [putV_far a ds _ n hx', I.far t hx']
      have e2 : (putV a ds (fun i => a'.tmps.getD (ds i) undef) n).defers = a'.defers := by rw [putV_defers, I.df]
      generalize putV a ds (fun i => a'.tmps.getD (ds i) undef) n = x at *
      cases x; cases a'
      simp only at e1 e2
      rw [e1, e2]
    have ht := tail (fun i => a'.tmps.getD (ds i) undef) W I.b I.i (fun i hi => I.g i hi (hall i hi))
    rw [hv] at ht; rw [Nat.zero_add]
    have hdl : (l.drop n).length = l.toArray.size - n := by simp
    have := wpAny_of_seq (md := .any) (Q' := Q) (ops := l.toArray) (l.drop n) n listed a' W (fun j => by simp [List.getElem?_drop]) (by rw [hdl, hl]; exact hq) ht
    rwa [hdl] at this
  | succ f ih =>
    intro listed a' W hcnt I
    by_cases hxr : ∃ x, x ∈ Region.ready .any l.toArray listed ∧ x < n ∧ X x = true
    · obtain ⟨x, hxr, hxn, hxX⟩ := hxr
      obtain ⟨hun, o', ho', hall'⟩ := mem_ready.1 hxr; obtain ⟨o, ho, hol, hg, hd, hz, _, _⟩ := hop x hxn; have : o' = o := Option.some.inj (ho'.symm.trans ho); subst this
      obtain ⟨v, hrun, hG⟩ := early x o' hxn hxX hol a' W I.b I.i I.far fun j hj hw => by
        obtain ⟨oj, hoj, e, he, hb, hon⟩ := Region.waitsFor_spec hw; have : oj = o' := Option.some.inj (hoj.symm.trans ho'); subst this
        exact I.g j hj (by have := hall' e he hb; rwa [hon] at this)
      have hfree : ∀ j oj, l.toArray[j]? = some oj → j ≠ x → listed.getD j true = false → (∀ e ∈ oj.after, Region.binds .any e = true → e.on ≠ x) → o'.apart l.toArray oj = true := fun j oj hj hjx hju hno => by
        have h := List.all_eq_true.1 hx x (List.mem_range.2 hxn); rw [hxX, ho'] at h
        simp only [Bool.not_true, Bool.false_or] at h
        have h2 := List.all_eq_true.1 h j (List.mem_range.2 (Array.getElem?_eq_some_iff.1 hj).1); rw [hj] at h2
        simp only [Bool.or_eq_true, beq_iff_eq] at h2
        rcases h2 with ((h2 | h2) | h2) | h2
        · exact absurd h2 hjx
        · obtain ⟨oj', hoj', e, he, hb, hon⟩ := Region.waitsFor_spec h2
          have : oj' = oj := Option.some.inj (hoj'.symm.trans hj); subst this
          exact absurd hon (hno e he hb)
        · obtain ⟨oj', hoj', e, he, hb, hon⟩ := Region.waitsFor_spec h2
          have : oj' = o' := Option.some.inj (hoj'.symm.trans ho'); subst this; have h3 := hall' e he hb; rw [hon, getD_both hju] at h3
          cases h3
        · exact h2
      have hsz : x < listed.size := by rw [I.inv.size]; omega
      rw [show f + 1 + (l.toArray.size - n) = (f + (l.toArray.size - n)) + 1 by omega]
      refine wpAny_first ho' (Region.noSelect_spec hsel) (fun c a w h => hQ c a (ds x) v w (by rw [← hd]; exact h)) _ listed a' W hfree hxr (.inl ⟨by simp [Region.wanted, hg], hrun⟩) ?_
      rw [hd]
      refine ih _ _ _ (by rw [cntL_set hsz (getD_both hun), if_pos hxn]; omega) ⟨I.inv.set hxr hxn, I.b, I.i, by simp [Act.put, I.df], by simp [Act.put, I.sz], fun t ht => ?_, fun j hj hlj => ?_⟩
      · rw [put_get_ne _ (ht x hxn)]; exact I.far t ht
      · by_cases e : j = x
        · subst e; rw [put_get_eq _ (by rw [I.sz]; exact hz)]; exact hG
        · rw [put_get_ne _ (hdd x j hxn hj (Ne.symm e))]
          rw [getD_set_ne false (Ne.symm e)] at hlj
          exact I.g j hj hlj
    obtain ⟨k, hk, hkf, hkl⟩ := cntL_hole (listed := listed) (n := n) (by omega)
    have hkr : k ∈ Region.ready .any l.toArray listed := by
      obtain ⟨o, ho, _, _, _, _, h5, _⟩ := hop k hk
      exact mem_ready.2 ⟨getD_in (by rw [I.inv.size]; omega) hkf, o, ho, fun e he hb => hkl _ (h5 e he hb)⟩
    have hkX : X k = false := by
      cases h : X k with
      | false => rfl
      | true => exact absurd ⟨k, hkr, hk, h⟩ hxr
    rw [show f + 1 + (l.toArray.size - n) = (f + (l.toArray.size - n)) + 1 by omega]
    refine ⟨fun h0 => (by rw [h0] at hkr; cases hkr), fun i hi => ?_⟩
    have hin : i < n := by
      rcases Nat.lt_or_ge i n with h | h
      · exact h
      · exact absurd hi (tail_waitsXs hs hc hn I.inv _ k rfl hk hkX (getD_in (by rw [I.inv.size]; omega) hkf) i h)
    have hiX : X i = false := by
      cases h : X i with
      | false => rfl
      | true => exact absurd ⟨i, hi, hin, h⟩ hxr
    obtain ⟨hun, o', ho', hall'⟩ := mem_ready.1 hi; obtain ⟨o, ho, hol, hg, hd, hz, _, _⟩ := hop i hin; have : o' = o := Option.some.inj (ho'.symm.trans ho); subst this
    have hst := step i o' hin hiX hol a' W I.b I.i I.far fun j hj hw => by
      obtain ⟨oj, hoj, e, he, hb, hon⟩ := Region.waitsFor_spec hw; have : oj = o' := Option.some.inj (hoj.symm.trans ho'); subst this
      exact I.g j hj (by have := hall' e he hb; rwa [hon] at this)
    unfold wpOp; rw [ho']
    simp only [Region.wanted, hg]
    simp only [if_true]
    refine .inl (hst.wp fun v W' hgd => ?_)
    obtain ⟨hb, hI, hG⟩ := hgd; rw [hd]
    have hsz : i < listed.size := by rw [I.inv.size]; omega
    refine ih _ _ _ (by rw [cntL_set hsz (getD_both hun), if_pos hin]; omega) ⟨I.inv.set hi hin, rtr _ _ _ I.b hb, hI, by simp [Act.put, I.df], by simp [Act.put, I.sz], fun t ht => ?_, fun j hj hlj => ?_⟩
    · rw [put_get_ne _ (ht i hin)]; exact I.far t ht
    · by_cases e : j = i
      · subst e; rw [put_get_eq _ (by rw [I.sz]; exact hz)]; exact hG
      · rw [put_get_ne _ (hdd i j hin hj (Ne.symm e))]
        rw [getD_set_ne false (Ne.symm e)] at hlj
        exact stab _ _ _ _ (I.g j hj hlj) hb
 refine wp_region_any hm ?_
 have:=H n (Array.replicate l.toArray.size false) a { w with drawn:=w.drawn+1 } (by rw[cntL_zero];omega)
  ⟨⟨by simp, fun j oj _ hl => (by rw [getD_replicate_false] at hl; cases hl), fun t _ ht => getD_in (by simpa using ht) (getD_replicate_false _ _)⟩, hr0, hi0, rfl, rfl, fun _ _ => rfl,
    fun i _ h => (by rw [getD_replicate_false] at h; cases h)⟩
 rwa [show n+(l.toArray.size-n)=l.toArray.size by omega]at this
end
end Go.Proofs.YtkaiilmgemaljaaGreat
/- The frame of a call: the blocks that the call itself has made so far, with what they hold. No statement is proved here; there are no conditions. -/
namespace Go.Proofs.YtkaiilmgemaljaaGreat
open Go.RowKit
theorem blw {B:Nat} {a w t:World} (h:Below B a w) (hB:B≤a.heap.size):Below B a (more w t):=h.trans ((below_more w t).mono (Nat.le_trans hB h.size))
theorem alw {B:Nat} {a w:World} {o:Obj} (h:Below B a w) (hB:B≤a.heap.size):Below B a (w.alloc o):=h.alloc (Nat.le_trans hB h.size) o
theorem stw {B b i:Nat} {a w:World} {v:Value} (h:Below B a w) (hB:B≤b):Below B a (w.setCell ⟨b,i,none⟩ v):=h.setCell (p:=⟨b,i,none⟩) hB v
theorem drw {B:Nat} {a w:World} (h:Below B a w):Below B a w.drew:=⟨h.os,h.tape,h.output,h.size,h.block⟩
theorem wp_region_more2 {P:Program} {id:Nat} {Q:Exit→Act→World→Prop} {a:Act} {w t:World} {l:List Oper} (hm:P.follows .mixedOrders=true) (hB:Region.lexB .any l.toArray=true)
  (h:wpQuiet P l.toArray (fun w'=>∃t,w'=more w t) (fun a'=>∀w',(∃t,w'=more w t)→Q .normal a' w') l a):(Code.region id l.toArray true).wp P Q a (more w t):=
 wp_region_quiet (C:=fun w'=>∃t,w'=more w t) hm hB (more_of ⟨(below_more w t).os,(below_more w t).tape,(below_more w t).output,(below_more w t).size,(below_more w t).block⟩) (by simpa using h)
def frAt (L:List (List Value)) (i j:Nat):Option Value:=match L[i]? with|some l=>l[j]?|none=>none
structure Fr (w wr:World) (L:List (List Value)):Prop where
 b:Below w.heap.size w wr
 z:w.heap.size+L.length≤wr.heap.size
 cell:∀i j v,frAt L i j=some v→wr.cell? ⟨w.heap.size+i,j,none⟩=some v
 froz:∀i j v,frAt L i j=some v→wr.frozen? ⟨w.heap.size+i,j,none⟩=false
section
variable {w wr w2:World} {L:List (List Value)}
theorem Fr.cellA (h:Fr w wr L) {b:Nat} (i j:Nat) {v:Value} (hb:b=w.heap.size+i) (hv:frAt L i j=some v):wr.cell? ⟨b,j,none⟩=some v:=by subst hb;exact h.cell i j v hv
theorem Fr.frozA (h:Fr w wr L) {b:Nat} (i j:Nat) {v:Value} (hb:b=w.heap.size+i) (hv:frAt L i j=some v):wr.frozen? ⟨b,j,none⟩=false:=by subst hb;exact h.froz i j v hv
theorem Fr.ltA (h:Fr w wr L) {b:Nat} (i:Nat) (hb:b=w.heap.size+i) (hi:i<L.length):b<wr.heap.size:=by have:=h.z;omega
theorem Fr.c0 (h:Fr w wr L) (j:Nat) {v:Value} (hv:frAt L 0 j=some v):wr.cell? ⟨w.heap.size,j,none⟩=some v:=h.cellA 0 j rfl hv
theorem Fr.f0 (h:Fr w wr L) (j:Nat) {v:Value} (hv:frAt L 0 j=some v):wr.frozen? ⟨w.heap.size,j,none⟩=false:=h.frozA 0 j rfl hv
theorem Fr.l0 (h:Fr w wr L) (hi:0<L.length):w.heap.size<wr.heap.size:=h.ltA 0 rfl hi
theorem Fr.c1 (h:Fr w wr L) (j:Nat) {v:Value} (hv:frAt L 1 j=some v):wr.cell? ⟨w.heap.size+1,j,none⟩=some v:=h.cellA 1 j rfl hv
theorem Fr.f1 (h:Fr w wr L) (j:Nat) {v:Value} (hv:frAt L 1 j=some v):wr.frozen? ⟨w.heap.size+1,j,none⟩=false:=h.frozA 1 j rfl hv
theorem Fr.l1 (h:Fr w wr L) (hi:1<L.length):w.heap.size+1<wr.heap.size:=h.ltA 1 rfl hi
theorem Fr.c2 (h:Fr w wr L) (j:Nat) {v:Value} (hv:frAt L 2 j=some v):wr.cell? ⟨w.heap.size+1+1,j,none⟩=some v:=h.cellA 2 j rfl hv
theorem Fr.f2 (h:Fr w wr L) (j:Nat) {v:Value} (hv:frAt L 2 j=some v):wr.frozen? ⟨w.heap.size+1+1,j,none⟩=false:=h.frozA 2 j rfl hv
theorem Fr.l2 (h:Fr w wr L) (hi:2<L.length):w.heap.size+1+1<wr.heap.size:=h.ltA 2 rfl hi
theorem Fr.c3 (h:Fr w wr L) (j:Nat) {v:Value} (hv:frAt L 3 j=some v):wr.cell? ⟨w.heap.size+1+1+1,j,none⟩=some v:=h.cellA 3 j rfl hv
theorem Fr.f3 (h:Fr w wr L) (j:Nat) {v:Value} (hv:frAt L 3 j=some v):wr.frozen? ⟨w.heap.size+1+1+1,j,none⟩=false:=h.frozA 3 j rfl hv
theorem Fr.l3 (h:Fr w wr L) (hi:3<L.length):w.heap.size+1+1+1<wr.heap.size:=h.ltA 3 rfl hi
theorem Fr.c4 (h:Fr w wr L) (j:Nat) {v:Value} (hv:frAt L 4 j=some v):wr.cell? ⟨w.heap.size+1+1+1+1,j,none⟩=some v:=h.cellA 4 j rfl hv
theorem Fr.f4 (h:Fr w wr L) (j:Nat) {v:Value} (hv:frAt L 4 j=some v):wr.frozen? ⟨w.heap.size+1+1+1+1,j,none⟩=false:=h.frozA 4 j rfl hv
theorem Fr.l4 (h:Fr w wr L) (hi:4<L.length):w.heap.size+1+1+1+1<wr.heap.size:=h.ltA 4 rfl hi
theorem Fr.c5 (h:Fr w wr L) (j:Nat) {v:Value} (hv:frAt L 5 j=some v):wr.cell? ⟨w.heap.size+1+1+1+1+1,j,none⟩=some v:=h.cellA 5 j rfl hv
theorem Fr.f5 (h:Fr w wr L) (j:Nat) {v:Value} (hv:frAt L 5 j=some v):wr.frozen? ⟨w.heap.size+1+1+1+1+1,j,none⟩=false:=h.frozA 5 j rfl hv
theorem Fr.l5 (h:Fr w wr L) (hi:5<L.length):w.heap.size+1+1+1+1+1<wr.heap.size:=h.ltA 5 rfl hi
theorem Fr.xf0 {w wr:World} {a0_0 a0_1 a0_2 a0_3 a1_0 a1_1:Value} {t0 t1:List Value} {tt:List (List Value)} (h:Fr w wr ((a0_0::a0_1::a0_2::a0_3::t0)::(a1_0::a1_1::t1)::tt)):w.heap.size<wr.heap.size∧wr.cell? ⟨w.heap.size,0,none⟩=some a0_0∧wr.frozen? ⟨w.heap.size,0,none⟩=false∧wr.cell? ⟨w.heap.size,1,none⟩=some a0_1∧wr.frozen? ⟨w.heap.size,1,none⟩=false∧wr.cell? ⟨w.heap.size,2,none⟩=some a0_2∧wr.frozen? ⟨w.heap.size,2,none⟩=false∧wr.cell? ⟨w.heap.size,3,none⟩=some a0_3∧wr.frozen? ⟨w.heap.size,3,none⟩=false∧w.heap.size+1<wr.heap.size∧wr.cell? ⟨w.heap.size+1,0,none⟩=some a1_0∧wr.frozen? ⟨w.heap.size+1,0,none⟩=false∧wr.cell? ⟨w.heap.size+1,1,none⟩=some a1_1∧wr.frozen? ⟨w.heap.size+1,1,none⟩=false:=
 ⟨h.l0 (by simp),h.c0 0 rfl,h.f0 0 rfl,h.c0 1 rfl,h.f0 1 rfl,h.c0 2 rfl,h.f0 2 rfl,h.c0 3 rfl,h.f0 3 rfl,h.l1 (by simp),h.c1 0 rfl,h.f1 0 rfl,h.c1 1 rfl,h.f1 1 rfl⟩
theorem Fr.xf1 {w wr:World} {a0_0 a0_1 a0_2 a0_3 a1_0 a1_1 a2_0 a2_1:Value} {t0 t1 t2:List Value} {tt:List (List Value)} (h:Fr w wr ((a0_0::a0_1::a0_2::a0_3::t0)::(a1_0::a1_1::t1)::(a2_0::a2_1::t2)::tt)):w.heap.size<wr.heap.size∧wr.cell? ⟨w.heap.size,0,none⟩=some a0_0∧wr.frozen? ⟨w.heap.size,0,none⟩=false∧wr.cell? ⟨w.heap.size,1,none⟩=some a0_1∧wr.frozen? ⟨w.heap.size,1,none⟩=false∧wr.cell? ⟨w.heap.size,2,none⟩=some a0_2∧wr.frozen? ⟨w.heap.size,2,none⟩=false∧wr.cell? ⟨w.heap.size,3,none⟩=some a0_3∧wr.frozen? ⟨w.heap.size,3,none⟩=false∧w.heap.size+1<wr.heap.size∧wr.cell? ⟨w.heap.size+1,0,none⟩=some a1_0∧wr.frozen? ⟨w.heap.size+1,0,none⟩=false∧wr.cell? ⟨w.heap.size+1,1,none⟩=some a1_1∧wr.frozen? ⟨w.heap.size+1,1,none⟩=false∧w.heap.size+1+1<wr.heap.size∧wr.cell? ⟨w.heap.size+1+1,0,none⟩=some a2_0∧wr.frozen? ⟨w.heap.size+1+1,0,none⟩=false∧wr.cell? ⟨w.heap.size+1+1,1,none⟩=some a2_1∧wr.frozen? ⟨w.heap.size+1+1,1,none⟩=false:=
 ⟨h.l0 (by simp),h.c0 0 rfl,h.f0 0 rfl,h.c0 1 rfl,h.f0 1 rfl,h.c0 2 rfl,h.f0 2 rfl,h.c0 3 rfl,h.f0 3 rfl,h.l1 (by simp),h.c1 0 rfl,h.f1 0 rfl,h.c1 1 rfl,h.f1 1 rfl,h.l2 (by simp),h.c2 0 rfl,h.f2 0 rfl,h.c2 1 rfl,h.f2 1 rfl⟩
theorem Fr.xf2 {w wr:World} {a0_0 a0_1 a0_2 a0_3:Value} {t0:List Value} {tt:List (List Value)} (h:Fr w wr ((a0_0::a0_1::a0_2::a0_3::t0)::tt)):w.heap.size<wr.heap.size∧wr.cell? ⟨w.heap.size,0,none⟩=some a0_0∧wr.frozen? ⟨w.heap.size,0,none⟩=false∧wr.cell? ⟨w.heap.size,1,none⟩=some a0_1∧wr.frozen? ⟨w.heap.size,1,none⟩=false∧wr.cell? ⟨w.heap.size,2,none⟩=some a0_2∧wr.frozen? ⟨w.heap.size,2,none⟩=false∧wr.cell? ⟨w.heap.size,3,none⟩=some a0_3∧wr.frozen? ⟨w.heap.size,3,none⟩=false:=
 ⟨h.l0 (by simp),h.c0 0 rfl,h.f0 0 rfl,h.c0 1 rfl,h.f0 1 rfl,h.c0 2 rfl,h.f0 2 rfl,h.c0 3 rfl,h.f0 3 rfl⟩
theorem Fr.xf3 {w wr:World} {a0_0 a0_1:Value} {t0:List Value} {tt:List (List Value)} (h:Fr w wr ((a0_0::a0_1::t0)::tt)):w.heap.size<wr.heap.size∧wr.cell? ⟨w.heap.size,0,none⟩=some a0_0∧wr.frozen? ⟨w.heap.size,0,none⟩=false∧wr.cell? ⟨w.heap.size,1,none⟩=some a0_1∧wr.frozen? ⟨w.heap.size,1,none⟩=false:=
 ⟨h.l0 (by simp),h.c0 0 rfl,h.f0 0 rfl,h.c0 1 rfl,h.f0 1 rfl⟩
theorem Fr.xf4 {w wr:World} {a0_0 a0_1 a1_0 a1_1:Value} {t0 t1:List Value} {tt:List (List Value)} (h:Fr w wr ((a0_0::a0_1::t0)::(a1_0::a1_1::t1)::tt)):w.heap.size<wr.heap.size∧wr.cell? ⟨w.heap.size,0,none⟩=some a0_0∧wr.frozen? ⟨w.heap.size,0,none⟩=false∧wr.cell? ⟨w.heap.size,1,none⟩=some a0_1∧wr.frozen? ⟨w.heap.size,1,none⟩=false∧w.heap.size+1<wr.heap.size∧wr.cell? ⟨w.heap.size+1,0,none⟩=some a1_0∧wr.frozen? ⟨w.heap.size+1,0,none⟩=false∧wr.cell? ⟨w.heap.size+1,1,none⟩=some a1_1∧wr.frozen? ⟨w.heap.size+1,1,none⟩=false:=
 ⟨h.l0 (by simp),h.c0 0 rfl,h.f0 0 rfl,h.c0 1 rfl,h.f0 1 rfl,h.l1 (by simp),h.c1 0 rfl,h.f1 0 rfl,h.c1 1 rfl,h.f1 1 rfl⟩
theorem Fr.xf5 {w wr:World} {a0_0 a0_1 a1_0 a1_1 a2_0 a2_1:Value} {t0 t1 t2:List Value} {tt:List (List Value)} (h:Fr w wr ((a0_0::a0_1::t0)::(a1_0::a1_1::t1)::(a2_0::a2_1::t2)::tt)):w.heap.size<wr.heap.size∧wr.cell? ⟨w.heap.size,0,none⟩=some a0_0∧wr.frozen? ⟨w.heap.size,0,none⟩=false∧wr.cell? ⟨w.heap.size,1,none⟩=some a0_1∧wr.frozen? ⟨w.heap.size,1,none⟩=false∧w.heap.size+1<wr.heap.size∧wr.cell? ⟨w.heap.size+1,0,none⟩=some a1_0∧wr.frozen? ⟨w.heap.size+1,0,none⟩=false∧wr.cell? ⟨w.heap.size+1,1,none⟩=some a1_1∧wr.frozen? ⟨w.heap.size+1,1,none⟩=false∧w.heap.size+1+1<wr.heap.size∧wr.cell? ⟨w.heap.size+1+1,0,none⟩=some a2_0∧wr.frozen? ⟨w.heap.size+1+1,0,none⟩=false∧wr.cell? ⟨w.heap.size+1+1,1,none⟩=some a2_1∧wr.frozen? ⟨w.heap.size+1+1,1,none⟩=false:=
 ⟨h.l0 (by simp),h.c0 0 rfl,h.f0 0 rfl,h.c0 1 rfl,h.f0 1 rfl,h.l1 (by simp),h.c1 0 rfl,h.f1 0 rfl,h.c1 1 rfl,h.f1 1 rfl,h.l2 (by simp),h.c2 0 rfl,h.f2 0 rfl,h.c2 1 rfl,h.f2 1 rfl⟩
theorem Fr.xf6 {w wr:World} {a0_0 a0_1 a0_2 a0_3 a1_0 a1_1 a1_2 a1_3 a1_4 a1_5:Value} {t0 t1:List Value} {tt:List (List Value)} (h:Fr w wr ((a0_0::a0_1::a0_2::a0_3::t0)::(a1_0::a1_1::a1_2::a1_3::a1_4::a1_5::t1)::tt)):w.heap.size<wr.heap.size∧wr.cell? ⟨w.heap.size,0,none⟩=some a0_0∧wr.frozen? ⟨w.heap.size,0,none⟩=false∧wr.cell? ⟨w.heap.size,1,none⟩=some a0_1∧wr.frozen? ⟨w.heap.size,1,none⟩=false∧wr.cell? ⟨w.heap.size,2,none⟩=some a0_2∧wr.frozen? ⟨w.heap.size,2,none⟩=false∧wr.cell? ⟨w.heap.size,3,none⟩=some a0_3∧wr.frozen? ⟨w.heap.size,3,none⟩=false∧w.heap.size+1<wr.heap.size∧wr.cell? ⟨w.heap.size+1,0,none⟩=some a1_0∧wr.frozen? ⟨w.heap.size+1,0,none⟩=false∧wr.cell? ⟨w.heap.size+1,1,none⟩=some a1_1∧wr.frozen? ⟨w.heap.size+1,1,none⟩=false∧wr.cell? ⟨w.heap.size+1,2,none⟩=some a1_2∧wr.frozen? ⟨w.heap.size+1,2,none⟩=false∧wr.cell? ⟨w.heap.size+1,3,none⟩=some a1_3∧wr.frozen? ⟨w.heap.size+1,3,none⟩=false∧wr.cell? ⟨w.heap.size+1,4,none⟩=some a1_4∧wr.frozen? ⟨w.heap.size+1,4,none⟩=false∧wr.cell? ⟨w.heap.size+1,5,none⟩=some a1_5∧wr.frozen? ⟨w.heap.size+1,5,none⟩=false:=
 ⟨h.l0 (by simp),h.c0 0 rfl,h.f0 0 rfl,h.c0 1 rfl,h.f0 1 rfl,h.c0 2 rfl,h.f0 2 rfl,h.c0 3 rfl,h.f0 3 rfl,h.l1 (by simp),h.c1 0 rfl,h.f1 0 rfl,h.c1 1 rfl,h.f1 1 rfl,h.c1 2 rfl,h.f1 2 rfl,h.c1 3 rfl,h.f1 3 rfl,h.c1 4 rfl,h.f1 4 rfl,h.c1 5 rfl,h.f1 5 rfl⟩
theorem Fr.xf7 {w wr:World} {a0_0 a0_1 a0_2 a0_3 a0_4 a0_5:Value} {t0:List Value} {tt:List (List Value)} (h:Fr w wr ((a0_0::a0_1::a0_2::a0_3::a0_4::a0_5::t0)::tt)):w.heap.size<wr.heap.size∧wr.cell? ⟨w.heap.size,0,none⟩=some a0_0∧wr.frozen? ⟨w.heap.size,0,none⟩=false∧wr.cell? ⟨w.heap.size,1,none⟩=some a0_1∧wr.frozen? ⟨w.heap.size,1,none⟩=false∧wr.cell? ⟨w.heap.size,2,none⟩=some a0_2∧wr.frozen? ⟨w.heap.size,2,none⟩=false∧wr.cell? ⟨w.heap.size,3,none⟩=some a0_3∧wr.frozen? ⟨w.heap.size,3,none⟩=false∧wr.cell? ⟨w.heap.size,4,none⟩=some a0_4∧wr.frozen? ⟨w.heap.size,4,none⟩=false∧wr.cell? ⟨w.heap.size,5,none⟩=some a0_5∧wr.frozen? ⟨w.heap.size,5,none⟩=false:=
 ⟨h.l0 (by simp),h.c0 0 rfl,h.f0 0 rfl,h.c0 1 rfl,h.f0 1 rfl,h.c0 2 rfl,h.f0 2 rfl,h.c0 3 rfl,h.f0 3 rfl,h.c0 4 rfl,h.f0 4 rfl,h.c0 5 rfl,h.f0 5 rfl⟩
theorem Fr.xf8 {w wr:World} {a0_0 a0_1 a0_2 a0_3 a0_4 a0_5 a1_0 a1_1 a2_0 a2_1 a2_2 a2_3:Value} {t0 t1 t2:List Value} {tt:List (List Value)} (h:Fr w wr ((a0_0::a0_1::a0_2::a0_3::a0_4::a0_5::t0)::(a1_0::a1_1::t1)::(a2_0::a2_1::a2_2::a2_3::t2)::tt)):w.heap.size<wr.heap.size∧wr.cell? ⟨w.heap.size,0,none⟩=some a0_0∧wr.frozen? ⟨w.heap.size,0,none⟩=false∧wr.cell? ⟨w.heap.size,1,none⟩=some a0_1∧wr.frozen? ⟨w.heap.size,1,none⟩=false∧wr.cell? ⟨w.heap.size,2,none⟩=some a0_2∧wr.frozen? ⟨w.heap.size,2,none⟩=false∧wr.cell? ⟨w.heap.size,3,none⟩=some a0_3∧wr.frozen? ⟨w.heap.size,3,none⟩=false∧wr.cell? ⟨w.heap.size,4,none⟩=some a0_4∧wr.frozen? ⟨w.heap.size,4,none⟩=false∧wr.cell? ⟨w.heap.size,5,none⟩=some a0_5∧wr.frozen? ⟨w.heap.size,5,none⟩=false∧w.heap.size+1<wr.heap.size∧wr.cell? ⟨w.heap.size+1,0,none⟩=some a1_0∧wr.frozen? ⟨w.heap.size+1,0,none⟩=false∧wr.cell? ⟨w.heap.size+1,1,none⟩=some a1_1∧wr.frozen? ⟨w.heap.size+1,1,none⟩=false∧w.heap.size+1+1<wr.heap.size∧wr.cell? ⟨w.heap.size+1+1,0,none⟩=some a2_0∧wr.frozen? ⟨w.heap.size+1+1,0,none⟩=false∧wr.cell? ⟨w.heap.size+1+1,1,none⟩=some a2_1∧wr.frozen? ⟨w.heap.size+1+1,1,none⟩=false∧wr.cell? ⟨w.heap.size+1+1,2,none⟩=some a2_2∧wr.frozen? ⟨w.heap.size+1+1,2,none⟩=false∧wr.cell? ⟨w.heap.size+1+1,3,none⟩=some a2_3∧wr.frozen? ⟨w.heap.size+1+1,3,none⟩=false:=
 ⟨h.l0 (by simp),h.c0 0 rfl,h.f0 0 rfl,h.c0 1 rfl,h.f0 1 rfl,h.c0 2 rfl,h.f0 2 rfl,h.c0 3 rfl,h.f0 3 rfl,h.c0 4 rfl,h.f0 4 rfl,h.c0 5 rfl,h.f0 5 rfl,h.l1 (by simp),h.c1 0 rfl,h.f1 0 rfl,h.c1 1 rfl,h.f1 1 rfl,h.l2 (by simp),h.c2 0 rfl,h.f2 0 rfl,h.c2 1 rfl,h.f2 1 rfl,h.c2 2 rfl,h.f2 2 rfl,h.c2 3 rfl,h.f2 3 rfl⟩
theorem Fr.start (w:World):Fr w w []:=⟨Below.refl _ _,Nat.le_refl _,fun i j v h=>by simp[frAt]at h,fun i j v h=>by simp[frAt]at h⟩
theorem Fr.below (h:Fr w wr L) (hb:Below wr.heap.size wr w2):Fr w w2 L:=
 ⟨h.b.trans (hb.mono h.b.size),Nat.le_trans h.z hb.size,fun i j v hv=>keep_cell (h.cell i j v hv) hb,fun i j v hv=>keep_froz (h.froz i j v hv) (h.cell i j v hv) hb⟩
theorem Fr.more (h:Fr w wr L) (t:World):Fr w (more wr t) L:=h.below (below_more wr t)
theorem Fr.drew (h:Fr w wr L):Fr w wr.drew L:=⟨drw h.b,h.z,h.cell,h.froz⟩
theorem Fr.drewN (h:Fr w wr L) (n:Nat):Fr w (wr.drewN n) L:=⟨below_drewN' h.b n,h.z,h.cell,h.froz⟩
theorem Fr.alloc (h:Fr w wr L) (o:Obj):Fr w (wr.alloc o) L:=h.below ((Below.refl _ _).alloc (Nat.le_refl _) o)
theorem Fr.frm (h:Fr w wr L) {S:Nat→Prop} (hf:Frm S wr w2) (hS:∀k,S k→w.heap.size≤k) (hn:∀k,S k→w.heap.size+L.length≤k):Fr w w2 L:=by
 have key:∀i j v,frAt L i j=some v→i<L.length:=fun i j v hv=>by
  unfold frAt at hv
  cases hL:L[i]? with
  | none=>rw[hL]at hv;cases hv
  | some l=>exact (List.getElem?_eq_some_iff.1 hL).1
 refine⟨h.b.trans (hf.below h.b.size hS),Nat.le_trans h.z hf.size,fun i j v hv=>hf.cell' (h.cell i j v hv) fun hs=>?_,fun i j v hv=>?_⟩
 ·have:=hn _ hs;have:=key i j v hv;omega
 ·have hk:w.heap.size+i<wr.heap.size:=by have:=h.z;have:=key i j v hv;omega
  have e:=hf.block _ hk fun hs=>by have:=hn _ hs;have:=key i j v hv;omega
  have h2:=h.froz i j v hv
  simpa[World.frozen?,e]using h2
theorem frAt_app_lt {L:List (List Value)} {x:List Value} {i j:Nat} {v:Value} (h:frAt (L++[x]) i j=some v) (hi:i<L.length):frAt L i j=some v:=by
 unfold frAt at h ⊢
 rw[List.getElem?_append_left hi]at h;exact h
theorem Fr.allocT (h:Fr w wr L) (hz:wr.heap.size=w.heap.size+L.length) (cs:Array Value) (T:TypeId):Fr w (wr.alloc (.cells cs T)) (L++[cs.toList]):=by
 have ha:=h.alloc (.cells cs T)
 have new:∀i j v,frAt (L++[cs.toList]) i j=some v→¬i<L.length→i=L.length∧cs[j]? = some v:=fun i j v hv hi=>by
  unfold frAt at hv
  rw[List.getElem?_append_right (by omega)]at hv
  have:i-L.length=0:=by
   rcases Nat.eq_zero_or_pos (i-L.length) with h'|h'
   ·exact h'
   ·rw[List.getElem?_eq_none (by simp;omega)]at hv;cases hv
  rw[this]at hv
  simp at hv
  exact⟨by omega,by simpa using hv⟩
 refine⟨ha.b,by simp;omega,fun i j v hv=>?_,fun i j v hv=>?_⟩
 ·by_cases hi:i<L.length
  ·exact ha.cell i j v (frAt_app_lt hv hi)
  ·obtain⟨rfl,hc⟩:=new i j v hv hi
   rw[← hz];simp[go_sem,hc]
 ·by_cases hi:i<L.length
  ·exact ha.froz i j v (frAt_app_lt hv hi)
  ·obtain⟨rfl,hc⟩:=new i j v hv hi
   rw[← hz];simp[go_sem]
theorem Fr.set (h:Fr w wr L) {b:Nat} (i j:Nat) (hb:b=w.heap.size+i) {u:Value} (hu:frAt L i j=some u) (v:Value):Fr w (wr.setCell ⟨b,j,none⟩ v) (L.modify i (·.set j v)):=by
 subst hb;have hc:=h.cell i j u hu
 refine⟨stw h.b (by omega),by simp;exact h.z,fun i' j' v' hv=>?_,fun i' j' v' hv=>?_⟩
 ·by_cases hi:i'=i
  ·subst hi
   cases hL:L[i']? with
   | none=>simp[frAt,hL]at hu
   | some l =>
     simp [frAt, hL] at hv hu
     by_cases hj : j' = j
     · subst hj
       rw [List.getElem?_set_self (List.getElem?_eq_some_iff.1 hu).1] at hv; injection hv with hv; subst hv
       simp [go_sem, hc]
     · rw [List.getElem?_set_ne (by omega)] at hv
       have := h.cell i' j' v' (by simp [frAt, hL, hv])
       have hne : ¬ j' = j := hj
       simp [go_sem, this, hne, Ne.symm hne]
  ·have:frAt L i' j'=some v':=by
    unfold frAt at hv ⊢;rw[List.getElem?_modify]at hv
    simp[Ne.symm hi]at hv
    exact hv
   have:=h.cell i' j' v' this
   have hne:¬w.heap.size+i'=w.heap.size+i:=by omega
   have hne2:¬w.heap.size+i=w.heap.size+i':=by omega
   simp[go_sem,this,hne,hne2]
   try omega
 ·have:∃u',frAt L i' j'=some u':=by
   unfold frAt at hv ⊢;rw[List.getElem?_modify]at hv
   cases hL:L[i']? with
   | none=>simp[hL]at hv
   | some l =>
     by_cases hi : i = i'
     · simp [hL, hi] at hv
       have : j' < l.length := by have := (List.getElem?_eq_some_iff.1 hv).1; simpa using this
       exact ⟨l[j'], by simp [this]⟩
     · simp [hL, hi] at hv
       exact ⟨v', by simpa using hv⟩
  obtain⟨u',hu'⟩:=this;have:=h.froz i' j' u' hu'
  simp[go_sem,this]
end
end Go.Proofs.YtkaiilmgemaljaaGreat
/- A region that draws its order: quiet operations and calls that make memory, one block made somewhere among them, one chain of operations (a store into that block) behind all. No statement is proved here; there are no conditions. -/
namespace Go.Proofs.YtkaiilmgemaljaaGreat
open Go.RowKit
section
variable {P:Program} {ops:Array Oper} {md:Region.Mode} {w:World} {n:Nat} {val:Nat→Value}
def Cm (X:World):World→Prop:=fun w'=>∃t,w'=more X t
def QAll (P:Program) (w:World) (o:Oper) (a:Act) (v:Value):Prop:=∀X,Cm w X→∀w',Cm X w'→o.quietAt P a (Cm X) w' v
def qV (P:Program) (ops:Array Oper) (w:World) (n:Nat) (val:Nat→Value) (i:Nat) (K:Act→Prop) (a:Act):Prop:=
 match ops[i]? with
 | none=>K a
 | some o=>if Region.wanted o (yielded ops a.tmps) then (i=n∨QAll P w o a (val i))∧K (a.put o.dst (val i)) else K (a.put o.dst undef)
theorem qV_mono {i:Nat} {a:Act} {K K':Act→Prop} (h:∀a,K a→K' a) (hh:qV P ops w n val i K a):qV P ops w n val i K' a:=by
 unfold qV at *
 split
 ·rename_i ho;simp only[ho]at hh;exact h _ hh
 ·rename_i o ho
  simp only[ho]at hh
  split
  ·rename_i hw;simp only[hw,if_true]at hh;exact⟨hh.1,h _ hh.2⟩
  ·rename_i hw;simp only[hw]at hh;exact h _ hh
def YV (P:Program) (ops:Array Oper) (w:World) (n:Nat) (val:Nat→Value) (i:Nat) (o:Oper) (v:Value) (a:Act):Prop:=
 (Region.wanted o (yielded ops a.tmps)=true∧v=val i∧(i=n∨QAll P w o a v))∨(Region.wanted o (yielded ops a.tmps)=false∧v=undef)
theorem YV.qV {i:Nat} {o:Oper} {v:Value} {a:Act} (hi:ops[i]? = some o) (hy:YV P ops w n val i o v a) {K:Act→Prop} (h:K (a.put o.dst v)):qV P ops w n val i K a:=by
 unfold Go.Proofs.YtkaiilmgemaljaaGreat.qV
 simp only[hi]
 rcases hy with⟨hw,rfl,hv⟩|⟨hw,rfl⟩
 ·simp only[hw,if_true];exact⟨hv,h⟩
 ·simp only[hw,Bool.false_eq_true,if_false];exact h
theorem yv_of_qV {i:Nat} {o:Oper} {a:Act} {K:Act→Prop} (hi:ops[i]? = some o) (h:qV P ops w n val i K a):∃v,YV P ops w n val i o v a∧K (a.put o.dst v):=by
 unfold qV at h
 simp only[hi]at h
 by_cases hw:Region.wanted o (yielded ops a.tmps)=true
 ·simp only[hw,if_true]at h
  exact⟨_,.inl ⟨hw,rfl,h.1⟩,h.2⟩
 ·simp only[hw]at h
  exact⟨undef,.inr ⟨by simpa using hw,rfl⟩,h⟩
theorem qV_put {i j:Nat} {oi oj:Oper} {v:Value} (hj:ops[j]? = some oj) (hap:oi.apart ops oj=true)
  (hsi:∀cs b,oi.op≠.select cs b) (hsj:∀cs b,oj.op≠.select cs b) {K:Act→Prop} {a:Act}
  (hy:YV P ops w n val i oi v a) (h:qV P ops w n val j K (a.put oi.dst v)):
  qV P ops w n val j (fun a'=>YV P ops w n val i oi v a'∧K (a'.put oi.dst v)) a:=by
 obtain⟨h1,h2,h3⟩:=Oper.apart_spec hap
 have keep:∀(a:Act),YV P ops w n val i oi v a→∀u,YV P ops w n val i oi v (a.put oj.dst u):=fun a hy u=>by
  have e:=execOp_put oi hsi a oj.dst u h3;have e2:=wanted_put oi a oj.dst u h3
  rcases hy with⟨hw,hv,hq⟩|⟨hw,hv⟩
  ·refine .inl ⟨by rw[e2];exact hw,hv,?_⟩
   rcases hq with hq|hq
   ·exact .inl hq
   ·refine .inr fun X hX w' hw'=>?_
    have:=hq X hX w' hw';unfold Oper.quietAt at *
    rw[e];exact this
  ·exact .inr ⟨by rw[e2];exact hw,hv⟩
 unfold qV at *
 simp only[hj]at *
 rw[wanted_put oj a oi.dst v h1]at h
 split
 ·rename_i hw
  simp only[hw,if_true]at h
  obtain⟨hq,hn⟩:=h
  refine⟨?_,keep a hy _,by rw[← Act.put_comm a v _ h2];exact hn⟩
  rcases hq with hq|hq
  ·exact .inl hq
  ·refine .inr fun X hX w' hw'=>?_
   have:=hq X hX w' hw';unfold Oper.quietAt at *
   rwa [execOp_put oj hsj a oi.dst v h1]at this
 ·rename_i hw
  simp only[hw]at h
  exact⟨keep a hy _,by rw[← Act.put_comm a v undef h2];exact h⟩
def wpAnyV (P:Program) (md:Region.Mode) (ops:Array Oper) (w:World) (n:Nat) (val:Nat→Value) (m x:Nat) (L:Array Bool→Act→Prop):Nat→Array Bool→Act→Prop
 | 0,listed,a=>L listed a
 | f+1,listed,a=>Region.ready md ops listed≠[]∧∀i∈Region.ready md ops listed,(i<m∧qV P ops w n val i (wpAnyV P md ops w n val m x L f (listed.setIfInBounds i true)) a)∨(m≤i∧x∈Region.ready md ops listed)
def sinkX (md:Region.Mode) (ops:Array Oper) (m x:Nat):Bool:=
 (List.range m).all fun i=>i == x||(List.range (m+1)).any fun j=>decide (i<j)&&j != x&&Region.waitsFor md ops j i
theorem tail_waitsX {m x:Nat} {listed:Array Bool} (hs:sinkX md ops m x=true) (hc:Region.chainB md ops m=true) (hm:m<ops.size) (inv:HeadInv md ops m listed):
  ∀(d i:Nat),m-i=d→i<m→i≠x→listed.getD i true=false→∀t,m≤t→t∉Region.ready md ops listed:=by
 intro d
 induction d using Nat.strongRecOn with
 | _ d ih =>
   intro i hd hi hix hun t ht hr
   obtain ⟨_, ot, hot, hall⟩ := mem_ready.1 hr; have htlt : t < ops.size := (Array.getElem?_eq_some_iff.1 hot).1
   by_cases htm : t = m
   · subst htm
     have h1 := List.all_eq_true.1 hs i (List.mem_range.2 hi)
     simp only [Bool.or_eq_true, beq_iff_eq] at h1
     obtain ⟨j, hj, hj2⟩ := List.any_eq_true.1 (h1.resolve_left hix)
     simp only [Bool.and_eq_true, decide_eq_true_eq, bne_iff_ne, ne_eq] at hj2
     obtain ⟨⟨hij, hjx⟩, hjw⟩ := hj2; obtain ⟨oj, hoj, e, he, hb, hon⟩ := Region.waitsFor_spec hjw
     have hjle : j ≤ t := by have := List.mem_range.1 hj; omega
     by_cases hjt : j = t
     · subst hjt
       have : oj = ot := Option.some.inj (hoj.symm.trans hot); subst this; have h2 := hall e he hb; rw [hon, getD_both hun] at h2
       cases h2
     · cases hl : listed.getD j false with
       | true =>
         have h2 := inv.closed j oj hoj hl e he hb; rw [hon, getD_both hun] at h2
         cases h2
       | false =>
         have hjs : j < listed.size := by rw [inv.size]; omega
         exact ih (t - j) (by omega) j rfl (by omega) hjx (getD_in hjs hl) t (Nat.le_refl _) hr
   · have h1 := List.all_eq_true.1 hc t (List.mem_range.2 htlt)
     simp only [Bool.or_eq_true, decide_eq_true_eq] at h1
     rcases h1 with h1 | h1
     · omega
     · obtain ⟨o', ho', e, he, hb, hon⟩ := Region.waitsFor_spec h1
       have : o' = ot := Option.some.inj (ho'.symm.trans hot); subst this; have h2 := hall e he hb
       rw [hon, getD_both (inv.tail (t - 1) (by omega) (by omega))] at h2
       cases h2
theorem wpAnyV_first {m x i:Nat} {oi:Oper} {v:Value} {L:Array Bool→Act→Prop} (hi:ops[i]? = some oi) (hsel:∀(j:Nat) (o:Oper) cs b,ops[j]? = some o→o.op≠.select cs b)
  (hs:sinkX md ops m x=true) (hc:Region.chainB md ops m=true) (hm:m<ops.size) (him:i<m) (hdone:∀listed a,L listed a→∀j∈Region.ready md ops listed,m≤j):
  ∀ (f : Nat) (listed : Array Bool) (a : Act), HeadInv md ops m listed →
    (∀ j oj, ops[j]? = some oj → j ≠ i → listed.getD j true = false → (∀ e ∈ oj.after, Region.binds md e = true → e.on ≠ i) → oi.apart ops oj = true) →
    i ∈ Region.ready md ops listed → YV P ops w n val i oi v a →
    wpAnyV P md ops w n val m x L f (listed.setIfInBounds i true) (a.put oi.dst v) → wpAnyV P md ops w n val m x L (f + 1) listed a := by
 intro f
 have low:∀(listed:Array Bool),HeadInv md ops m listed→i∈Region.ready md ops listed→∀j∈Region.ready md ops listed,j<m∨(m≤j∧x∈Region.ready md ops listed):=fun listed inv hr j hj=>by
  rcases Nat.lt_or_ge j m with h|h
  ·exact .inl h
  ·by_cases hix:i=x
   ·subst hix;exact .inr ⟨h,hr⟩
   ·exact absurd hj (tail_waitsX hs hc hm inv _ i rfl him hix (mem_ready.1 hr).1 j h)
 induction f with
 | zero =>
   intro listed a inv _ hr hy H
   refine ⟨fun h => (by rw [h] at hr; cases hr), fun j hj => ?_⟩
   rcases low listed inv hr j hj with hjm | hjm
   · refine .inl ⟨hjm, ?_⟩
     by_cases hji : j = i
     · subst hji; exact hy.qV hi H
     · have := hdone _ _ H j (ready_mono hj hji)
       omega
   · exact .inr hjm
 | succ f ih =>
   intro listed a inv hfree hr hy H
   refine ⟨fun h => (by rw [h] at hr; cases hr), fun j hj => ?_⟩
   rcases low listed inv hr j hj with hjm | hjm
   · refine .inl ⟨hjm, ?_⟩
     by_cases hji : j = i
     · subst hji; exact hy.qV hi H
     · have h1 := ((H.2 j (ready_mono hj hji)).resolve_right fun h => by omega).2
       obtain ⟨hjun, oj, hoj, hall⟩ := mem_ready.1 hj
       have hnot : ∀ e ∈ oj.after, Region.binds md e = true → e.on ≠ i := fun e he hb heq => by
         have h1 := hall e he hb; rw [heq, getD_both (mem_ready.1 hr).1] at h1
         cases h1
       have h2 := qV_put hoj (hfree j oj hoj hji hjun hnot) (fun cs b => hsel i oi cs b hi) (fun cs b => hsel j oj cs b hoj) hy h1
       refine qV_mono (fun a' h3 => ih (listed.setIfInBounds j true) a' (inv.set hj hjm) (fun k ok hk hki hun hno => hfree k ok hk hki ?_ hno) (ready_mono hr (Ne.symm hji)) h3.1 ?_) h2
       · by_cases hjk : j = k
         · subst hjk; exact hjun
         · rw [getD_set_ne true hjk] at hun; exact hun
       · rw [Array.setIfInBounds_comm _ _ hji]
         exact h3.2
   · exact .inr hjm
def wpV (P:Program) (ops:Array Oper) (w:World) (n:Nat) (val:Nat→Value) (Q:Act→Prop):List Oper→Nat→Act→Prop
 | [],_,a=>Q a
 | o::l,k,a=>if Region.wanted o (yielded ops a.tmps) then (k=n∨QAll P w o a (val k))∧wpV P ops w n val Q l (k+1) (a.put o.dst (val k)) else wpV P ops w n val Q l (k+1) (a.put o.dst undef)
theorem wpAnyV_lex {m x g:Nat} {Lq:Act→Prop} (hsel:Region.noSelect ops=true) (hs:sinkX md ops m x=true) (hc:Region.chainB md ops m=true) (hm:m<ops.size):
  ∀(l:List Oper) (k:Nat) (listed:Array Bool) (a:Act),(∀j,j<l.length→l[j]? = ops[k+j]?)→k+l.length=m→HeadInv md ops m listed→(∀j,j<k→listed.getD j false=true)→
  Region.lexHead md ops g l.length k listed=true→wpV P ops w n val Lq l k a→
  wpAnyV P md ops w n val m x (fun listed' a'=>Region.seqB md ops g m listed'=true∧(∀j,j<m→listed'.getD j false=true)∧Lq a') l.length listed a
 | [], k, listed, a, _, hk, _, hd, hB, h => by
   have : k = m := by simpa using hk
   subst this
   exact ⟨by simpa [Region.lexHead] using hB, hd, h⟩
 | o :: l, k, listed, a, hl, hk, inv, hd, hB, h => by
   have h0 : ops[k]? = some o := by simpa using (hl 0 (by simp)).symm
   simp only [List.length_cons, Region.lexHead, Bool.and_eq_true] at hB
   obtain ⟨⟨hr, hf⟩, hB'⟩ := hB
   have hkn : k < m := by simp only [List.length_cons] at hk; omega
   have hr' : k ∈ Region.ready md ops listed := by simpa using hr
   have hst : qV P ops w n val k (wpV P ops w n val Lq l (k + 1)) a := by
     unfold qV; simp only [h0]
     unfold wpV at h
     exact h
   obtain ⟨v, hy, hK⟩ := yv_of_qV h0 hst
   refine wpAnyV_first h0 (Region.noSelect_spec hsel) hs hc hm hkn (fun listed' a' hL => seqB_ready hL.1) l.length listed a inv (Region.free_spec h0 hf) hr' hy
     (wpAnyV_lex hsel hs hc hm l (k + 1) _ _ (fun j hj => by have := hl (j + 1) (by simp; omega); simpa [Nat.add_assoc, Nat.add_comm 1 j] using this) (by simp only [List.length_cons] at hk; omega) (inv.set hr' hkn) (fun j hj => ?_) hB' hK)
   by_cases e : j = k
   · subst e
     have : j < listed.size := by rw [inv.size]; omega
     simp [this]
   · exact getD_set_true (hd j (by omega))
theorem cm_refl (X:World):Cm X X:=more_of (Below.refl _ _)
theorem cm_alloc {X Y:World} (h:Cm X Y) (o:Obj):Cm X (Y.alloc o):=by
 obtain⟨t,rfl⟩:=h
 exact more_of ((below_more X t).alloc (size_more X t) o)
def depB (md:Region.Mode) (ops:Array Oper) (o:Oper):Array Bool:=(Array.range ops.size).map fun j=>o.after.any fun e=>Region.binds md e&&e.on == j
theorem depB_no {x j:Nat} {ox:Oper} {listed:Array Bool} (hx:ops[x]? = some ox) (hr:x∈Region.ready md ops listed) (hj:j<ops.size) (hun:listed.getD j true=false):(depB md ops ox).getD j true=false:=by
 obtain⟨_,o,ho,hall⟩:=mem_ready.1 hr;have:o=ox:=Option.some.inj (ho.symm.trans hx);subst this
 have e:(depB md ops o).getD j true=o.after.any fun e=>Region.binds md e&&e.on == j:=by simp[depB,hj]
 rw[e]
 apply Bool.eq_false_iff.2
 intro h
 obtain⟨e,he,hb⟩:=Array.any_eq_true'.1 h
 simp only[Bool.and_eq_true,beq_iff_eq]at hb
 have h2:=hall e he hb.1;rw[hb.2,getD_both hun]at h2
 cases h2
def PureO (P:Program) (o:Oper):Prop:=o.guard=none∧∀(a:Act) (C:World→Prop) (w1:World) (v:Value),o.quietAt P a C w1 v→∀w2,(execOp a.eval o).run P w2 = .ok (.value v) w2
theorem pure_extract (P:Program) (o:Oper) (x:Operand) (k:Nat) (ho:o.op = .extract x k) (hg:o.guard=none):PureO P o:=by
 refine⟨hg,fun a C w1 v h w2=>?_⟩
 unfold Oper.quietAt at h
 simp only[execOp,ho]at h ⊢
 generalize a.eval x=y at h ⊢
 cases y with
 | tuple vs =>
   cases hk : vs[k]? with
   | none => simp [hk, Oper.quietUpon, go_sem] at h
   | some u =>
     simp [hk, Oper.quietUpon, go_sem] at h ⊢
     exact h
 | _=>simp[Oper.quietUpon,go_sem]at h
theorem wpAny_of_V2 {m x g:Nat} {L:Array Bool→Act→Prop} {Q':Exit→Act→World→Prop} {X:World} {ox:Oper} (hx:ops[x]? = some ox) (hxm:x<m) (hxn:x≠n) (hpx:PureO P ox) (hsel:Region.noSelect ops=true) (hfx:Region.free md ops (depB md ops ox) x=true)
  (hQ:∀c a v w,Q' (.panic c) (Act.put a ox.dst v) w→Q' (.panic c) a w)
  (hX:Cm w X) (hnm:n<ops.size) (hL:∀listed a w',Cm X w'→L listed a→wpAny P md ops Q' g listed a w'):
  ∀(f:Nat) (listed:Array Bool) (a:Act) (w':World),listed.size=ops.size→Cm X w'→listed.getD n false=true→wpAnyV P md ops w n val m x L f listed a→wpAny P md ops Q' (f+g) listed a w'
 | 0,listed,a,w',_,hw,_,h=>by rw[Nat.zero_add];exact hL _ _ _ hw h
 | f + 1, listed, a, w', hz, hw, hl, h => by
   rw [show f + 1 + g = (f + g) + 1 by omega]
   by_cases hxr : x ∈ Region.ready md ops listed
   · have hq := ((h.2 x hxr).resolve_right fun h => by omega).2
     have hwt : Region.wanted ox (yielded ops a.tmps) = true := by unfold Region.wanted; rw [hpx.1]
     unfold qV at hq
     simp only [hx, hwt, if_true] at hq
     have hy : Yields P ops ox (val x) a := .inl ⟨hwt, hpx.2 a _ _ _ ((hq.1.resolve_left hxn) X hX w' hw)⟩
     refine wpAny_first hx (Region.noSelect_spec hsel) (fun c a w h => hQ c a (val x) w h) (f + g) listed a w' (fun j oj hoj hjx hun hno => Region.free_spec hx hfx j oj hoj hjx ?_ hno) hxr hy ?_
     · exact depB_no hx hxr (Array.getElem?_eq_some_iff.1 hoj).1 hun
     · refine wpAny_of_V2 hx hxm hxn hpx hsel hfx hQ hX hnm hL f _ _ w' (by simpa using hz) hw ?_ hq.2
       rw [getD_set_ne false hxn]; exact hl
   · refine ⟨fun h0 => absurd h0 h.1, fun i hi => ?_⟩
     have hin : i ≠ n := by
       intro e
       subst e; have h1 := (mem_ready.1 hi).1
       rw [Array.getD_eq_getD_getElem?, Array.getElem?_eq_getElem (by omega)] at hl h1
       simp at hl h1
       rw [hl] at h1; cases h1
     have hq := ((h.2 i hi).resolve_right fun h => hxr h.2).2
     have hq2 : qOp P ops (Cm X) i (wpAnyV P md ops w n val m x L f (listed.setIfInBounds i true)) a := by
       unfold qV at hq; unfold qOp
       split
       · rename_i ho; simp only [ho] at hq; exact hq
       · rename_i o ho
         simp only [ho] at hq
         split
         · rename_i hw; simp only [hw, if_true] at hq
           exact ⟨val i, (hq.1.resolve_left hin) X hX, hq.2⟩
         · rename_i hw; simp only [hw] at hq; exact hq
     refine wpOp_of_qOp hw (fun a' w'' hw'' h' => wpAny_of_V2 hx hxm hxn hpx hsel hfx hQ hX hnm hL f _ a' w'' (by simpa using hz) hw'' ?_ h') hq2
     rw [getD_set_ne false hin]; exact hl
theorem wpAny_of_V1 {m x g:Nat} {L:Value→Array Bool→Act→Prop} {Q':Exit→Act→World→Prop} {on ox:Oper} (hx:ops[x]? = some ox) (hxm:x<m) (hxn:x≠n) (hpx:PureO P ox) (hsel:Region.noSelect ops=true) (hfx:Region.free md ops (depB md ops ox) x=true)
  (hQ:∀c a v w,Q' (.panic c) (Act.put a ox.dst v) w→Q' (.panic c) a w)
  (hn:ops[n]? = some on) (hg:on.guard=none) {obj:Obj} (hnm2:n<m)
  (hal:∀(a:Act) (W:World),(execOp a.eval on).run P W = .ok (.value (.pointer (some ⟨W.heap.size,0,none⟩))) (W.alloc obj))
  (hL:∀W w' listed a,Cm w W→Cm (W.alloc obj) w'→L (.pointer (some ⟨W.heap.size,0,none⟩)) listed a→wpAny P md ops Q' g listed a w')
  (hLn:∀p listed a,L p listed a→listed.getD n false=true):
  ∀ (f : Nat) (listed : Array Bool) (a : Act) (w' : World), listed.size = ops.size → Cm w w' → listed.getD n false = false →
    (∀ p, wpAnyV P md ops w n (fun i => if i = n then p else val i) m x (L p) f listed a) → wpAny P md ops Q' (f + g) listed a w'
 | 0, listed, a, w', _, hw, hl, h => by
   have h1 := hLn _ _ _ (h (.pointer none))
   rw [hl] at h1; cases h1
 | f + 1, listed, a, w', hz, hw, hl, h => by
   have hnm : n < ops.size := (Array.getElem?_eq_some_iff.1 hn).1
   rw [show f + 1 + g = (f + g) + 1 by omega]
   by_cases hxr : x ∈ Region.ready md ops listed
   · have hwt : Region.wanted ox (yielded ops a.tmps) = true := by unfold Region.wanted; rw [hpx.1]
     have hq : ∀ p, (x = n ∨ QAll P w ox a (val x)) ∧ wpAnyV P md ops w n (fun i => if i = n then p else val i) m x (L p) f (listed.setIfInBounds x true) (a.put ox.dst (val x)) := fun p => by
       have hq := (((h p).2 x hxr).resolve_right fun h => by omega).2
       unfold qV at hq
       simp only [hx, hwt, if_true, if_neg hxn] at hq
       exact hq
     have hy : Yields P ops ox (val x) a := .inl ⟨hwt, hpx.2 a _ _ _ (((hq undef).1.resolve_left hxn) w (cm_refl w) w' hw)⟩
     refine wpAny_first hx (Region.noSelect_spec hsel) (fun c a w h => hQ c a (val x) w h) (f + g) listed a w' (fun j oj hoj hjx hun hno => Region.free_spec hx hfx j oj hoj hjx ?_ hno) hxr hy ?_
     · exact depB_no hx hxr (Array.getElem?_eq_some_iff.1 hoj).1 hun
     · refine wpAny_of_V1 hx hxm hxn hpx hsel hfx hQ hn hg hnm2 hal hL hLn f _ _ w' (by simpa using hz) hw ?_ fun p => (hq p).2
       rw [getD_set_ne false hxn]; exact hl
   · refine ⟨fun h0 => absurd h0 (h undef).1, fun i hi => ?_⟩
     by_cases hin : i = n
     · subst hin
       have hq := (((h (.pointer (some ⟨w'.heap.size, 0, none⟩))).2 i hi).resolve_right fun h => hxr h.2).2
       unfold qV at hq
       simp only [hn] at hq
       have hwt : Region.wanted on (yielded ops a.tmps) = true := by unfold Region.wanted; rw [hg]
       simp only [hwt, if_true] at hq
       unfold wpOp
       simp only [hn, hwt, if_true]
       refine .inl ?_
       unfold Oper.wp; rw [hal a w']
       show wpAny P md ops Q' (f + g) (listed.setIfInBounds i true) (a.put on.dst (.pointer (some ⟨w'.heap.size, 0, none⟩))) (w'.alloc obj)
       refine wpAny_of_V2 hx hxm hxn hpx hsel hfx hQ (cm_alloc hw obj) hnm (fun listed' a' w'' hw'' hL' => hL w' w'' listed' a' hw hw'' hL') f _ _ _ (by simpa using hz) (cm_refl _) ?_ hq.2
       have : i < listed.size := by omega
       simp [this]
     · have hq2 : qOp P ops (Cm w) i (fun a' => ∀ p, wpAnyV P md ops w n (fun i => if i = n then p else val i) m x (L p) f (listed.setIfInBounds i true) a') a := by
         unfold qOp
         cases ho : ops[i]? with
         | none =>
           simp only
           intro p
           have hq := (((h p).2 i hi).resolve_right fun h => hxr h.2).2
           unfold qV at hq
           simp only [ho] at hq
           exact hq
         | some o =>
           simp only
           split
           · rename_i hwt
             have key : ∀ p, (i = n ∨ QAll P w o a (val i)) ∧ wpAnyV P md ops w n (fun i => if i = n then p else val i) m x (L p) f (listed.setIfInBounds i true) (a.put o.dst (val i)) := fun p => by
               have hq := (((h p).2 i hi).resolve_right fun h => hxr h.2).2
               unfold qV at hq
               simp only [ho, hwt, if_true, if_neg hin] at hq
               exact hq
             exact ⟨val i, ((key undef).1.resolve_left hin) w (cm_refl w), fun p => (key p).2⟩
           · rename_i hwt
             intro p
             have hq := (((h p).2 i hi).resolve_right fun h => hxr h.2).2
             unfold qV at hq
             simp only [ho, hwt] at hq
             exact hq
       refine wpOp_of_qOp hw (fun a' w'' hw'' h' => wpAny_of_V1 hx hxm hxn hpx hsel hfx hQ hn hg hnm2 hal hL hLn f _ a' w'' (by simpa using hz) hw'' ?_ h') hq2
       rw [getD_set_ne false hin]; exact hl
/-! ### the values, from the frame behind the region -/
def dstB:List Oper→List Nat→Nat→Bool
 | [],_,_=>true
 | o::l,ds,z=>match o.dst with|some d=>decide (d<z) && !ds.contains d&&dstB l (d::ds) z|none=>false
theorem frame_keeps {C:World→Prop} {aF:Act}:∀{l:List Oper} {ds:List Nat} {a:Act},dstB l ds a.tmps.size=true→wpQuiet P ops C (fun a'=>a'=aF) l a→∀d∈ds,aF.tmps.getD d undef=a.tmps.getD d undef
 | [], ds, a, _, h, d, _ => by
   have : a = aF := h; rw [this]
 | o :: l, ds, a, hB, h, d, hd => by
   unfold dstB at hB
   cases hdst : o.dst with
   | none => rw [hdst] at hB; cases hB
   | some d0 =>
     rw [hdst] at hB
     simp only [Bool.and_eq_true, decide_eq_true_eq, Bool.not_eq_true'] at hB
     obtain ⟨⟨h1, h2⟩, h3⟩ := hB
     have hne : d0 ≠ d := by
       intro e
       subst e; rw [List.contains_eq_mem] at h2
       simp at h2
       exact h2 hd
     have key : ∀ v, wpQuiet P ops C (fun a' => a' = aF) l (a.put (some d0) v) → aF.tmps.getD d undef = a.tmps.getD d undef := fun v hv => by
       have := frame_keeps (ds := d0 :: ds) (a := a.put (some d0) v) (by simpa [Act.put] using h3) hv d (by simp [hd])
       rw [this]
       simp [Act.put, Array.getElem?_setIfInBounds, hne]
     unfold wpQuiet at h; rw [hdst] at h
     split at h
     · obtain ⟨v, _, hv⟩ := h
       rw [hdst] at hv
       exact key v hv
     · exact key undef h
theorem frame_val {C:World→Prop} {aF:Act} {l:List Oper} {ds:List Nat} {a:Act} {d:Nat} {v:Value} (hd:d<a.tmps.size) (hB:dstB l (d::ds) a.tmps.size=true) (h:wpQuiet P ops C (fun a'=>a'=aF) l (a.put (some d) v)):v=aF.tmps.getD d undef:=by
 have:=frame_keeps (ds:=d::ds) (a:=a.put (some d) v) (by simpa[Act.put]using hB) h d (by simp)
 rw[this]
 simp[Act.put,hd]
theorem wpV_of_quiet {aF:Act} (Q:Act→Prop) (hQ:Q aF) {dn:Nat} {on:Oper} (p:Value):
  ∀ (l : List Oper) (k : Nat) (ds : List Nat) (a : Act), k + l.length = n → dstB l ds a.tmps.size = true →
    (∀ i, k ≤ i → i < n → ∀ o, l[i - k]? = some o → val i = aF.tmps.getD (o.dst.getD 0) undef) →
    (∀ X, Cm w X → wpQuiet P ops (Cm X) (fun a' => a' = aF) l a) → wpV P ops w n (fun i => if i = n then p else val i) (fun a' => Q a') l k a
 | [], k, ds, a, _, _, _, h => by
   have : a = aF := h w (cm_refl w)
   rw [this]; exact hQ
 | o :: l, k, ds, a, hk, hB, hv, h => by
   have hB0 := hB; unfold dstB at hB
   cases hdst : o.dst with
   | none => rw [hdst] at hB; cases hB
   | some d0 =>
     rw [hdst] at hB
     simp only [Bool.and_eq_true, decide_eq_true_eq, Bool.not_eq_true'] at hB
     obtain ⟨⟨h1, h2⟩, h3⟩ := hB
     have hkn : k ≠ n := by simp at hk; omega
     have hval : val k = aF.tmps.getD d0 undef := by have := hv k (Nat.le_refl _) (by simp at hk; omega) o (by simp); rw [hdst] at this; exact this
     have hv' : ∀ i, k + 1 ≤ i → i < n → ∀ o, l[i - (k + 1)]? = some o → val i = aF.tmps.getD (o.dst.getD 0) undef := fun i hi1 hi2 o' ho' => hv i (by omega) hi2 o' (by
       rw [show i - k = (i - (k + 1)) + 1 by omega]; simpa using ho')
     unfold wpV
     split
     · rename_i hw
       refine ⟨.inr fun X hX => ?_, ?_⟩
       · have hX' := h X hX
         unfold wpQuiet at hX'; rw [if_pos hw] at hX'; obtain ⟨v, hq, hr⟩ := hX'; rw [hdst] at hr; rw [hval, ← frame_val h1 h3 hr]
         exact hq
       · refine wpV_of_quiet Q hQ (dn := dn) (on := on) p l (k + 1) (d0 :: ds) _ (by simp at hk ⊢; omega) (by rw [hdst]; simpa [Act.put] using h3) hv' fun X hX => ?_
         have hX' := h X hX; unfold wpQuiet at hX'; rw [if_pos hw] at hX'; obtain ⟨v, hq, hr⟩ := hX'; rw [hdst] at hr ⊢; rw [hval, ← frame_val h1 h3 hr]
         exact hr
     · rename_i hw
       refine wpV_of_quiet Q hQ (dn := dn) (on := on) p l (k + 1) (d0 :: ds) _ (by simp at hk ⊢; omega) (by rw [hdst]; simpa [Act.put] using h3) hv' fun X hX => ?_
       have hX' := h X hX; unfold wpQuiet at hX'; rw [if_neg hw] at hX'
       exact hX'
theorem wpV_app (Q:Act→Prop):∀(l:List Oper) (k:Nat) (a:Act) (o:Oper),k+l.length=n→o.guard=none→(∀a',Q a'→True)→
  wpV P ops w n val (fun a'=>Q (a'.put o.dst (val n))) l k a→wpV P ops w n val Q (l++[o]) k a
 | [], k, a, o, hk, hg, _, h => by
   have hkn : k = n := by simpa using hk
   subst hkn
   have hwt : Region.wanted o (yielded ops a.tmps) = true := by unfold Region.wanted; rw [hg]
   show wpV P ops w k val Q [o] k a
   unfold wpV; rw [if_pos hwt]
   exact ⟨.inl rfl, h⟩
 | x :: l, k, a, o, hk, hg, ht, h => by
   show wpV P ops w n val Q (x :: (l ++ [o])) k a
   unfold wpV at h ⊢
   split
   · rename_i hw
     rw [if_pos hw] at h
     exact ⟨h.1, wpV_app Q l (k + 1) _ o (by simp at hk ⊢; omega) hg ht h.2⟩
   · rename_i hw
     rw [if_neg hw] at h
     exact wpV_app Q l (k + 1) _ o (by simp at hk ⊢; omega) hg ht h
def blkB (md:Region.Mode) (ops:Array Oper) (n x:Nat):Bool:=
 Region.noSelect ops&&decide (n+1<ops.size)&&decide (x<n)&&sinkX md ops (n+1) x&&Region.chainB md ops (n+1)&&Region.lexHead md ops (ops.size-(n+1)) (n+1) 0 (Array.replicate ops.size false)&&(match ops[x]? with|some ox=>Region.free md ops (depB md ops ox) x|none=>false)
theorem wp_region_blk {id:Nat} {Q:Exit→Act→World→Prop} {a:Act} {l:List Oper} (n x dn:Nat) (on ox:Oper) (obj:Obj) (hm:P.follows .mixedOrders=true) (hB:blkB .any l.toArray n x=true)
  (hn:l[n]? = some on) (hg:on.guard=none) (hdn:on.dst=some dn) (hal:∀(a:Act) (W:World),(execOp a.eval on).run P W = .ok (.value (.pointer (some ⟨W.heap.size,0,none⟩))) (W.alloc obj))
  (hx:l[x]? = some ox) (hpx:PureO P ox) (hQ:∀c a v w,Q (.panic c) (Act.put a ox.dst v) w→Q (.panic c) a w)
  (hD:dstB (l.take n) [] a.tmps.size=true)
  (h:∃aF,(∀X,(∃t,X=more w t)→wpQuiet P l.toArray (fun w'=>∃t,w'=more X t) (fun a'=>a'=aF) (l.take n) a)∧
   ∀t1 t2,wpList P l.toArray Q (l.drop (n+1)) (aF.put (some dn) (.pointer (some ⟨(more w t1).heap.size,0,none⟩))) (more ((more w t1).alloc obj) t2)):(Code.region id l.toArray true).wp P Q a w:=by
 obtain⟨aF,h,hT⟩:=h
 simp only[blkB,Bool.and_eq_true,decide_eq_true_eq]at hB
 obtain⟨⟨⟨⟨⟨⟨hsel,hsz⟩,hxn⟩,hs⟩,hc⟩,hlex⟩,hfx⟩:=hB
 have hx0:l.toArray[x]? = some ox:=by simpa using hx
 rw[hx0]at hfx
 simp only at hfx
 have hsz':n+1<l.length:=by simpa using hsz
 have htl:(l.take (n+1)).length=n+1:=by simp;omega
 have hdl:(l.drop (n+1)).length=l.toArray.size-(n+1):=by simp
 have inv0:HeadInv .any l.toArray (n+1) (Array.replicate l.toArray.size false):=
  ⟨by simp,fun j oj _ hl=>(by rw[getD_replicate_false]at hl;cases hl),fun t _ ht=>getD_in (by simpa using ht) (getD_replicate_false _ _)⟩
 have htk:l.take (n+1)=l.take n++[on]:=by
  rw[List.take_add_one,hn];rfl
 let val:Nat→Value:=fun i=>aF.tmps.getD (((l[i]?.bind (·.dst))).getD 0) undef
 have H:∀p,wpAnyV P .any l.toArray w n (fun i=>if i=n then p else val i) (n+1) x (fun listed' a'=>Region.seqB .any l.toArray (l.toArray.size-(n+1)) (n+1) listed'=true∧(∀j,j<n+1→listed'.getD j false=true)∧a'=aF.put (some dn) p) (n+1) (Array.replicate l.toArray.size false) a:=fun p=>by
  have hV:wpV P l.toArray w n (fun i=>if i=n then p else val i) (fun a'=>a'=aF.put (some dn) p) (l.take (n+1)) 0 a:=by
   rw[htk]
   refine wpV_app _ (l.take n) 0 a on (by simp;omega) hg (fun _ _=>trivial) ?_
   rw[hdn]
   simp only[if_true]
   refine wpV_of_quiet (fun a'=>a'.put (some dn) p=aF.put (some dn) p) rfl (dn:=dn) (on:=on) p (l.take n) 0 [] a (by simp;omega) hD (fun i _ hi o ho=>?_) h
   show aF.tmps.getD (((l[i]?.bind (·.dst))).getD 0) undef=_
   rw[Nat.sub_zero,List.getElem?_take_of_lt hi]at ho
   rw[ho];rfl
  have:=wpAnyV_lex (md:=.any) (P:=P) (w:=w) (n:=n) (x:=x) (val:=fun i=>if i=n then p else val i) (g:=l.toArray.size-(n+1)) hsel hs hc hsz (l.take (n+1)) 0 (Array.replicate l.toArray.size false) a (fun j hj=>by
   have hj':j<n+1:=by rw[htl]at hj;exact hj
   simp[hj']) (by simpa using htl) inv0 (fun j hj=>absurd hj (by omega)) (by rw[htl];exact hlex) hV
  rwa [htl]at this
 refine wp_region_any hm ?_
 have:=wpAny_of_V1 (md:=.any) (w:=w) (Q':=Q) (g:=l.toArray.size-(n+1)) (obj:=obj) (L:=fun p listed' a'=>Region.seqB .any l.toArray (l.toArray.size-(n+1)) (n+1) listed'=true∧(∀j,j<n+1→listed'.getD j false=true)∧a'=aF.put (some dn) p)
  (show l.toArray[x]? = some ox by simpa using hx) (by omega) (by omega) hpx hsel hfx hQ (show l.toArray[n]? = some on by simpa using hn) hg (by omega) hal
  (fun W w' listed a' hW hw' hL=>by
   obtain⟨t1,rfl⟩:=hW;obtain⟨t2,rfl⟩:=hw';obtain⟨h1,_,h2⟩:=hL;subst h2
   have:=wpAny_of_seq (md:=.any) (Q':=Q) (l.drop (n+1)) (n+1) listed _ _ (fun j=>by simp[List.getElem?_drop]) (by rw[hdl];exact h1) (hT t1 t2)
   rwa [hdl]at this)
  (fun p listed a' hL=>hL.2.1 n (by omega)) (n+1) (Array.replicate l.toArray.size false) a { w with drawn:=w.drawn+1 } (by simp) (more_of ⟨rfl,rfl,rfl,Nat.le_refl _,fun _ _=>rfl⟩) (getD_replicate_false _ _) H
 rw[show n+1+(l.toArray.size-(n+1))=l.toArray.size by simp;omega]at this
 exact this
end
theorem blk_cell (W t1 t2:World) (cs:Array Value) (T:TypeId) (j:Nat) {v:Value} (h:cs[j]? = some v):(more ((more W t1).alloc (.cells cs T)) t2).cell? ⟨(more W t1).heap.size,j,none⟩=some v:=
 (cell_more _ t2 _ (by simp)).trans (by simp[go_sem,h])
theorem blk_froz (W t1 t2:World) (cs:Array Value) (T:TypeId) (j:Nat):(more ((more W t1).alloc (.cells cs T)) t2).frozen? ⟨(more W t1).heap.size,j,none⟩=false:=
 (frozen_more _ t2 _ (by simp)).trans (by simp[go_sem])
theorem blk_lt (W t1 t2:World) (o:Obj):(more W t1).heap.size<(more ((more W t1).alloc o) t2).heap.size:=by
 have:=size_more ((more W t1).alloc o) t2;simp at this;omega
end Go.Proofs.YtkaiilmgemaljaaGreat
/- The frame of a call beside slices of the call's own. No statement is proved here; there are no conditions. -/
namespace Go.Proofs.YtkaiilmgemaljaaGreat
open Go.RowKit
theorem row_made (w:World) {base:Nat} (e:TypeId) {z n:Nat} (cs:Array Value) (hb:base≤w.heap.size) (hm:n≤maxLen) (hs:cs.size=n*z):
  (w.alloc (.cells cs e)).ownsRow base e z (.slice (some ⟨w.heap.size,0,none⟩) n n) n cs.toList:=
 ⟨by simp[hs],.inr ⟨w.heap.size,n,cs,rfl,hb,heap_alloc_new w _,Nat.le_refl _,hm,hs,by rw[List.take_of_length_le (by simp[hs])]⟩⟩
theorem OwnS.made (w:World) {base:Nat} (e:TypeId) (xs:List Int) {n:Nat} (cs:Array Value) (hn:xs.length=n) (hc:cs.toList=xs.map (Value.int .i64)) (hb:base≤w.heap.size) (hm:n≤maxLen):
  OwnS (w.alloc (.cells cs e)) base e (.slice (some ⟨w.heap.size,0,none⟩) n n) xs:=by
 unfold OwnS;rw[← hc,hn]
 exact row_made w e cs hb hm (by rw[Nat.mul_one,← Array.length_toList,hc,List.length_map,hn])
theorem row_block {w:World} {base:Nat} {e:TypeId} {z n:Nat} {v:Value} {xs:List Value} (h:w.ownsRow base e z v n xs):∀k,some k=v.ownBlock→base≤k:=fun k hk=>(World.ownsRow.lt h k hk.symm).1
theorem Fr.grow {w W w1:World} {L:List (List Value)} (h:Fr w W L) {v:Value} (hg:W.grownBy w1 v.ownBlock) {base:Nat} {e:TypeId} {z n:Nat} {xs:List Value} (ho:W.ownsRow base e z v n xs) (hb:w.heap.size+L.length≤base):Fr w w1 L:=
 h.frm (Frm.of_grown hg) (fun k hk=>by have:=row_block ho k hk;omega) (fun k hk=>by have:=row_block ho k hk;omega)
theorem OwnS.alloc' {w:World} {base:Nat} {e:TypeId} {v:Value} {xs:List Int} (h:OwnS w base e v xs) (o:Obj):OwnS (w.alloc o) base e v xs:=h.below ((Below.refl _ _).alloc (Nat.le_refl _) o)
theorem row_alloc {w:World} {base:Nat} {e:TypeId} {z n:Nat} {v:Value} {xs:List Value} (h:w.ownsRow base e z v n xs) (o:Obj):(w.alloc o).ownsRow base e z v n xs:=own_below h ((Below.refl _ _).alloc (Nat.le_refl _) o)
theorem row_more {w:World} {base:Nat} {e:TypeId} {z n:Nat} {v:Value} {xs:List Value} (h:w.ownsRow base e z v n xs) (t:World):(more w t).ownsRow base e z v n xs:=own_below h (below_more w t)
theorem one_new (w:World) (v:Value) (e:TypeId):∀j u,[v][j]? = some u→(w.alloc (.cells #[v] e)).cell? ((⟨w.heap.size,0,none⟩:Addr).add j)=some u:=by
 intro j u hu
 have hj:j=0:=by
  have:=(List.getElem?_eq_some_iff.1 hu).1
  simpa using this
 subst hj
 simp at hu
 subst hu;rw[Addr.add_lit]
 simp[go_sem]
theorem int_cell (x:Int):∀u∈[Value.int .i64 x],u.oneCell'=true:=fun u hu=>by simp at hu;subst hu;rfl
theorem Frm.set (w:World) (b i:Nat) (v:Value):Frm (fun k=>k=b) w (w.setCell ⟨b,i,none⟩ v):=by
 have h:=(Below.refl 0 w).setCell (p:=⟨b,i,none⟩) (Nat.zero_le _) v
 exact⟨h.os,h.tape,h.output,h.size,fun k _ hk=>RowKit.Below.heap_setCell _ _ _ _ hk⟩
theorem Fr.setOut {w wr:World} {L:List (List Value)} (h:Fr w wr L) {b i:Nat} {v:Value} (hb:w.heap.size+L.length≤b):Fr w (wr.setCell ⟨b,i,none⟩ v) L:=
 h.frm (Frm.set wr b i v) (fun k hk=>by omega) (fun k hk=>by omega)
theorem blk_below (W t1 t2:World) (o:Obj):Below W.heap.size W (more ((more W t1).alloc o) t2):=blw (alw (below_more W t1) (Nat.le_refl _)) (Nat.le_refl _)
end Go.Proofs.YtkaiilmgemaljaaGreat
/- Slices of positions: their elements lie outside a set S of blocks and outside the slice's own block. No statement is proved here; there are no conditions. -/
namespace Go.Proofs.YtkaiilmgemaljaaGreat
open Go.RowKit
def SQ (S:Nat→Prop) (w:World) (A:Option Addr) (n:Nat) (xs:List Int):Prop:=SL w A n xs∧(0<n→∀b off s,A=some ⟨b,off,s⟩→¬S b)
def PV (S:Nat→Prop) (w:World) (u:Value) (p:List Int):Prop:=∃A n c,u = .slice A n c∧SQ S w A n p∧n≤c
def PVs (S:Nat→Prop) (w:World) (cs:List Value) (ps:List (List Int)):Prop:=cs.length=ps.length∧∀i,i<cs.length→PV S w (cs.getD i undef) (ps.getD i [])
def PL (S:Nat→Prop) (w:World) (A:Option Addr) (n:Nat) (ps:List (List Int)):Prop:=∃cs,SLZ 1 S w A n cs∧PVs S w cs ps
def wth (S:Nat→Prop) (v:Value):Nat→Prop:=fun k=>S k∨v.ownBlock=some k
def OP (S:Nat→Prop) (w:World) (base:Nat) (e:TypeId) (v:Value) (ps:List (List Int)):Prop:=∃cs,w.ownsRow base e 1 v ps.length cs∧PVs (wth S v) w cs ps∧∀k,v.ownBlock=some k→¬S k
section
variable {S S':Nat→Prop} {w w':World} {A:Option Addr} {n:Nat} {cs:List Value} {u v:Value} {p xs:List Int} {ps:List (List Int)} {base:Nat} {e:TypeId}
theorem SQ.frm (h:SQ S w A n xs) (hf:Frm S w w'):SQ S w' A n xs:=by
 refine⟨⟨h.1.1,fun hn=>?_⟩,h.2⟩
 obtain⟨b,off,hA,hlt,hc⟩:=h.1.2 hn
 exact⟨b,off,hA,Nat.lt_of_lt_of_le hlt hf.size,fun i hi=>hf.cell' (hc i hi) (h.2 hn b off none hA)⟩
theorem SQ.set (h:SQ S w A n xs) (hS:∀k,S' k→S k∨w.heap.size≤k):SQ S' w A n xs:=by
 refine⟨h.1,fun hn b off s hA hs=>?_⟩
 obtain⟨b',off',hA',hlt,_⟩:=h.1.2 hn;rw[hA]at hA';injection hA' with hA';injection hA' with h1 h2 h3;subst h1
 rcases hS b hs with h4|h4
 ·exact h.2 hn b off s hA h4
 ·omega
theorem PV.frm (h:PV S w u p) (hf:Frm S w w'):PV S w' u p:=let ⟨A,n,c,hu,hs,hc⟩:=h;⟨A,n,c,hu,hs.frm hf,hc⟩
theorem PV.set (h:PV S w u p) (hS:∀k,S' k→S k∨w.heap.size≤k):PV S' w u p:=let ⟨A,n,c,hu,hs,hc⟩:=h;⟨A,n,c,hu,hs.set hS,hc⟩
theorem PVs.frm (h:PVs S w cs ps) (hf:Frm S w w'):PVs S w' cs ps:=⟨h.1,fun i hi=>(h.2 i hi).frm hf⟩
theorem PVs.set (h:PVs S w cs ps) (hS:∀k,S' k→S k∨w.heap.size≤k):PVs S' w cs ps:=⟨h.1,fun i hi=>(h.2 i hi).set hS⟩
theorem PVs.nil_ (S:Nat→Prop) (w:World):PVs S w [] []:=⟨rfl,fun i hi=>absurd hi (by simp)⟩
theorem PVs.append {ds:List Value} {qs:List (List Int)} (h:PVs S w cs ps) (k:PVs S w ds qs):PVs S w (cs++ds) (ps++qs):=by
 refine⟨by simp[h.1,k.1],fun i hi=>?_⟩
 by_cases hlt:i<cs.length
 ·have:=h.2 i hlt
  rw[getD_app_lt _ _ _ hlt,getD_app_lt _ _ _ (by rw[← h.1];exact hlt)];exact this
 ·rw[getD_app_ge _ _ _ (by omega),getD_app_ge _ _ _ (by rw[← h.1];omega),h.1]
  have:=k.2 (i-cs.length) (by simp at hi;omega)
  rwa [h.1]at this
theorem PVs.one (h:PV S w u p):PVs S w [u] [p]:=⟨rfl,fun i hi=>by
 have:i=0:=by simpa using hi
 subst this;exact h⟩
theorem PVs.snoc (h:PVs S w cs ps) (hu:PV S w u p):PVs S w (cs++[u]) (ps++[p]):=h.append (PVs.one hu)
theorem PVs.take (h:PVs S w cs ps) (k:Nat):PVs S w (cs.take k) (ps.take k):=by
 refine⟨by simp[h.1],fun i hi=>?_⟩
 have hi':i<k∧i<cs.length:=by rw[List.length_take]at hi;omega
 have:=h.2 i hi'.2
 simpa[List.getD,List.getElem?_take,hi'.1]using this
theorem PVs.drop (h:PVs S w cs ps) (k:Nat):PVs S w (cs.drop k) (ps.drop k):=by
 refine⟨by simp[h.1],fun i hi=>?_⟩
 have:=h.2 (k+i) (by simp at hi;omega)
 simpa[List.getD,List.getElem?_drop]using this
theorem PL.frm (h:PL S w A n ps) (hf:Frm S w w'):PL S w' A n ps:=let ⟨cs,h1,h2⟩:=h;⟨cs,h1.frm hf,h2.frm hf⟩
theorem PL.below (h:PL S w A n ps) (hb:Below w.heap.size w w'):PL S w' A n ps:=h.frm (Frm.of_below' S hb)
theorem PL.alloc (h:PL S w A n ps) (o:Obj):PL S (w.alloc o) A n ps:=h.frm ((Frm.refl S w).alloc o)
theorem PL.more (h:PL S w A n ps) (t:World):PL S (more w t) A n ps:=h.below (below_more w t)
theorem PL.set (h:PL S w A n ps) (hS:∀k,S' k→S k∨w.heap.size≤k):PL S' w A n ps:=by
 obtain⟨cs,⟨h1,h2⟩,h3⟩:=h
 refine⟨cs,⟨h1,fun hn=>?_⟩,h3.set hS⟩
 obtain⟨b,off,hA,hlt,hs,hc⟩:=h2 hn
 exact⟨b,off,hA,hlt,fun hb=>by rcases hS b hb with h|h;exact hs h;omega,hc⟩
theorem PL.len (h:PL S w A n ps):ps.length=n:=by obtain⟨cs,h1,h2⟩:=h;rw[← h2.1,h1.1,Nat.mul_one]
theorem PL.nil_ (S:Nat→Prop) (w:World) (A:Option Addr):PL S w A 0 []:=⟨[],⟨rfl,fun h=>absurd h (by omega)⟩,PVs.nil_ _ _⟩
theorem PL.at (h:PL S w A n ps) {k:Nat} (hk:k<n):∃b off B m c,A=some ⟨b,off,none⟩∧b<w.heap.size∧w.cell? ⟨b,off+k,none⟩=some (.slice B m c)∧SQ S w B m (ps.getD k [])∧m≤c:=by
 obtain⟨cs,⟨hl,hc⟩,ha⟩:=h
 obtain⟨b,off,hA,hlt,hs,hcell⟩:=hc (by omega)
 obtain⟨B,m,c,hu,hp,hm⟩:=ha.2 k (by omega)
 exact⟨b,off,B,m,c,hA,hlt,by rw[hcell k (by omega),hu],hp,hm⟩
theorem OP.frm (h:OP S w base e v ps) (hf:Frm S w w'):OP S w' base e v ps:=
 let ⟨cs,h1,h2,h3⟩:=h;⟨cs,hf.row h1 h3,h2.frm (hf.mono fun k hk=>.inl hk),h3⟩
theorem OP.below (h:OP S w base e v ps) (hb:Below w.heap.size w w'):OP S w' base e v ps:=h.frm (Frm.of_below' S hb)
theorem OP.alloc (h:OP S w base e v ps) (o:Obj):OP S (w.alloc o) base e v ps:=h.frm ((Frm.refl S w).alloc o)
theorem OP.more (h:OP S w base e v ps) (t:World):OP S (more w t) base e v ps:=h.below (below_more w t)
theorem OP.mono (h:OP S w base e v ps) {base':Nat} (hb:base'≤base):OP S w base' e v ps:=let ⟨cs,h1,h2,h3⟩:=h;⟨cs,own_base h1 hb,h2,h3⟩
theorem OP.nil_ (S:Nat→Prop) (w:World) (base:Nat) (e:TypeId):OP S w base e (.slice none 0 0) []:=⟨[],World.ownsRow_nil _ _ _ _,PVs.nil_ _ _,fun k hk=>by cases hk⟩
theorem OP.made (w:World) (hb:base≤w.heap.size) (hS:∀k,base≤k→¬S k) (h:PVs S w cs ps) (hm:ps.length≤maxLen):OP S (w.alloc (.cells cs.toArray e)) base e (.slice (some ⟨w.heap.size,0,none⟩) ps.length ps.length) ps:=by
 refine⟨cs,⟨by rw[h.1,Nat.mul_one],.inr ⟨w.heap.size,ps.length,cs.toArray,rfl,hb,heap_alloc_new w _,Nat.le_refl _,hm,by simp[h.1],by rw[List.take_of_length_le (by simp[h.1])]⟩⟩,?_,fun k hk=>?_⟩
 ·refine (h.set fun k hk=>?_).frm ((Frm.refl _ w).alloc _)
  rcases hk with hk|hk
  ·exact .inl hk
  ·simp[Value.ownBlock]at hk;exact .inr (by omega)
 ·simp[Value.ownBlock]at hk;subst hk;exact hS _ hb
theorem OP.read (h:OP S w base e v ps):∃A c,v = .slice A ps.length c∧PL S w A ps.length ps∧ps.length≤c:=by
 obtain⟨cs,h1,h2,h3⟩:=h
 obtain⟨A,c,hv,hs,hc⟩:=row_read h1 h3 (by omega)
 exact⟨A,c,hv,⟨cs,hs,h2.set fun k hk=>.inl (.inl hk)⟩,hc⟩
theorem wth_new {v':Value} (hat:v'.ownBlock=v.ownBlock∨v'.ownBlock=some w.heap.size):∀k,wth S v' k→wth S v k∨w.heap.size≤k:=by
 rintro k (hk|hk)
 ·exact .inl (.inl hk)
 ·rcases hat with h|h
  ·exact .inl (.inr (by rw[← h];exact hk))
  ·rw[h]at hk;injection hk with hk;exact .inr (by omega)
theorem frm_own {w1:World} (hg:w.grownBy w1 v.ownBlock):Frm (wth S v) w w1:=(Frm.of_grown hg).mono fun k hk=>.inr hk.symm
theorem OP.grew {w1:World} {v':Value} {ds:List Value} {qs:List (List Int)} {m:Nat} (hp:PVs (wth S v) w cs ps) (hq:PVs (wth S v) w ds qs) (hown:w1.ownsRow base e 1 v' (ps.length+m) (cs++ds)) (hm:m=qs.length)
  (hg:w.grownBy w1 v.ownBlock) (hat:v'.ownBlock=v.ownBlock∨v'.ownBlock=some w.heap.size) (hS:∀k,base≤k→¬S k):OP S w1 base e v' (ps++qs):=by
 subst hm
 refine⟨cs++ds,by rw[List.length_append];exact hown,?_,fun k hk=>hS k (World.ownsRow.lt hown k hk).1⟩
 have h1:=(hp.append hq).set (S':=fun k=>wth S v k∨wth S v' k) fun k hk=>hk.elim .inl (wth_new hat k)
 exact (h1.frm ((frm_own hg).mono fun k hk=>.inl hk)).set fun k hk=>.inl (.inr hk)
end
end Go.Proofs.YtkaiilmgemaljaaGreat

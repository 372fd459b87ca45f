/- Part of one proof. There are no conditions. -/
import Derived.WalkKit
import Derived.WalkSpells
import Derived.WalkLawsBesides
import Derived.WalkSmall
import Derived.Lib.Hide
import Derived.Laws.OwnMore
import Derived.Deep.QuietTactic
import Derived.BigQuiet
import Derived.Deep.Draws
import Derived.Deep.RegionWith
import Derived.Test.YtcmeoenkgmghkaaGreatChecked
import Derived.Laws.AppendOwnNone
import Derived.Laws.StructEq
import Derived.Deep.RegionHeld3
import Derived.Deep.DrawnRows
import Derived.RegionTactic
set_option linter.unusedVariables false
set_option linter.unusedSimpArgs false
set_option maxHeartbeats 0
set_option maxRecDepth 100000
open Go.Value renaming int->D,slice->J
open Go.IntKind renaming i64->F
open Go.Ending renaming returned->I
namespace Go.Proofs.YtcmeoenkgmghkaaGreat
theorem h_{p:Prop}(h:p):Go.RowKit.Hid p:=Go.Lib.hid h
open Go.RowKit
def SL(w:World)(A:Option Addr)(n:Nat)(xs:List Int):Prop:=
 xs.length=n/\(0<n->∃b off,A=some ⟨b,off,none⟩/\b<w.heap.size/\∀i,i<n->w.cell? ⟨b,off+i,none⟩=some (D F (xs.getD i 0)))
def OwnS(w:World)(base:Nat)(e:TypeId)(v:Value)(xs:List Int):Prop:=w.ownsRow base e 1 v xs.length (xs.map (Value.int F))
section
variable {w w':World}{A:Option Addr}{n:Nat}{xs:List Int}
theorem SL.nil_(w:World):SL w none 0 []:=⟨rfl,fun h=>absurd h (by omega)⟩
theorem SL.empty(w:World)(A:Option Addr):SL w A 0 []:=⟨rfl,fun h=>absurd h (by omega)⟩
theorem SL.cells(h:SL w A n xs)(hn:0<n):∃b off,A=some ⟨b,off,none⟩/\b<w.heap.size/\∀i,i<n->w.cell? ⟨b,off+i,none⟩=some (D F (xs.getD i 0)):=h.2 hn
theorem SL.keep{B:Nat}(h:SL w A n xs)(hw:w.heap.size<=B)(hb:Below B w w'):SL w' A n xs:=
 ⟨h.1,fun hn=>by
  obtain⟨b,off,hA,hlt,hc⟩:=h.2 hn
  exact⟨b,off,hA,Nat.lt_of_lt_of_le hlt hb.size,fun i hi=>(hb.cell (p:=⟨b,off+i,none⟩) (Nat.lt_of_lt_of_le hlt hw)).trans (hc i hi)⟩⟩
theorem SL.below(h:SL w A n xs)(hb:Below w.heap.size w w'):SL w' A n xs:=h.keep (Nat.le_refl _) hb
theorem SL.alloc(h:SL w A n xs)(o:Obj):SL (w.alloc o) A n xs:=h.below ((Below.refl _ _).alloc (Nat.le_refl _) o)
theorem getD_map_int(xs:List Int)(i:Nat)(h:i<xs.length):(xs.map (Value.int F))[i]? =some (D F (xs.getD i 0)):=by
 simp[List.getD,h]
theorem OwnS.read{base:Nat}{e:TypeId}{v:Value}(h:OwnS w base e v xs):∃A c,v=J A xs.length c/\SL w A xs.length xs/\xs.length<=c:=by
 obtain⟨h1,h2⟩:=h
 rcases h2 with⟨rfl,h0⟩|⟨g,cap,cur,rfl,hb,hh,hnc,hcm,hcs,ht⟩
 ·exact⟨none,0,by rw[h0],by rw[List.eq_nil_of_length_eq_zero h0];exact SL.nil_ _,by omega⟩
 ·refine⟨_,_,rfl,⟨rfl,fun hn=>⟨g,0,rfl,(Array.getElem?_eq_some_iff.1 hh).1,fun i hi=>?_⟩⟩,hnc⟩
  have hown:w.ownsRow base e 1 (J (some ⟨g,0,none⟩) xs.length cap) xs.length (xs.map (Value.int F)):=⟨h1,.inr ⟨g,cap,cur,rfl,hb,hh,hnc,hcm,hcs,ht⟩⟩
  rw[Nat.zero_add,hown.cellAt i (by omega),getD_map_int xs i hi]
theorem SL.cut(h:SL w A n xs){k cap:Nat}(hk:k<=n)(hc:n<=cap):SL w (if cap=k then A else A.map (·.add k)) (n-k) (xs.drop k):=by
 refine⟨by rw[List.length_drop,h.1],fun hn=>?_⟩
 obtain⟨b,off,rfl,hlt,hcell⟩:=h.2 (by omega)
 rw[if_neg (by omega)]
 refine⟨b,off+k,by simp[Addr.add_lit],hlt,fun i hi=>?_⟩
 rw[Nat.add_assoc,hcell (k+i) (by omega)]
 simp[List.getD,List.getElem?_drop]
end
theorem eV{k:IntKind}{a b:Int}(h:a=b):Ending.returned (.int k a)=I (.int k b):=by rw[h]
theorem below_drewN'{B:Nat}{a w:World}(h:Below B a w)(n:Nat):Below B a (w.drewN n):=⟨h.os,h.tape,h.output,h.size,h.block⟩
open Classical in
noncomputable def more(w t:World):World:=if Below w.heap.size w t then t else w
theorem aa(w t:World):Below w.heap.size w (more w t):=by
 unfold more
 split
 ·assumption
 ·exact Below.refl _ _
theorem eC{w w':World}(h:Below w.heap.size w w'):∃t,w'=more w t:=⟨w',by unfold more;rw[if_pos h]⟩
theorem kj(w t:World)(a:Addr)(h:a.block<w.heap.size):(more w t).cell? a=w.cell? a:=(aa w t).cell h
theorem gn(w t:World)(a:Addr)(h:a.block<w.heap.size):(more w t).frozen? a=w.frozen? a:=(aa w t).frozen h
theorem ai(w t:World):w.heap.size<=(more w t).heap.size:=(aa w t).size
section
variable {P:Program}
theorem ae{id:Nat}{Q:Exit->Act->World->Prop}{a:Act}{w:World}{l:List Oper}(hm:P.follows .mixedOrders=true)(hB:Region.lexB .any l.toArray=true)
  (h:wpQuiet P l.toArray (fun w'=>∃t,w'=more w t) (fun a'=>∀w',(∃t,w'=more w t)->Q .normal a' w') l a):(Code.region id l.toArray true).wp P Q a w:=
 wp_region_quiet (C:=fun w'=>∃t,w'=more w t) hm hB (eC ⟨rfl,rfl,rfl,Nat.le_refl _,fun _ _=>rfl⟩) (by simpa using h)
theorem more_call{f:FuncId}{args:Array Value}{w t:World}{v:Value}
  (h:Calls P f args (more w t) fun e w'=>e=I v/\Below (more w t).heap.size (more w t) w'):Calls P f args (more w t) fun e w''=>e=I v/\∃m,w''=more w m:=
 h.mono fun _ _ ⟨he,hm⟩=>⟨he,eC ((aa w t).trans (hm.mono (ai w t)))⟩
theorem more_first{f:FuncId}{args:Array Value}{w:World}{v:Value}
  (h:Calls P f args w fun e w'=>e=I v/\Below w.heap.size w w'):Calls P f args w fun e w''=>e=I v/\∃m,w''=more w m:=
 h.mono fun _ _ ⟨he,hm⟩=>⟨he,eC hm⟩
theorem ab{f:FuncId}{args:Array Value}{w t:World}{v:Value}
  (h:Calls P f args (more w t) fun e w'=>e=I v/\more w t=w'):Calls P f args (more w t) fun e w''=>e=I v/\∃m,w''=more w m:=
 h.mono fun _ _ ⟨he,hm⟩=>⟨he,t,hm.symm⟩
end
theorem lt_more{w t:World}{b:Nat}(h:b<w.heap.size):(b<(more w t).heap.size)=True:=eq_true (Nat.lt_of_lt_of_le h (ai w t))
attribute [irreducible] more
attribute [go_sem] kj gn lt_more
theorem SL.more{w:World}{A:Option Addr}{n:Nat}{xs:List Int}(h:SL w A n xs)(t:World):SL (more w t) A n xs:=h.below (aa w t)
theorem bL(xs:List Int)(k:Nat)(h:k<xs.length):(xs.take (k+1)).sum=(xs.take k).sum+xs.getD k 0:=by
 rw[List.take_succ_eq_append_getElem h,List.sum_append]
 simp[List.getD,h]
theorem bz(xs:List Int)(h:∀x∈xs,0<=x):0<=xs.sum:=by
 induction xs with
 |nil=>simp
 |cons x r ih=>
  have h1:=h x (by simp)
  have h2:=ih fun y hy=>h y (by simp[hy])
  simp only[List.sum_cons];omega
theorem ck(xs:List Int)(k:Nat)(h:∀x∈xs,0<=x):(xs.take k).sum<=xs.sum:=by
 have e:xs.sum=(xs.take k).sum+(xs.drop k).sum:=by rw[<-List.sum_append,List.take_append_drop]
 have:=bz (xs.drop k) fun x hx=>h x (List.mem_of_mem_drop hx)
 omega
theorem bc(xs:List Int)(k:Nat)(h:∀x∈xs,0<=x):0<=(xs.take k).sum:=
 bz _ fun x hx=>h x (List.mem_of_mem_take hx)
theorem iI(xs:List Int)(h:∀x∈xs,0<=x):∀x∈xs,x<=xs.sum:=by
 induction xs with
 |nil=>intro x hx;cases hx
 |cons y r ih=>
  intro x hx
  have h1:=h y (by simp)
  have h2:=bz r fun z hz=>h z (by simp[hz])
  simp only[List.sum_cons]
  rcases List.mem_cons.1 hx with rfl|hx
  ·omega
  ·have:=ih (fun z hz=>h z (by simp[hz])) x hx;omega
theorem sum_le_len(xs:List Int)(c:Int)(hc:0<=c)(h:∀x∈xs,x<=c):xs.sum<=xs.length*c:=by
 induction xs with
 |nil=>simp
 |cons y r ih=>
  have h1:=h y (by simp)
  have h2:=ih fun z hz=>h z (by simp[hz])
  simp only[List.sum_cons,List.length_cons]
  have e:((r.length+1:Nat):Int)*c=r.length*c+c:=by rw[Int.natCast_add,Int.add_mul];simp
  omega
theorem gW{xs:List Int}{P:Int->Prop}{k:Nat}(h:∀x∈xs.take k,P x)(hk:k<xs.length)(h1:P (xs.getD k 0)):∀x∈xs.take (k+1),P x:=by
 intro x hx
 rw[List.take_succ_eq_append_getElem hk]at hx
 rcases List.mem_append.1 hx with hx|hx
 ·exact h x hx
 ·simp[List.getD,hk]at h1 hx;rw[hx];exact h1
theorem aX(xs:List Int)(k:Nat)(h:k<xs.length):xs.getD k 0∈xs:=by simp[List.getD,h]
def isVar(p c h s:Int):Bool:=decide (2<=p/\p<=24/\1<=c/\c<=15/\1<=h/\h<=p/\1<=s/\s<=6)
theorem aA{p c h s:Int}(H:isVar p c h s=true):2<=p/\p<=24/\1<=c/\c<=15/\1<=h/\h<=p/\1<=s/\s<=6:=of_decide_eq_true H
theorem isVar_mk{p c h s:Int}(H:2<=p/\p<=24/\1<=c/\c<=15/\1<=h/\h<=p/\1<=s/\s<=6):isVar p c h s=true:=decide_eq_true H
theorem dE{p c h s:Int}(H:¬(2<=p/\p<=24/\1<=c/\c<=15/\1<=h/\h<=p/\1<=s/\s<=6)):isVar p c h s=false:=decide_eq_false H
def SideP(p c:Int)(xs:List Int):Prop:=(xs.length:Int)=p+1/\(∀x∈xs,0<=x)/\xs.sum<=c
instance (p c:Int) (xs:List Int):Decidable (SideP p c xs):=by unfold SideP;infer_instance
def sideB(p c:Int)(xs:List Int):Bool:=decide (SideP p c xs)
theorem bQ{p c:Int}{xs:List Int}(h:sideB p c xs=true):(xs.length:Int)=p+1/\(∀x∈xs,0<=x)/\xs.sum<=c:=of_decide_eq_true h
theorem jl{p c:Int}{xs:List Int}(h:(xs.length:Int)=p+1/\(∀x∈xs,0<=x)/\xs.sum<=c):sideB p c xs=true:=decide_eq_true h
theorem sideB_len{p c:Int}{xs:List Int}(h:¬(xs.length:Int)=p+1):sideB p c xs=false:=decide_eq_false fun H=>h H.1
theorem sideB_neg{p c:Int}{xs:List Int}{k:Nat}(hk:k<xs.length)(h:xs.getD k 0<0):sideB p c xs=false:=
 decide_eq_false fun H=>by have:=H.2.1 _ (aX xs k hk);omega
theorem sideB_big{p c:Int}{xs:List Int}{k:Nat}(hk:k<xs.length)(h:c<(xs.take k).sum+xs.getD k 0):sideB p c xs=false:=
 decide_eq_false fun H=>by
  have h1:=ck xs (k+1) H.2.1;rw[bL xs k hk]at h1;have h2:=H.2.2
  omega
theorem sideB_above{p c:Int}{xs:List Int}{k:Nat}(hk:k<xs.length)(h:c<xs.getD k 0):sideB p c xs=false:=
 decide_eq_false fun H=>by
  have h1:=iI xs H.2.1 _ (aX xs k hk);have h2:=H.2.2
  omega
theorem sideB_sum{p c:Int}{xs:List Int}(h:c<xs.sum):sideB p c xs=false:=decide_eq_false fun H=>by have:=H.2.2;omega
def FreeP(p:Nat)(own other:List Int):Prop:=∀i,i<p->¬(0<own.getD i 0/\0<other.getD (p-1-i) 0)
instance (p:Nat) (own other:List Int):Decidable (FreeP p own other):=by unfold FreeP;infer_instance
def jc(p c:Int)(own other:List Int):Prop:=SideP p c own/\SideP p c other/\own.sum+other.sum≠0/\FreeP p.toNat own other
instance (p c:Int) (own other:List Int):Decidable (jc p c own other):=by unfold jc;infer_instance
def bZ(p c h s:Int)(own other:List Int):Bool:=isVar p c h s&&decide (jc p c own other)
theorem km{p c h s:Int}{own other:List Int}(H:isVar p c h s=false):bZ p c h s own other=false:=by simp[bZ,H]
theorem kn{p c h s:Int}{own other:List Int}(H:sideB p c own=false):bZ p c h s own other=false:=by
 have:¬jc p c own other:=fun h=>of_decide_eq_false H h.1
 simp[bZ,this]
theorem iu{p c h s:Int}{own other:List Int}(H:sideB p c other=false):bZ p c h s own other=false:=by
 have:¬jc p c own other:=fun h=>of_decide_eq_false H h.2.1
 simp[bZ,this]
theorem lk{p c h s:Int}{own other:List Int}(H:own.sum+other.sum=0):bZ p c h s own other=false:=by
 have:¬jc p c own other:=fun h=>h.2.2.1 H
 simp[bZ,this]
theorem board_hit{c h s:Int}{P:Nat}{own other:List Int}{k:Nat}(hk:k<P)(h1:0<own.getD k 0)(h2:0<other.getD (P-1-k) 0):bZ P c h s own other=false:=by
 have:¬jc P c own other:=fun h=>h.2.2.2 k (by simpa using hk) (by simpa using⟨h1,h2⟩)
 simp[bZ,this]
theorem board_mk{c h s:Int}{P:Nat}{own other:List Int}(hv:isVar P c h s=true)(h1:sideB P c own=true)(h2:sideB P c other=true)(h3:own.sum+other.sum≠0)
  (h4:∀i,i<P->¬(0<own.getD i 0/\0<other.getD (P-1-i) 0)):bZ P c h s own other=true:=by
 have:jc P c own other:=⟨bQ h1,bQ h2,h3,fun i hi=>by simpa using h4 i (by simpa using hi)⟩
 simp[bZ,this,hv]
theorem is{p c h s:Int}{own other:List Int}(H:bZ p c h s own other=true):isVar p c h s=true/\sideB p c own=true/\sideB p c other=true/\own.sum+other.sum≠0/\FreeP p.toNat own other:=by
 simp only[bZ,Bool.and_eq_true,decide_eq_true_eq]at H
 exact⟨H.1,jl H.2.1,jl H.2.2.1,H.2.2.2.1,H.2.2.2.2⟩
open Go.RowKit
def inB(x lo hi:Int):Bool:=decide (lo<=x/\x<=hi)
theorem bw{x lo hi:Int}(h:lo<=x/\x<=hi):inB x lo hi=true:=decide_eq_true h
theorem cE{x lo hi:Int}(h:¬(lo<=x/\x<=hi)):inB x lo hi=false:=decide_eq_false h
theorem within_any(x lo hi:Int)(w:World):
  Calls Tryz.prog 138 #[D F x,D F lo,D F hi] w fun e w'=>e=I (.bool (inB x lo hi))/\w=w':=by
 by_cases h1:lo<=x
 focus
  by_cases h2:x<=hi
  ·have H:=h_ (bw ⟨h1,h2⟩)
   go_enter Tryz.func138,Tryz.ntmps138
   go_wp2
   go_ret
   exact⟨by rw[H.out];rfl,rfl⟩
  focus
   refine ?za
 rotate_left
 focus
  refine ?zb
 rotate_left
 case za|zb=>
  have H:=h_ (cE (x:=x) (lo:=lo) (hi:=hi) (by omega))
  go_enter Tryz.func138,Tryz.ntmps138
  go_wp2
  go_ret
  exact⟨by rw[H.out];rfl,rfl⟩
theorem l01In_any(x lo hi:Int)(w:World):
  Calls Tryz.prog 107 #[D F x,D F lo,D F hi] w fun e w'=>e=I (.bool (inB x lo hi))/\w=w':=by
 by_cases h1:lo<=x
 focus
  by_cases h2:x<=hi
  ·have H:=h_ (bw ⟨h1,h2⟩)
   go_enter Tryz.func107,Tryz.ntmps107
   go_wp2
   go_ret
   exact⟨by rw[H.out];rfl,rfl⟩
  focus
   refine ?za
 rotate_left
 focus
  refine ?zb
 rotate_left
 case za|zb=>
  have H:=h_ (cE (x:=x) (lo:=lo) (hi:=hi) (by omega))
  go_enter Tryz.func107,Tryz.ntmps107
  go_wp2
  go_ret
  exact⟨by rw[H.out];rfl,rfl⟩
theorem aB(p c h s:Int)(w:World):
  Calls Tryz.prog 113 #[.agg #[D F p,D F c,D F h,D F s]] w fun e w'=>e=I (.bool (isVar p c h s))/\Below w.heap.size w w':=by
 by_cases h1:2<=p/\p<=24
 focus
  have e1:=bw h1
  by_cases h2:1<=c/\c<=15
  focus
   have e2:=bw h2
   by_cases h3:1<=h/\h<=p
   focus
    have e3:=bw h3
    by_cases h4:1<=s/\s<=6
    focus
     have e4:=bw h4
     have H:=h_ (isVar_mk ⟨h1.1,h1.2,h2.1,h2.2,h3.1,h3.2,h4⟩)
     refine ?ze
    rotate_left
    focus
     have e4:=cE h4
     refine ?za
   rotate_left 2
   focus
    have e3:=cE h3
    refine ?zb
  rotate_left 3
  focus
   have e2:=cE h2
   refine ?zc
 rotate_left 4
 focus
  have e1:=cE h1
  refine ?zd
 rotate_left
 case' za|zb|zc|zd=>
  have H:=h_ (dE (p:=p) (c:=c) (h:=h) (s:=s) (by omega))
 case ze|za|zb|zc|zd=>
  go_enter Tryz.func113,Tryz.ntmps113
  go_wp2_with (go_at_call 138;refine(within_any _ _ _ _).mono ?_;rintro e w' ⟨rfl,rfl⟩)
  go_ret
  exact⟨by rw[H.out];rfl,(Below.refl _ _).alloc (Nat.le_refl _) _⟩
theorem aG(p c h s:Int)(w:World):
  Calls Tryz.prog 91 #[.agg #[D F p,D F c,D F h,D F s]] w fun e w'=>e=I (.bool (isVar p c h s))/\Below w.heap.size w w':=by
 by_cases h1:2<=p/\p<=24
 focus
  have e1:=bw h1
  by_cases h2:1<=c/\c<=15
  focus
   have e2:=bw h2
   by_cases h3:1<=h/\h<=p
   focus
    have e3:=bw h3
    by_cases h4:1<=s/\s<=6
    focus
     have e4:=bw h4
     have H:=h_ (isVar_mk ⟨h1.1,h1.2,h2.1,h2.2,h3.1,h3.2,h4⟩)
     refine ?ze
    rotate_left
    focus
     have e4:=cE h4
     refine ?za
   rotate_left 2
   focus
    have e3:=cE h3
    refine ?zb
  rotate_left 3
  focus
   have e2:=cE h2
   refine ?zc
 rotate_left 4
 focus
  have e1:=cE h1
  refine ?zd
 rotate_left
 case' za|zb|zc|zd=>
  have H:=h_ (dE (p:=p) (c:=c) (h:=h) (s:=s) (by omega))
 case ze|za|zb|zc|zd=>
  go_enter Tryz.func91,Tryz.ntmps91
  go_wp2_with (go_at_call 107;refine(l01In_any _ _ _ _).mono ?_;rintro e w' ⟨rfl,rfl⟩)
  go_ret
  exact⟨by rw[H.out];rfl,(Below.refl _ _).alloc (Nat.le_refl _) _⟩
theorem er(p c h s:Int)(w:World):
  Calls Tryz.prog 13 #[.agg #[D F p,D F c,D F h,D F s]] w fun e w'=>e=I (.agg #[D F p,D F c,D F h,D F s])/\Below w.heap.size w w':=by
 go_enter Tryz.func13,Tryz.ntmps13
 go_wp2
 exact bodyPost_ret (v:=.agg #[D F p,D F c,D F h,D F s]) (by simp[results,Tryz.results13,go_sem]) rfl ⟨rfl,(((Below.refl _ _).alloc (Nat.le_refl _) _).alloc (by simp) _).alloc (by simp;omega) _⟩
theorem cC(A:Option Addr)(n c:Nat)(xs:List Int)(w:World)(h:SL w A n xs)(hp:∀x∈xs,0<=x)(hs:xs.sum<=2000000)(hn:n<=2000000):
  Calls Tryz.prog 97 #[J A n c] w fun e w'=>e=I (D F xs.sum)/\w=w':=by
 have hlen:=h.1
 have hp':∀k,0<=(xs.take k).sum:=fun k=>bc xs k hp
 have hs':∀k,(xs.take k).sum<=2000000:=fun k=>by have:=ck xs k hp;omega
 have HP:=h_ hp';have HS:=h_ hs';have HH:=h_ h;have HL:=h_ hlen;have HP0:=h_ hp;clear hp' hs' h hlen hs hp
 go_enter Tryz.func97,Tryz.ntmps97
 go_wp2
 go_loop [3,8] (fun s i=>∃k:Nat,k<=n/\i=D F k/\s=D F (xs.take k).sum) (fun _ i=>n-(intOf i).toNat)
 case atStart=>exact⟨0,by omega,rfl,by simp⟩
 case round=>
  obtain⟨k,hk,rfl,rfl⟩:=hrel
  by_cases hlt:k<n
  ·obtain⟨b,off,rfl,_,hc⟩:=HH.out.2 (by omega)
   have hcell:=hc k hlt;have h1:=HP.out k;have h2:=HS.out k
   have h3:=HP0.out _ (aX xs k (by rw[HL.out];exact hlt))
   have h4:=HS.out (k+1)
   have e:=bL xs k (by rw[HL.out];exact hlt)
   have h5:(xs.take k).sum+xs.getD k 0<=2000000:=by omega
   have E:=h_ e;clear hc e h4;generalize xs.getD k 0=x at *
   go_wp2
   go_round
   case rel=>exact⟨k+1,by omega,by go_num,by rw[E.out]⟩
   case measure=>simp[intOf];omega
  ·go_wp2
   go_ret
   exact⟨eV (by rw[List.take_of_length_le (by rw[HL.out];omega)]),rfl⟩
theorem cI(A:Option Addr)(n c:Nat)(xs:List Int)(w:World)(h:SL w A n xs)(hp:∀x∈xs,0<=x)(hs:xs.sum<=2000000)(hn:n<=2000000):
  Calls Tryz.prog 103 #[J A n c] w fun e w'=>e=I (D F xs.sum)/\w=w':=by
 have hlen:=h.1
 have hp':∀k,0<=(xs.take k).sum:=fun k=>bc xs k hp
 have hs':∀k,(xs.take k).sum<=2000000:=fun k=>by have:=ck xs k hp;omega
 have HP:=h_ hp';have HS:=h_ hs';have HH:=h_ h;have HL:=h_ hlen;have HP0:=h_ hp;clear hp' hs' h hlen hs hp
 go_enter Tryz.func103,Tryz.ntmps103
 go_wp2
 go_loop [3,4] (fun s i=>∃k:Nat,k<=n/\i=D F k/\s=D F (xs.take k).sum) (fun _ i=>n-(intOf i).toNat)
 case atStart=>exact⟨0,by omega,rfl,by simp⟩
 case round=>
  obtain⟨k,hk,rfl,rfl⟩:=hrel
  by_cases hlt:k<n
  ·obtain⟨b,off,rfl,_,hc⟩:=HH.out.2 (by omega)
   have hcell:=hc k hlt;have h1:=HP.out k;have h2:=HS.out k
   have h3:=HP0.out _ (aX xs k (by rw[HL.out];exact hlt))
   have h4:=HS.out (k+1)
   have e:=bL xs k (by rw[HL.out];exact hlt)
   have h5:(xs.take k).sum+xs.getD k 0<=2000000:=by omega
   have E:=h_ e;clear hc e h4;generalize xs.getD k 0=x at *
   go_wp2
   go_round
   case rel=>exact⟨k+1,by omega,by go_num,by rw[E.out]⟩
   case measure=>simp[intOf];omega
  ·go_wp2
   go_ret
   exact⟨eV (by rw[List.take_of_length_le (by rw[HL.out];omega)]),rfl⟩
theorem ay(A:Option Addr)(n c:Nat)(xs:List Int)(p ch h s:Int)(w:World)(hx:SL w A n xs)(hn:n<=2000000)(hp:0<=p)(hp2:p<=1000)(hc:0<=ch)(hc2:ch<=15):
  Calls Tryz.prog 102 #[.agg #[D F p,D F ch,D F h,D F s],J A n c] w fun e w'=>e=I (.bool (sideB p ch xs))/\Below w.heap.size w w':=by
 have HX:=h_ hx;clear hx
 by_cases hl:(n:Int)=p+1
 ·have hlb:((n:Int) != p+1)=false:=by simp[hl]
  have HL:=h_ hl
  have hn2:n<=1001:=by omega
  clear hl
  go_enter Tryz.func102,Tryz.ntmps102
  go_wp2_with (fail)
  go_loopw [5] (fun i wr=>∃k:Nat,k<=n/\i=D F k/\Hid (∀x∈xs.take k,0<=x/\x<=ch)/\Below (w.heap.size+1) (w.alloc (.cells #[D F p,D F ch,D F h,D F s] 33)) wr) (fun i _=>n-(intOf i).toNat)
  case atStart=>exact⟨0,by omega,rfl,by unfold Hid;simp,Below.refl _ _⟩
  case round=>
   obtain⟨k,hk,rfl,hall,hb⟩:=hrel
   have hb0:Below w.heap.size w wr:=((Below.refl _ _).alloc (Nat.le_refl _) _).trans (hb.mono (by omega))
   have hz:w.heap.size<wr.heap.size:=by have:=hb.size;simp at this;omega
   have HXr:=h_ (HX.out.below hb0)
   have c1:wr.cell? ⟨w.heap.size,1,none⟩=some (D F ch):=by rw[hb.cell (by simp)];simp[go_sem]
   by_cases hlt:k<n
   focus
    obtain⟨b,off,rfl,hbl,hcl⟩:=HXr.out.2 (by omega)
    have hcell:=hcl k hlt
    have hki:(k:Int)<(n:Int):=by omega
    have hk0:(0:Int)<=(k:Int):=by omega
    have hlen:k<xs.length:=by rw[HX.out.1];exact hlt
    have HG:=h_ (gW (P:=fun x=>0<=x/\x<=ch) hall.out hlen)
    have HN:=h_ (sideB_neg (p:=p) (c:=ch) hlen);have HA:=h_ (sideB_above (p:=p) (c:=ch) hlen);clear hcl hlen;generalize hxk:xs.getD k 0=x at *;clear hxk
    by_cases hin:0<=x/\x<=ch
    focus
     have e1:=bw hin
     have HG':=HG.out hin
     refine ?zc
    rotate_left
    focus
     have e1:=cE hin
     have HF:Hid (sideB p ch xs=false):=by
      by_cases h0:x<0
      ·exact HN.out h0
      ·exact HA.out (by omega)
     refine ?zd
   rotate_left 2
   focus
    obtain rfl:k=n:=by omega
    have hall':=hall.out
    rw[List.take_of_length_le (by rw[HX.out.1];omega)]at hall'
    have hs0:=bz xs fun x hx=>(hall' x hx).1
    have hle:=sum_le_len xs ch hc fun x hx=>(hall' x hx).2
    have hbig:xs.sum<=2000000:=by
     have h1:(xs.length:Int)*ch<=1001*15:=Int.mul_le_mul (by rw[HX.out.1];omega) hc2 hc (by omega)
     omega
    have HR:=h_ fun(hs:xs.sum<=ch)=>jl (p:=p) (c:=ch) ⟨by rw[HX.out.1];exact HL.out,fun x hx=>(hall' x hx).1,hs⟩
    have HR2:=h_ fun(hs:ch<xs.sum)=>sideB_sum (p:=p) (c:=ch) hs
    have HA:=h_ fun x hx=>(hall' x hx).1
    clear hall hall' hle;generalize hS:xs.sum=S at *;have HS:=h_ hS;clear hS
    have CS:∀t:World,Calls Tryz.prog 103 #[J A k c] (more wr t) fun e w'=>e=I (D F S)/\more wr t=w':=fun t=>by
     have:=cI A k c xs (more wr t) (HXr.out.more t) HA.out (by rw[HS.out];exact hbig) hn
     rwa [HS.out]at this
    have CS':=h_ CS;clear CS
    by_cases hs:S<=ch
    focus
     have HF:=h_ (HR.out hs)
     refine ?zb
    rotate_left
    focus
     have HF:=h_ (HR2.out (by omega))
     have hd:decide (S<=ch)=false:=by simp;omega
     refine ?za
   rotate_left 2
   case' za|zb|zc|zd=>
    go_wp2_with (fail)
    refine ae (by kernel_rfl) (by kernel_rfl) ?_
   case' za|zb=>
    repeat (first|go_big_quiet_step ((go_at_call 103;exact ab (CS'.out _)))|quiet_step ((go_at_call 103;exact ab (CS'.out _))))
   case' zc|zd=>
    repeat (first|go_big_quiet_step ((go_at_call 107;exact ab (l01In_any _ _ _ _)))|quiet_step ((go_at_call 107;exact ab (l01In_any _ _ _ _))))
   case' za|zb|zc|zd=>
    refine wpQuiet_nil ?_
    intro _ hw'
    obtain⟨tq,hw''⟩:=hw';subst hw'';have hbm:=aa wr tq
    go_wp2
   case zc=>
    go_roundw
    case rel=>exact⟨k+1,by omega,by go_num,HG',hb.trans (hbm.mono (by omega))⟩
    case measure=>simp[intOf];omega
   case zd|za|zb=>
    go_ret
    exact⟨by rw[HF.out];rfl,hb0.trans (hbm.mono (by omega))⟩
 ·have hlb:((n:Int) != p+1)=true:=by simp[hl]
  have HF:=h_ (sideB_len (p:=p) (c:=ch) (xs:=xs) (by rw[HX.out.1];exact hl))
  clear hl
  go_enter Tryz.func102,Tryz.ntmps102
  go_wp2_with (fail)
  go_ret
  exact⟨by rw[HF.out];rfl,(Below.refl _ _).alloc (Nat.le_refl _) _⟩
theorem isSide_any(A:Option Addr)(n c:Nat)(xs:List Int)(p ch h s:Int)(w:World)(hx:SL w A n xs)(hn:n<=2000000)(hp:0<=p)(hp2:p<=1000)(hc:0<=ch)(hc2:ch<=15):
  Calls Tryz.prog 154 #[.agg #[D F p,D F ch,D F h,D F s],J A n c] w fun e w'=>e=I (.bool (sideB p ch xs))/\Below w.heap.size w w':=by
 have HX:=h_ hx;clear hx
 by_cases hl:(n:Int)=p+1
 ·have hlb:((n:Int) != p+1)=false:=by simp[hl]
  have HL:=h_ hl
  have hn2:n<=1001:=by omega
  clear hl
  go_enter Tryz.func154,Tryz.ntmps154
  go_wp2
  go_loop [5,18] (fun l i=>∃k:Nat,k<=n/\i=D F k/\l=D F (ch-(xs.take k).sum)/\Hid (∀x∈xs.take k,0<=x)/\0<=(xs.take k).sum/\(xs.take k).sum<=ch) (fun _ i=>n-(intOf i).toNat)
  case atStart=>exact⟨0,by omega,rfl,by simp,by unfold Hid;simp,by simp,by simpa using hc⟩
  case round=>
   obtain⟨k,hk,rfl,rfl,hall,hs0,hs1⟩:=hrel
   by_cases hlt:k<n
   ·obtain⟨b,off,rfl,hbl,hcl⟩:=HX.out.2 (by omega)
    have hcell:=hcl k hlt
    have hlen:k<xs.length:=by rw[HX.out.1];exact hlt
    have HG:=h_ (gW (P:=fun x=>0<=x) hall.out hlen)
    have HN:=h_ (sideB_neg (p:=p) (c:=ch) hlen);have HA:=h_ (sideB_big (p:=p) (c:=ch) hlen);have HE:=h_ (bL xs k hlen);clear hcl hlen;generalize hxk:xs.getD k 0=x at *;clear hxk;generalize hsk:(xs.take k).sum=S at *;clear hsk
    by_cases h0:x<0
    ·have HF:=h_ (HN.out h0)
     go_wp2
     go_ret
     exact⟨by rw[HF.out];rfl,(Below.refl _ _).alloc (Nat.le_refl _) _⟩
    ·by_cases h1:ch-S<x
     ·have HF:=h_ (HA.out (by omega))
      go_wp2
      go_ret
      exact⟨by rw[HF.out];rfl,(Below.refl _ _).alloc (Nat.le_refl _) _⟩
     ·have HG':=HG.out (by omega)
      go_wp2
      go_round
      case rel=>exact⟨k+1,by omega,by go_num,by rw[HE.out];go_num,HG',by rw[HE.out];omega,by rw[HE.out];omega⟩
      case measure=>simp[intOf];omega
   ·obtain rfl:k=n:=by omega
    have hall':=hall.out
    have e:xs.take k=xs:=List.take_of_length_le (by rw[HX.out.1];omega)
    have HF:=h_ (jl (p:=p) (c:=ch) (xs:=xs) ⟨by rw[HX.out.1];exact HL.out,by rw[e]at hall';exact hall',by rw[e]at hs1;exact hs1⟩)
    clear e hall' hall;generalize (xs.take k).sum=S at *
    go_wp2
    go_ret
    exact⟨by rw[HF.out];rfl,(Below.refl _ _).alloc (Nat.le_refl _) _⟩
 ·have hlb:((n:Int) != p+1)=true:=by simp[hl]
  have HF:=h_ (sideB_len (p:=p) (c:=ch) (xs:=xs) (by rw[HX.out.1];exact hl))
  clear hl
  go_enter Tryz.func154,Tryz.ntmps154
  go_wp2
  go_ret
  exact⟨by rw[HF.out];rfl,(Below.refl _ _).alloc (Nat.le_refl _) _⟩
theorem IsBoard_any(p ch h s:Int)(A1 A2:Option Addr)(n1 c1 n2 c2:Nat)(own other:List Int)(w:World)(h1:SL w A1 n1 own)(h2:SL w A2 n2 other)(hn1:n1<=2000000)(hn2:n2<=2000000):
  Calls Tryz.prog 82 #[.agg #[D F p,D F ch,D F h,D F s],.agg #[J A1 n1 c1,J A2 n2 c2]] w fun e w'=>e=I (.bool (bZ p ch h s own other))/\Below w.heap.size w w':=by
 have HB:Hid (Below w.heap.size w ((w.alloc (.cells #[D F p,D F ch,D F h,D F s] 33)).alloc (.cells #[J A1 n1 c1,J A2 n2 c2] 35))):=((Below.refl _ _).alloc (Nat.le_refl _) _).alloc (by simp) _
 have H1:=h_ (h1.below HB.out);have H2:=h_ (h2.below HB.out);clear h1 h2
 by_cases hv:isVar p ch h s=true
 focus
  obtain⟨hp0,hp24,hc0,hc15,_⟩:=aA hv
  replace hp0:0<=p:=by omega
  replace hc0:0<=ch:=by omega
  by_cases hs1:sideB p ch own=true
  focus
   by_cases hs2:sideB p ch other=true
   focus
    obtain⟨P,rfl⟩:=Int.eq_ofNat_of_zero_le hp0
    obtain⟨hl1,hq1,hm1⟩:=bQ hs1;obtain⟨hl2,hq2,hm2⟩:=bQ hs2
    have e1:n1=P+1:=by rw[<-H1.out.1];omega
    have e2:n2=P+1:=by rw[<-H2.out.1];omega
    have CT1:=h_ fun t=>cC A1 n1 c1 own (more _ t) (H1.out.more t) hq1 (by omega) hn1
    have CT2:=h_ fun t=>cC A2 n2 c2 other (more _ t) (H2.out.more t) hq2 (by omega) hn2
    have g1:=bz own hq1;have g2:=bz other hq2;have HZ:=h_ (lk (p:=P) (c:=ch) (h:=h) (s:=s) (own:=own) (other:=other))
    have HH:=h_ fun k=>board_hit (c:=ch) (h:=h) (s:=s) (P:=P) (own:=own) (other:=other) (k:=k)
    have HM:=h_ (board_mk (s:=s) hv hs1 hs2);clear hl1 hl2 hm1 hm2 hq1 hq2;subst e1 e2;generalize hS1:own.sum=S1 at *;generalize hS2:other.sum=S2 at *;clear hS1 hS2
    by_cases hz1:S1=0
    focus
     by_cases hz2:S2=0
     focus
      have HF:=h_ (HZ.out (by omega))
      have b1:(S1==0)=true:=by simp[hz1]
      have b2:(S2==0)=true:=by simp[hz2]
      clear hz1 hz2
      refine ?zc
     rotate_left
     focus
      have hne:S1+S2≠0:=by omega
      have HM:=h_ (HM.out hne)
      have b1:(S1==0)=true:=by simp[hz1]
      have b2:(S2==0)=false:=by simp[hz2]
      clear hz1 hz2 hne HZ
      refine ?za
    rotate_left 2
    focus
     have hne:S1+S2≠0:=by omega
     have HM:=h_ (HM.out hne)
     have b1:(S1==0)=false:=by simp[hz1]
     clear hz1 hne HZ
     refine ?zb
   rotate_left 3
   focus
    replace hs2:sideB p ch other=false:=by simpa using hs2
    have HF:=h_ (iu (h:=h) (s:=s) (own:=own) hs2)
    refine ?zd
  rotate_left 4
  focus
   replace hs1:sideB p ch own=false:=by simpa using hs1
   have HF:=h_ (kn (h:=h) (s:=s) (other:=other) hs1)
   refine ?ze
 rotate_left 5
 focus
  replace hv:isVar p ch h s=false:=by simpa using hv
  have HF:=h_ (km (own:=own) (other:=other) hv)
  refine ?zf
 rotate_left
 case za|zb=>
  go_enter Tryz.func82,Tryz.ntmps82
  go_wp2_with (first|(go_at_call 113;refine(more_first (aB _ _ _ _ _)).mono ?_;rintro e w' ⟨rfl,t,rfl⟩)|(go_at_call_of 154 A1;refine(more_call (isSide_any _ _ _ _ _ _ _ _ _ (H1.out.more _) hn1 hp0 (by omega) hc0 hc15)).mono ?_;rintro e w' ⟨rfl,t,rfl⟩)|(go_at_call_of 154 A2;refine(more_call (isSide_any _ _ _ _ _ _ _ _ _ (H2.out.more _) hn2 hp0 (by omega) hc0 hc15)).mono ?_;rintro e w' ⟨rfl,t,rfl⟩)|(go_at_call_of 97 A1;refine(CT1.out _).mono ?_;rintro e w' ⟨rfl,rfl⟩)|(go_at_call_of 97 A2;refine(CT2.out _).mono ?_;rintro e w' ⟨rfl,rfl⟩))
  go_loop [37] (fun i=>∃k:Nat,k<=P/\i=D F k/\Hid (∀i,i<k->¬(0<own.getD i 0/\0<other.getD (P-1-i) 0))) (fun i=>P-(intOf i).toNat)
  case atStart=>exact⟨0,by omega,rfl,by intro i hi;omega⟩
  case round=>
   obtain⟨k,hk,rfl,hall⟩:=hrel
   by_cases hlt:k<P
   ·obtain⟨x1,o1,rfl,hb1,hcl1⟩:=(H1.out.more t).2 (by omega)
    obtain⟨x2,o2,rfl,hb2,hcl2⟩:=(H2.out.more t).2 (by omega)
    have q1:=hcl1 k (by omega)
    have q2:=hcl2 (P-1-k) (by omega)
    have HK:=h_ (HH.out k hlt)
    have HS:Hid (¬(0<own.getD k 0/\0<other.getD (P-1-k) 0)->∀i,i<k+1->¬(0<own.getD i 0/\0<other.getD (P-1-i) 0)):=by
     intro hn i hi
     by_cases e:i=k
     ·subst e;exact hn
     ·exact hall.out i (by omega)
    have a2:((P:Int)-1-(k:Int)).toNat=P-1-k:=by omega
    clear hcl1 hcl2 hall;generalize own.getD k 0=u1 at *;generalize other.getD (P-1-k) 0=u2 at *
    by_cases g1:0<u1
    ·by_cases g2:0<u2
     ·have HF:=h_ (HK.out g1 g2)
      go_wp2
      go_ret
      exact⟨by rw[HF.out];rfl,HB.out.trans ((aa _ _).mono HB.out.size)⟩
     ·have HS':=HS.out (by omega)
      go_wp2
      go_round
      case rel=>exact⟨k+1,by omega,by go_num,HS'⟩
      case measure=>simp[intOf];omega
    ·have HS':=HS.out (by omega)
     go_wp2
     go_round
     case rel=>exact⟨k+1,by omega,by go_num,HS'⟩
     case measure=>simp[intOf];omega
   ·obtain rfl:k=P:=by omega
    have HF:=h_ (HM.out hall.out)
    go_wp2
    go_ret
    exact⟨by rw[HF.out];rfl,HB.out.trans ((aa _ _).mono HB.out.size)⟩
 case zc|zd|ze|zf=>
  go_enter Tryz.func82,Tryz.ntmps82
  go_wp2_with (first|(go_at_call 113;refine(more_first (aB _ _ _ _ _)).mono ?_;rintro e w' ⟨rfl,t,rfl⟩)|(go_at_call_of 154 A1;refine(more_call (isSide_any _ _ _ _ _ _ _ _ _ (H1.out.more _) hn1 hp0 (by omega) hc0 hc15)).mono ?_;rintro e w' ⟨rfl,t,rfl⟩)|(go_at_call_of 154 A2;refine(more_call (isSide_any _ _ _ _ _ _ _ _ _ (H2.out.more _) hn2 hp0 (by omega) hc0 hc15)).mono ?_;rintro e w' ⟨rfl,t,rfl⟩)|(go_at_call_of 97 A1;refine(CT1.out _).mono ?_;rintro e w' ⟨rfl,rfl⟩)|(go_at_call_of 97 A2;refine(CT2.out _).mono ?_;rintro e w' ⟨rfl,rfl⟩))
  go_ret
  exact⟨by rw[HF.out];rfl,HB.out.trans ((aa _ _).mono HB.out.size)⟩
theorem sIsBoard_any(p ch h s:Int)(A1 A2:Option Addr)(n1 c1 n2 c2:Nat)(own other:List Int)(w:World)(h1:SL w A1 n1 own)(h2:SL w A2 n2 other)(hn1:n1<=2000000)(hn2:n2<=2000000):
  Calls Tryz.prog 51 #[.agg #[D F p,D F ch,D F h,D F s],.agg #[J A1 n1 c1,J A2 n2 c2]] w fun e w'=>e=I (.bool (bZ p ch h s own other))/\Below w.heap.size w w':=by
 have HB:Hid (Below w.heap.size w ((w.alloc (.cells #[D F p,D F ch,D F h,D F s] 33)).alloc (.cells #[J A1 n1 c1,J A2 n2 c2] 35))):=((Below.refl _ _).alloc (Nat.le_refl _) _).alloc (by simp) _
 have H1:=h_ (h1.below HB.out);have H2:=h_ (h2.below HB.out);clear h1 h2
 by_cases hv:isVar p ch h s=true
 focus
  obtain⟨hp0,hp24,hc0,hc15,_⟩:=aA hv
  replace hp0:0<=p:=by omega
  replace hc0:0<=ch:=by omega
  by_cases hs1:sideB p ch own=true
  focus
   by_cases hs2:sideB p ch other=true
   focus
    obtain⟨P,rfl⟩:=Int.eq_ofNat_of_zero_le hp0
    obtain⟨hl1,hq1,hm1⟩:=bQ hs1;obtain⟨hl2,hq2,hm2⟩:=bQ hs2
    have e1:n1=P+1:=by rw[<-H1.out.1];omega
    have e2:n2=P+1:=by rw[<-H2.out.1];omega
    have CT1:=h_ fun t=>cI A1 n1 c1 own (more _ t) (H1.out.more t) hq1 (by omega) hn1
    have CT2:=h_ fun t=>cI A2 n2 c2 other (more _ t) (H2.out.more t) hq2 (by omega) hn2
    have g1:=bz own hq1;have g2:=bz other hq2;have HZ:=h_ (lk (p:=P) (c:=ch) (h:=h) (s:=s) (own:=own) (other:=other))
    have HH:=h_ fun k=>board_hit (c:=ch) (h:=h) (s:=s) (P:=P) (own:=own) (other:=other) (k:=k)
    have HM:=h_ (board_mk (s:=s) hv hs1 hs2)
    have hm1':own.sum<=15:=by omega
    have hm2':other.sum<=15:=by omega
    clear hl1 hl2 hm1 hm2 hq1 hq2;subst e1 e2;generalize hS1:own.sum=S1 at *;generalize hS2:other.sum=S2 at *;clear hS1 hS2
    by_cases hz:S1+S2=0
    focus
     have HF:=h_ (HZ.out hz)
     have b1:(S1+S2==0)=true:=by simp[hz]
     clear hz
     refine ?za
    rotate_left
    focus
     have HM:=h_ (HM.out hz)
     have b1:(S1+S2==0)=false:=by simp[hz]
     clear hz HZ
     refine ?zb
   rotate_left 2
   focus
    replace hs2:sideB p ch other=false:=by simpa using hs2
    have HF:=h_ (iu (h:=h) (s:=s) (own:=own) hs2)
    refine ?zc
  rotate_left 3
  focus
   replace hs1:sideB p ch own=false:=by simpa using hs1
   have HF:=h_ (kn (h:=h) (s:=s) (other:=other) hs1)
   refine ?zd
 rotate_left 4
 focus
  replace hv:isVar p ch h s=false:=by simpa using hv
  have HF:=h_ (km (own:=own) (other:=other) hv)
  refine ?ze
 rotate_left
 case' za|zb|zc|zd|ze=>
  go_enter Tryz.func51,Tryz.ntmps51
  go_wp2_with (fail)
  refine ae (by kernel_rfl) (by kernel_rfl) ?_
  repeat (first|go_big_quiet_step ((first|(go_at_call 91;exact more_call (aG _ _ _ _ _))|(go_at_call_of 102 A1;exact more_call (ay _ _ _ _ _ _ _ _ _ (H1.out.more _) hn1 hp0 (by omega) hc0 hc15))|(go_at_call_of 102 A2;exact more_call (ay _ _ _ _ _ _ _ _ _ (H2.out.more _) hn2 hp0 (by omega) hc0 hc15))|(go_at_call_of 103 A1;exact ab (CT1.out _))|(go_at_call_of 103 A2;exact ab (CT2.out _))))|quiet_step ((first|(go_at_call 91;exact more_call (aG _ _ _ _ _))|(go_at_call_of 102 A1;exact more_call (ay _ _ _ _ _ _ _ _ _ (H1.out.more _) hn1 hp0 (by omega) hc0 hc15))|(go_at_call_of 102 A2;exact more_call (ay _ _ _ _ _ _ _ _ _ (H2.out.more _) hn2 hp0 (by omega) hc0 hc15))|(go_at_call_of 103 A1;exact ab (CT1.out _))|(go_at_call_of 103 A2;exact ab (CT2.out _)))))
  refine wpQuiet_nil ?_
  intro _ hw'
  obtain⟨t,hw''⟩:=hw';subst hw''
  go_wp2
 case zb=>
  go_loop [5] (fun i=>∃k:Nat,k<=P/\i=D F k/\Hid (∀i,i<k->¬(0<own.getD i 0/\0<other.getD (P-1-i) 0))) (fun i=>P-(intOf i).toNat)
  case atStart=>exact⟨0,by omega,rfl,by intro i hi;omega⟩
  case round=>
   obtain⟨k,hk,rfl,hall⟩:=hrel
   by_cases hlt:k<P
   ·obtain⟨x1,o1,rfl,hb1,hcl1⟩:=(H1.out.more t).2 (by omega)
    obtain⟨x2,o2,rfl,hb2,hcl2⟩:=(H2.out.more t).2 (by omega)
    have q1:=hcl1 k (by omega)
    have q2:=hcl2 (P-1-k) (by omega)
    have HK:=h_ (HH.out k hlt)
    have HS:Hid (¬(0<own.getD k 0/\0<other.getD (P-1-k) 0)->∀i,i<k+1->¬(0<own.getD i 0/\0<other.getD (P-1-i) 0)):=by
     intro hn i hi
     by_cases e:i=k
     ·subst e;exact hn
     ·exact hall.out i (by omega)
    have a2:((P:Int)-1-(k:Int)).toNat=P-1-k:=by omega
    clear hcl1 hcl2 hall;generalize own.getD k 0=u1 at *;generalize other.getD (P-1-k) 0=u2 at *
    by_cases g1:0<u1
    ·by_cases g2:0<u2
     ·have HF:=h_ (HK.out g1 g2)
      go_wp2
      go_ret
      exact⟨by rw[HF.out];rfl,HB.out.trans ((aa _ _).mono HB.out.size)⟩
     ·have HS':=HS.out (by omega)
      go_wp2
      go_round
      case rel=>exact⟨k+1,by omega,by go_num,HS'⟩
      case measure=>simp[intOf];omega
    ·have HS':=HS.out (by omega)
     go_wp2
     go_round
     case rel=>exact⟨k+1,by omega,by go_num,HS'⟩
     case measure=>simp[intOf];omega
   ·obtain rfl:k=P:=by omega
    have HF:=h_ (HM.out hall.out)
    go_wp2
    go_ret
    exact⟨by rw[HF.out];rfl,HB.out.trans ((aa _ _).mono HB.out.size)⟩
 case za|zc|zd|ze=>
  go_ret
  exact⟨by rw[HF.out];rfl,HB.out.trans ((aa _ _).mono HB.out.size)⟩
theorem Tryz.infoI:(Tryz.prog.info? 2).map (fun i=>(i.zero,i.size,i.bytes))=some (some (D F 0),1,8):=by kernel_rfl
section
variable {w w':World}{base:Nat}{e:TypeId}{v:Value}{xs:List Int}
theorem own_below{size n:Nat}{cs:List Value}(h:w.ownsRow base e size v n cs)(hb:Below w.heap.size w w'):w'.ownsRow base e size v n cs:=
 h.kept (row:=none) ⟨hb.os,hb.tape,hb.output,hb.size,fun k hk _=>hb.block k hk⟩ (by cases hv:v.ownBlock<;>simp)
theorem aH{size n base':Nat}{cs:List Value}(h:w.ownsRow base e size v n cs)(hb:base'<=base):w.ownsRow base' e size v n cs:=by
 obtain⟨h1,h2⟩:=h
 refine⟨h1,?_⟩
 rcases h2 with h2|⟨g,cap,cur,hv,hg,r⟩
 ·exact .inl h2
 ·exact .inr ⟨g,cap,cur,hv,Nat.le_trans hb hg,r⟩
theorem OwnS.below(h:OwnS w base e v xs)(hb:Below w.heap.size w w'):OwnS w' base e v xs:=own_below h hb
theorem OwnS.mono(h:OwnS w base e v xs){base':Nat}(hb:base'<=base):OwnS w base' e v xs:=aH h hb
theorem OwnS.sl(h:OwnS w base e v xs){A:Option Addr}{n c:Nat}(hv:v=J A n c):SL w A n xs/\n<=c:=by
 obtain⟨A',c',hv',hs,hc⟩:=h.read;rw[hv']at hv;injection hv with h1 h2 h3;subst h1 h2 h3
 exact⟨hs,hc⟩
theorem OwnS.lt(h:OwnS w base e v xs):∀k,v.ownBlock=some k->base<=k/\k<w.heap.size:=World.ownsRow.lt h
end
theorem ao{w:World}{base:Nat}{e:TypeId}{A:Option Addr}{n c:Nat}{xs:List Int}(h:OwnS w base e (J A n c) xs)(hn:0<n):∃g,A=some ⟨g,0,none⟩/\base<=g/\g<w.heap.size/\
  (∀j,j<n->w.cell? ⟨g,j,none⟩=some (D F (xs.getD j 0)))/\(∀j,w.frozen? ⟨g,j,none⟩=false):=by
 have hs:=(h.sl rfl).1;obtain⟨-,h2⟩:=h
 rcases h2 with⟨h2,h3⟩|⟨g,cap,cur,hv,hb,hh,r⟩
 ·have:=hs.1;omega
 ·injection hv with hv1 hv2 hv3
  subst hv1
  refine⟨g,rfl,hb,(Array.getElem?_eq_some_iff.1 hh).1,fun j hj=>?_,fun j=>frozen_of_row w g j cur e hh⟩
  obtain⟨b,off,hA,_,hc⟩:=hs.2 hn;injection hA with hA;injection hA with hA1 hA2;subst hA1 hA2
  simpa using hc j hj
theorem OwnS.stored{w:World}{base:Nat}{e:TypeId}{g n c:Nat}{xs:List Int}(h:OwnS w base e (J (some ⟨g,0,none⟩) n c) xs)(j:Nat)(x:Int):
  OwnS (w.setCell ⟨g,j,none⟩ (D F x)) base e (J (some ⟨g,0,none⟩) n c) (xs.set j x):=by
 have hn:=(h.sl rfl).1.1;unfold OwnS at h ⊢;subst hn;have h1:=(World.ownsRow.stored h j (D F x)).1;rw[<-List.map_set]at h1;have e:(xs.set j x).length=xs.length:=List.length_set;rw[e]
 exact h1
theorem ac{w w':World}{a:Addr}{v:Value}(h:w.cell? a=some v)(hb:Below w.heap.size w w'):w'.cell? a=some v:=(hb.cell (World.block_lt_of_cell? w _ h)).trans h
theorem aS{w w':World}{a:Addr}{v:Value}(hf:w.frozen? a=false)(h:w.cell? a=some v)(hb:Below w.heap.size w w'):w'.frozen? a=false:=(hb.frozen (World.block_lt_of_cell? w _ h)).trans hf
def RetO(w:World)(e:TypeId)(xs:List Int)(en:Ending)(w':World):Prop:=∃A c,en=I (J A xs.length c)/\OwnS w' w.heap.size e (J A xs.length c) xs/\Below w.heap.size w w'
theorem RetO.mk{w w':World}{e:TypeId}{xs:List Int}{v:Value}(h:OwnS w' w.heap.size e v xs)(hb:Below w.heap.size w w'):RetO w e xs (I v) w':=by
 obtain⟨A,c,rfl,_⟩:=h.read
 exact⟨A,c,rfl,h,hb⟩
theorem fn(A:Option Addr)(n c:Nat)(xs:List Int)(w:World)(hx:SL w A n xs)(hn:n<=2000000):
  Calls Tryz.prog 193 #[J A n c] w (RetO w 2 xs):=by
 obtain⟨i0,hi,hz0,hz1,hz2⟩:=info_parts Tryz.infoI
 have hq:=fun(W:World)=>Lib.run_eql_slice_nil (P:=Tryz.prog) W 24 2 A n c 0 0 Tryz.underlying24
 have hl:=hx.1
 rcases A with _|a
 ·have h0:xs=[]:=by
   rcases Nat.eq_zero_or_pos n with h|h
   ·exact List.eq_nil_of_length_eq_zero (by omega)
   ·obtain⟨b,off,h,_⟩:=hx.2 h;cases h
  subst h0;have H:=h_ (RetO.mk (w:=w) (w':=w) (e:=2) (xs:=[]) (v:=J none 0 0) (World.ownsRow_nil _ _ _ _) (Below.refl _ _));clear hx hl
  go_enter Tryz.func193,Tryz.ntmps193
  go_wp2
  go_ret
  exact H.out
 ·have hnews:∀j u,(xs.map (Value.int F))[j]? = some u->w.cell? (a.add j)=some u:=by
   intro j u hu
   have hj:j<xs.length:=by have:=(List.getElem?_eq_some_iff.1 hu).1;simpa using this
   obtain⟨b,off,h,_,hc⟩:=hx.2 (by omega)
   injection h with h;subst h
   rw[Addr.add_lit,hc j (by omega),<-getD_map_int xs j hj,hu]
  have HN:Hid (∀j u,(xs.map (Value.int F))[j]? =some u->(w.alloc (.cells #[] 2)).cell? (a.add j)=some u):=by
   intro j u hu
   have h:=hnews j u hu
   exact(World.cell?_alloc_lt w _ _ (World.block_lt_of_cell? w _ h)).trans h
  have HO:Hid ((w.alloc (.cells #[] 2)).ownsRow w.heap.size 2 1 (J (some ⟨w.heap.size,0,none⟩) 0 0) 0 []):=World.ownsRow_made w #[] 0 (Nat.le_refl _) (by decide) rfl
  have HL:=h_ hl;clear hx hl hnews
  go_enter Tryz.func193,Tryz.ntmps193
  go_wp2_with (at_builtin;refine wpList_append_own _ rfl _ _ 24 rfl w.heap.size 2 i0 (D F 0) 1 8 Tryz.underlying24 hi hz0 hz1 hz2 rfl (by decide) _ 0 [] rfl HO.out a n c (xs.map (Value.int F)) rfl ?c1 HN.out ?c2 ?c3 ?c4 ?c5 ?_)
  case c1=>rw[List.length_map,HL.out,Nat.mul_one]
  case c2=>exact ints_oneCell _ _
  case c3=>unfold maxLen;omega
  case c4=>omega
  case c5=>simp
  ·intro v' w1 hown hgrow _
   have hb:Below w.heap.size w w1:=((Below.refl _ _).alloc (Nat.le_refl _) _).grown hgrow (by simp) (by simp[Value.ownBlock])
   have H:RetO w 2 xs (I v') w1:=by
    refine RetO.mk ?_ hb
    unfold OwnS;rw[HL.out]
    simpa using hown
   have H':=h_ H;clear H hown hgrow
   go_wp2
   go_ret
   exact H'.out
theorem OwnS.setLow{w:World}{base:Nat}{e:TypeId}{v:Value}{xs:List Int}(h:OwnS w base e v xs){a:Addr}(ha:a.block<base)(u:Value):OwnS (w.setCell a u) base e v xs:=ownsRow_setCell_below h ha u
theorem own_apart{w w':World}{b1 b2:Nat}{e1 e2:TypeId}{v1 v2:Value}{x1 x2:List Int}(h1:OwnS w b1 e1 v1 x1)(h2:OwnS w' b2 e2 v2 x2)(hle:w.heap.size<=b2):v1.ownBlock=none\/v1.ownBlock≠v2.ownBlock:=by
 rcases hv1:v1.ownBlock with _|k
 ·exact .inl rfl
 ·refine .inr ?_
  rcases hv2:v2.ownBlock with _|k2
  ·intro h;cases h
  ·intro h
   injection h with h;have:=(h1.lt k hv1).2;have:=(h2.lt k2 hv2).1
   omega
open Go.RowKit
theorem ar(w:World)(o:Obj)(a:Addr)(h:a.block<w.heap.size):(w.alloc o).cell? a=w.cell? a:=World.cell?_alloc_lt w o a h
theorem aD(w:World)(o:Obj)(a:Addr)(h:a.block<w.heap.size):(w.alloc o).frozen? a=w.frozen? a:=((Below.refl _ _).alloc (Nat.le_refl _) o).frozen h
theorem lt_more_add{w t:World}{b k:Nat}(h:b<w.heap.size):(b<(more w t).heap.size+k)=True:=eq_true (Nat.lt_of_lt_of_le (Nat.lt_of_lt_of_le h (ai w t)) (Nat.le_add_right _ _))
theorem ne_more{w t:World}{b:Nat}(h:b<w.heap.size):(b=(more w t).heap.size)=False:=eq_false (by have:=ai w t;omega)
theorem ne_more'{w t:World}{b:Nat}(h:b<w.heap.size):((more w t).heap.size=b)=False:=eq_false (by have:=ai w t;omega)
theorem ne_more_add{w t:World}{b k:Nat}(h:b<w.heap.size):(b=(more w t).heap.size+k)=False:=eq_false (by have:=ai w t;omega)
theorem ne_more_add'{w t:World}{b k:Nat}(h:b<w.heap.size):((more w t).heap.size+k=b)=False:=eq_false (by have:=ai w t;omega)
attribute [go_sem] lt_more_add ne_more ne_more' ne_more_add ne_more_add'
theorem fj(w t:World)(o:Obj)(a:Addr)(h:a.block<w.heap.size):((more w t).alloc o).cell? a=w.cell? a:=
 (ar _ o a (Nat.lt_of_lt_of_le h (ai w t))).trans (kj w t a h)
theorem ec(w t:World)(o:Obj)(a:Addr)(h:a.block<w.heap.size):((more w t).alloc o).frozen? a=w.frozen? a:=
 (aD _ o a (Nat.lt_of_lt_of_le h (ai w t))).trans (gn w t a h)
theorem je(w t:World)(o o':Obj)(a:Addr)(h:a.block<w.heap.size):(((more w t).alloc o).alloc o').cell? a=w.cell? a:=
 (ar _ o' a (by have:=ai w t;simp;omega)).trans (fj w t o a h)
theorem io(w t:World)(o o':Obj)(a:Addr)(h:a.block<w.heap.size):(((more w t).alloc o).alloc o').frozen? a=w.frozen? a:=
 (aD _ o' a (by have:=ai w t;simp;omega)).trans (ec w t o a h)
attribute [go_sem] fj ec je io
theorem OwnS.alloc{w:World}{base:Nat}{e:TypeId}{v:Value}{xs:List Int}(h:OwnS w base e v xs)(o:Obj):OwnS (w.alloc o) base e v xs:=h.below ((Below.refl _ _).alloc (Nat.le_refl _) o)
theorem bF{α:Type}(a b:List α)(d:α){i:Nat}(h:i<a.length):(a++b).getD i d=a.getD i d:=by
 simp[List.getD,List.getElem?_append_left h]
theorem aK{α:Type}(a b:List α)(d:α){i:Nat}(h:a.length<=i):(a++b).getD i d=b.getD (i-a.length) d:=by
 simp[List.getD,List.getElem?_append_right h]
theorem bj{α:Type}{motive:List α->Prop}(l:List α)(nil:motive [])(snoc:∀l a,motive l->motive (l++[a])):motive l:=by
 have key:∀n (l:List α),l.length=n->motive l:=by
  intro n
  induction n with
  |zero=>intro l hl;rw[List.eq_nil_of_length_eq_zero hl];exact nil
  |succ n ih=>
   intro l hl
   have hne:l≠[]:=by intro e;rw[e]at hl;simp at hl
   rw[<-List.dropLast_concat_getLast hne]
   exact snoc _ _ (ih _ (by rw[List.length_dropLast,hl];rfl))
 exact key _ l rfl
theorem aE{α:Type}(l:List α)(d:α){k:Nat}(h:k<l.length):l.take (k+1)=l.take k++[l.getD k d]:=by
 rw[List.take_succ_eq_append_getElem h];simp[List.getD,h]
theorem ak{α:Type}(l:List α)(d:α){k:Nat}(h:k<l.length):l.getD k d∈l:=by simp[List.getD,h]
theorem getD_map{α β:Type}(f:α->β)(l:List α)(d:α)(e:β){k:Nat}(h:k<l.length):(l.map f).getD k e=f (l.getD k d):=by simp[List.getD,h]
structure Frm(S:Nat->Prop)(w w':World):Prop where
 os:w'.os=w.os
 tape:w'.tape=w.tape
 output:w'.output=w.output
 size:w.heap.size<=w'.heap.size
 block:∀k,k<w.heap.size->¬S k->w'.heap[k]? =w.heap[k]?
theorem Frm.of_grown{w w':World}{r:Option Nat}(h:w.grownBy w' r):Frm (fun k=>some k=r) w w':=⟨h.os,h.tape,h.output,h.size,fun k hk hn=>h.block k hk hn⟩
theorem Frm.of_below{w w':World}(h:Below w.heap.size w w'):Frm (fun _=>False) w w':=⟨h.os,h.tape,h.output,h.size,fun k hk _=>h.block k hk⟩
theorem Frm.mono{S T:Nat->Prop}{w w':World}(h:Frm S w w')(hst:∀k,S k->T k):Frm T w w':=⟨h.os,h.tape,h.output,h.size,fun k hk hn=>h.block k hk fun hs=>hn (hst k hs)⟩
theorem Frm.trans{S:Nat->Prop}{a b c:World}(h:Frm S a b)(k:Frm S b c):Frm S a c:=
 ⟨k.os.trans h.os,k.tape.trans h.tape,k.output.trans h.output,Nat.le_trans h.size k.size,fun i hi hn=>(k.block i (Nat.lt_of_lt_of_le hi h.size) hn).trans (h.block i hi hn)⟩
theorem Frm.below{S:Nat->Prop}{w w':World}(h:Frm S w w'){B:Nat}(hB:B<=w.heap.size)(hS:∀k,S k->B<=k):Below B w w':=
 ⟨h.os,h.tape,h.output,h.size,fun k hk=>h.block k (by omega) fun hs=>by have:=hS k hs;omega⟩
theorem Frm.cell{S:Nat->Prop}{w w':World}(h:Frm S w w'){a:Addr}{v:Value}(hc:w.cell? a=some v)(hn:¬S a.block):w'.cell? a=some v:=
 (World.cell?_of_block (h.block a.block (World.block_lt_of_cell? w a hc) hn)).trans hc
theorem Frm.cell'{S:Nat->Prop}{w w':World}{b i:Nat}{v:Value}(h:Frm S w w')(hc:w.cell? ⟨b,i,none⟩=some v)(hn:¬S b):w'.cell? ⟨b,i,none⟩=some v:=h.cell hc hn
theorem Frm.row{S:Nat->Prop}{w w':World}{base size n:Nat}{e:TypeId}{v:Value}{cs:List Value}(h:Frm S w w')(ho:w.ownsRow base e size v n cs)(hn:∀k,v.ownBlock=some k->¬S k):w'.ownsRow base e size v n cs:=by
 obtain⟨h1,h2⟩:=ho
 refine⟨h1,?_⟩
 rcases h2 with h2|⟨g,cap,cur,hv,hb,hh,r⟩
 ·exact .inl h2
 ·refine .inr ⟨g,cap,cur,hv,hb,?_,r⟩
  rw[h.block g (Array.getElem?_eq_some_iff.1 hh).1 (hn g (by rw[hv];rfl))]
  exact hh
theorem Frm.own{S:Nat->Prop}{w w':World}{base:Nat}{e:TypeId}{v:Value}{xs:List Int}(h:Frm S w w')(ho:OwnS w base e v xs)(hn:∀k,v.ownBlock=some k->¬S k):OwnS w' base e v xs:=h.row ho hn
theorem Frm.refl(S:Nat->Prop)(w:World):Frm S w w:=⟨rfl,rfl,rfl,Nat.le_refl _,fun _ _ _=>rfl⟩
theorem Frm.alloc{S:Nat->Prop}{w w':World}(h:Frm S w w')(o:Obj):Frm S w (w'.alloc o):=h.trans ((Frm.of_below ((Below.refl _ _).alloc (Nat.le_refl _) o)).mono fun _ h=>h.elim)
theorem Frm.drew{S:Nat->Prop}{w w':World}(h:Frm S w w'):Frm S w w'.drew:=⟨h.os,h.tape,h.output,h.size,h.block⟩
theorem Frm.drewN{S:Nat->Prop}{w w':World}(h:Frm S w w')(k:Nat):Frm S w (w'.drewN k):=⟨h.os,h.tape,h.output,h.size,h.block⟩
theorem Frm.of_below'(S:Nat->Prop){w w':World}(h:Below w.heap.size w w'):Frm S w w':=(Frm.of_below h).mono fun _ h=>h.elim
def SLa(S:Nat->Prop)(w:World)(A:Option Addr)(n:Nat)(xs:List Int):Prop:=SL w A n xs/\∀b off s,A=some ⟨b,off,s⟩->¬S b
def SLZ(z:Nat)(S:Nat->Prop)(w:World)(A:Option Addr)(n:Nat)(cs:List Value):Prop:=
 cs.length=n*z/\(0<n->∃b off,A=some ⟨b,off,none⟩/\b<w.heap.size/\¬S b/\∀i,i<n*z->w.cell? ⟨b,off+i,none⟩=some (cs.getD i undef))
section
variable {S:Nat->Prop}{w w':World}{A:Option Addr}{n z:Nat}{xs:List Int}{cs:List Value}
theorem SLa.frm(h:SLa S w A n xs)(hf:Frm S w w'):SLa S w' A n xs:=by
 refine⟨⟨h.1.1,fun hn=>?_⟩,h.2⟩
 obtain⟨b,off,hA,hlt,hc⟩:=h.1.2 hn
 exact⟨b,off,hA,Nat.lt_of_lt_of_le hlt hf.size,fun i hi=>hf.cell' (hc i hi) (h.2 b off none hA)⟩
theorem SLa.below(h:SLa S w A n xs)(hb:Below w.heap.size w w'):SLa S w' A n xs:=h.frm (Frm.of_below' S hb)
theorem SLa.alloc(h:SLa S w A n xs)(o:Obj):SLa S (w.alloc o) A n xs:=h.frm ((Frm.refl S w).alloc o)
theorem SLa.more(h:SLa S w A n xs)(t:World):SLa S (more w t) A n xs:=h.below (aa w t)
theorem SLZ.frm(h:SLZ z S w A n cs)(hf:Frm S w w'):SLZ z S w' A n cs:=by
 refine⟨h.1,fun hn=>?_⟩
 obtain⟨b,off,hA,hlt,hs,hc⟩:=h.2 hn
 exact⟨b,off,hA,Nat.lt_of_lt_of_le hlt hf.size,hs,fun i hi=>hf.cell' (hc i hi) hs⟩
theorem SLZ.below(h:SLZ z S w A n cs)(hb:Below w.heap.size w w'):SLZ z S w' A n cs:=h.frm (Frm.of_below' S hb)
theorem SLZ.alloc(h:SLZ z S w A n cs)(o:Obj):SLZ z S (w.alloc o) A n cs:=h.frm ((Frm.refl S w).alloc o)
theorem SLZ.nil_(z:Nat)(S:Nat->Prop)(w:World):SLZ z S w none 0 []:=⟨by simp,fun h=>absurd h (by omega)⟩
end
def PosV(S:Nat->Prop)(w:World)(u:Value)(p:List Int):Prop:=∃A n c,u=J A n c/\SLa S w A n p/\n<=c
def AllP(S:Nat->Prop)(w:World)(cs:List Value)(ps:List (List Int)):Prop:=cs.length=ps.length/\∀i,i<cs.length->PosV S w (cs.getD i undef) (ps.getD i [])
def LL(S:Nat->Prop)(w:World)(A:Option Addr)(n:Nat)(ps:List (List Int)):Prop:=∃cs,SLZ 1 S w A n cs/\AllP S w cs ps
def OwnL(S:Nat->Prop)(w:World)(base:Nat)(e:TypeId)(v:Value)(ps:List (List Int)):Prop:=∃cs,w.ownsRow base e 1 v ps.length cs/\AllP S w cs ps/\∀k,v.ownBlock=some k->¬S k
section
variable {S:Nat->Prop}{w w':World}{A:Option Addr}{n:Nat}{cs:List Value}{u:Value}{p:List Int}{ps:List (List Int)}{base:Nat}{e:TypeId}{v:Value}
theorem PosV.frm(h:PosV S w u p)(hf:Frm S w w'):PosV S w' u p:=let ⟨A,n,c,hu,hs,hc⟩:=h;⟨A,n,c,hu,hs.frm hf,hc⟩
theorem PosV.below(h:PosV S w u p)(hb:Below w.heap.size w w'):PosV S w' u p:=h.frm (Frm.of_below' S hb)
theorem AllP.frm(h:AllP S w cs ps)(hf:Frm S w w'):AllP S w' cs ps:=⟨h.1,fun i hi=>(h.2 i hi).frm hf⟩
theorem AllP.below(h:AllP S w cs ps)(hb:Below w.heap.size w w'):AllP S w' cs ps:=h.frm (Frm.of_below' S hb)
theorem LL.frm(h:LL S w A n ps)(hf:Frm S w w'):LL S w' A n ps:=let ⟨cs,h1,h2⟩:=h;⟨cs,h1.frm hf,h2.frm hf⟩
theorem LL.below(h:LL S w A n ps)(hb:Below w.heap.size w w'):LL S w' A n ps:=h.frm (Frm.of_below' S hb)
theorem LL.alloc(h:LL S w A n ps)(o:Obj):LL S (w.alloc o) A n ps:=h.frm ((Frm.refl S w).alloc o)
theorem LL.more(h:LL S w A n ps)(t:World):LL S (more w t) A n ps:=h.below (aa w t)
theorem LL.at(h:LL S w A n ps){k:Nat}(hk:k<n):∃b off B m c,A=some ⟨b,off,none⟩/\b<w.heap.size/\¬S b/\w.cell? ⟨b,off+k,none⟩=some (J B m c)/\SLa S w B m (ps.getD k [])/\m<=c:=by
 obtain⟨cs,⟨hl,hc⟩,ha⟩:=h
 obtain⟨b,off,hA,hlt,hs,hcell⟩:=hc (by omega)
 obtain⟨B,m,c,hu,hp,hm⟩:=ha.2 k (by omega)
 exact⟨b,off,B,m,c,hA,hlt,hs,by rw[hcell k (by omega),hu],hp,hm⟩
theorem OwnL.frm(h:OwnL S w base e v ps)(hf:Frm S w w'):OwnL S w' base e v ps:=let ⟨cs,h1,h2,h3⟩:=h;⟨cs,hf.row h1 h3,h2.frm hf,h3⟩
theorem OwnL.below(h:OwnL S w base e v ps)(hb:Below w.heap.size w w'):OwnL S w' base e v ps:=h.frm (Frm.of_below' S hb)
theorem OwnL.alloc(h:OwnL S w base e v ps)(o:Obj):OwnL S (w.alloc o) base e v ps:=h.frm ((Frm.refl S w).alloc o)
theorem OwnL.mono(h:OwnL S w base e v ps){base':Nat}(hb:base'<=base):OwnL S w base' e v ps:=let ⟨cs,h1,h2,h3⟩:=h;⟨cs,aH h1 hb,h2,h3⟩
theorem bp{z:Nat}(h:w.ownsRow base e z v n cs)(hS:∀k,v.ownBlock=some k->¬S k)(hz:0<z):∃A c,v=J A n c/\SLZ z S w A n cs/\n<=c:=by
 obtain⟨h1,h2⟩:=h
 rcases h2 with⟨rfl,h0⟩|⟨g,cap,cur,rfl,hb,hh,hnc,hcm,hcs,ht⟩
 ·subst h0
  have:cs=[]:=List.eq_nil_of_length_eq_zero (by rw[h1];simp)
  subst this
  exact⟨none,0,rfl,SLZ.nil_ _ _ _,Nat.le_refl _⟩
 ·refine⟨_,_,rfl,⟨h1,fun hn=>⟨g,0,rfl,(Array.getElem?_eq_some_iff.1 hh).1,hS g rfl,fun i hi=>?_⟩⟩,hnc⟩
  have hown:w.ownsRow base e z (J (some ⟨g,0,none⟩) n cap) n cs:=⟨h1,.inr ⟨g,cap,cur,rfl,hb,hh,hnc,hcm,hcs,ht⟩⟩
  rw[Nat.zero_add,hown.cellAt i (by omega)]
  simp[List.getD,show i<cs.length by omega]
end
theorem OwnS.sla{S:Nat->Prop}{w:World}{base:Nat}{e:TypeId}{v:Value}{xs:List Int}(h:OwnS w base e v xs){A:Option Addr}{n c:Nat}(hv:v=J A n c)(hS:∀k,base<=k->¬S k):SLa S w A n xs/\n<=c:=by
 obtain⟨h1,h2⟩:=h.sl hv
 refine⟨⟨h1,fun b off s hA=>?_⟩,h2⟩
 refine hS b (h.lt b ?_).1
 subst hv hA
 rfl
end Go.Proofs.YtcmeoenkgmghkaaGreat
namespace Go.Proofs.YtcmeoenkgmghkaaGreat.Ps
def upTo(f:Nat->Nat):Nat->Nat
 | 0=>f 0
 |m+1=>f (m+1)+upTo f m
def wys:Nat->Nat->Nat
 | 0=>fun _=>1
 |e+1=>upTo (wys e)
theorem lw(m:Nat):wys 0 m=1:=rfl
theorem lA(e:Nat):wys (e+1) 0=wys e 0:=rfl
theorem wys_succ(e m:Nat):wys (e+1) (m+1)=wys e (m+1)+wys (e+1) m:=rfl
theorem jy(e:Nat):wys e 0=1:=by
 induction e with
 |zero=>rfl
 |succ e ih=>rw[lA,ih]
def fact:Nat->Nat
 | 0=>1
 |n+1=>(n+1)*fact n
theorem ed(n:Nat):fact (n+1)=(n+1)*fact n:=rfl
theorem fact_pos(n:Nat):0<fact n:=by
 induction n with
 |zero=>exact Nat.one_pos
 |succ n ih=>rw[ed];exact Nat.mul_pos (Nat.succ_pos n) ih
theorem lD(e:Nat):∀m,wys e m*(fact e*fact m)=fact (e+m):=by
 induction e with
 |zero=>intro m;simp[lw,fact]
 |succ e ih=>
  intro m
  induction m with
  |zero=>simp[jy,fact]
  |succ m ihm=>
   have h1:=ih (m+1)
   have e1:fact (e+1)*fact (m+1)=(e+1)*(fact e*fact (m+1)):=by rw[ed e,Nat.mul_assoc]
   have e2:fact (e+1)*fact (m+1)=(m+1)*(fact (e+1)*fact m):=by rw[ed m,Nat.mul_left_comm]
   rw[wys_succ,Nat.add_mul,e1]
   rw[show wys (e+1) m*((e+1)*(fact e*fact (m+1)))=wys (e+1) m*((m+1)*(fact (e+1)*fact m)) by rw[<-e1,e2]]
   rw[Nat.mul_left_comm,h1,Nat.mul_left_comm,ihm]
   have e3:e+1+(m+1)=(e+m+1)+1:=by omega
   have e4:e+(m+1)=e+m+1:=by omega
   have e5:e+1+m=e+m+1:=by omega
   rw[e3,ed (e+m+1),e4,e5,<-Nat.add_mul]
   congr 1
   try omega
theorem wys_step(i m:Nat):wys (i+1) m*(i+1)=wys i m*(m+i+1):=by
 have h1:=lD (i+1) m;have h2:=lD i m;have hp:0<fact i*fact m:=Nat.mul_pos (fact_pos i) (fact_pos m)
 refine Nat.eq_of_mul_eq_mul_right hp ?_
 rw[ed i,Nat.mul_assoc]at h1
 have e1:wys (i+1) m*(i+1)*(fact i*fact m)=fact (i+1+m):=by rw[Nat.mul_assoc];exact h1
 have e2:wys i m*(m+i+1)*(fact i*fact m)=(m+i+1)*fact (i+m):=by rw[<-h2,Nat.mul_right_comm,Nat.mul_comm]
 rw[e1,e2,show i+1+m=(i+m)+1 by omega,ed,show m+i+1=i+m+1 by omega]
theorem wys_div(i m:Nat):wys i m*(m+i+1)/(i+1)=wys (i+1) m:=by
 rw[<-wys_step];exact Nat.mul_div_cancel _ (Nat.succ_pos i)
theorem upTo_mono{f:Nat->Nat}{a b:Nat}(h:a<=b):upTo f a<=upTo f b:=by
 induction b with
 |zero=>rw[Nat.le_zero.1 h];exact Nat.le_refl _
 |succ b ih=>
  rcases Nat.lt_or_ge a (b+1)with hl|hl
  ·have:=ih (by omega);show _<=f (b+1)+upTo f b;omega
  ·rw[Nat.le_antisymm h hl];exact Nat.le_refl _
theorem le_upTo(f:Nat->Nat)(m:Nat):f m<=upTo f m:=by
 rcases m with _|m
 ·exact Nat.le_refl _
 ·show f (m+1)<=f (m+1)+upTo f m;omega
theorem kx{e a b:Nat}(h:a<=b):wys e a<=wys e b:=by
 rcases e with _|e
 ·exact Nat.le_refl _
 ·exact upTo_mono h
theorem lB(e m:Nat):wys e m<=wys (e+1) m:=le_upTo (wys e) m
theorem lC{d e:Nat}(h:d<=e)(m:Nat):wys d m<=wys e m:=by
 induction e with
 |zero=>rw[Nat.le_zero.1 h];exact Nat.le_refl _
 |succ e ih=>
  rcases Nat.lt_or_ge d (e+1)with hl|hl
  ·exact Nat.le_trans (ih (by omega)) (lB e m)
  ·rw[Nat.le_antisymm h hl];exact Nat.le_refl _
theorem jg{d e a b:Nat}(h:d<=e)(k:a<=b):wys d a<=wys e b:=Nat.le_trans (lC h a) (kx k)
theorem wys_pos(e m:Nat):1<=wys e m:=by
 have:=jg (Nat.zero_le e) (Nat.zero_le m);rwa [jy]at this
def sumW(i left:Nat):Nat->Nat
 | 0=>0
 |x+1=>sumW i left x+wys i (left-x)
theorem eT(i left x:Nat):sumW i left (x+1)=sumW i left x+wys i (left-x):=rfl
theorem jG{i left x y:Nat}(h:x<=y):sumW i left x<=sumW i left y:=by
 induction y with
 |zero=>rw[Nat.le_zero.1 h];exact Nat.le_refl _
 |succ y ih=>
  rcases Nat.lt_or_ge x (y+1)with hl|hl
  ·have:=ih (by omega);rw[eT];omega
  ·rw[Nat.le_antisymm h hl];exact Nat.le_refl _
theorem sumW_upTo(i left:Nat):∀x,x<=left->sumW i left x+upTo (wys i) (left-x)=upTo (wys i) left
 | 0,_=>by simp[sumW]
 |x+1,h=>by
   rw [eT, <-sumW_upTo i left x (by omega)]
   obtain⟨k,hk⟩:∃k,left-x=k+1:=⟨left-x-1,by omega⟩
   rw [hk,show left-(x+1)=k by omega]
   show _+wys i (k+1)+upTo (wys i) k=_+(wys i (k+1)+upTo (wys i) k)
   omega
def numT:List Int->Nat->Nat
 | [],_=>0
 |x::r,left=>sumW r.length left x.toNat+numT r (left-x.toNat)
theorem dX(x:Int)(r:List Int)(left:Nat):numT (x::r) left=sumW r.length left x.toNat+numT r (left-x.toNat):=rfl
theorem numT_lt:∀(l:List Int) (left:Nat),(∀x∈l,0<=x)->l.sum<=left->numT l left<wys l.length left
 | [],left,_,_=>by simp[numT,lw]
 |x::r,left,h0,hs=>by
   have hx:=h0 x (by simp)
   have hr:∀y∈r,0<=y:=fun y hy=>h0 y (by simp [hy])
   have hrs: 0<=r.sum:=by
     clear hs h0 hx
     induction r with
     |nil=>simp
     |cons y r ih=>have:=hr y (by simp);have:=ih fun z hz=>hr z (by simp [hz]);simp only [List.sum_cons];omega
   simp only [List.sum_cons]at hs
   have ih:=numT_lt r (left-x.toNat) hr (by omega)
   have h1:=sumW_upTo r.length left x.toNat (by omega)
   have h2:=le_upTo (wys r.length) (left-x.toNat);rw [dX]
   show _< upTo (wys r.length) left
   omega
theorem numT_inj:∀(l k:List Int) (left:Nat),l.length=k.length->(∀x∈l,0<=x)->(∀x∈k,0<=x)->l.sum<=left->k.sum<=left->numT l left=numT k left->l=k
 | [],[],_,_,_,_,_,_,_=>rfl
 | [],_::_,_,h,_,_,_,_,_=>by simp at h
 |_::_,[],_,h,_,_,_,_,_=>by simp at h
 |x::r,y::q,left,hl,h0,k0,hs,ks,he=>by
   have key:∀(x y:Int) (r q:List Int),r.length=q.length->(∀z∈x::r,0<=z)->(x::r).sum<=left-> 0<=y->x< y->numT (x::r) left< numT (y::q) left:=by
     intro x y r q hl h0 hs hy hxy
     have hx:=h0 x (by simp)
     have hr:∀y∈r,0<=y:=fun y hy=>h0 y (by simp [hy])
     simp only [List.sum_cons]at hs
     have h1:=numT_lt r (left-x.toNat) hr (by omega)
     have h2:sumW r.length left (x.toNat+1)<=sumW r.length left y.toNat:=jG (by omega)
     rw [eT]at h2;rw [dX,dX, <-hl]
     omega
   have hl':r.length=q.length:=by simpa using hl
   have hx:=h0 x (by simp)
   have hy:=k0 y (by simp)
   rcases Int.lt_trichotomy x y with h |h |h
   ·have:=key x y r q hl' h0 hs hy h;omega
   · subst h
     rw [dX,dX,hl']at he
     simp only [List.sum_cons]at hs ks
     have:=numT_inj r q (left-x.toNat) hl' (fun z hz=>h0 z (by simp [hz])) (fun z hz=>k0 z (by simp [hz])) (by omega) (by omega) (by omega)
     rw [this]
   ·have:=key y x q r hl'.symm k0 ks hx h;omega
def PosP(h c:Nat)(p:List Int):Prop:=p.length=h/\(∀x∈p,0<=x)/\p.sum<=c
instance (h c:Nat) (p:List Int):Decidable (PosP h c p):=by unfold PosP;infer_instance
def num(c:Nat)(p:List Int):Nat:=numT p.reverse c
theorem dD{h c:Nat}{p:List Int}(hp:PosP h c p):num c p<wys h c:=by
 have:=numT_lt p.reverse c (fun x hx=>hp.2.1 x (by simpa using hx)) (by rw[List.sum_reverse];exact hp.2.2)
 rwa [List.length_reverse,hp.1]at this
theorem jS{h c:Nat}{p q:List Int}(hp:PosP h c p)(hq:PosP h c q)(he:num c p=num c q):p=q:=by
 have:=numT_inj p.reverse q.reverse c (by rw[List.length_reverse,List.length_reverse,hp.1,hq.1]) (fun x hx=>hp.2.1 x (by simpa using hx)) (fun x hx=>hq.2.1 x (by simpa using hx))
  (by rw[List.sum_reverse];exact hp.2.2) (by rw[List.sum_reverse];exact hq.2.2) he
 simpa using congrArg List.reverse this
theorem pair_inj{n a b c d:Nat}(hb:b<n)(hd:d<n)(h:a*n+b=c*n+d):a=c/\b=d:=by
 have h1:(a*n+b)/n=a:=by rw[Nat.add_comm,Nat.add_mul_div_right _ _ (by omega),Nat.div_eq_of_lt hb,Nat.zero_add]
 have h2:(c*n+d)/n=c:=by rw[Nat.add_comm,Nat.add_mul_div_right _ _ (by omega),Nat.div_eq_of_lt hd,Nat.zero_add]
 have:a=c:=by rw[<-h1,<-h2,h]
 subst this
 exact⟨rfl,by omega⟩
theorem pair_lt{n a b:Nat}(ha:a<n)(hb:b<n):a*n+b<n*n:=by
 have:a*n+n<=n*n:=by
  have:=Nat.mul_le_mul_right n (show a+1<=n by omega)
  rw[Nat.add_mul]at this;omega
 omega
end Go.Proofs.YtcmeoenkgmghkaaGreat.Ps

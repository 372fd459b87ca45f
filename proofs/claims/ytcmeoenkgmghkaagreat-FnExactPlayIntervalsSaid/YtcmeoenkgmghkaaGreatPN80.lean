/- Part of one proof. There are no conditions. -/
import Derived.Test.YtcmeoenkgmghkaaGreatPY2
set_option linter.unusedVariables false
set_option linter.unusedSimpArgs false
open Go.Value renaming int->C,slice->J
open Go.IntKind renaming i64->F
open Go.Ending renaming returned->I
namespace Go.Proofs.YtcmeoenkgmghkaaGreat.Ex
def pw(B:Int):Nat->Int
 | 0=>1
 |k+1=>pw B k*B
theorem bM(B:Int):pw B 0=1:=rfl
theorem bJ(B:Int)(k:Nat):pw B (k+1)=pw B k*B:=rfl
theorem az{B:Int}(hB:1<=B)(k:Nat):1<=pw B k:=by
 induction k with
 |zero=>exact Int.le_refl _
 |succ k ih=>
  rw[bJ]
  have:=Int.mul_le_mul ih hB (by omega) (by omega)
  omega
theorem gR(B:Int)(a b:Nat):pw B (a+b)=pw B a*pw B b:=by
 induction b with
 |zero=>simp[bM]
 |succ b ih=>rw[<-Nat.add_assoc,bJ,ih,bJ,Int.mul_assoc]
theorem bU{B:Int}(hB:1<=B){a b:Nat}(h:a<=b):pw B a<=pw B b:=by
 obtain⟨k,rfl⟩:=Nat.exists_eq_add_of_le h;rw[gR];have h1:=az hB a;have h2:=az hB k
 have:=Int.mul_le_mul (Int.le_refl (pw B a)) h2 (by omega) (by omega)
 omega
theorem gQ(k:Nat):pw 1 k=1:=by
 induction k with
 |zero=>rfl
 |succ k ih=>rw[bJ,ih];rfl
structure E where
 num:Int
 depth:Nat
 deriving DecidableEq
def Low(B:Int)(x:E):Prop:=x.depth=0\/¬B∣x.num
def Same(B:Int)(x y:E):Prop:=x.num*pw B y.depth=y.num*pw B x.depth
theorem kX{B:Int}(hB:1<=B){x y:E}(hx:Low B x)(hy:Low B y)(h:Same B x y):x=y:=by
 have key:∀{x y:E},Low B y->Same B x y->x.depth<=y.depth->x=y:=by
  intro x y hy h hd
  obtain⟨n,d⟩:=x;obtain⟨m,e⟩:=y;obtain⟨k,rfl⟩:=Nat.exists_eq_add_of_le hd
  simp only[Same]at h
  rw[gR,<-Int.mul_assoc,Int.mul_right_comm]at h;have hp:=az hB d
  have h':n*pw B k=m:=Int.eq_of_mul_eq_mul_right (by omega) h
  rcases k with _|k
  ·simp[bM]at h';simp[h']
  ·exfalso
   rcases hy with hy|hy
   ·simp at hy
   ·apply hy
    refine⟨n*pw B k,?_⟩
    rw[<-h',bJ,<-Int.mul_assoc,Int.mul_comm]
 rcases Nat.le_total x.depth y.depth with hd|hd
 ·exact key hy h hd
 ·exact(key hx h.symm hd).symm
def strip(B:Int):Nat->Int->E
 | 0,n=>⟨n,0⟩
 |d+1,n=>if B∣n then strip B d (n/B)else⟨n,d+1⟩
theorem jH{B:Int}:∀(d:Nat) (n:Int),Low B (strip B d n)
 | 0,n=>.inl rfl
 |d+1,n=>by
   unfold strip
   split
   ·exact jH d _
   ·rename_i h;exact .inr h
theorem f7{B:Int}:∀(d:Nat) (n:Int),(strip B d n).depth<=d
 | 0,n=>Nat.le_refl _
 |d+1,n=>by
   unfold strip
   split
   ·exact Nat.le_succ_of_le (f7 d _)
   ·exact Nat.le_refl _
theorem fC{B:Int}(hB:1<=B):∀(d:Nat) (n:Int),Same B (strip B d n) ⟨n,d⟩
 | 0,n=>rfl
 |d+1,n=>by
   unfold strip
   split
   · rename_i h
     have ih:=fC hB d (n/B)
     simp only [Same]at ih ⊢
     rw [bJ, <-Int.mul_assoc,ih,Int.mul_right_comm,Int.ediv_mul_cancel h]
   ·rfl
theorem kQ{B:Int}(hB:1<=B){x y z:E}(h:Same B x y)(k:Same B y z):Same B x z:=by
 simp only[Same]at h k ⊢
 have hp:=az hB y.depth
 refine Int.eq_of_mul_eq_mul_right (a:=pw B y.depth) (by omega) ?_
 calc x.num*pw B z.depth*pw B y.depth=x.num*pw B y.depth*pw B z.depth:=Int.mul_right_comm _ _ _
  _=y.num*pw B x.depth*pw B z.depth:=by rw[h]
  _=y.num*pw B z.depth*pw B x.depth:=Int.mul_right_comm _ _ _
  _=z.num*pw B y.depth*pw B x.depth:=by rw[k]
  _=z.num*pw B x.depth*pw B y.depth:=Int.mul_right_comm _ _ _
def ax:Int:=1000000000000000000
def aw:Int:=1000000000000000
def Val(B:Int)(x:E):Prop:=-ax<=x.num/\x.num<=ax/\pw B x.depth<=aw/\Low B x/\(B=1->x.depth=0)
instance (B:Int) (x:E):Decidable (Val B x):=by unfold Val Low;infer_instance
def mk(B:Int)(n:Int)(d:Nat):Option E:=if Val B (strip B d n)then some (strip B d n)else none
theorem gH:∀(d:Nat) (n:Int),strip 1 d n=⟨n,0⟩
 | 0,n=>rfl
 |d+1,n=>by
   unfold strip;rw [if_pos (Int.one_dvd n),Int.ediv_one]
   exact gH d n
theorem mk_some{B:Int}(hB:1<=B){n:Int}{d:Nat}{x:E}(hv:Val B x)(h:Same B x ⟨n,d⟩):mk B n d=some x:=by
 have e:strip B d n=x:=kX hB (jH d n) hv.2.2.2.1 (kQ hB (fC hB d n) h.symm);unfold mk;rw[e,if_pos hv]
theorem mk_none{B:Int}(hB:1<=B){n:Int}{d:Nat}(h:∀x,Val B x->Same B x ⟨n,d⟩->False):mk B n d=none:=by
 unfold mk
 rw[if_neg fun hv=>h _ hv (fC hB d n)]
theorem mk_val{B:Int}(hB:1<=B){n:Int}{d:Nat}{x:E}(h:mk B n d=some x):Val B x/\Same B x ⟨n,d⟩:=by
 unfold mk at h
 split at h
 ·rename_i hv
  injection h with h;subst h
  exact⟨hv,fC hB d n⟩
 ·cases h
end Go.Proofs.YtcmeoenkgmghkaaGreat.Ex
namespace Go.Proofs.YtcmeoenkgmghkaaGreat.Ra
open Go.Proofs.YtcmeoenkgmghkaaGreat.Ex Go.Proofs.YtcmeoenkgmghkaaGreat.Ps
def addE(B:Int)(x y:E):Option E:=mk B (x.num*pw B (max x.depth y.depth-x.depth)+y.num*pw B (max x.depth y.depth-y.depth)) (max x.depth y.depth)
def sclE(B:Int)(x:E)(k:Int):Option E:=mk B (x.num*k) x.depth
def negE(x:E):E:=⟨-x.num,x.depth⟩
def oneE:E:=⟨1,0⟩
def aj:E:=⟨0,0⟩
def oneM(B:Int)(x:E):Option E:=addE B oneE (negE x)
def ltE(B:Int)(x y:E):Bool:=decide (x.num*pw B y.depth<y.num*pw B x.depth)
theorem ma{B:Int}(hB:1<=B){n:Int}{d:Nat}{x:E}(h:mk B n d=some x):Val B x:=(mk_val hB h).1
theorem jx{B:Int}(hB:1<=B){x y z:E}(h:addE B x y=some z):Val B z:=ma hB h
theorem jm{B:Int}(hB:1<=B){x z:E}{k:Int}(h:sclE B x k=some z):Val B z:=ma hB h
theorem eA{B:Int}:Val B oneE:=⟨by decide,by decide,by show(1:Int)<=_;decide,.inl rfl,fun _=>rfl⟩
theorem gv{B:Int}:Val B aj:=⟨by decide,by decide,by show(1:Int)<=_;decide,.inl rfl,fun _=>rfl⟩
theorem jT{B:Int}{x:E}(h:Val B x):Val B (negE x):=by
 obtain⟨h1,h2,h3,h4,h5⟩:=h
 refine⟨?_,?_,h3,?_,h5⟩
 ·show -ax<=-x.num;omega
 ·show -x.num<=ax;omega
 ·rcases h4 with h4|h4
  ·exact .inl h4
  ·exact .inr fun hd=>h4 ((Int.dvd_neg).1 hd)
def rowN(a:Nat):Nat->List (Nat×Nat)
 | 0=>[]
 |k+1=>rowN a k++[(a,k+1)]
def ah:Nat->List (Nat×Nat)
 | 0=>[]
 |a+1=>ah a++rowN (a+1) (a+1)
theorem ez(a:Nat):∀k,(rowN a k).length=k
 | 0=>rfl
 |k+1=>by simp[rowN,ez a k]
theorem bX:∀a,(ah a).length*2=a*(a+1)
 | 0=>rfl
 |a+1=>by
   have:=bX a
   simp only [ah,List.length_append,ez]
   rw [Nat.add_mul,this]
   simp only [Nat.mul_add,Nat.add_mul];omega
theorem mem_rowN{a k:Nat}{r:Nat×Nat}:r∈rowN a k↔r.1=a/\1<=r.2/\r.2<=k:=by
 induction k with
 |zero=>simp[rowN];omega
 |succ k ih=>
  rw[rowN,List.mem_append,ih];obtain⟨x,y⟩:=r
  simp only[List.mem_singleton,Prod.mk.injEq]
  omega
theorem bB{s:Nat}{r:Nat×Nat}:r∈ah s↔1<=r.2/\r.2<=r.1/\r.1<=s:=by
 induction s with
 |zero=>simp[ah];omega
 |succ s ih=>rw[ah,List.mem_append,ih,mem_rowN];omega
def aL(r:Nat×Nat):Int:=if r.1=r.2 then 1 else 2
def sumE(B:Int)(l:List ((Nat×Nat)×E)):Option E:=l.foldl (fun s rx=>s.bind fun t=>(sclE B rx.2 (aL rx.1)).bind fun x=>addE B t x) (some aj)
def meanE(B:Int)(rs:List (Nat×Nat))(xs:List E):Option E:=(sumE B (rs.zip xs)).bind fun t=>mk B t.num (t.depth+1)
theorem gG(B:Int)(l:List ((Nat×Nat)×E))(r:Nat×Nat)(x:E):sumE B (l++[(r,x)])=(sumE B l).bind fun t=>(sclE B x (aL r)).bind fun y=>addE B t y:=by
 unfold sumE;rw[List.foldl_append];rfl
theorem lg{α β:Type}(f:α->β->Option α):∀(l:List β),l.foldl (fun s b=>s.bind fun t=>f t b) none=none
 | []=>rfl
 |_::r=>lg f r
theorem sumE_none{B:Int}{l k:List ((Nat×Nat)×E)}(h:sumE B l=none):sumE B (l++k)=none:=by
 unfold sumE at h ⊢;rw[List.foldl_append,h]
 exact lg (fun t (rx:(Nat×Nat)×E)=>(sclE B rx.2 (aL rx.1)).bind fun x=>addE B t x) k
theorem lH{B:Int}(hB:1<=B){l:List ((Nat×Nat)×E)}{t:E}(h:sumE B l=some t):Val B t:=by
 rcases List.eq_nil_or_concat l with rfl|⟨k,rx,rfl⟩
 ·have:t=aj:=by unfold sumE at h;simpa using h.symm
  rw[this];exact gv
 ·obtain⟨r,x⟩:=rx
  rw[List.concat_eq_append,gG]at h
  rcases hs:sumE B k with _|u
  ·rw[hs]at h;cases h
  ·rw[hs]at h
   simp only[Option.bind_some]at h
   rcases hm:sclE B x (aL r)with _|y
   ·rw[hm]at h;cases h
   ·rw[hm]at h;exact jx hB h
def bestS(B:Int)(f:List Int->Option E)(l:List (List Int)):Option (Nat×Nat×E):=
 l.foldl (fun s q=>s.bind fun t=>(f q).map fun x=>if t.1=0\/ltE B t.2.2 x then(t.1+1,t.1,x)else(t.1+1,t.2.1,t.2.2)) (some (0,0,aj))
theorem fm(B:Int)(f:List Int->Option E):bestS B f []=some (0,0,aj):=rfl
theorem bY(B:Int)(f:List Int->Option E)(l:List (List Int))(q:List Int):
  bestS B f (l++[q])=(bestS B f l).bind fun t=>(f q).map fun x=>if t.1=0\/ltE B t.2.2 x then(t.1+1,t.1,x)else(t.1+1,t.2.1,t.2.2):=by
 unfold bestS;rw[List.foldl_append];rfl
theorem bestS_none{B:Int}{f:List Int->Option E}{l k:List (List Int)}(h:bestS B f l=none):bestS B f (l++k)=none:=by
 unfold bestS at h ⊢;rw[List.foldl_append,h];clear h
 induction k with
 |nil=>rfl
 |cons q r ih=>exact ih
theorem bestS_count{B:Int}{f:List Int->Option E}{l:List (List Int)}{t:Nat×Nat×E}(h:bestS B f l=some t):t.1=l.length/\(t.2.1<l.length\/l=[]):=by
 induction l using bj generalizing t with
 |nil=>rw[fm]at h;injection h with h;subst h;exact⟨rfl,.inr rfl⟩
 |snoc l q ih=>
  rw[bY]at h
  rcases hs:bestS B f l with _|u
  ·rw[hs]at h;cases h
  ·rw[hs]at h;obtain⟨i1,i2⟩:=ih hs
   rcases hf:f q with _|x
   ·rw[hf]at h;cases h
   ·rw[hf]at h
    simp only[Option.bind_some,Option.map_some,Option.some.injEq]at h
    subst h
    split
    ·simp[i1]
    ·simp only[List.length_append,List.length_singleton]
     refine⟨by omega,.inl ?_⟩
     rcases i2 with i2|i2
     ·omega
     ·rename_i hc;subst i2;simp at i1;exact absurd (.inl i1) hc
theorem kp{B:Int}{f g:List Int->Option E}:∀{l:List (List Int)},(∀q∈l,f q=g q)->bestS B f l=bestS B g l:=by
 intro l
 induction l using bj with
 |nil=>intro _;rfl
 |snoc l q ih=>
  intro h
  rw[bY,bY,ih fun p hp=>h p (by simp[hp]),h q (by simp)]
def allS(g:Nat×Nat->Option E)(l:List (Nat×Nat)):Option (List E):=l.foldl (fun s r=>s.bind fun t=>(g r).map fun x=>t++[x]) (some [])
theorem cQ(g:Nat×Nat->Option E)(l:List (Nat×Nat))(r:Nat×Nat):allS g (l++[r])=(allS g l).bind fun t=>(g r).map fun x=>t++[x]:=by
 unfold allS;rw[List.foldl_append];rfl
theorem allS_none{g:Nat×Nat->Option E}{l k:List (Nat×Nat)}(h:allS g l=none):allS g (l++k)=none:=by
 unfold allS at h ⊢;rw[List.foldl_append,h];clear h
 induction k with
 |nil=>rfl
 |cons q r ih=>exact ih
theorem lq{f g:Nat×Nat->Option E}:∀{l:List (Nat×Nat)},(∀q∈l,f q=g q)->allS f l=allS g l:=by
 intro l
 induction l using bj with
 |nil=>intro _;rfl
 |snoc l q ih=>
  intro h
  rw[cQ,cQ,ih fun p hp=>h p (by simp[hp]),h q (by simp)]
theorem ku{g:Nat×Nat->Option E}{l:List (Nat×Nat)}{t:List E}(h:allS g l=some t):t.length=l.length:=by
 induction l using bj generalizing t with
 |nil=>unfold allS at h;simp at h;subst h;rfl
 |snoc l q ih=>
  rw[cQ]at h
  rcases hs:allS g l with _|u
  ·rw[hs]at h;cases h
  ·rw[hs]at h
   rcases hf:g q with _|x
   ·rw[hf]at h;cases h
   ·rw[hf]at h
    simp only[Option.bind_some,Option.map_some,Option.some.injEq]at h
    subst h
    simp[ih hs]
noncomputable def val(s:Nat):Nat->List Int->List Int->Option E
 | 0,_,_=>none
 |f+1,own,other=>
  if own.sum=0 then some oneE else if other.sum=0 then some aj else
   (allS (fun r=>(bestS (s*s) (fun q=>(val s f other q).bind (oneM (s*s))) (resultsL own r.1 r.2)).map fun t=>t.2.2) (ah s)).bind (meanE (s*s) (ah s))
noncomputable def fuel(own other:List Int):Nat:=(pips own+pips other).toNat+1
noncomputable def win(s:Nat)(own other:List Int):Option E:=val s (fuel own other) own other
noncomputable def sec(s:Nat)(other q:List Int):Option E:=(win s other q).bind (oneM (s*s))
noncomputable def best(s:Nat)(own other:List Int)(r:Nat×Nat):Option (Nat×Nat×E):=bestS (s*s) (sec s other) (resultsL own r.1 r.2)
theorem val_fuel{h c s:Nat}:∀(f g:Nat) {own other:List Int},PosP h c own->PosP h c other->pips own+pips other<f->pips own+pips other<g->val s f own other=val s g own other
 | 0,_,own,other,ho,ht,h1,_=>by have:=aN ho.2.1;have:=aN ht.2.1;omega
 |_+1,0,own,other,ho,ht,_,h2=>by have:=aN ho.2.1;have:=aN ht.2.1;omega
 |f+1,g+1,own,other,ho,ht,h1,h2=>by
   unfold val
   by_cases h0:own.sum=0
   ·rw [if_pos h0,if_pos h0]
   · rw [if_neg h0, if_neg h0]
     split
     ·rfl
     · congr 1
       refine lq fun r hr=>?_
       obtain⟨r1,r2, -⟩:=bB.1 hr
       congr 1
       refine kp fun q hq=>?_
       obtain⟨q1, -,q3⟩:=bf (by omega) r1 ho q hq
       have:=q3 h0
       rw [val_fuel f g ht q1 (by omega) (by omega)]
theorem win_eq{h c s:Nat}{own other:List Int}(ho:PosP h c own)(ht:PosP h c other)(h0:own.sum≠0)(h1:other.sum≠0):
  win s own other=(allS (fun r=>(best s own other r).map fun t=>t.2.2) (ah s)).bind (meanE (s*s) (ah s)):=by
 have hp:=aN ho.2.1;have hq:=aN ht.2.1;unfold win fuel val;rw[if_neg h0,if_neg h1]
 congr 1
 refine lq fun r hr=>?_
 obtain⟨r1,r2,-⟩:=bB.1 hr;unfold best
 congr 1
 refine kp fun q hq=>?_
 obtain⟨q1,-,q3⟩:=bf (by omega) r1 ho q hq
 have:=q3 h0;have:=aN q1.2.1;unfold sec win
 rw[val_fuel _ (fuel other q) ht q1 (by omega) (by unfold fuel;omega)]
theorem win_own{s:Nat}{own other:List Int}(h0:own.sum=0):win s own other=some oneE:=by unfold win fuel val;rw[if_pos h0]
theorem jC{s:Nat}{own other:List Int}(h0:own.sum≠0)(h1:other.sum=0):win s own other=some aj:=by unfold win fuel val;rw[if_neg h0,if_pos h1]
theorem pw_base_mono{A B:Int}(hA:1<=A)(h:A<=B)(k:Nat):pw A k<=pw B k:=by
 induction k with
 |zero=>exact Int.le_refl _
 |succ k ih=>
  rw[bJ,bJ];have h1:=az hA k
  exact Int.mul_le_mul ih h (by omega) (by omega)
theorem pw_big{B:Int}(hB:2<=B){d:Nat}(h:50<=d):aw<pw B d:=by
 have h1:=pw_base_mono (by omega) hB d
 have h2:=bU (B:=2) (by omega) h
 have h3:aw<pw 2 50:=by decide
 omega
theorem bO{B:Int}{x:E}(hB:1<=B)(h:Val B x):x.depth<50:=by
 rcases Int.lt_or_le 1 B with h1|h1
 ·apply Nat.lt_of_not_le
  intro hd
  have:=pw_big (B:=B) (by omega) hd
  have:=h.2.2.1
  omega
 ·have:B=1:=by omega
  have:=h.2.2.2.2 this
  omega
def sq(s:Nat):Int:=(s:Int)*s
theorem sq_bd{s:Nat}(h1:1<=s)(h6:s<=6):1<=sq s/\sq s<=36/\(sq s=1\/4<=sq s):=by
 obtain rfl|rfl|rfl|rfl|rfl|rfl:s=1\/s=2\/s=3\/s=4\/s=5\/s=6:=by omega
 all_goals decide
def valB(B n:Int)(d:Nat):Bool:=decide (Val B ⟨n,d⟩)
theorem lF{B n:Int}{d:Nat}:valB B n d=true↔Val B ⟨n,d⟩:=by unfold valB;exact decide_eq_true_iff
theorem gE{B n:Int}{d:Nat}(h:n< -ax\/ax<n):valB B n d=false:=decide_eq_false fun⟨h1,h2,_⟩=>by simp at h1 h2;omega
theorem jE{B n:Int}(h1: -ax<=n)(h2:n<=ax):valB B n 0=true:=decide_eq_true ⟨h1,h2,by show(1:Int)<=aw;decide,.inl rfl,fun _=>rfl⟩
theorem valB_one{n:Int}{d:Nat}(h:d≠0):valB 1 n d=false:=decide_eq_false fun⟨_,_,_,_,h5⟩=>h (h5 rfl)
theorem valB_deep{B n:Int}{d:Nat}(h:aw<pw B d):valB B n d=false:=decide_eq_false fun⟨_,_,h3,_⟩=>by simp at h3;omega
theorem valB_dvd{B n:Int}{d:Nat}(hd:d≠0)(h:B∣n):valB B n d=false:=decide_eq_false fun⟨_,_,_,h4,_⟩=>h4.elim (fun h0=>hd h0) fun h0=>h0 h
theorem valB_mk{B n:Int}{d:Nat}(h1: -ax<=n)(h2:n<=ax)(h3:pw B d<=aw)(h4:¬B∣n)(h5:B≠1):valB B n d=true:=decide_eq_true ⟨h1,h2,h3,.inr h4,fun h=>absurd h h5⟩
theorem cd{n B:Int}:n.tmod B=0↔B∣n:=(Int.dvd_iff_tmod_eq_zero).symm
theorem eu{n B:Int}(h:B∣n):n.tdiv B=n/B:=Int.tdiv_eq_ediv_of_dvd h
theorem jk{B n:Int}{d:Nat}(h:B∣n):strip B (d+1) n=strip B d (n/B):=by show(if B∣n then _ else _)=_;rw[if_pos h]
theorem fB{B n:Int}{d:Nat}(h:¬B∣n):strip B (d+1) n=⟨n,d+1⟩:=by show(if B∣n then _ else _)=_;rw[if_neg h]
theorem cM{B n:Int}{d:Nat}{m:Int}{e:Nat}(h:strip B d n=⟨m,e⟩):mk B n d=if valB B m e then some ⟨m,e⟩else none:=by
 unfold mk;rw[h]
 by_cases hv:Val B ⟨m,e⟩
 ·rw[if_pos hv,if_pos (lF.2 hv)]
 ·rw[if_neg hv,if_neg fun h=>hv (lF.1 h)]
theorem mk_one(n:Int)(d:Nat):mk 1 n d=mk 1 n 0:=by unfold mk;rw[gH,gH]
theorem dz{B n:Int}{d:Nat}(h:Low B ⟨n,d⟩):strip B d n=⟨n,d⟩:=by
 rcases d with _|d
 ·rfl
 ·rcases h with h|h
  ·exact absurd h (by simp)
  ·exact fB h
theorem mk_self{B:Int}{x:E}(h:Val B x):mk B x.num x.depth=some x:=by
 rw[cM (dz h.2.2.2.1),if_pos (lF.2 h)]
theorem iS{B:Int}{x y:E}(h:x.depth<=y.depth):addE B x y=mk B (x.num*pw B (y.depth-x.depth)+y.num) y.depth:=by
 unfold addE;rw[Nat.max_eq_right h,Nat.sub_self,bM,Int.mul_one]
theorem iy(B:Int)(x y:E):addE B x y=addE B y x:=by
 unfold addE;rw[Nat.max_comm y.depth x.depth,Int.add_comm]
theorem addE_far{B:Int}(hB:1<=B){x y:E}(hy:Val B y){j:Nat}(hj:j<y.depth-x.depth)(hf:4*ax<x.num*pw B j*B\/x.num*pw B j*B< -(4*ax)):addE B x y=none:=by
 rw[iS (by omega)]
 obtain⟨h1,h2,_,h4,_⟩:=hy
 have hd:B∣x.num*pw B (y.depth-x.depth):=by
  obtain⟨k,hk⟩:∃k,y.depth-x.depth=k+1:=⟨y.depth-x.depth-1,by omega⟩
  rw[hk,bJ,<-Int.mul_assoc];exact Int.dvd_mul_left _ _
 have hn:¬B∣x.num*pw B (y.depth-x.depth)+y.num:=by
  intro h
  have:B∣y.num:=(Int.dvd_add_right hd).1 h
  rcases h4 with h4|h4
  ·omega
  ·exact h4 this
 have hs:strip B y.depth (x.num*pw B (y.depth-x.depth)+y.num)=⟨_,y.depth⟩:=dz (.inr hn);rw[cM hs,if_neg];rw[Bool.not_eq_true]
 apply gE
 have e:x.num*pw B (y.depth-x.depth)=x.num*pw B j*B*pw B (y.depth-x.depth-(j+1)):=by
  rw[Int.mul_assoc,Int.mul_assoc,<-Int.mul_assoc (pw B j),<-bJ,<-gR]
  congr 2;omega
 have hp:=az hB (y.depth-x.depth-(j+1));generalize x.num*pw B j*B=u at *;generalize pw B (y.depth-x.depth-(j+1))=q at *;have hm:ax=1000000000000000000:=rfl;rw[e]
 rcases hf with hf|hf
 ·have:u*1<=u*q:=Int.mul_le_mul_of_nonneg_left hp (by omega)
  omega
 ·have:(-u)*1<=(-u)*q:=Int.mul_le_mul_of_nonneg_left hp (by omega)
  rw[Int.neg_mul,Int.neg_mul]at this
  omega
theorem fit_low{B p q:Int}{d:Nat}(hB:1<=B)(hq:1<=q)(hc:Int.gcd p q=1)(h1:q∣pw B d)(h2:∀k,k<d->¬q∣pw B k):Low B ⟨p*(pw B d/q),d⟩:=by
 rcases d with _|d
 ·exact .inl rfl
 ·refine .inr fun hd=>?_
  obtain⟨m,hm⟩:=h1
  have e:pw B (d+1)/q=m:=by rw[hm];exact Int.mul_ediv_cancel_left _ (by omega)
  rw[e]at hd;obtain⟨t,ht⟩:=hd
  simp only at ht
  have h3:p*pw B d=q*t:=by
   apply Int.eq_of_mul_eq_mul_right (a:=B) (by omega)
   rw[Int.mul_assoc,<-bJ,hm,Int.mul_left_comm,ht,Int.mul_comm B t,Int.mul_assoc]
  have h4:q.natAbs∣p.natAbs*(pw B d).natAbs:=by rw[<-Int.natAbs_mul,h3,Int.natAbs_mul];exact Nat.dvd_mul_right _ _
  have h5:q.natAbs∣(pw B d).natAbs:=Nat.Coprime.dvd_of_dvd_mul_left (by rw[Nat.coprime_iff_gcd_eq_one,Nat.gcd_comm];exact hc) h4
  exact h2 d (by omega) (Int.natAbs_dvd_natAbs.1 h5)
theorem fit_mk{B a b p q g:Int}{d D:Nat}(hB:1<=B)(hb:1<=b)(hg:1<=g)(ha:a=p*g)(hbq:b=q*g)(hq:1<=q)(hc:Int.gcd p q=1)(h1:q∣pw B d)(h2:∀k,k<d->¬q∣pw B k)(hdiv:b∣pw B D):
  Same B ⟨p*(pw B d/q),d⟩ ⟨a*(pw B D/b),D⟩:=by
 obtain⟨m,hm⟩:=h1;obtain⟨n,hn⟩:=hdiv
 have e1:pw B d/q=m:=by rw[hm];exact Int.mul_ediv_cancel_left _ (by omega)
 have e2:pw B D/b=n:=by rw[hn];exact Int.mul_ediv_cancel_left _ (by omega)
 simp only[Same]
 rw[e1,e2,hm,hn,ha,hbq]
 ac_rfl
theorem cH:ax=1000000000000000000:=rfl
theorem gcd_step(x y:Nat):Nat.gcd y (x%y)=Nat.gcd x y:=by rw[Nat.gcd_comm y,<-Nat.gcd_rec,Nat.gcd_comm]
theorem dt{a b:Int}(hb:1<=b):1<=(Int.gcd a b:Int)/\a=a/(Int.gcd a b:Int)*(Int.gcd a b:Int)/\b=b/(Int.gcd a b:Int)*(Int.gcd a b:Int)/\1<=b/(Int.gcd a b:Int)/\Int.gcd (a/(Int.gcd a b:Int)) (b/(Int.gcd a b:Int))=1:=by
 have hp:0<Int.gcd a b:=Int.gcd_pos_of_ne_zero_right a (by omega)
 have h1:a=a/(Int.gcd a b:Int)*(Int.gcd a b:Int):=(Int.ediv_mul_cancel (Int.gcd_dvd_left a b)).symm;have h2:b=b/(Int.gcd a b:Int)*(Int.gcd a b:Int):=(Int.ediv_mul_cancel (Int.gcd_dvd_right a b)).symm
 refine⟨by omega,h1,h2,?_,?_⟩
 ·apply Int.le_ediv_of_mul_le (by omega)
  have:=Int.le_of_dvd (by omega) (Int.gcd_dvd_right a b)
  omega
 ·have h3:Int.gcd (a / (Int.gcd a b:Int)*(Int.gcd a b:Int)) (b / (Int.gcd a b:Int)*(Int.gcd a b:Int))=Int.gcd a b:=by rw[<- h1,<- h2]
  rw[Int.gcd_mul_right]at h3
  have h4:Int.gcd (a/(Int.gcd a b:Int)) (b/(Int.gcd a b:Int))*Int.gcd a b=1*Int.gcd a b:=by
   rw[Nat.one_mul];simpa using h3
  exact Nat.eq_of_mul_eq_mul_right hp h4
theorem kh{p q r:Int}(hc:Int.gcd p q=1)(h:q∣p*r):q∣r:=by
 have h4:q.natAbs∣p.natAbs*r.natAbs:=by rw[<-Int.natAbs_mul];exact Int.natAbs_dvd_natAbs.2 h
 have h5:q.natAbs∣r.natAbs:=Nat.Coprime.dvd_of_dvd_mul_left (by rw[Nat.coprime_iff_gcd_eq_one,Nat.gcd_comm];exact hc) h4
 exact Int.natAbs_dvd_natAbs.1 h5
def fitE(B p q:Int)(D:Nat):Option E:=mk B (p*(pw B D/q)) D
theorem fit_same{B p q:Int}{D:Nat}(hB:1<=B)(hq:1<=q)(hd:q∣pw B D){x:E}(h:Same B x ⟨p*(pw B D/q),D⟩):x.num*q=p*pw B x.depth:=by
 obtain⟨m,hm⟩:=hd
 have e:pw B D/q=m:=by rw[hm];exact Int.mul_ediv_cancel_left _ (by omega)
 have hp:=az hB D
 simp only[Same]at h
 rw[e,hm]at h
 have hm0:m≠0:=by intro h0;rw[h0]at hm;simp at hm;omega
 apply Int.eq_of_mul_eq_mul_right hm0
 rw[Int.mul_assoc,h,Int.mul_right_comm]
theorem fit_hit{B p q:Int}{d D:Nat}(hB:1<=B)(hq:1<=q)(hc:Int.gcd p q=1)(hD:q∣pw B D)(h1:q∣pw B d)(h2:∀k,k<d->¬q∣pw B k)(h3:pw B d<=aw):
  fitE B p q D=if -ax<=p*(pw B d/q)/\p*(pw B d/q)<=ax then some ⟨p*(pw B d/q),d⟩else none:=by
 have hlow:=fit_low hB hq hc h1 h2
 have hsame:Same B ⟨p*(pw B d/q),d⟩ ⟨p*(pw B D/q),D⟩:=by
  have:=fit_mk (B:=B) (a:=p) (b:=q) (p:=p) (q:=q) (g:=1) (d:=d) (D:=D) hB hq (Int.le_refl _) (by omega) (by omega) hq hc h1 h2 hD
  exact this
 have hone:B=1->d=0:=by
  intro e
  rcases d with _|d
  ·rfl
  ·exfalso
   apply h2 0 (by omega)
   rw[e,gQ]at h1;rw[e,gQ];exact h1
 split
 ·rename_i h
  exact mk_some hB ⟨h.1,h.2,h3,hlow,hone⟩ hsame
 ·rename_i h
  refine mk_none hB fun x hv hs=>h ?_
  have e:x=⟨p*(pw B d/q),d⟩:=kX hB hv.2.2.2.1 hlow (kQ hB hs hsame.symm);rw[e]at hv
  exact⟨hv.1,hv.2.1⟩
theorem fit_miss{B p q:Int}{d D:Nat}(hB:1<=B)(hq:1<=q)(hc:Int.gcd p q=1)(hD:q∣pw B D)(h2:∀k,k<d->¬q∣pw B k)(h3:aw<pw B d):fitE B p q D=none:=by
 refine mk_none hB fun x hv hs=>?_
 have e:=fit_same hB hq hD hs
 have hx:x.depth<d:=by
  apply Nat.lt_of_not_le
  intro h
  have:=bU hB h;have:=hv.2.2.1
  omega
 exact h2 _ hx (kh hc ⟨x.num,by rw[<-e,Int.mul_comm]⟩)
theorem fit_far{B p q:Int}{D:Nat}(hB:1<=B)(hq:1<=q)(hc:Int.gcd p q=1)(hD:q∣pw B D)(h:p< -ax\/ax<p):fitE B p q D=none:=by
 refine mk_none hB fun x hv hs=>?_
 have e:=fit_same hB hq hD hs
 have h1:p∣x.num:=by
  refine kh (p:=q) (q:=p) (by rw[Int.gcd_comm];exact hc) ⟨pw B x.depth,?_⟩
  rw[Int.mul_comm,e]
 have hm:=cH
 have hx:x.num≠0:=by
  intro h0
  rw[h0,Int.zero_mul]at e;have hp:=az hB x.depth
  rcases Int.mul_eq_zero.1 e.symm with h'|h'<;>omega
 have h2:p.natAbs<=x.num.natAbs:=Nat.le_of_dvd (by omega) (Int.natAbs_dvd_natAbs.2 h1)
 have:=hv.1;have:=hv.2.1
 omega
theorem fit_reduce{B a b:Int}{D:Nat}(hB:1<=B)(hb:1<=b)(hdiv:b∣pw B D):b/(Int.gcd a b:Int)∣pw B D/\a*(pw B D/b)=a/(Int.gcd a b:Int)*(pw B D/(b/(Int.gcd a b:Int))):=by
 obtain⟨h1,h2,h3,h4,_⟩:=dt (a:=a) hb;generalize (Int.gcd a b:Int)=g at *;generalize hp:a/g=p at *;generalize hq:b/g=q at *;obtain⟨n,hn⟩:=hdiv
 have e2:pw B D/b=n:=by rw[hn];exact Int.mul_ediv_cancel_left _ (by omega)
 have e1:pw B D/q=g*n:=by rw[hn,h3,Int.mul_assoc];exact Int.mul_ediv_cancel_left _ (by omega)
 refine⟨⟨g*n,by rw[hn,h3,Int.mul_assoc]⟩,?_⟩
 rw[e1,e2,h2,Int.mul_assoc]
def eW(a b:Int):Bool:=decide (-ax<=a*b/\a*b<=ax)
theorem lr{a b:Int}{m:Int}:(-m<=a*b/\a*b<=m)↔(a.natAbs:Int)*b.natAbs<=m:=by
 rw[<-Int.natCast_mul,<-Int.natAbs_mul];omega
theorem prodOk_yes{a b:Int}(hb:b≠0)(h:(a.natAbs:Int)<=ax/(b.natAbs:Int)):eW a b=true:=by
 refine decide_eq_true (lr.2 ?_)
 exact Int.mul_le_of_le_ediv (by omega) h
theorem prodOk_no{a b:Int}(hb:b≠0)(h:ax/(b.natAbs:Int)<(a.natAbs:Int)):eW a b=false:=by
 refine decide_eq_false fun hh=>?_
 have h1:=lr.1 hh
 have h2:(a.natAbs:Int)<=ax/(b.natAbs:Int):=Int.le_ediv_of_mul_le (by omega) h1
 omega
theorem prodOk_zero{a b:Int}(h:a=0\/b=0):eW a b=true:=by
 refine decide_eq_true ?_
 have hm:=cH
 rcases h with h|h<;>subst h<;>simp<;>omega
theorem mul_reduce{B n k:Int}{d:Nat}(hB:1<=B):
  let D:=(Int.gcd k (pw B d):Int)
  let g:=(Int.gcd n (pw B d/D):Int)
  1<=D/\1<=pw B d/D/\1<=g/\1<=pw B d/D/g/\pw B d/D/g∣pw B d/\Int.gcd (n/g*(k/D)) (pw B d/D/g)=1/\n/g*(k/D)*(pw B d/(pw B d/D/g))=n*k:=by
 intro D g
 obtain⟨h1,h2,h3,h4,h5⟩:=dt (a:=k) (az hB d)
 change 1<=D at h1
 change k=k/D*D at h2
 change pw B d=pw B d/D*D at h3
 change 1<=pw B d/D at h4
 change Int.gcd (k/D) (pw B d/D)=1 at h5
 obtain⟨g1,g2,g3,g4,g5⟩:=dt (a:=n) h4
 change 1<=g at g1
 change n=n/g*g at g2
 change pw B d/D=pw B d/D/g*g at g3
 change 1<=pw B d/D/g at g4
 change Int.gcd (n/g) (pw B d/D/g)=1 at g5
 have hS:pw B d=pw B d/D/g*(g*D):=by rw[<-Int.mul_assoc,<-g3];exact h3
 refine⟨h1,h4,g1,g4,⟨g*D,hS⟩,?_,?_⟩
 ·have hk:Int.gcd (k / D) (pw B d / D / g)=1:=by
   apply Nat.eq_one_of_dvd_one
   have a1:(Int.gcd (k/D) (pw B d/D/g):Int)∣(Int.gcd (k/D) (pw B d/D):Int):=
    Int.dvd_coe_gcd (Int.gcd_dvd_left _ _) (Int.dvd_trans (Int.gcd_dvd_right _ _) ⟨g,g3⟩)
   rw[h5]at a1
   exact Int.natCast_dvd_natCast.1 a1
  have e1:Nat.Coprime (n/g).natAbs (pw B d/D/g).natAbs:=g5;have e2:Nat.Coprime (k/D).natAbs (pw B d/D/g).natAbs:=hk
  show Nat.gcd (n/g*(k/D)).natAbs _=1
  rw[Int.natAbs_mul]
  exact Nat.Coprime.mul_left e1 e2
 ·have e:pw B d / (pw B d / D / g)=g*D:=by
   conv=>lhs;rw[show pw B d/(pw B d/D/g)=(pw B d/D/g*(g*D))/(pw B d/D/g) by rw[<-hS]]
   exact Int.mul_ediv_cancel_left _ (by omega)
  rw[e]
  conv=>rhs;rw[g2,h2]
  ac_rfl
def flo(B:Int)(x:E)(j:Nat):Int:=x.num*pw B j/pw B x.depth
def dig(B:Int)(x:E):Nat->Int
 | 0=>flo B x 0
 |j+1=>flo B x (j+1)-B*flo B x j
theorem flo_low{B:Int}(hB:1<=B){x:E}{k:Nat}(h:k<=x.depth):flo B x k=x.num/pw B (x.depth-k):=by
 obtain⟨m,hm⟩:=Nat.exists_eq_add_of_le h;unfold flo;have hp:=az hB k
 rw[hm,gR,show k+m-k=m by omega,Int.mul_comm (pw B k)]
 exact Int.mul_ediv_mul_of_pos_left _ _ (by omega)
theorem jt{B:Int}(hB:1<=B){x:E}{k:Nat}(h:x.depth<=k):flo B x k=x.num*pw B (k-x.depth):=by
 obtain⟨m,hm⟩:=Nat.exists_eq_add_of_le h;unfold flo;have hp:=az hB x.depth
 rw[hm,gR,show x.depth+m-x.depth=m by omega,Int.mul_left_comm]
 exact Int.mul_ediv_cancel_left _ (by omega)
theorem dig_low{B:Int}(hB:1<=B){x:E}{k:Nat}(h:k<x.depth):x.num%pw B (x.depth-k)/pw B (x.depth-k-1)=dig B x (k+1):=by
 show _=flo B x (k+1)-B*flo B x k
 rw[flo_low hB (by omega),flo_low hB (show k<=x.depth by omega),show x.depth-(k+1)=x.depth-k-1 by omega]
 obtain⟨m,hm⟩:∃m,x.depth-k=m+1:=⟨x.depth-k-1,by omega⟩
 rw[hm,Nat.add_sub_cancel,bJ];have hp:=az hB m;have e:=Int.mul_ediv_add_emod x.num (pw B m*B);generalize x.num/(pw B m*B)=q at *;generalize x.num%(pw B m*B)=r at *
 rw[<-e,Int.mul_assoc,Int.add_comm,Int.add_mul_ediv_left _ _ (by omega)]
 omega
theorem mw{B:Int}(hB:1<=B){x:E}{k:Nat}(h:x.depth<k):dig B x k=0:=by
 obtain⟨m,rfl⟩:∃m,k=m+1:=⟨k-1,by omega⟩
 show flo B x (m+1)-B*flo B x m=0
 rw[jt hB (by omega),jt hB (show x.depth<=m by omega),show m+1-x.depth=(m-x.depth)+1 by omega,bJ]
 rw[Int.mul_comm B,Int.mul_assoc];omega
theorem div_mono{a b c d:Int}(hb:1<=b)(hd:1<=d)(h:c*b<=a*d):c/d<=a/b:=by
 apply Int.le_ediv_of_mul_le (by omega)
 have h1:c/d*d<=c:=Int.ediv_mul_le c (by omega)
 have h2:c/d*d*b<=c*b:=Int.mul_le_mul_of_nonneg_right h1 (by omega)
 apply Int.le_of_mul_le_mul_right (a:=d) _ (by omega)
 rw[Int.mul_right_comm];omega
theorem flo_mono{B:Int}(hB:1<=B){x y:E}(j:Nat)(h:y.num*pw B x.depth<=x.num*pw B y.depth):flo B y j<=flo B x j:=by
 unfold flo
 refine div_mono (az hB _) (az hB _) ?_
 rw[Int.mul_right_comm,Int.mul_right_comm x.num]
 exact Int.mul_le_mul_of_nonneg_right h (by have:=az hB j;omega)
def cmpE(B:Int)(x y:E):Int:=if x.num*pw B y.depth<y.num*pw B x.depth then -1 else if y.num*pw B x.depth<x.num*pw B y.depth then 1 else 0
theorem cmp_bd(B:Int)(x y:E): -1<=cmpE B x y/\cmpE B x y<=1:=by
 unfold cmpE
 by_cases h1:x.num*pw B y.depth<y.num*pw B x.depth
 ·rw[if_pos h1];omega
 ·rw[if_neg h1]
  by_cases h2:y.num*pw B x.depth<x.num*pw B y.depth
  ·rw[if_pos h2];omega
  ·rw[if_neg h2];omega
theorem cmp_lt{B:Int}(hB:1<=B){x y:E}{j:Nat}(h:flo B x j<flo B y j):cmpE B x y= -1:=by
 unfold cmpE;rw[if_pos]
 apply Int.not_le.1
 intro h'
 have:=flo_mono hB j h'
 omega
theorem cmp_gt{B:Int}(hB:1<=B){x y:E}{j:Nat}(h:flo B y j<flo B x j):cmpE B x y=1:=by
 have h1:y.num*pw B x.depth<x.num*pw B y.depth:=by
  apply Int.not_le.1
  intro h'
  have:=flo_mono hB j h'
  omega
 unfold cmpE
 rw[if_neg (by omega),if_pos h1]
theorem cmp_eq{B:Int}(hB:1<=B){x y:E}{j:Nat}(hx:x.depth<=j)(hy:y.depth<=j)(h:flo B x j=flo B y j):cmpE B x y=0:=by
 rw[jt hB hx,jt hB hy]at h
 have e:x.num*pw B y.depth=y.num*pw B x.depth:=by
  have hp:=az hB j
  apply Int.eq_of_mul_eq_mul_right (a:=pw B j) (by omega)
  have e1:pw B j=pw B (j-x.depth)*pw B x.depth:=by rw[<-gR];congr 1;omega
  have e2:pw B j=pw B (j-y.depth)*pw B y.depth:=by rw[<-gR];congr 1;omega
  calc x.num*pw B y.depth*pw B j=x.num*pw B (j-x.depth)*(pw B x.depth*pw B y.depth):=by rw[e1];ac_rfl
   _=y.num*pw B (j-y.depth)*(pw B x.depth*pw B y.depth):=by rw[h]
   _=y.num*pw B x.depth*pw B j:=by rw[e2];ac_rfl
 unfold cmpE
 rw[if_neg (by omega),if_neg (by omega)]
theorem dig_lt{B:Int}(hB:1<=B){x y:E}{j:Nat}(h0:∀i,i<j->flo B x i=flo B y i)(h:dig B x j<dig B y j):cmpE B x y= -1:=by
 refine cmp_lt hB (j:=j) ?_
 rcases j with _|j
 ·exact h
 ·have:=h0 j (by omega)
  simp only[dig]at h
  rw[this]at h;omega
theorem dig_gt{B:Int}(hB:1<=B){x y:E}{j:Nat}(h0:∀i,i<j->flo B x i=flo B y i)(h:dig B y j<dig B x j):cmpE B x y=1:=by
 refine cmp_gt hB (j:=j) ?_
 rcases j with _|j
 ·exact h
 ·have:=h0 j (by omega)
  simp only[dig]at h
  rw[this]at h;omega
theorem dig_eq{B:Int}{x y:E}{j:Nat}(h0:∀i,i<j->flo B x i=flo B y i)(h:dig B x j=dig B y j):∀i,i<j+1->flo B x i=flo B y i:=by
 intro i hi
 by_cases e:i<j
 ·exact h0 i e
 ·have:i=j:=by omega
  subst this
  rcases i with _|i
  ·exact h
  ·have:=h0 i (by omega)
   simp only[dig]at h
   rw[this]at h;omega
theorem cmp_swap{B:Int}{x y:E}:(0<cmpE B x y)=(ltE B y x=true):=by
 unfold cmpE ltE
 simp only[decide_eq_true_eq]
 split
 ·simp;omega
 ·split<;>simp[*]
theorem mean_dvd{B:Int}(hB:1<=B){s:E}(hv:Val B s)(h:B∣s.num):mk B s.num (s.depth+1)=some ⟨s.num/B,0⟩:=by
 have h0:s.depth=0:=hv.2.2.2.1.elim id fun h'=>absurd h h'
 have hm:=cH
 rw[h0,cM (m:=s.num/B) (e:=0) (by rw[Nat.zero_add,jk h];rfl),if_pos]
 obtain⟨u,hu⟩:=h
 have e:s.num/B=u:=by rw[hu];exact Int.mul_ediv_cancel_left _ (by omega)
 have h1:=hv.1;have h2:=hv.2.1;rw[hu]at h1 h2;rw[e]
 refine jE ?_ ?_
 ·rcases Int.le_total 0 u with hu0|hu0
  ·omega
  ·have:=Int.mul_le_mul_of_nonpos_right hB hu0;omega
 ·rcases Int.le_total 0 u with hu0|hu0
  ·have:=Int.mul_le_mul_of_nonneg_right hB hu0;omega
  ·omega
theorem mean_not{B:Int}{s:E}(h:¬B∣s.num):mk B s.num (s.depth+1)=if valB B s.num (s.depth+1)then some ⟨s.num,s.depth+1⟩else none:=cM (fB h)
def two64:Int:=18446744073709551616
def hiW(u:Int):Int:=u/two64
def loW(u:Int):Int:=u%two64
theorem hl_lt{u v:Int}(h:u<v):hiW u<hiW v\/hiW u=hiW v/\loW u<loW v:=by unfold hiW loW two64 at *;omega
theorem cmp_np{B:Int}(hB:1<=B){x y:E}(h1:x.num<0)(h2:0<=y.num):cmpE B x y= -1:=by
 have hx:=az hB x.depth;have hy:=az hB y.depth
 have a:x.num*pw B y.depth<0:=Int.mul_neg_of_neg_of_pos h1 (by omega)
 have b:0<=y.num*pw B x.depth:=Int.mul_nonneg h2 (by omega)
 unfold cmpE
 rw[if_pos (by omega)]
theorem cmp_pn{B:Int}(hB:1<=B){x y:E}(h1:0<=x.num)(h2:y.num<0):cmpE B x y=1:=by
 have hx:=az hB x.depth;have hy:=az hB y.depth
 have a:y.num*pw B x.depth<0:=Int.mul_neg_of_neg_of_pos h2 (by omega)
 have b:0<=x.num*pw B y.depth:=Int.mul_nonneg h1 (by omega)
 unfold cmpE
 rw[if_neg (by omega),if_pos (by omega)]
def crs(B:Int)(x y:E):Int:=(x.num.natAbs:Int)*pw B y.depth
theorem iO{B:Int}{x y:E}(h:0<=x.num):crs B x y=x.num*pw B y.depth:=by unfold crs;rw[show(x.num.natAbs:Int)=x.num by omega]
theorem iP{B:Int}{x y:E}(h:x.num<0):crs B x y= -(x.num*pw B y.depth):=by unfold crs;rw[show(x.num.natAbs:Int)= -x.num by omega,Int.neg_mul]
theorem cmp_same{B:Int}{x y:E}(h:crs B x y=crs B y x)(hs:(x.num<0/\y.num<0)\/(0<=x.num/\0<=y.num)):cmpE B x y=0:=by
 rcases hs with⟨h1,h2⟩|⟨h1,h2⟩
 ·rw[iP h1,iP h2]at h
  unfold cmpE;rw[if_neg (by omega),if_neg (by omega)]
 ·rw[iO h1,iO h2]at h
  unfold cmpE;rw[if_neg (by omega),if_neg (by omega)]
theorem cmp_pp_lt{B:Int}{x y:E}(h:crs B x y<crs B y x)(h1:0<=x.num)(h2:0<=y.num):cmpE B x y= -1:=by
 rw[iO h1,iO h2]at h
 unfold cmpE;rw[if_pos (by omega)]
theorem cmp_pp_gt{B:Int}{x y:E}(h:crs B y x<crs B x y)(h1:0<=x.num)(h2:0<=y.num):cmpE B x y=1:=by
 rw[iO h1,iO h2]at h
 unfold cmpE;rw[if_neg (by omega),if_pos (by omega)]
theorem cmp_nn_lt{B:Int}{x y:E}(h:crs B x y<crs B y x)(h1:x.num<0)(h2:y.num<0):cmpE B x y=1:=by
 rw[iP h1,iP h2]at h
 unfold cmpE;rw[if_neg (by omega),if_pos (by omega)]
theorem cmp_nn_gt{B:Int}{x y:E}(h:crs B y x<crs B x y)(h1:x.num<0)(h2:y.num<0):cmpE B x y= -1:=by
 rw[iP h1,iP h2]at h
 unfold cmpE;rw[if_pos (by omega)]
def sgP(x k:Int):Int:=if(x<0/\¬k<0)\/(¬x<0/\k<0)then -1 else 1
theorem sgP_mul(x k:Int):x*k=sgP x k*((x.natAbs:Int)*k.natAbs):=by
 unfold sgP
 rcases Int.lt_or_le x 0 with h1|h1<;>rcases Int.lt_or_le k 0 with h2|h2
 ·rw[if_neg (by omega),show(x.natAbs:Int)= -x by omega,show(k.natAbs:Int)= -k by omega];simp[Int.neg_mul,Int.mul_neg,Int.neg_neg]
 ·rw[if_pos (by omega),show(x.natAbs:Int)= -x by omega,show(k.natAbs:Int)=k by omega];simp[Int.neg_mul,Int.mul_neg,Int.neg_neg]
 ·rw[if_pos (by omega),show(x.natAbs:Int)=x by omega,show(k.natAbs:Int)= -k by omega];simp[Int.neg_mul,Int.mul_neg,Int.neg_neg]
 ·rw[if_neg (by omega),show(x.natAbs:Int)=x by omega,show(k.natAbs:Int)=k by omega];simp[Int.neg_mul,Int.mul_neg,Int.neg_neg]
theorem lP(x k:Int):sgP x k=1\/sgP x k= -1:=by unfold sgP;split<;>simp
theorem sg_dvd{B g u:Int}(hg:g=1\/g= -1):B∣g*u↔B∣u:=by
 rcases hg with rfl|rfl
 ·rw[Int.one_mul]
 ·rw[Int.neg_mul,Int.one_mul,Int.dvd_neg]
theorem mk_down{B g u:Int}{j:Nat}(hg:g=1\/g= -1)(h:B∣u):mk B (g*u) (j+1)=mk B (g*(u/B)) j:=by
 have e:g*u/B=g*(u/B):=by
  rcases hg with rfl|rfl
  ·rw[Int.one_mul,Int.one_mul]
  ·rw[Int.neg_mul,Int.one_mul,Int.neg_mul,Int.one_mul];exact Int.neg_ediv_of_dvd h
 unfold mk;rw[jk ((sg_dvd hg).2 h),e]
theorem mk_far{B n:Int}{j:Nat}(hs:j=0\/¬B∣n)(h:n< -ax\/ax<n):mk B n j=none:=by
 have e:strip B j n=⟨n,j⟩:=dz hs;rw[cM e,if_neg];rw[Bool.not_eq_true]
 exact gE h
end Go.Proofs.YtcmeoenkgmghkaaGreat.Ra
namespace Go.Proofs.YtcmeoenkgmghkaaGreat
open Go.RowKit Ps Ra Ex
theorem wys_bd{k m:Nat}(hk:k<=25)(hm:m<=15):(wys k m:Int)<=50000000000:=by
 have h1:=lD 25 15;have h2:=jg hk hm
 have h3:wys 25 15<=50000000000:=by
  apply Nat.le_of_not_lt
  intro h
  have h4:50000000001*(fact 25*fact 15)<=wys 25 15*(fact 25*fact 15):=Nat.mul_le_mul_right _ h;rw[h1]at h4
  exact absurd h4 (by decide)
 omega
theorem choose_any(k m:Nat)(w:World)(hk:k<=25)(hm:m<=15):
  Calls Tryz.prog 211 #[C F ((k:Int)+m),C F k] w fun e w'=>e=I (C F (wys k m))/\w=w':=by
 go_enter Tryz.func211,Tryz.ntmps211
 go_wp2
 go_loop [5,6] (fun o i=>∃j:Nat,j<=k/\i=C F ((j:Int)+1)/\o=C F (wys j m)) (fun _ i=>k+1-(intOf i).toNat)
 case atStart=>exact⟨0,by omega,rfl,rfl⟩
 case round=>
  obtain⟨j,hj,rfl,rfl⟩:=hrel
  by_cases hlt:j<k
  ·have h1:=wys_bd (show j<=25 by omega) hm
   have e1:(wys j m:Int)*((k:Int)+m-k+(j+1))=((wys j m*(m+j+1):Nat):Int):=by
    rw[show(k:Int)+m-k+(j+1)=((m+j+1:Nat):Int) by omega,<-Int.natCast_mul]
   have h2:(wys j m:Int)*((k:Int)+m-k+(j+1))<=50000000000*41:=Int.mul_le_mul h1 (by omega) (by omega) (by omega)
   have h3:0<=(wys j m:Int)*((k:Int)+m-k+(j+1)):=by rw[e1];exact Int.natCast_nonneg _
   have E:Hid ((wys j m:Int)*((k:Int)+m-k+(j+1))/((j:Int)+1)=(wys (j+1) m:Int)):=by
    show _=_
    rw[e1,<-wys_div,Int.natCast_ediv];rfl
   clear e1
   go_wp2
   go_round
   case rel=>exact⟨j+1,by omega,by go_num,by rw[E.out]⟩
   case measure=>simp[intOf];omega
  ·obtain rfl:j=k:=by omega
   go_wp2
   go_ret
   exact⟨rfl,rfl⟩
theorem listsUpTo_any(k m:Nat)(w:World)(hk:k<=25)(hm:m<=15):
  Calls Tryz.prog 187 #[C F k,C F m] w fun e w'=>e=I (C F (wys k m))/\w=w':=by
 go_enter Tryz.func187,Tryz.ntmps187
 go_wp2_with (go_at_call 211;refine(choose_any k m _ hk hm).mono ?_;rintro e w' ⟨rfl,rfl⟩)
 go_ret
 exact⟨rfl,rfl⟩
def wysC(k m:Nat):Int:=if wys k m<=1000000 then(wys k m:Int)else -1
theorem eM{k m:Nat}(h:wys k m<=1000000):wysC k m=(wys k m:Int):=if_pos h
theorem wysC_no{k m:Nat}(h:¬wys k m<=1000000):wysC k m= -1:=if_neg h
theorem l10Ways_any(k m:Nat)(w:World)(hk:k<=25)(hm:m<=15):
  Calls Tryz.prog 112 #[C F m,C F k] w fun e w'=>e=I (C F (wysC k m))/\w=w':=by
 go_enter Tryz.func112,Tryz.ntmps112
 go_wp2
 go_loop [5,6] (fun o i=>∃j:Nat,j<=k/\i=C F ((j:Int)+1)/\o=C F (wys j m)/\(wys j m:Int)<=1000000) (fun _ i=>k+1-(intOf i).toNat)
 case atStart=>exact⟨0,by omega,rfl,rfl,by rw[lw];omega⟩
 case round=>
  obtain⟨j,hj,rfl,rfl,h1⟩:=hrel
  by_cases hlt:j<k
  ·have h0:(0:Int)<=(wys j m:Int):=Int.natCast_nonneg _
   have e1:(wys j m:Int)*((m:Int)+(j+1))=((wys j m*(m+j+1):Nat):Int):=by
    rw[show(m:Int)+(j+1)=((m+j+1:Nat):Int) by omega,<-Int.natCast_mul]
   have h2:(wys j m:Int)*((m:Int)+(j+1))<=1000000*41:=Int.mul_le_mul h1 (by omega) (by omega) (by omega)
   have h3:0<=(wys j m:Int)*((m:Int)+(j+1)):=by rw[e1];exact Int.natCast_nonneg _
   have e2:(wys j m:Int)*((m:Int)+(j+1))/((j:Int)+1)=(wys (j+1) m:Int):=by
    rw[e1,<-wys_div,Int.natCast_ediv];rfl
   have E:=h_ e2
   have hmono:=jg (show j+1<=k by omega) (Nat.le_refl m)
   clear e1
   by_cases hbig:(wys (j+1) m:Int)<=1000000
   ·have hb:(wys j m:Int)*((m:Int)+(j+1)) / ((j:Int)+1)<=1000000:=by rw[e2];exact hbig
    clear e2
    go_wp2
    go_round
    case rel=>exact⟨j+1,by omega,by go_num,by rw[E.out],hbig⟩
    case measure=>simp[intOf];omega
   ·have hb:1000000<(wys j m:Int)*((m:Int)+(j+1)) / ((j:Int)+1):=by rw[e2];omega
    have hF:=h_ (wysC_no (k:=k) (m:=m) (by omega))
    clear e2
    go_wp2
    go_ret
    exact⟨by rw[hF.out];rfl,rfl⟩
  ·obtain rfl:j=k:=by omega
   have hF:=h_ (eM (k:=j) (m:=m) (by omega))
   go_wp2
   go_ret
   exact⟨by rw[hF.out];rfl,rfl⟩
theorem eL(p s:Int)(c h:Nat)(w:World)(hv:isVar p c h s=true):
  Calls Tryz.prog 133 #[.agg #[C F p,C F c,C F h,C F s]] w fun e w'=>e=I (C F (wysC h c))/\Below w.heap.size w w':=by
 have HB:Hid (Below w.heap.size w (w.alloc (.cells #[C F p,C F c,C F h,C F s] 33))):=(Below.refl _ _).alloc (Nat.le_refl _) _;obtain⟨hp0,hp24,hc0,hc15,-,hhp,_⟩:=aA hv
 have hh:h<=25:=by omega
 have hc:c<=15:=by omega
 have hb:=wys_bd hh hc
 by_cases hbig:(wys h c:Int)<=1000000
 focus
  have HF:=h_ (eM (k:=h) (m:=c) (by omega))
  refine ?za
 rotate_left
 focus
  have HF:=h_ (wysC_no (k:=h) (m:=c) (by omega))
  refine ?zb
 rotate_left
 case za|zb=>
  go_enter Tryz.func133,Tryz.ntmps133
  go_wp2_with (first|(go_at_call 113;refine(more_first (aB _ _ _ _ _)).mono ?_;rintro e w' ⟨rfl,t,rfl⟩)|(go_at_call 187;refine(listsUpTo_any h c _ hh hc).mono ?_;rintro e w' ⟨rfl,rfl⟩))
  go_ret
  exact⟨by rw[HF.out];rfl,HB.out.trans ((aa _ _).mono HB.out.size)⟩
theorem iE(p s:Int)(c h:Nat)(w:World)(hv:isVar p c h s=true):
  Calls Tryz.prog 57 #[.agg #[C F p,C F c,C F h,C F s]] w fun e w'=>e=I (C F (wysC h c))/\Below w.heap.size w w':=by
 have HB:Hid (Below w.heap.size w (w.alloc (.cells #[C F p,C F c,C F h,C F s] 33))):=(Below.refl _ _).alloc (Nat.le_refl _) _;obtain⟨hp0,hp24,hc0,hc15,-,hhp,_⟩:=aA hv
 have hh:h<=25:=by omega
 have hc:c<=15:=by omega
 have hb:=wys_bd hh hc
 by_cases hbig:(wys h c:Int)<=1000000
 focus
  have HF:=h_ (eM (k:=h) (m:=c) (by omega))
  refine ?za
 rotate_left
 focus
  have HF:=h_ (wysC_no (k:=h) (m:=c) (by omega))
  refine ?zb
 rotate_left
 case za|zb=>
  go_enter Tryz.func57,Tryz.ntmps57
  go_wp2_with (first|(go_at_call 91;refine(more_first (aG _ _ _ _ _)).mono ?_;rintro e w' ⟨rfl,t,rfl⟩)|(go_at_call 112;refine(l10Ways_any h c _ hh hc).mono ?_;rintro e w' ⟨rfl,rfl⟩))
  go_ret
  exact⟨by rw[HF.out];rfl,HB.out.trans ((aa _ _).mono HB.out.size)⟩
theorem ep(p c h:Int)(s:Nat)(w:World)(hs:s<=6):
  Calls Tryz.prog 194 #[.agg #[C F p,C F c,C F h,C F s]] w fun e w'=>e=I (C F (sq s))/\Below w.heap.size w w':=by
 have h1:0<=(s:Int)*s:=by rw[<-Int.natCast_mul];exact Int.natCast_nonneg _
 have h2:(s:Int)*s<=6*6:=Int.mul_le_mul (by omega) (by omega) (by omega) (by omega)
 go_enter Tryz.func194,Tryz.ntmps194
 go_wp2
 go_ret
 exact⟨rfl,(Below.refl _ _).alloc (Nat.le_refl _) _⟩
theorem eF(p c h:Int)(s:Nat)(w:World)(hs:s<=6):
  Calls Tryz.prog 186 #[.agg #[C F p,C F c,C F h,C F s]] w fun e w'=>e=I (C F (sq s))/\Below w.heap.size w w':=by
 have h1:0<=(s:Int)*s:=by rw[<-Int.natCast_mul];exact Int.natCast_nonneg _
 have h2:(s:Int)*s<=6*6:=Int.mul_le_mul (by omega) (by omega) (by omega) (by omega)
 go_enter Tryz.func186,Tryz.ntmps186
 go_wp2
 go_ret
 exact⟨rfl,(Below.refl _ _).alloc (Nat.le_refl _) _⟩
open Go.RowKit Ps
def smB(p c h s:Int):Bool:=isVar p c h s&&decide (p<=6/\c<=3/\s<=3)
theorem ew{p c h s:Int}(H:smB p c h s=true):isVar p c h s=true/\p<=6/\c<=3/\s<=3:=by
 simp only[smB,Bool.and_eq_true,decide_eq_true_eq]at H;exact H
def smallB:Bool:=(List.range 7).all fun h=>(List.range 4).all fun c=>decide (wys h c<=500)
theorem smallB_ok:smallB=true:=by decide +kernel
theorem gw{h c:Nat}(hh:h<=6)(hc:c<=3):wys h c<=500:=by
 have:=List.all_eq_true.1 (List.all_eq_true.1 smallB_ok h (List.mem_range.2 (by omega))) c (List.mem_range.2 (by omega))
 exact of_decide_eq_true this
theorem sum_zero_of{xs:List Int}(h:∀x∈xs,x=0):xs.sum=0:=by
 induction xs with
 |nil=>rfl
 |cons a l ih=>rw[List.sum_cons,h a (by simp),ih fun x hx=>h x (by simp[hx])];rfl
theorem jj{xs:List Int}(h0:∀x∈xs,0<=x)(hs:xs.sum≠0):0<=topI xs xs.length:=by
 rcases dM (p:=xs) (k:=xs.length)with⟨_,h2⟩|⟨i,h1,_⟩
 ·refine absurd (sum_zero_of fun x hx=>?_) hs
  obtain⟨i,hi,rfl⟩:=List.getElem_of_mem hx;have h3:=h2 i hi;rw[List.getD_eq_getElem?_getD,List.getElem?_eq_getElem hi]at h3;have h4:=h0 _ hx
  simp only[Option.getD_some]at h3
  omega
 ·omega
theorem cY(xs:List Int)(k:Nat): -1<=topI xs k/\topI xs k<k:=by
 rcases dM (p:=xs) (k:=k)with⟨h1,_⟩|⟨i,h1,h2,_⟩
 ·rw[h1];omega
 ·rw[h1];omega
theorem iz(p c h s:Int)(w:World):Calls Tryz.prog 83 #[.agg #[C F p,C F c,C F h,C F s]] w fun e w'=>e=I (.bool (smB p c h s))/\Below w.heap.size w w':=by
 have HB:Hid (Below w.heap.size w (w.alloc (.cells #[C F p,C F c,C F h,C F s] 33))):=(Below.refl _ _).alloc (Nat.le_refl _) _
 have CV0:=fun(W:World)=>aB p c h s W
 rcases hv:isVar p c h s with _|_
 focus
  have HR:Hid (smB p c h s=false):=by unfold Hid smB;rw[hv];rfl
  rw[hv]at CV0;have CV:=h_ CV0;clear CV0 hv
  refine ?za
 rotate_left
 focus
  have HR0:Hid (smB p c h s=decide (p<=6/\c<=3/\s<=3)):=by unfold Hid smB;rw[hv];rfl
  rw[hv]at CV0;have CV:=h_ CV0;clear CV0 hv
  by_cases h1:p<=6
  focus
   by_cases h2:c<=3
   focus
    by_cases h3:s<=3
    focus
     have HR:Hid (smB p c h s=true):=by unfold Hid;rw[HR0.out];exact decide_eq_true ⟨h1,h2,h3⟩
     refine ?zb
    rotate_left
    focus
     have HR:Hid (smB p c h s=false):=by unfold Hid;rw[HR0.out];exact decide_eq_false fun h=>h3 h.2.2
     refine ?zc
   rotate_left 2
   focus
    have HR:Hid (smB p c h s=false):=by unfold Hid;rw[HR0.out];exact decide_eq_false fun h=>h2 h.2.1
    refine ?zd
  rotate_left 3
  focus
   have HR:Hid (smB p c h s=false):=by unfold Hid;rw[HR0.out];exact decide_eq_false fun h=>h1 h.1
   refine ?ze
 rotate_left 4
 case za|zb|zc|zd|ze=>
  go_enter Tryz.func83,Tryz.ntmps83
  go_wp2_with (go_at_call 113;refine(more_first (CV.out _)).mono ?_;rintro e w' ⟨rfl,t,rfl⟩)
  go_ret
  exact⟨by rw[HR.out];first|rfl|(simp<;>first|omega|assumption),HB.out.trans ((aa _ _).mono HB.out.size)⟩
theorem gf(p c h s:Int)(w:World):Calls Tryz.prog 135 #[.agg #[C F p,C F c,C F h,C F s]] w fun e w'=>e=I (.bool (smB p c h s))/\Below w.heap.size w w':=by
 have HB:Hid (Below w.heap.size w (w.alloc (.cells #[C F p,C F c,C F h,C F s] 33))):=(Below.refl _ _).alloc (Nat.le_refl _) _
 have CV0:=fun(W:World)=>aG p c h s W
 rcases hv:isVar p c h s with _|_
 focus
  have HR:Hid (smB p c h s=false):=by unfold Hid smB;rw[hv];rfl
  rw[hv]at CV0;have CV:=h_ CV0;clear CV0 hv
  refine ?za
 rotate_left
 focus
  have HR0:Hid (smB p c h s=decide (p<=6/\c<=3/\s<=3)):=by unfold Hid smB;rw[hv];rfl
  rw[hv]at CV0;have CV:=h_ CV0;clear CV0 hv
  by_cases h1:p<=6
  focus
   by_cases h2:c<=3
   focus
    by_cases h3:s<=3
    focus
     have HR:Hid (smB p c h s=true):=by unfold Hid;rw[HR0.out];exact decide_eq_true ⟨h1,h2,h3⟩
     refine ?zb
    rotate_left
    focus
     have HR:Hid (smB p c h s=false):=by unfold Hid;rw[HR0.out];exact decide_eq_false fun h=>h3 h.2.2
     refine ?zc
   rotate_left 2
   focus
    have HR:Hid (smB p c h s=false):=by unfold Hid;rw[HR0.out];exact decide_eq_false fun h=>h2 h.2.1
    refine ?zd
  rotate_left 3
  focus
   have HR:Hid (smB p c h s=false):=by unfold Hid;rw[HR0.out];exact decide_eq_false fun h=>h1 h.1
   refine ?ze
 rotate_left 4
 case za|zb|zc|zd|ze=>
  go_enter Tryz.func135,Tryz.ntmps135
  go_wp2_with (go_at_call 91;refine(more_first (CV.out _)).mono ?_;rintro e w' ⟨rfl,t,rfl⟩)
  go_ret
  exact⟨by rw[HR.out];first|rfl|(simp<;>first|omega|assumption),HB.out.trans ((aa _ _).mono HB.out.size)⟩
theorem eI(A1 A2:Option Addr)(n1 c1 n2 c2:Nat)(own other:List Int)(w:World)(h1:SL w A1 n1 own)(h2:SL w A2 n2 other)(hq1:∀x∈own,0<=x)(hq2:∀x∈other,0<=x)(hm1:own.sum<=2000000)(hm2:other.sum<=2000000)(hn1:n1<=2000000)(hn2:n2<=2000000):
  Calls Tryz.prog 155 #[.agg #[J A1 n1 c1,J A2 n2 c2]] w fun e w'=>e=I (.bool (decide (own.sum=0\/other.sum=0)))/\Below w.heap.size w w':=by
 have HB:Hid (Below w.heap.size w (w.alloc (.cells #[J A1 n1 c1,J A2 n2 c2] 35))):=(Below.refl _ _).alloc (Nat.le_refl _) _;have CT1:=h_ (cC A1 n1 c1 own _ (h1.below HB.out) hq1 hm1 hn1);have CT2:=h_ (cC A2 n2 c2 other _ (h2.below HB.out) hq2 hm2 hn2);clear h1 h2 hq1 hq2 hm1 hm2;generalize own.sum=S1 at *;generalize other.sum=S2 at *
 by_cases hz1:S1=0
 ·have HR:Hid (decide (S1=0\/S2=0)=true):=decide_eq_true (.inl hz1)
  have b1:(S1==0)=true:=by simp[hz1]
  clear hz1
  go_enter Tryz.func155,Tryz.ntmps155
  go_wp2_with (go_at_call_of 97 A1;refine CT1.out.mono ?_;rintro e w' ⟨rfl,rfl⟩)
  go_ret
  exact⟨by rw[HR.out];first|rfl|(simp<;>first|omega|assumption),HB.out⟩
 focus
  have b1:(S1==0)=false:=by simp[hz1]
  by_cases hz2:S2=0
  focus
   have HR:Hid (decide (S1=0\/S2=0)=true):=decide_eq_true (.inr hz2)
   have b2:(S2==0)=true:=by simp[hz2]
   refine ?za
  rotate_left
  focus
   have HR:Hid (decide (S1=0\/S2=0)=false):=decide_eq_false fun h=>h.elim hz1 hz2
   have b2:(S2==0)=false:=by simp[hz2]
   refine ?zb
 rotate_left 2
 case za|zb=>
  clear hz1 hz2
  go_enter Tryz.func155,Tryz.ntmps155
  go_wp2_with (first|(go_at_call_of 97 A1;refine CT1.out.mono ?_;rintro e w' ⟨rfl,rfl⟩)|(go_at_call_of 97 A2;refine CT2.out.mono ?_;rintro e w' ⟨rfl,rfl⟩))
  go_ret
  exact⟨by rw[HR.out];first|rfl|(simp<;>first|omega|assumption),HB.out⟩
theorem gk(A1 A2:Option Addr)(n1 c1 n2 c2:Nat)(own other:List Int)(w:World)(h1:SL w A1 n1 own)(h2:SL w A2 n2 other)(hq1:∀x∈own,0<=x)(hq2:∀x∈other,0<=x)(hm1:own.sum<=2000000)(hm2:other.sum<=2000000)(hn1:n1<=2000000)(hn2:n2<=2000000):
  Calls Tryz.prog 95 #[.agg #[J A1 n1 c1,J A2 n2 c2]] w fun e w'=>e=I (.bool (decide (own.sum=0\/other.sum=0)))/\Below w.heap.size w w':=by
 have HB:Hid (Below w.heap.size w (w.alloc (.cells #[J A1 n1 c1,J A2 n2 c2] 35))):=(Below.refl _ _).alloc (Nat.le_refl _) _;have CT1:=h_ (cI A1 n1 c1 own _ (h1.below HB.out) hq1 hm1 hn1);have CT2:=h_ (cI A2 n2 c2 other _ (h2.below HB.out) hq2 hm2 hn2);clear h1 h2 hq1 hq2 hm1 hm2;generalize own.sum=S1 at *;generalize other.sum=S2 at *
 by_cases hz1:S1=0
 ·have HR:Hid (decide (S1=0\/S2=0)=true):=decide_eq_true (.inl hz1)
  have b1:(S1==0)=true:=by simp[hz1]
  clear hz1
  go_enter Tryz.func95,Tryz.ntmps95
  go_wp2_with (go_at_call_of 103 A1;refine CT1.out.mono ?_;rintro e w' ⟨rfl,rfl⟩)
  go_ret
  exact⟨by rw[HR.out];first|rfl|(simp<;>first|omega|assumption),HB.out⟩
 focus
  have b1:(S1==0)=false:=by simp[hz1]
  by_cases hz2:S2=0
  focus
   have HR:Hid (decide (S1=0\/S2=0)=true):=decide_eq_true (.inr hz2)
   have b2:(S2==0)=true:=by simp[hz2]
   refine ?za
  rotate_left
  focus
   have HR:Hid (decide (S1=0\/S2=0)=false):=decide_eq_false fun h=>h.elim hz1 hz2
   have b2:(S2==0)=false:=by simp[hz2]
   refine ?zb
 rotate_left 2
 case za|zb=>
  clear hz1 hz2
  go_enter Tryz.func95,Tryz.ntmps95
  go_wp2_with (first|(go_at_call_of 103 A1;refine CT1.out.mono ?_;rintro e w' ⟨rfl,rfl⟩)|(go_at_call_of 103 A2;refine CT2.out.mono ?_;rintro e w' ⟨rfl,rfl⟩))
  go_ret
  exact⟨by rw[HR.out];first|rfl|(simp<;>first|omega|assumption),HB.out⟩
theorem dj(A:Option Addr)(n c:Nat)(p:List Int)(w:World)(hx:SL w A n p)(hn:n<=2000):
  Calls Tryz.prog 165 #[J A n c] w fun e w'=>e=I (C F (topI p n))/\w=w':=by
 have HX:=h_ hx;clear hx
 go_enter Tryz.func165,Tryz.ntmps165
 go_wp2_with (fail)
 go_loop [3,4] (fun l i=>∃k:Nat,k<=n/\i=C F k/\l=C F (topI p k)) (fun _ i=>n-(intOf i).toNat)
 case atStart=>exact⟨0,by omega,rfl,rfl⟩
 case round=>
  obtain⟨k,hk,rfl,rfl⟩:=hrel
  by_cases hlt:k<n
  ·have hki:(k:Int)<(n:Int):=by omega
   obtain⟨b,off,rfl,_,hcl⟩:=HX.out.2 (by omega)
   have hcell:=hcl k hlt
   have E:Hid (topI p (k+1)=if 0<p.getD k 0 then(k:Int)else topI p k):=rfl
   clear hcl;generalize p.getD k 0=x at *
   by_cases h0:0<x
   ·have HR:Hid (topI p (k+1)=k):=by have:=E.out;rwa [if_pos h0]at this
    go_wp2_with (fail)
    go_round
    case rel=>exact⟨k+1,by omega,by go_num,by rw[HR.out]⟩
    case measure=>(simp[intOf])<;>omega
   ·have HR:Hid (topI p (k+1)=topI p k):=by have:=E.out;rwa [if_neg h0]at this
    go_wp2_with (fail)
    go_round
    case rel=>exact⟨k+1,by omega,by go_num,by rw[HR.out]⟩
    case measure=>(simp[intOf])<;>omega
  ·have hke:k=n:=by omega
   go_wp2_with (fail)
   go_ret
   exact⟨rfl,rfl⟩
end Go.Proofs.YtcmeoenkgmghkaaGreat

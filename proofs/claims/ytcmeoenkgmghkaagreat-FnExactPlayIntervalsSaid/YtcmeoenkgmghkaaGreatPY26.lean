/- Part of one proof. There are no conditions. -/
import Derived.Test.YtcmeoenkgmghkaaGreatPN83
import Derived.Test.YtcmeoenkgmghkaaGreatPY22
set_option linter.unusedVariables false
set_option linter.unusedSimpArgs false
set_option maxHeartbeats 0
set_option maxRecDepth 100000
open Go.Value renaming int->z,slice->F,pointer->I,agg->K,bool->O,tuple->X
open Go.IntKind renaming i64->D
open Go.Obj renaming cells->J
open Go.Ending renaming returned->U
namespace Go.Proofs.YtcmeoenkgmghkaaGreat
open Go.RowKit Ps Ra Ex
structure JC(V:World)(TP:World->Value->(Nat->Prop)->Prop)(ev:Nat->Option Value)(L:Nat->Bool)(vs:Nat->Value)(W:World):Prop where
 b:Below V.heap.size V W
 eq:∀i y,i<8->L i=true->ev i=some y->vs i=y
 al:L 7=true->∃g,vs 7=I (some ⟨g,0,none⟩)/\V.heap.size<=g/\Cel W g [z D 0,z D 0]
 ra:L 1=true->L 3=false->∃(S:Nat->Prop) (l1 hi:Nat),TP W (vs 1) S/\hi<=W.heap.size/\V.heap.size<=l1/\l1<=hi/\(∀k,S k->l1<=k/\k<hi)/\∀g,L 7=true->vs 7=I (some ⟨g,0,none⟩)->g<l1\/hi<=g
section
variable {V W W':World}{TP:World->Value->(Nat->Prop)->Prop}{ev:Nat->Option Value}{L L':Nat->Bool}{vs vs':Nat->Value}{i:Nat}{v:Value}
theorem JC.alloc(H:JC V TP ev L vs W)(T:TypeId)(hu:Upd 8 7 (I (some ⟨W.heap.size,0,none⟩)) L vs L' vs')(he:ev 7=none)(hst:∀W W' v S,TP W v S->Below W.heap.size W W'->TP W' v S):JC V TP ev L' vs' (W.alloc (J #[z D 0,z D 0] T)):=by
 obtain⟨-,u2,u3⟩:=hu;have hb:Below W.heap.size W (W.alloc (J #[z D 0,z D 0] T)):=Bel.alloc W _
 have e3:=u3 3 (by omega) (by omega)
 have e1:=u3 1 (by omega) (by omega)
 refine⟨H.b.trans (hb.mono H.b.size),fun k y hk hl he'=>?_,fun hl=>⟨_,u2,H.b.size,Cel.new W #[z D 0,z D 0] T⟩,fun hl hl3=>?_⟩
 ·by_cases ek:k=7
  ·subst ek;rw[he]at he';cases he'
  ·rw[(u3 k hk ek).2];exact H.eq k y hk (by rw[<-(u3 k hk ek).1];exact hl) he'
 ·obtain⟨S,l1,hi,a1,a7,a8,a8',a9,_⟩:=H.ra (by rw[<- e1.1];exact hl) (by rw[<- e3.1];exact hl3)
  refine⟨S,l1,hi,by rw[e1.2];exact hst _ _ _ _ a1 hb,Nat.le_trans a7 hb.size,a8,a8',a9,fun g _ hg2=>.inr ?_⟩
  rw[u2]at hg2;injection hg2 with hg2;injection hg2 with hg2;injection hg2 with hg2
  omega
end
end Go.Proofs.YtcmeoenkgmghkaaGreat
namespace Go.Proofs.YtcmeoenkgmghkaaGreat.Pl
open Go.Proofs.YtcmeoenkgmghkaaGreat Ps Ra Ex
abbrev Iv:=E×E
def mapO{α β:Type}(g:α->Option β)(l:List α):Option (List β):=l.foldl (fun s r=>s.bind fun t=>(g r).map fun x=>t++[x]) (some [])
theorem jW{α β:Type}(g:α->Option β)(l:List α)(r:α):mapO g (l++[r])=(mapO g l).bind fun t=>(g r).map fun x=>t++[x]:=by
 unfold mapO;rw[List.foldl_append];rfl
theorem mapO_none{α β:Type}{g:α->Option β}{l k:List α}(h:mapO g l=none):mapO g (l++k)=none:=by
 unfold mapO at h ⊢;rw[List.foldl_append,h];clear h
 induction k with
 |nil=>rfl
 |cons a k ih=>exact ih
theorem eZ{α β:Type}{g:α->Option β}{l:List α}{i:Nat}(d:α)(hi:i<l.length):mapO g (l.take (i+1))=(mapO g (l.take i)).bind fun t=>(g (l.getD i d)).map fun x=>t++[x]:=by
 rw[bP d hi,jW]
theorem gX{α β:Type}{g:α->Option β}{l:List α}{i:Nat}(d:α)(hi:i<l.length)(h:g (l.getD i d)=none):mapO g l=none:=by
 have h1:mapO g (l.take (i+1))=none:=by
  rw[eZ d hi,h]
  cases mapO g (l.take i)<;>rfl
 have h2:=mapO_none (k:=l.drop (i+1)) h1
 rwa [List.take_append_drop]at h2
theorem mf{α β:Type}{g:α->Option β}{Q:List α->List β->Prop}(h0:Q [] [])(h1:∀l xs r x,Q l xs->g r=some x->Q (l++[r]) (xs++[x])):∀(k:Nat) (l:List α),l.length=k->∀xs,mapO g l=some xs->Q l xs:=by
 intro k
 induction k with
 |zero=>
  intro l hl xs h
  have:l=[]:=List.eq_nil_of_length_eq_zero hl;subst this;have h:some []=some xs:=h;injection h with h
  subst h;exact h0
 |succ k ih=>
  intro l hl xs h
  have hne:l≠[]:=fun e=>by rw[e]at hl;simp at hl
  have e:=List.dropLast_concat_getLast hne;rw[<-e,jW]at h;rw[<-e]
  rcases hm:mapO g l.dropLast with _|t
  ·rw[hm]at h;cases h
  ·rw[hm]at h
   rcases hg:g (l.getLast hne)with _|x
   ·simp only[Option.bind_some,hg,Option.map_none]at h;cases h
   ·simp only[Option.bind_some,hg,Option.map_some]at h
    injection h with h;rw[<-h]
    exact h1 _ _ _ _ (ih _ (by rw[List.length_dropLast];omega) _ hm) hg
theorem bN{α β:Type}{g:α->Option β}{l:List α}{xs:List β}(h:mapO g l=some xs):xs.length=l.length:=
 mf (g:=g) (Q:=fun l xs=>xs.length=l.length) rfl (fun l xs r x h _=>by rw[List.length_append,List.length_append,h];rfl) _ l rfl xs h
theorem mg{α β:Type}{g:α->Option β}{P:β->Prop}(hg:∀a x,g a=some x->P x){l:List α}{xs:List β}(h:mapO g l=some xs):∀x∈xs,P x:=
 mf (g:=g) (Q:=fun _ xs=>∀x∈xs,P x) (fun x hx=>by cases hx) (fun l xs r x h hr y hy=>by
  rcases List.mem_append.1 hy with h9|h9
  ·exact h y h9
  ·rw[List.mem_singleton.1 h9];exact hg _ _ hr) _ l rfl xs h
def VI(B:Int)(x:Iv):Prop:=Val B x.1/\Val B x.2
def flipE(B:Int)(x:Iv):Option Iv:=(oneM B x.2).bind fun lo=>(oneM B x.1).map fun hi=>(lo,hi)
theorem flipE_val{B:Int}(hB:1<=B){x y:Iv}(h:flipE B x=some y):VI B y:=by
 unfold flipE at h
 rcases h1:oneM B x.2 with _|lo
 ·rw[h1]at h;cases h
 ·rcases h2:oneM B x.1 with _|hi
  ·rw[h1,h2]at h;cases h
  ·rw[h1,h2]at h
   simp only[Option.bind_some,Option.map_some]at h
   injection h with h;rw[<-h]
   exact⟨jx hB h1,jx hB h2⟩
def upE(B:Int)(x y:E):E:=if 0<cmpE B x y then x else y
def bestJ(B:Int)(b x:Iv):Iv:=(upE B x.1 b.1,upE B x.2 b.2)
def bestI(B:Int)(l:List Iv):Iv:=(l.drop 1).foldl (bestJ B) (l.getD 0 (aj,aj))
theorem upE_val{B:Int}{x y:E}(hx:Val B x)(hy:Val B y):Val B (upE B x y):=by unfold upE;split<;>assumption
theorem kr{B:Int}{b x:Iv}(hb:VI B b)(hx:VI B x):VI B (bestJ B b x):=⟨upE_val hx.1 hb.1,upE_val hx.2 hb.2⟩
theorem ff{B:Int}:∀(l:List Iv) (b:Iv),VI B b->(∀x∈l,VI B x)->VI B (l.foldl (bestJ B) b)
 | [],b,hb,_=>hb
 |x::l,b,hb,hl=>ff l _ (kr hb (hl x List.mem_cons_self)) fun y hy=>hl y (List.mem_cons_of_mem _ hy)
theorem bestI_val{B:Int}{l:List Iv}(hl:∀x∈l,VI B x)(hne:l≠[]):VI B (bestI B l):=by
 cases l with
 |nil=>exact absurd rfl hne
 |cons x l=>exact ff l x (hl x List.mem_cons_self) fun y hy=>hl y (List.mem_cons_of_mem _ hy)
noncomputable def plE(s P h:Nat)(iv:Bd->Option Iv)(b:Bd)(r:Nat×Nat):Option (List Iv):=mapO (fun x=>(iv (x.2,x.1)).bind (flipE (sq s))) (playsP P h b r.1 r.2)
def pairE(s:Nat)(L:List Iv):Option Iv:=(meanE (sq s) (ah s) (L.map (·.1))).bind fun lo=>(meanE (sq s) (ah s) (L.map (·.2))).map fun hi=>(lo,hi)
noncomputable def ivE(s P h:Nat):Nat->Bd->Option Iv
 | 0,b=>if solvB P h b.1 b.2=true then(chS s h b.1 b.2).map fun x=>(x,x)else some (aj,oneE)
 |t+1,b=>if solvB P h b.1 b.2=true then(chS s h b.1 b.2).map fun x=>(x,x)else(mapO (fun r=>(plE s P h (ivE s P h t) b r).map (bestI (sq s))) (ah s)).bind (pairE s)
theorem chS_val{s h:Nat}(hB:1<=sq s){own other:List Int}{x:E}(hx:chS s h own other=some x):Val (sq s) x:=by
 unfold chS at hx
 split at hx
 ·injection hx with hx;rw[<-hx];exact eA
 ·split at hx
  ·injection hx with hx;rw[<-hx];exact gv
  ·exact win_val hB hx
theorem jR{s P h:Nat}(hB:1<=sq s){iv:Bd->Option Iv}{b:Bd}{r:Nat×Nat}{L:List Iv}(hx:plE s P h iv b r=some L):∀x∈L,VI (sq s) x:=
 mg (fun a x hx=>by
  cases h1:iv (a.2,a.1)with
  |none=>simp only[h1]at hx;cases hx
  |some y=>simp only[h1,Option.bind_some]at hx;exact flipE_val hB hx) hx
theorem pairE_val{s:Nat}(hB:1<=sq s){L:List Iv}{x:Iv}(hx:pairE s L=some x):VI (sq s) x:=by
 unfold pairE at hx
 rcases h1:meanE (sq s) (ah s) (L.map (·.1))with _|lo
 ·rw[h1]at hx;cases hx
 ·rcases h2:meanE (sq s) (ah s) (L.map (·.2)) with _|hi
  ·rw[h1,h2]at hx;cases hx
  ·rw[h1,h2]at hx
   simp only[Option.bind_some,Option.map_some]at hx
   injection hx with hx;rw[<-hx]
   exact⟨jV hB h1,jV hB h2⟩
theorem mn{s P h:Nat}(hB:1<=sq s):∀{t:Nat} {b:Bd} {x:Iv},ivE s P h t b=some x->VI (sq s) x:=by
 have hs:∀{b:Bd} {x:Iv},((chS s h b.1 b.2).map fun x=>(x,x))=some x->VI (sq s) x:=fun {b x} hx=>by
  rcases hc:chS s h b.1 b.2 with _|y
  ·rw[hc]at hx;cases hx
  ·rw[hc]at hx
   simp only[Option.map_some]at hx
   injection hx with hx;rw[<-hx]
   exact⟨chS_val hB hc,chS_val hB hc⟩
 intro t b x hx
 rcases t with _|t
 ·unfold ivE at hx
  split at hx
  ·exact hs hx
  ·injection hx with hx;rw[<-hx];exact⟨gv,eA⟩
 ·unfold ivE at hx
  split at hx
  ·exact hs hx
  ·rcases hm:mapO (fun r=>(plE s P h (ivE s P h t) b r).map (bestI (sq s))) (ah s) with _|L
   ·rw[hm]at hx;cases hx
   ·rw[hm]at hx;exact pairE_val hB hx
theorem eX{P h ra rb:Nat}{b:Bd}:playsP P h b ra rb≠[]:=by
 have h1:∀ds:List Nat,(longP P h [b] ds).1≠[]:=fun ds=>mh ds _ (by simp)
 unfold playsP
 split
 ·exact fH _ _ (.inr (h1 _))
 ·have h2:=h1 [ra,rb]
  have h3:=h1 [rb,ra];generalize longP P h [b] [ra,rb]=L1 at *;generalize longP P h [b] [rb,ra]=L2 at *;unfold bothP
  by_cases hx:L1.2=max L1.2 L2.2
  ·have hf:ci L1 L2≠[]:=by unfold ci;rw[if_pos hx];exact fH _ _ (.inr h2)
   split
   ·exact fH _ _ (.inl hf)
   ·exact hf
  ·have hf:ci L1 L2=[]:=by unfold ci;rw[if_neg hx]
   rw[if_pos ⟨by omega,fun h9=>h9.2 hf⟩]
   exact fH _ _ (.inr h3)
end Go.Proofs.YtcmeoenkgmghkaaGreat.Pl
namespace Go.Proofs.YtcmeoenkgmghkaaGreat
open Go.RowKit
def rollB(s a b:Int):Bool:=decide (1<=a/\a<=s/\1<=b/\b<=a)
theorem l10Roll_any(p c h s a b:Int)(w:World):Calls Tryz.prog 134 #[K #[z D p,z D c,z D h,z D s],K #[z D a,z D b]] w fun e w'=>e=U (O (rollB s a b))/\Below w.heap.size w w':=by
 by_cases h1:1<=a/\a<=s
 focus
  have e1:=bw h1
  by_cases h2:1<=b/\b<=a
  focus
   have e2:=bw h2
   have HF:Hid (rollB s a b=true):=decide_eq_true (by omega)
   refine ?za
  rotate_left
  focus
   have e2:=cE h2
   have HF:Hid (rollB s a b=false):=decide_eq_false (by omega)
   refine ?zb
 rotate_left 2
 focus
  have e1:=cE h1
  have HF:Hid (rollB s a b=false):=decide_eq_false (by omega)
  refine ?zc
 rotate_left
 case za|zb|zc=>
  go_enter Tryz.func134,Tryz.ntmps134
  go_wp2_with (go_at_call 107;refine(l01In_any _ _ _ _).mono ?_;rintro e w' ⟨rfl,rfl⟩)
  go_ret
  exact⟨by rw[HF.out];rfl,((Below.refl _ _).alloc (Nat.le_refl _) _).alloc (by simp) _⟩
theorem IsRoll_any(p c h s a b:Int)(w:World):Calls Tryz.prog 70 #[K #[z D p,z D c,z D h,z D s],K #[z D a,z D b]] w fun e w'=>e=U (O (isVar p c h s&&rollB s a b))/\Below w.heap.size w w':=by
 have HB:Hid (Below w.heap.size w ((w.alloc (J #[z D p,z D c,z D h,z D s] 33)).alloc (J #[z D a,z D b] 37))):=((Below.refl _ _).alloc (Nat.le_refl _) _).alloc (by simp) _
 by_cases hv:isVar p c h s=true
 focus
  by_cases h1:1<=a/\a<=s
  focus
   have e1:=bw h1
   by_cases h2:1<=b/\b<=a
   focus
    have e2:=bw h2
    have HF:Hid ((isVar p c h s&&rollB s a b)=true):=by unfold Hid;rw[hv,Bool.true_and];exact decide_eq_true (by omega)
    refine ?za
   rotate_left
   focus
    have e2:=cE h2
    refine ?zb
  rotate_left 2
  focus
   have e1:=cE h1
   refine ?zc
 rotate_left 3
 focus
  replace hv:isVar p c h s=false:=by simpa using hv
  have HF:Hid ((isVar p c h s&&rollB s a b)=false):=by unfold Hid;rw[hv,Bool.false_and]
  refine ?zd
 rotate_left
 case' zb|zc=>
  have HF:Hid ((isVar p c h s&&rollB s a b)=false):=by unfold Hid;rw[hv,Bool.true_and];exact decide_eq_false (by omega)
 case za|zb|zc|zd=>
  go_enter Tryz.func70,Tryz.ntmps70
  go_wp2_with (first|(go_at_call 113;refine(more_first (aB _ _ _ _ _)).mono ?_;rintro e w' ⟨rfl,t,rfl⟩)|(go_at_call 138;refine(within_any _ _ _ _).mono ?_;rintro e w' ⟨rfl,rfl⟩))
  go_ret
  exact⟨by rw[HF.out];rfl,HB.out.trans ((aa _ _).mono HB.out.size)⟩
open Go.RowKit Ps Ra Ex
def cdT(p c h s:Int)(own other:List Int)(tu:Int)(mo:Bool):Int:=if bZ p c h s own other=true then(if(inB tu 0 2&&mo)=true then(if smB p c h s=true then 0 else 3)else 2)else 1
theorem iQ(p c h s tu:Int)(mo:Bool)(A1 A2:Option Addr)(n1 c1 n2 c2:Nat)(own other:List Int)(w:World)(h1:SL w A1 n1 own)(h2:SL w A2 n2 other)(hm1:n1<=2000000)(hm2:n2<=2000000):
  Calls Tryz.prog 69 #[(K #[z D p,z D c,z D h,z D s]),(K #[F A1 n1 c1,F A2 n2 c2]),z D tu,O mo] w fun e w'=>e=U (z D (cdT p c h s own other tu mo))/\Below w.heap.size w w':=by
 have CB:=h_ fun(W:World) (hw:Below w.heap.size w W)=>IsBoard_any p c h s A1 A2 n1 c1 n2 c2 own other W (h1.below hw) (h2.below hw) hm1 hm2
 have CM:=h_ fun(W:World) (_:Below w.heap.size w W)=>iz p c h s W
 have CI:=h_ fun(W:World)=>within_any tu 0 2 W
 have HF:Hid (Fr w ((w.alloc (J #[z D p,z D c,z D h,z D s] 33)).alloc (J #[F A1 n1 c1,F A2 n2 c2] 35)) [[z D p,z D c,z D h,z D s],[F A1 n1 c1,F A2 n2 c2]]):=((Fr.start w).allocT (by simp) _ _).allocT (by simp) _ _
 clear h1 h2;generalize hq:cdT p c h s own other tu mo=Z at *;rw[cdT]at hq
 rcases hbd:bZ p c h s own other with _|_
 focus
  rw[hbd]at CB hq
  have HR:Hid (Z=1):=by unfold Hid;rw[<-hq];rfl
  clear hq hbd
  refine ?zc
 rotate_left
 focus
  rw[hbd]at CB hq;clear hbd
  refine ?zd
 rotate_left
 case' zc|zd=>
  go_enter Tryz.func69,Tryz.ntmps69
  go_wp2_with (fail)
  refine(CB.out _ HF.out.b).mono ?_
  rintro e w1 ⟨rfl,hb⟩
  have HF1:=h_ (HF.out.below hb);clear hb
 case' zd=>
  rcases hin:inB tu 0 2 with _|_
  focus
   rw[hin]at CI hq
   have HR:Hid (Z=2):=by unfold Hid;rw[<-hq];rfl
   clear hq hin
   refine ?ze
  rotate_left
  focus
   rw[hin]at CI hq;clear hin
   refine ?zg
 case' ze|zg=>
  go_wp2_with (fail)
  refine(CI.out _).mono ?_
  rintro e w' ⟨rfl,rfl⟩
 case' zg=>
  rcases mo with _|_
  focus
   have HR:Hid (Z=2):=by unfold Hid;rw[<-hq];rfl
   clear hq
   refine ?zf
  rotate_left
  focus
   rcases hsm:smB p c h s with _|_
   focus
    rw[hsm]at CM hq
    have HR:Hid (Z=3):=by unfold Hid;rw[<-hq];rfl
    refine ?za
   rotate_left
   focus
    rw[hsm]at CM hq
    have HR:Hid (Z=0):=by unfold Hid;rw[<-hq];rfl
    refine ?zb
 case za|zb=>
  clear hq hsm;have c00:=HF1.out.c0 0 rfl;have c01:=HF1.out.c0 1 rfl;have c02:=HF1.out.c0 2 rfl;have c03:=HF1.out.c0 3 rfl
  go_wp2_with (fail)
  clear c00 c01 c02 c03
  refine(CM.out _ HF1.out.b).mono ?_
  rintro e w9 ⟨rfl,hb⟩
  have HF9:=h_ (HF1.out.below hb);clear hb
  go_wp2_with (fail)
  go_ret
  exact⟨by rw[HR.out];rfl,HF9.out.b⟩
 case ze|zf|zc=>
  go_wp2_with (fail)
  go_ret
  exact⟨by rw[HR.out];rfl,HF1.out.b⟩
theorem l15CodeT_any(p c h s tu:Int)(ra rb:Int)(asked:Bool)(A1 A2:Option Addr)(n1 c1 n2 c2:Nat)(own other:List Int)(w:World)(h1:SL w A1 n1 own)(h2:SL w A2 n2 other)(hm1:n1<=2000000)(hm2:n2<=2000000):
  Calls Tryz.prog 65 #[(K #[z D p,z D c,z D h,z D s]),(K #[F A1 n1 c1,F A2 n2 c2]),z D tu,K #[z D ra,z D rb],O asked] w fun e w'=>e=U (z D (cdT p c h s own other tu (!asked||rollB s ra rb)))/\Below w.heap.size w w':=by
 have CB:=h_ fun(W:World) (hw:Below w.heap.size w W)=>sIsBoard_any p c h s A1 A2 n1 c1 n2 c2 own other W (h1.below hw) (h2.below hw) hm1 hm2
 have CM:=h_ fun(W:World) (_:Below w.heap.size w W)=>gf p c h s W
 have CI:=h_ fun(W:World)=>l01In_any tu 0 2 W
 have CR:=h_ fun(W:World) (_:Below w.heap.size w W)=>l10Roll_any p c h s ra rb W
 have HF:Hid (Fr w (((w.alloc (J #[z D p,z D c,z D h,z D s] 33)).alloc (J #[F A1 n1 c1,F A2 n2 c2] 35)).alloc (J #[z D ra,z D rb] 37)) [[z D p,z D c,z D h,z D s],[F A1 n1 c1,F A2 n2 c2],[z D ra,z D rb]]):=(((Fr.start w).allocT (by simp) _ _).allocT (by simp) _ _).allocT (by simp) _ _
 clear h1 h2
 generalize hq:cdT p c h s own other tu (!asked||rollB s ra rb)=Z at *
 rw[cdT]at hq
 rcases hbd:bZ p c h s own other with _|_
 focus
  rw[hbd]at CB hq
  have HR:Hid (Z=1):=by unfold Hid;rw[<-hq];rfl
  clear hq hbd
  refine ?zg
 rotate_left
 focus
  rw[hbd]at CB hq;clear hbd
  refine ?zh
 rotate_left
 case' zg|zh=>
  go_enter Tryz.func65,Tryz.ntmps65
  go_wp2_with (fail)
  refine(CB.out _ HF.out.b).mono ?_
  rintro e w1 ⟨rfl,hb⟩
  have HF1:=h_ (HF.out.below hb);clear hb
 case zg=>
  go_wp2_with (fail)
  go_ret
  exact⟨by rw[HR.out];rfl,HF1.out.b⟩
 case' zh=>
  rcases hin:inB tu 0 2 with _|_
  ·rw[hin]at CI hq
   have HR:Hid (Z=2):=by unfold Hid;rw[<-hq];rfl
   clear hq hin
   go_wp2_with (fail)
   refine(CI.out _).mono ?_
   rintro e w' ⟨rfl,rfl⟩
   go_wp2_with (fail)
   go_ret
   exact⟨by rw[HR.out];rfl,HF1.out.b⟩
  focus
   rw[hin]at CI hq;clear hin
   go_wp2_with (fail)
   refine(CI.out _).mono ?_
   rintro e w' ⟨rfl,rfl⟩
   rcases asked with _|_
   focus
    rcases hsm:smB p c h s with _|_
    focus
     refine ?za
    rotate_left
    focus
     refine ?zb
   rotate_left 2
   focus
    rcases hro:rollB s ra rb with _|_
    focus
     rw[hro]at CR hq
     have HR:Hid (Z=2):=by unfold Hid;rw[<-hq];rfl
     clear hq hro;have c00:=HF1.out.c0 0 rfl;have c01:=HF1.out.c0 1 rfl;have c02:=HF1.out.c0 2 rfl;have c03:=HF1.out.c0 3 rfl;have c20:=HF1.out.c2 0 rfl;have c21:=HF1.out.c2 1 rfl
     refine ?ze
    rotate_left
    focus
     rw[hro]at CR hq;clear hro;have c00:=HF1.out.c0 0 rfl;have c01:=HF1.out.c0 1 rfl;have c02:=HF1.out.c0 2 rfl;have c03:=HF1.out.c0 3 rfl;have c20:=HF1.out.c2 0 rfl;have c21:=HF1.out.c2 1 rfl
     refine ?zf
 case' ze|zf=>
  go_wp2_with (fail)
  clear c00 c01 c02 c03 c20 c21
  refine(CR.out _ HF1.out.b).mono ?_
  rintro e w2 ⟨rfl,hb⟩
  have HF2:=h_ (HF1.out.below hb);clear hb
 case ze=>
  go_wp2_with (fail)
  go_ret
  exact⟨by rw[HR.out];rfl,HF2.out.b⟩
 case' zf=>
  rcases hsm:smB p c h s with _|_
  focus
   refine ?zc
  rotate_left
  focus
   refine ?zd
 case' zc|za=>
  rw[hsm]at CM hq
  have HR:Hid (Z=3):=by unfold Hid;rw[<-hq];rfl
 case' zd|zb=>
  rw[hsm]at CM hq
  have HR:Hid (Z=0):=by unfold Hid;rw[<-hq];rfl
 case za|zb=>
  clear hq hsm;have c00:=HF1.out.c0 0 rfl;have c01:=HF1.out.c0 1 rfl;have c02:=HF1.out.c0 2 rfl;have c03:=HF1.out.c0 3 rfl
  go_wp2_with (fail)
  clear c00 c01 c02 c03
  refine(CM.out _ HF1.out.b).mono ?_
  rintro e w9 ⟨rfl,hb⟩
  have HF9:=h_ (HF1.out.below hb);clear hb
  go_wp2_with (fail)
  go_ret
  exact⟨by rw[HR.out];rfl,HF9.out.b⟩
 case zc|zd=>
  clear hq hsm;have c00:=HF2.out.c0 0 rfl;have c01:=HF2.out.c0 1 rfl;have c02:=HF2.out.c0 2 rfl;have c03:=HF2.out.c0 3 rfl
  go_wp2_with (fail)
  clear c00 c01 c02 c03
  refine(CM.out _ HF2.out.b).mono ?_
  rintro e w9 ⟨rfl,hb⟩
  have HF9:=h_ (HF2.out.below hb);clear hb
  go_wp2_with (fail)
  go_ret
  exact⟨by rw[HR.out];rfl,HF9.out.b⟩
open Go.RowKit Pl Ps Ra Ex
def ivC(x:Iv):List Value:=[z D x.1.num,z D (x.1.depth:Int),z D x.2.num,z D (x.2.depth:Int)]
def ivCs(xs:List Iv):List Value:=xs.flatMap ivC
theorem ivCs_snoc(xs:List Iv)(x:Iv):ivCs (xs++[x])=ivCs xs++ivC x:=by simp[ivCs]
theorem fI:∀(l:List Iv) (k:Nat),k<l.length->(ivCs l).getD (k*4) undef=z D (l.getD k (aj,aj)).1.num/\(ivCs l).getD (k*4+1) undef=z D ((l.getD k (aj,aj)).1.depth:Int)/\(ivCs l).getD (k*4+2) undef=z D (l.getD k (aj,aj)).2.num/\(ivCs l).getD (k*4+3) undef=z D ((l.getD k (aj,aj)).2.depth:Int)
 | [],k,h=>absurd h (by simp)
 |x::l,0,_=>⟨rfl,rfl,rfl,rfl⟩
 |x::l,k+1,h=>by
   have h1:=fI l k (by simpa using h)
   have e:ivCs (x::l)=ivC x++ivCs l:=by simp [ivCs]
   have e4:∀j,(ivCs (x::l)).getD ((k+1)*4+j) undef=(ivCs l).getD (k*4+j) undef:=fun j=>by
     rw [e,aK _ _ _ (by simp [ivC];omega)]
     congr 1
     simp [ivC];omega
   have e0:=e4 0;rw [Nat.add_zero,Nat.add_zero]at e0;rw [List.getD_cons_succ,e0,e4 1,e4 2,e4 3]
   exact h1
def ivV(x:Iv):Value:=K #[z D x.1.num,z D (x.1.depth:Int),z D x.2.num,z D (x.2.depth:Int)]
def RetIv(t:RT)(T:Nat->Prop)(w:World)(o:Option Iv)(e:Ending)(w':World):Prop:=(match o with
 |some x=>e=U (X #[ivV x,O true])
 |none=>∃a b c d:Int,e=U (X #[K #[z D a,z D b,z D c,z D d],O false]))/\RaceI t T w'/\Frm t.S w w'
def RetPi(t:RT)(T:Nat->Prop)(w:World)(o:Option (List Iv))(e:Ending)(w':World):Prop:=(match o with
 |some L=>∃v,e=U (X #[v,O true])/\w'.ownsRow w.heap.size 47 4 v L.length (ivCs L)
 |none=>e=U (X #[F none 0 0,O false]))/\RaceI t T w'/\Frm t.S w w'
def IvC(t:RT)(P tu:Nat):Prop:=∀(T:Nat->Prop) (own other:List Int) (A1 A2:Option Addr) (n1 c1 n2 c2:Nat) (w:World),(∀k,w.heap.size<=k->¬T k)->RaceI t T w->SQ T w A1 n1 own->SQ T w A2 n2 other->Sd P t.c (own,other)->n1<=c1->n2<=c2->
 Calls Tryz.prog 74 #[I (some ⟨t.bt,0,none⟩),K #[F A1 n1 c1,F A2 n2 c2],z D (tu:Int)] w (RetIv t T w (ivE t.s P t.h tu (own,other)))
def PlC(t:RT)(P tu:Nat):Prop:=∀(T:Nat->Prop) (own other:List Int) (A1 A2:Option Addr) (n1 c1 n2 c2 ra rb:Nat) (w:World),(∀k,w.heap.size<=k->¬T k)->RaceI t T w->SQ T w A1 n1 own->SQ T w A2 n2 other->Sd P t.c (own,other)->n1<=c1->n2<=c2->(1<=ra/\ra<=1000)->(1<=rb/\rb<=1000)->
 Calls Tryz.prog 72 #[I (some ⟨t.bt,0,none⟩),K #[F A1 n1 c1,F A2 n2 c2],K #[z D (ra:Int),z D (rb:Int)],z D (tu:Int)] w (RetPi t T w (plE t.s P t.h (ivE t.s P t.h tu) (own,other) (ra,rb)))
theorem iD(t:RT)(ht:t.Ok){own other:List Int}(b1 o1 n1 c1 b2 o2 n2 c2:Nat)(T:Nat->Prop)(w:World)(hT:∀k,w.heap.size<=k->¬T k)(hI:RaceI t T w)(hA:SQ T w (some ⟨b1,o1,none⟩) n1 own)(hB:SQ T w (some ⟨b2,o2,none⟩) n2 other)
  (hn1:t.h<=n1) (hn2:t.h<=n2) (hc1:n1<=c1) (hc2:n2<=c2) (hn3:n1<=2000) (hn4:n2<=2000) (hq1:∀x∈own,0<=x) (hq2:∀x∈other,0<=x) (hm1:own.sum<=t.c) (hm2:other.sum<=t.c):
  Calls Tryz.prog 85 #[I (some ⟨t.bt,0,none⟩),K #[F (some ⟨b1,o1,none⟩) n1 c1,F (some ⟨b2,o2,none⟩) n2 c2]] w (RetWn t T w (chS t.s t.h own other)):=by
 have hv:=aA ht.v;have hlow:=hI.ltS
 have HF:Hid (FrS t.S w ((w.alloc (J #[F (some ⟨b1,o1,none⟩) n1 c1,F (some ⟨b2,o2,none⟩) n2 c2] 35)).alloc (J #[z D 0,z D 0] 45)) [[F (some ⟨b1,o1,none⟩) n1 c1,F (some ⟨b2,o2,none⟩) n2 c2],[z D 0,z D 0]]):=((FrS.start w hlow).allocT (by simp) _ _).allocT (by simp) _ _
 have hb0:Below w.heap.size w ((w.alloc (J #[F (some ⟨b1,o1,none⟩) n1 c1,F (some ⟨b2,o2,none⟩) n2 c2] 35)).alloc (J #[z D 0,z D 0] 45)):=((Below.refl _ _).alloc (Nat.le_refl _) _).alloc (by simp) _
 have hzV:Hid (w.heap.size+2<=((w.alloc (J #[F (some ⟨b1,o1,none⟩) n1 c1,F (some ⟨b2,o2,none⟩) n2 c2] 35)).alloc (J #[z D 0,z D 0] 45)).heap.size):=by unfold Hid;simp
 have HI0:=h_ ((hI.wide 2).below hb0)
 have HSUB:Hid (∀k,t.S k->ownT T w 2 k):=fun k hk=>.inl (hI.sub k hk)
 have HTS:Hid (∀k,t.S k->T k):=hI.sub;have HA:=h_ ((hA.wide 2).below hb0);have HBo:=h_ ((hB.wide 2).below hb0)
 have HNS:Hid (∀j,¬t.S (w.heap.size+j)):=fun j h=>by have:=hlow _ h;omega
 have hl1:own.length=n1:=hA.1.1;have hl2:other.length=n2:=hB.1.1
 have CT1:=h_ (cC (some ⟨b1,o1,none⟩) n1 c1 own _ HA.out.1 hq1 (by omega) (by omega))
 have CT2:=h_ (cC (some ⟨b2,o2,none⟩) n2 c2 other _ HBo.out.1 hq2 (by omega) (by omega))
 have HP1:=h_ (fw (h:=t.h) (c:=t.c) (by omega) hq1 hm1)
 have HP2:=h_ (fw (h:=t.h) (c:=t.c) (by omega) hq2 hm2)
 have hs1:own.sum<=15:=by omega
 have hs2:other.sum<=15:=by omega
 have hs3:=bz own hq1;have hs4:=bz other hq2
 have HC:Hid (chS t.s t.h own other=if own.sum=0 then some ⟨1,0⟩else if other.sum=0 then some ⟨0,0⟩else win t.s (own.take t.h) (other.take t.h)):=rfl
 generalize chS t.s t.h own other=R at *;generalize ho:win t.s (own.take t.h) (other.take t.h)=o at *;obtain⟨xn,hxn⟩:∃x:Int,x=(o.getD ⟨0,0⟩).num:=⟨_,rfl⟩;obtain⟨xd,hxd⟩:∃x:Int,x=((o.getD ⟨0,0⟩).depth:Int):=⟨_,rfl⟩;obtain⟨ok,hok⟩:∃x:Bool,x=o.isSome:=⟨_,rfl⟩
 have CW:Hid (∀(W:World),w.heap.size+2<=W.heap.size->RaceI t (ownT T w 2) W->SQ (ownT T w 2) W (some ⟨b1,o1,none⟩) t.h (own.take t.h)->SQ (ownT T w 2) W (some ⟨b2,o2,none⟩) t.h (other.take t.h)->
   Calls Tryz.prog 98 #[I (some ⟨t.bt,0,none⟩),F (some ⟨b1,o1,none⟩) t.h c1,F (some ⟨b2,o2,none⟩) t.h c2] W fun e W'=>e=U (X #[K #[z D xn,z D xd],O ok])/\RaceI t (ownT T w 2) W'/\Frm t.S W W'):=fun W hz hI hA hB=>by
  have:=win_all t ht HP1.out HP2.out (ownT T w 2) (some ⟨b1,o1,none⟩) (some ⟨b2,o2,none⟩) c1 c2 W (dC hT hz) hI hA (by omega) hB (by omega)
  rw[ho]at this;rw[hxn,hxd,hok]
  exact this
 have HXN:=h_ hxn;have HXD:=h_ hxd;have HOK:=h_ hok;clear hI hA hB hlow hb0 hq1 hq2 hm1 hm2 hl1 hl2 hv ht hxn hxd hok ho HP1 HP2
 go_enter Tryz.func85,Tryz.ntmps85
 go_wp2_with (fail)
 generalize ((w.alloc (J #[F (some ⟨b1,o1,none⟩) n1 c1,F (some ⟨b2,o2,none⟩) n2 c2] 35)).alloc (J #[z D 0,z D 0] 45))=V at *
 refine CT1.out.mono ?_
 rintro e w' ⟨rfl,rfl⟩
 clear CT1;generalize own.sum=S1 at *;generalize other.sum=S2 at *
 by_cases hz1:S1=0
 ·have HR:Hid (R=some ⟨1,0⟩):=by unfold Hid;rw[HC.out,if_pos hz1]
  have b1':(S1==0)=true:=by simp[hz1]
  have HFZ:=HF;clear hz1;have c10:=HF.out.c1 0 rfl;have f10:=HF.out.f1 0 rfl;have c11:=HF.out.c1 1 rfl;have f11:=HF.out.f1 1 rfl
  go_wp2_with (fail)
  refine bodyPost_ret (v:=X #[K #[z D 1,z D 0],O true]) (by simp[results,Tryz.results85,go_sem,c10,c11,f10,f11]) rfl ⟨by rw[HR.out];rfl,?_,?_⟩
  ·refine RaceI.less (T:=ownT T w 2) ?_ (fun k hk=>.inl hk) HTS.out
   repeat (first|exact HI0.out|refine RaceI.alloc ?_ _|refine RaceI.stored ?_ _ (bh 1 rfl (by omega)) (HNS.out 1))
  ·repeat (first|exact HFZ.out.f|refine Frm.alloc ?_ _|refine Frm.ownSet ?_ (by omega) _)
 have b1':(S1==0)=false:=by simp[hz1]
 have HZ1:=h_ hz1;clear hz1;have c01:=HF.out.c0 1 rfl;have c10:=HF.out.c1 0 rfl;have f10:=HF.out.f1 0 rfl;have c11:=HF.out.c1 1 rfl;have f11:=HF.out.f1 1 rfl
 go_wp2_with (fail)
 refine CT2.out.mono ?_
 rintro e w' ⟨rfl,rfl⟩
 clear CT2
 by_cases hz2:S2=0
 ·have HR:Hid (R=some ⟨0,0⟩):=by unfold Hid;rw[HC.out,if_neg HZ1.out,if_pos hz2]
  have b2':(S2==0)=true:=by simp[hz2]
  have HFZ:=HF;clear hz2
  go_wp2_with (fail)
  refine bodyPost_ret (v:=X #[K #[z D 0,z D 0],O true]) (by simp[results,Tryz.results85,go_sem,c10,c11,f10,f11]) rfl ⟨by rw[HR.out];rfl,?_,?_⟩
  ·refine RaceI.less (T:=ownT T w 2) ?_ (fun k hk=>.inl hk) HTS.out
   repeat (first|exact HI0.out|refine RaceI.alloc ?_ _|refine RaceI.stored ?_ _ (bh 1 rfl (by omega)) (HNS.out 1))
  ·repeat (first|exact HFZ.out.f|refine Frm.alloc ?_ _|refine Frm.ownSet ?_ (by omega) _)
 have b2':(S2==0)=false:=by simp[hz2]
 have HR:Hid (R=o):=by unfold Hid;rw[HC.out,if_neg HZ1.out,if_neg hz2]
 clear hz2
 go_wp2_with (fail)
 clear c01 c10 f10 c11 f11
 refine bH 20 (fun i=>i==19) dsSolv (Frm t.S) (fun W=>RaceI t (ownT T w 2) W) (GL ([I (some ⟨t.bt,0,none⟩),I (some ⟨w.heap.size,0,none⟩),F (some ⟨b1,o1,none⟩) n1 c1,I (some ⟨t.bt,0,none⟩),I (some ⟨t.bt,0,none⟩),I (some ⟨t.bt,0,none⟩),I (some ⟨t.bt,2,none⟩),z D (t.h:Int),F (some ⟨b1,o1,none⟩) t.h c1,I (some ⟨w.heap.size,1,none⟩),F (some ⟨b2,o2,none⟩) n2 c2,I (some ⟨t.bt,0,none⟩),I (some ⟨t.bt,0,none⟩),I (some ⟨t.bt,0,none⟩),I (some ⟨t.bt,2,none⟩),z D (t.h:Int),F (some ⟨b2,o2,none⟩) t.h c2,X #[K #[z D xn,z D xd],O ok],K #[z D xn,z D xd],O ok].map Eqv)) (by kernel_rfl) (by kernel_rfl) (fun _ _ _ _ _ h=>h) (fun _ _ _ h1 h2=>Frm.trans h1 h2) (fun _=>Frm.refl _ _) stb_eqF ((Frm.refl _ _).drew) HI0.out.drew ?_ ?_ ?_
 ·intro i op hi hX ho a' W hW hIW hfar hdep
  have hi8:i=19:=by simpa using hX
  clear hfar hX hi;subst hi8
  simp at ho
  subst ho
  ·have d35:a'.tmps.getD 35 undef=_:=dp hdep 17
   exact⟨O ok,fun W'=>by simp only[execOp,Act.eval,d35];go_simp,rfl⟩
 ·intro i op hi hX ho a' W hW hIW hfar hdep
  have e0:a'.tmps.getD 0 undef=I (some ⟨t.bt,0,none⟩):=(fr hfar 0).trans rfl
  have e3:a'.tmps.getD 3 undef=I (some ⟨w.heap.size,0,none⟩):=(fr hfar 3).trans rfl
  have hi8:i=0\/i=1\/i=2\/i=3\/i=4\/i=5\/i=6\/i=7\/i=8\/i=9\/i=10\/i=11\/i=12\/i=13\/i=14\/i=15\/i=16\/i=17\/i=18:=by simp at hX;omega
  clear hfar hX hi
  rcases hi8 with rfl|rfl|rfl|rfl|rfl|rfl|rfl|rfl|rfl|rfl|rfl|rfl|rfl|rfl|rfl|rfl|rfl|rfl|rfl
  all_goals (simp at ho;subst ho)
  ·refine ilF ?_;simp only[execOp,Act.eval,e0];go_simp
  ·refine ilF ?_;simp only[execOp,Act.eval,e3];go_simp
  ·have d19:a'.tmps.getD 19 undef=_:=dp hdep 1
   have zz:=HF.out.frm hW;have z0:=zz.c0 0 rfl
   refine ilF ?_;simp only[execOp,Act.eval,d19];go_simp
  ·refine ilF ?_;simp only[execOp,Act.eval,e0];go_simp
  ·have d21:a'.tmps.getD 21 undef=_:=dp hdep 3
   refine ilF ?_;simp only[execOp,Act.eval,d21];go_simp
  ·have d22:a'.tmps.getD 22 undef=_:=dp hdep 4
   refine ilF ?_;simp only[execOp,Act.eval,d22];go_simp
  ·have d23:a'.tmps.getD 23 undef=_:=dp hdep 5
   refine ilF ?_;simp only[execOp,Act.eval,d23];go_simp
  ·have d24:a'.tmps.getD 24 undef=_:=dp hdep 6
   have z0:=hIW.tb 2 _ rfl
   refine ilF ?_;simp only[execOp,Act.eval,d24];go_simp
  ·have d20:a'.tmps.getD 20 undef=_:=dp hdep 2
   have d25:a'.tmps.getD 25 undef=_:=dp hdep 7
   refine ilF ?_;simp only[execOp,Act.eval,d20,d25];go_simp;intro hh;exact absurd hh (by omega)
  ·refine ilF ?_;simp only[execOp,Act.eval,e3];go_simp
  ·have d27:a'.tmps.getD 27 undef=_:=dp hdep 9
   have zz:=HF.out.frm hW;have z0:=zz.c0 1 rfl
   refine ilF ?_;simp only[execOp,Act.eval,d27];go_simp
  ·refine ilF ?_;simp only[execOp,Act.eval,e0];go_simp
  ·have d29:a'.tmps.getD 29 undef=_:=dp hdep 11
   refine ilF ?_;simp only[execOp,Act.eval,d29];go_simp
  ·have d30:a'.tmps.getD 30 undef=_:=dp hdep 12
   refine ilF ?_;simp only[execOp,Act.eval,d30];go_simp
  ·have d31:a'.tmps.getD 31 undef=_:=dp hdep 13
   refine ilF ?_;simp only[execOp,Act.eval,d31];go_simp
  ·have d32:a'.tmps.getD 32 undef=_:=dp hdep 14
   have z0:=hIW.tb 2 _ rfl
   refine ilF ?_;simp only[execOp,Act.eval,d32];go_simp
  ·have d28:a'.tmps.getD 28 undef=_:=dp hdep 10
   have d33:a'.tmps.getD 33 undef=_:=dp hdep 15
   refine ilF ?_;simp only[execOp,Act.eval,d28,d33];go_simp;intro hh;exact absurd hh (by omega)
  ·have d18:a'.tmps.getD 18 undef=_:=dp hdep 0
   have d26:a'.tmps.getD 26 undef=_:=dp hdep 8
   have d34:a'.tmps.getD 34 undef=_:=dp hdep 16
   refine .inr ⟨98,#[I (some ⟨t.bt,0,none⟩),F (some ⟨b1,o1,none⟩) t.h c1,F (some ⟨b2,o2,none⟩) t.h c2],by simp only[execOp,Act.eval,d18,d26,d34];go_simp,?_⟩
   refine(CW.out W (Nat.le_trans hzV.out hW.size) hIW ((HA.out.frm (hW.mono HSUB.out)).take hn1) ((HBo.out.frm (hW.mono HSUB.out)).take hn2)).mono ?_
   rintro e W' ⟨rfl,hI',hf'⟩
   exact⟨_,rfl,hf',hI',rfl⟩
  ·have d35:a'.tmps.getD 35 undef=_:=dp hdep 17
   refine ilF ?_;simp only[execOp,Act.eval,d35];go_simp
 intro v W hW hIW hg
 have g0:v 0=_:=gq hg 0
 have g1:v 1=_:=gq hg 1
 have g2:v 2=_:=gq hg 2
 have g3:v 3=_:=gq hg 3
 have g4:v 4=_:=gq hg 4
 have g5:v 5=_:=gq hg 5
 have g6:v 6=_:=gq hg 6
 have g7:v 7=_:=gq hg 7
 have g8:v 8=_:=gq hg 8
 have g9:v 9=_:=gq hg 9
 have g10:v 10=_:=gq hg 10
 have g11:v 11=_:=gq hg 11
 have g12:v 12=_:=gq hg 12
 have g13:v 13=_:=gq hg 13
 have g14:v 14=_:=gq hg 14
 have g15:v 15=_:=gq hg 15
 have g16:v 16=_:=gq hg 16
 have g17:v 17=_:=gq hg 17
 have g18:v 18=_:=gq hg 18
 have g19:v 19=_:=gq hg 19
 simp only[List.drop_succ_cons,List.drop_zero,putV,dsSolv,g0,g1,g2,g3,g4,g5,g6,g7,g8,g9,g10,g11,g12,g13,g14,g15,g16,g17,g18,g19,Act.put]
 clear g0 g1 g2 g3 g4 g5 g6 g7 g8 g9 g10 g11 g12 g13 g14 g15 g16 g17 g18 g19 hg;have HIW:=h_ hIW;have HFZ:=h_ (HF.out.frm hW);clear hIW hW HF HI0 CW HA HBo;have c10:=HFZ.out.c1 0 rfl;have f10:=HFZ.out.f1 0 rfl;have c11:=HFZ.out.c1 1 rfl;have f11:=HFZ.out.f1 1 rfl
 go_wp2_with (fail)
 refine bodyPost_ret (v:=X #[K #[z D xn,z D xd],O ok]) (by simp[results,Tryz.results85,go_sem,c10,c11,f10,f11]) rfl ⟨by rw[HR.out,HXN.out,HXD.out,HOK.out];rfl,?_,?_⟩
 ·refine RaceI.less (T:=ownT T w 2) ?_ (fun k hk=>.inl hk) HTS.out
  repeat (first|exact HIW.out|refine RaceI.alloc ?_ _|refine RaceI.stored ?_ _ (bh 1 rfl (by omega)) (HNS.out 1))
 ·repeat (first|exact HFZ.out.f|refine Frm.alloc ?_ _|refine Frm.ownSet ?_ (by omega) _)
def ApQ(lo m:Nat)(l:List Bd):RP:=fun v W=>∃A c,v=X #[F A l.length c,O true]/\PLs (fun k=>k<lo) W m A l.length l/\l.length<=c
theorem stb_apQ(lo m:Nat)(l:List Bd):Stb (ApQ lo m l):=fun _ _ _ ⟨A,c,h1,h2,h3⟩ hb=>⟨A,c,h1,h2.below hb,h3⟩
theorem sq_own{S:Nat->Prop}{w:World}{base:Nat}{e:TypeId}{A:Option Addr}{n c:Nat}{xs:List Int}(h:OwnS w base e (F A n c) xs)(hS:∀k,base<=k->¬S k):SQ S w A n xs/\n<=c:=by
 obtain⟨A',n',c',hv,hq,hc⟩:=PV.own h hS;injection hv with h1 h2 h3;subst h1 h2 h3
 exact⟨hq,hc⟩
theorem dW{P h ra rb C:Nat}{b:Bd}(hb:Sd P C b)(hP:P<=24)(ha:1<=ra/\ra<=1000)(hbb:1<=rb/\rb<=1000):(playsP P h b ra rb).length<=781250:=by
 have hd:=kg ha hbb
 have h1:∀ds∈dice ra rb,(longP P h [b] ds).1.length<=390625:=fun ds hds=>by
  refine Nat.le_trans (gY hP ds _) ?_
  rw[List.length_singleton,Nat.one_mul]
  exact Nat.le_trans (Nat.pow_le_pow_right (by omega) (hd ds hds).1) (by decide)
 unfold playsP
 by_cases e:ra=rb
 ·subst e
  rw[if_pos rfl];have h2:=cP (longP P h [b] [ra,ra,ra,ra]).1 []
  have h3:=h1 [ra,ra,ra,ra] (by rw[gt];simp)
  simp only[List.length_nil]at h2
  omega
 ·rw[if_neg e]
  have h3:=h1 [ra,rb] (by rw[fg e];simp)
  have h4:=h1 [rb,ra] (by rw[fg e];simp)
  generalize longP P h [b] [ra,rb]=L1 at *;generalize longP P h [b] [rb,ra]=L2 at *
  have hf:(ci L1 L2).length<=390625:=by
   unfold ci
   split
   ·have:=cP L1.1 [];simp only[List.length_nil]at this;omega
   ·simp
  unfold bothP
  split
  ·have:=cP L2.1 (ci L1 L2);omega
  ·omega
theorem Tryz.infoIv:(Tryz.prog.info? 47).map (fun i=>(i.zero,i.size,i.bytes))=some (some (K #[z D 0,z D 0,z D 0,z D 0]),4,32):=by kernel_rfl
def dsP1:Nat->Nat
 | 0=>22
 | 1=>23
 | 2=>24
 | 3=>25
 | 4=>26
 | 5=>27
 | 6=>28
 | 7=>21
 | 8=>29
 | 9=>30
 |_=>0
def dsP11:Nat->Nat
 | 0=>51
 | 1=>52
 | 2=>53
 | 3=>54
 | 4=>55
 | 5=>56
 | 6=>57
 | 7=>50
 | 8=>58
 | 9=>59
 | 10=>17
 |_=>0
def dsP12:Nat->Nat
 | 0=>61
 | 1=>62
 | 2=>63
 | 3=>64
 | 4=>65
 | 5=>66
 | 6=>67
 | 7=>60
 | 8=>68
 | 9=>69
 | 10=>19
 |_=>0
theorem dB(t:RT)(ht:t.Ok)(P tu:Nat)(hP:t.p=(P:Int))(hc3:t.c<=3)(htu:tu<=2)(IH:IvC t P tu):PlC t P tu:=by
 intro T own other A1 A2 n1 c1 n2 c2 ra rb w hT hI hA hB hsd hc1 hc2 hra hrb
 obtain⟨j0,hj,jz0,jz1,jz2⟩:=info_parts Tryz.infoIv;have hv:=aA ht.v
 have hP24:P<=24:=by omega
 have hc1':1<=t.c:=by omega
 have hs1:1<=t.s:=by omega
 have hs6:t.s<=6:=by omega
 have hh9:t.h<=1000:=by omega
 obtain⟨hq1,-,_⟩:=sq_bd hs1 hs6;have hlow:=hI.ltS;have HLOW:=h_ hlow;have HTT:=h_ hT;have HIH:=h_ IH
 have HVX:=fun(y:Iv) (tu':Nat) (b:Bd) (h:ivE t.s P t.h tu' b=some y)=>mn (P:=P) (h:=t.h) hq1 h
 have HVV:=h_ HVX
 have CAP0:∀W:World,Below w.heap.size w W->Calls Tryz.prog 101 #[(K #[z D t.p,z D (t.c:Int),z D (t.h:Int),z D (t.s:Int)]),(K #[F A1 n1 c1,F A2 n2 c2]),(K #[z D (ra:Int),z D (rb:Int)])] W fun e w'=>∃A k,e=U (X #[F A (playsP P t.h (own,other) ra rb).length k,O true])/\PLs (fun k=>k<W.heap.size) w' 4 A (playsP P t.h (own,other) ra rb).length (playsP P t.h (own,other) ra rb)/\(playsP P t.h (own,other) ra rb).length<=k/\Below W.heap.size W w':=fun W hw=>by
  have h9:=allPlays_any P t.h t.c ra rb (t.c:Int) (t.s:Int) A1 A2 n1 c1 n2 c2 own other W (hA.1.below hw) (hB.1.below hw) hsd (by omega) hP24 hh9 hra hrb
  rw[<-hP,fineR_small hsd hra.1 hrb.1 hc1' hc3]at h9
  refine h9.mono ?_
  rintro e w' ⟨q1,_,q3⟩
  obtain⟨A,k,e1,e2,e3⟩:=q1 rfl
  exact⟨A,k,e1,e2,e3,q3⟩
 have HF0:Hid (FrS t.S w ((w.alloc (J #[F A1 n1 c1,F A2 n2 c2] 35)).alloc (J #[z D (ra:Int),z D (rb:Int)] 37)) [[F A1 n1 c1,F A2 n2 c2],[z D (ra:Int),z D (rb:Int)]]):=((FrS.start w hlow).allocT (by simp) _ _).allocT (by simp) _ _
 have HBV:Hid (Below w.heap.size w ((w.alloc (J #[F A1 n1 c1,F A2 n2 c2] 35)).alloc (J #[z D (ra:Int),z D (rb:Int)] 37))):=((Below.refl _ _).alloc (Nat.le_refl _) _).alloc (by simp) _
 have HI0:=h_ (hI.below HBV.out)
 have hzV:((w.alloc (J #[F A1 n1 c1,F A2 n2 c2] 35)).alloc (J #[z D (ra:Int),z D (rb:Int)] 37)).heap.size=w.heap.size+2:=by simp
 have HSX:Hid (∀x∈playsP P t.h (own,other) ra rb,Sd P t.c x):=gU hsd hra.1 hrb.1;have HPLL:Hid ((playsP P t.h (own,other) ra rb).length<=781250):=dW hsd hP24 hra hrb
 have CAP:=h_ fun(W:World) (hW:Below ((w.alloc (J #[F A1 n1 c1,F A2 n2 c2] 35)).alloc (J #[z D (ra:Int),z D (rb:Int)] 37)).heap.size ((w.alloc (J #[F A1 n1 c1,F A2 n2 c2] 35)).alloc (J #[z D (ra:Int),z D (rb:Int)] 37)) W)=>CAP0 W (HBV.out.trans (hW.mono HBV.out.size))
 have HRES:Hid (plE t.s P t.h (ivE t.s P t.h tu) (own,other) (ra,rb)=mapO (fun x=>(ivE t.s P t.h tu (x.2,x.1)).bind (flipE (sq t.s))) (playsP P t.h (own,other) ra rb)):=rfl
 generalize plE t.s P t.h (ivE t.s P t.h tu) (own,other) (ra,rb)=RES at *;generalize playsP P t.h (own,other) ra rb=PL at *;clear hT hI hA hB hsd hlow HVX CAP0 IH hra hrb hP;have HF:=HF0;have HI:=HI0;clear HF0 HI0
 go_enter Tryz.func72,Tryz.ntmps72
 go_wp2_with (fail)
 generalize ((w.alloc (J #[F A1 n1 c1,F A2 n2 c2] 35)).alloc (J #[z D (ra:Int),z D (rb:Int)] 37))=V at *
 refine w_ 10 (fun i=>i==9) dsP1 [Eqv (I (some ⟨t.bt,0,none⟩)),Eqv (I (some ⟨t.bt,0,none⟩)),Eqv (I (some ⟨t.bt,0,none⟩)),Eqv (K #[z D t.p,z D (t.c:Int),z D (t.h:Int),z D (t.s:Int)]),Eqv (K #[F A1 n1 c1,F A2 n2 c2]),Eqv (K #[z D (ra:Int),z D (rb:Int)]),ApQ V.heap.size 4 PL,ApQ V.heap.size 4 PL,PlQ V.heap.size 4 PL,Eqv (O true)] (by repeat (first|exact AllStb.nil|refine AllStb.cons (by first|exact aY _|exact stb_apQ _ _ _|exact f9 _ _ _) ?_)) ?_ ?_ ?_
 ·intro i o hi hX ho a' W hW hIW hfar hdep
  have hi8:i=9:=by simpa[or_assoc]using hX
  clear hfar hX hi;subst hi8
  simp at ho
  subst ho
  ·obtain⟨Ae,ce,q7,-⟩:ApQ V.heap.size 4 PL (a'.tmps.getD 21 undef) W:=dp hdep 7
   exact⟨(O true),fun W'=>by simp only[execOp,Act.eval,q7];go_simp,rfl⟩
 ·intro i o hi hX ho a' W hW hIW hfar hdep
  have e0:a'.tmps.getD 0 undef=(I (some ⟨t.bt,0,none⟩)):=(fr hfar 0).trans rfl
  have e5:a'.tmps.getD 5 undef=(I (some ⟨w.heap.size,0,none⟩)):=(fr hfar 5).trans rfl
  have e6:a'.tmps.getD 6 undef=(I (some ⟨w.heap.size+1,0,none⟩)):=(fr hfar 6).trans rfl
  have hi8:i=0\/i=1\/i=2\/i=3\/i=4\/i=5\/i=6\/i=7\/i=8:=by simp at hX;omega
  clear hfar hX hi
  rcases hi8 with rfl|rfl|rfl|rfl|rfl|rfl|rfl|rfl|rfl
  all_goals (simp at ho;subst ho)
  ·refine il ?_;simp only[execOp,Act.eval,e0];go_simp
  ·have d1:a'.tmps.getD 22 undef=_:=dp hdep 0
   refine il ?_;simp only[execOp,Act.eval,d1];go_simp
  ·have d1:a'.tmps.getD 23 undef=_:=dp hdep 1
   refine il ?_;simp only[execOp,Act.eval,d1];go_simp
  ·have d1:a'.tmps.getD 24 undef=_:=dp hdep 2
   have y0:=(HI.out.below hW).tb 0 _ rfl;have y1:=(HI.out.below hW).tb 1 _ rfl;have y2:=(HI.out.below hW).tb 2 _ rfl;have y3:=(HI.out.below hW).tb 3 _ rfl
   refine il ?_;simp only[execOp,Act.eval,d1];go_simp
  ·have y0:=(HF.out.below hW).c0 0 rfl
   have y1:=(HF.out.below hW).c0 1 rfl
   refine il ?_;simp only[execOp,Act.eval,e5];go_simp
  ·have y0:=(HF.out.below hW).c1 0 rfl
   have y1:=(HF.out.below hW).c1 1 rfl
   refine il ?_;simp only[execOp,Act.eval,e6];go_simp
  ·have d1:a'.tmps.getD 25 undef=_:=dp hdep 3
   have d2:a'.tmps.getD 26 undef=_:=dp hdep 4
   have d3:a'.tmps.getD 27 undef=_:=dp hdep 5
   refine .inr ⟨101,#[(K #[z D t.p,z D (t.c:Int),z D (t.h:Int),z D (t.s:Int)]),(K #[F A1 n1 c1,F A2 n2 c2]),(K #[z D (ra:Int),z D (rb:Int)])],by simp only[execOp,Act.eval,d1,d2,d3];go_simp,?_⟩
   refine(CAP.out W hW).mono ?_
   rintro e W' ⟨Ae,ce,rfl,hpe,hce,hb'⟩
   exact⟨_,rfl,hb',trivial,Ae,ce,rfl,hpe.set (fun k hk=>.inl (Nat.lt_of_lt_of_le hk (Below.size hW))),hce⟩
  ·obtain⟨Ae,ce,q6,hpe,hce⟩:ApQ V.heap.size 4 PL (a'.tmps.getD 28 undef) W:=dp hdep 6
   have q6':=q6;rw[Array.getD_eq_getD_getElem?]at q6'
   exact .inl ⟨X #[F Ae PL.length ce,O true],W,by simp only[execOp,Act.eval,q6];go_simp,Bel.rfl' _,trivial,Ae,ce,rfl,hpe,hce⟩
  ·obtain⟨Ae,ce,q7,hpe,hce⟩:ApQ V.heap.size 4 PL (a'.tmps.getD 21 undef) W:=dp hdep 7
   have q7':=q7;rw[Array.getD_eq_getD_getElem?]at q7'
   exact .inl ⟨F Ae PL.length ce,W,by simp only[execOp,Act.eval,q7];go_simp,Bel.rfl' _,trivial,Ae,ce,rfl,hpe,hce⟩
 intro v w1 hW hIW hg
 have g0:v 0=_:=gq hg 0
 have g1:v 1=_:=gq hg 1
 have g2:v 2=_:=gq hg 2
 have g3:v 3=_:=gq hg 3
 have g4:v 4=_:=gq hg 4
 have g5:v 5=_:=gq hg 5
 obtain⟨_,_,g6,_,_⟩:ApQ V.heap.size 4 PL (v 6) w1:=hg 6 (by omega)
 obtain⟨_,_,g7,_,_⟩:ApQ V.heap.size 4 PL (v 7) w1:=hg 7 (by omega)
 obtain⟨A9,k9,g8,hp9,-⟩:PlQ V.heap.size 4 PL (v 8) w1:=hg 8 (by omega)
 have g9:v 9=_:=gq hg 9
 simp only[List.drop_succ_cons,List.drop_zero,putV,dsP1,g0,g1,g2,g3,g4,g5,g6,g7,g8,g9,Act.put]
 clear g0 g1 g2 g3 g4 g5 g6 g7 g8 g9 hg hIW;have HF1:=h_ (HF.out.below hW);have HI1:=h_ (HI.out.below hW);have HP1:=h_ hp9;have hz1:=Below.size hW;clear hp9 hW HF HI CAP;obtain⟨n,hn⟩:∃n,n=PL.length:=⟨_,rfl⟩;have HN:=h_ hn
 have hn6:n<=781250:=by rw[hn];exact HPLL.out
 rw[<-hn]at HP1 ⊢;clear hn
 go_wp2_with (fail)
 go_loopw [12,35] (fun v12 v35 wr=>∃(q:Nat) (L:List Iv),q<=n/\v35=z D q/\(∃vx,vx=v12/\Hid (wr.ownsRow w1.heap.size 47 4 vx L.length (ivCs L))/\Hid (RaceI t (wth T vx) wr))/\Hid (mapO (fun x=>(ivE t.s P t.h tu (x.2,x.1)).bind (flipE (sq t.s))) (PL.take q)=some L)/\Hid (Frm t.S w1 wr)/\Hid (FrS t.S w wr [[F A1 n1 c1,F A2 n2 c2],[z D (ra:Int),z D (rb:Int)]])) (fun _ v35 _=>n-(intOf v35).toNat)
 case atStart=>exact⟨0,[],by omega,rfl,⟨_,rfl,World.ownsRow_nil _ _ _ _,HI1.out.set (fun k hk=>hk.elim .inl (fun h=>by cases h)) (fun k hk=>.inl (HI1.out.sub k hk))⟩,rfl,Frm.refl _ _,HF1.out⟩
 case round=>
  clear HF1 HI1;obtain⟨q,L,hqn,rfl,⟨vx,rfl,HO,HI⟩,HM,HFX,HF⟩:=hrel;have hz1r:w1.heap.size<=wr.heap.size:=HFX.out.size
  by_cases hlt:q<n
  ·have hji:(q:Int)<(n:Int):=by omega
   have hqPL:q<PL.length:=by have:=HN.out;omega
   obtain⟨b,off,A0,n0,c0,E1,m1,kE1,E2,m2,kE2,rfl,hbl,hbs,y0,y1,y2,_,p1,r1,p2,r2⟩:=HP1.out.at hlt
   have hsub:∀k,t.S k->k<V.heap.size:=fun k hk=>by have:=HLOW.out k hk;omega
   have hnb:¬t.S b:=fun h9=>hbs (hsub b h9)
   have z0:=HFX.out.cell' y0 hnb;have z1:=HFX.out.cell' y1 hnb;have z2:=HFX.out.cell' y2 hnb;have HSn:=h_ (HSX.out _ (ak PL ([],[]) hqPL))
   have HMT:Hid (mapO (fun x=>(ivE t.s P t.h tu (x.2,x.1)).bind (flipE (sq t.s))) (PL.take (q+1))=(some L).bind fun xs=>((ivE t.s P t.h tu ((PL.getD q ([],[])).2,(PL.getD q ([],[])).1)).bind (flipE (sq t.s))).map fun x=>xs++[x]):=by
    unfold Hid;rw[eZ ([],[]) hqPL,HM.out]
   have HMS:Hid ((ivE t.s P t.h tu ((PL.getD q ([],[])).2,(PL.getD q ([],[])).1)).bind (flipE (sq t.s))=none->RES=none):=fun h9=>by
    rw[HRES.out]
    exact gX ([],[]) hqPL h9
   obtain⟨⟨o2,t2⟩,hbb⟩:∃bb,bb=PL.getD q ([],[]):=⟨_,rfl⟩;rw[<-hbb]at p1 p2 HSn HMT HMS
   simp only at p1 p2 HMT HMS
   have e1:m1=P+1:=by rw[<-p1.1.1];exact HSn.out.len1
   have e2:m2=P+1:=by rw[<-p2.1.1];exact HSn.out.len2
   have HQ1:=h_ (p1.frm (HFX.out.mono hsub)).1;have HQ2:=h_ (p2.frm (HFX.out.mono hsub)).1
   have CSW:Hid (∀W:World,Below wr.heap.size wr W->Calls Tryz.prog 140 #[K #[F E1 m1 kE1,F E2 m2 kE2]] W (RetBq W t2 o2)):=fun W hw=>swapped_any E1 E2 m1 kE1 m2 kE2 o2 t2 W (HQ1.out.below hw) (HQ2.out.below hw) (by omega) (by omega) (by omega) (by omega)
   have HBp:Hid (Below wr.heap.size wr (wr.alloc (J #[F A0 n0 c0,F E1 m1 kE1,F E2 m2 kE2] 85))):=(Below.refl _ _).alloc (Nat.le_refl _) _
   have HVO:Hid (∀k,vx.ownBlock=some k->w1.heap.size<=k/\k<wr.heap.size):=fun k hk=>World.ownsRow.lt HO.out k hk
   clear y0 y1 y2 p1 p2 r1 r2 hbb e1 e2 HQ1 HQ2 hnb
   go_wp2_with (fail)
   refine(CSW.out _ HBp.out).mono ?_
   rintro e w3 ⟨ga,k1,gb,k2,rfl,ho1,ho2,_,hb3⟩
   have HB3:Hid (Below wr.heap.size wr w3):=HBp.out.trans (hb3.mono HBp.out.size)
   have hz3:wr.heap.size+1<=w3.heap.size:=by have:=hb3.size;simpa using this
   have hzp:(wr.alloc (J #[F A0 n0 c0,F E1 m1 kE1,F E2 m2 kE2] 85)).heap.size=wr.heap.size+1:=by simp
   rw[hzp]at ho1 ho2;have HI3:=h_ (HI.out.below HB3.out);have HF3:=h_ (HF.out.below HB3.out);have HO3:=h_ (own_below HO.out HB3.out);have HFX3:Hid (Frm t.S w1 w3):=HFX.out.trans (Frm.of_below' _ HB3.out)
   have hTw:∀k,wr.heap.size<=k->¬wth T vx k:=fun k hk h9=>by
    rcases h9 with h9|h9
    ·exact HTT.out k (by omega) h9
    ·have:=(HVO.out k h9).2;omega
   obtain⟨qs1,qc1⟩:=sq_own (S:=wth T vx) ho1 (fun k hk=>hTw k (by omega))
   obtain⟨qs2,qc2⟩:=sq_own (S:=wth T vx) ho2 (fun k hk=>hTw k (by omega))
   have CIV:Hid (Calls Tryz.prog 74 #[(I (some ⟨t.bt,0,none⟩)),K #[F (some ⟨ga,0,none⟩) t2.length k1,F (some ⟨gb,0,none⟩) o2.length k2],z D (tu:Int)] w3 (RetIv t (wth T vx) w3 (ivE t.s P t.h tu (t2,o2)))):=
    HIH.out (wth T vx) t2 o2 (some ⟨ga,0,none⟩) (some ⟨gb,0,none⟩) t2.length k1 o2.length k2 w3 (fun k hk=>hTw k (by omega)) HI3.out qs1 qs2 ⟨HSn.out.2,HSn.out.1⟩ qc1 qc2
   have HTW:=h_ hTw;clear ho1 ho2 hb3 qs1 qs2 qc1 qc2 hzp HI HF HO HFX hTw CSW HBp HI3
   go_wp2_with (fail)
   refine CIV.out.mono ?_
   rintro e w4 ⟨hres,hI4,hF4⟩
   have hz4:w3.heap.size<=w4.heap.size:=hF4.size;have HF4:=h_ (HF3.out.frm hF4);have HI4:=h_ hI4
   have HO4:Hid (w4.ownsRow w1.heap.size 47 4 vx L.length (ivCs L)):=hF4.row HO3.out (fun k hk h9=>by have:=(HVO.out k hk).1;have:=HLOW.out k h9;omega)
   have HFX4:Hid (Frm t.S w1 w4):=HFX3.out.trans hF4;clear hI4 hF4 HF3 HO3 HFX3 CIV HB3
   cases hiv:ivE t.s P t.h tu (t2,o2)with
   |none=>
    rw[hiv]at hres HMS;obtain⟨x1,x2,x3,x4,rfl⟩:=hres
    have HRE:Hid (RetPi t T w RES (U (X #[F none 0 0,O false])) (w4.alloc (J #[z D x1,z D x2,z D x3,z D x4] 47))):=by
     rw[HMS.out rfl]
     exact⟨rfl,(HI4.out.less (fun k hk=>.inl hk) (fun k hk=>(HI4.out.sub k hk).elim id (fun h9=>absurd hk (fun h8=>by have:=(HVO.out k h9).1;have:=HLOW.out k h8;omega)))).alloc _,HF4.out.f.alloc _⟩
    clear HMT HMS hiv HI4 HF4 HO4 HFX4
    go_wp2_with (fail)
    go_ret2
    exact HRE.out
   |some y=>
    have HVY:=h_ (HVV.out y tu _ hiv);rw[hiv]at hres HMT HMS;obtain⟨⟨ln,ld⟩,⟨hn,hd⟩⟩:=y;replace hres:e=U (X #[K #[z D ln,z D (ld:Int),z D hn,z D (hd:Int)],O true]):=hres;subst hres
    have HMT2:Hid (mapO (fun x=>(ivE t.s P t.h tu (x.2,x.1)).bind (flipE (sq t.s))) (PL.take (q+1))=(flipE (sq t.s) (⟨ln,ld⟩,⟨hn,hd⟩)).map fun x=>L++[x]):=HMT.out
    have HMS2:Hid (flipE (sq t.s) (⟨ln,ld⟩,⟨hn,hd⟩)=none->RES=none):=HMS.out
    have HFL:Hid (flipE (sq t.s) (⟨ln,ld⟩,⟨hn,hd⟩)=(oneM (sq t.s) ⟨hn,hd⟩).bind fun lo=>(oneM (sq t.s) ⟨ln,ld⟩).map fun hi=>(lo,hi)):=rfl
    have HV1:=h_ HVY.out.1;have HV2:=h_ HVY.out.2
    simp only at HV1 HV2
    clear hiv HMT HMS HVY
    have CMA:=fun(W:World)=>eY t.p (t.c:Int) (t.h:Int) hn t.s hd W hs1 hs6 HV2.out
    have CMB:=fun(W:World)=>eY t.p (t.c:Int) (t.h:Int) ln t.s ld W hs1 hs6 HV1.out
    generalize oneM (sq t.s) ⟨hn,hd⟩=r1 at *;generalize oneM (sq t.s) ⟨ln,ld⟩=r2 at *;obtain⟨a1,ha1⟩:∃x:Int,x=(r1.getD ⟨0,0⟩).num:=⟨_,rfl⟩;obtain⟨b1,hb1⟩:∃x:Int,x=((r1.getD ⟨0,0⟩).depth:Int):=⟨_,rfl⟩;obtain⟨ok1,hok1⟩:∃x:Bool,x=r1.isSome:=⟨_,rfl⟩;obtain⟨a2,ha2⟩:∃x:Int,x=(r2.getD ⟨0,0⟩).num:=⟨_,rfl⟩;obtain⟨b2,hb2⟩:∃x:Int,x=((r2.getD ⟨0,0⟩).depth:Int):=⟨_,rfl⟩;obtain⟨ok2,hok2⟩:∃x:Bool,x=r2.isSome:=⟨_,rfl⟩
    have CM1:Hid (∀W:World,Calls Tryz.prog 141 #[(K #[z D t.p,z D (t.c:Int),z D (t.h:Int),z D (t.s:Int)]),K #[z D hn,z D (hd:Int)]] W fun e W'=>e=U (X #[K #[z D a1,z D b1],O ok1])/\Below W.heap.size W W'):=fun W=>by
     rw[ha1,hb1,hok1]
     exact CMA W
    have CM2:Hid (∀W:World,Calls Tryz.prog 141 #[(K #[z D t.p,z D (t.c:Int),z D (t.h:Int),z D (t.s:Int)]),K #[z D ln,z D (ld:Int)]] W fun e W'=>e=U (X #[K #[z D a2,z D b2],O ok2])/\Below W.heap.size W W'):=fun W=>by
     rw[ha2,hb2,hok2]
     exact CMB W
    have HE1:Hid (a1=(r1.getD ⟨0,0⟩).num/\b1=((r1.getD ⟨0,0⟩).depth:Int)/\ok1=r1.isSome):=⟨ha1,hb1,hok1⟩;have HE2:Hid (a2=(r2.getD ⟨0,0⟩).num/\b2=((r2.getD ⟨0,0⟩).depth:Int)/\ok2=r2.isSome):=⟨ha2,hb2,hok2⟩;clear CMA CMB ha1 hb1 hok1 ha2 hb2 hok2
    go_wp2_with (fail)
    obtain⟨V5,hV5⟩:∃W,W=w4.alloc (J #[z D ln,z D (ld:Int),z D hn,z D (hd:Int)] 47):=⟨_,rfl⟩;rw[<-hV5]
    have HB5:Hid (Below w4.heap.size w4 V5):=by rw[hV5];exact(Below.refl _ _).alloc (Nat.le_refl _) _
    have HCV5:Hid (Cel V5 w4.heap.size [z D ln,z D (ld:Int),z D hn,z D (hd:Int)]):=by rw[hV5];exact Cel.new w4 #[z D ln,z D (ld:Int),z D hn,z D (hd:Int)] 47
    have HIV5:=h_ (HI4.out.below HB5.out);clear hV5
    refine w_ 11 (fun i=>i==9) dsP11 [Eqv (I (some ⟨t.bt,0,none⟩)),Eqv (I (some ⟨t.bt,0,none⟩)),Eqv (I (some ⟨t.bt,0,none⟩)),Eqv (K #[z D t.p,z D (t.c:Int),z D (t.h:Int),z D (t.s:Int)]),Eqv (I (some ⟨w4.heap.size,2,none⟩)),Eqv (K #[z D hn,z D (hd:Int)]),Eqv (X #[(K #[z D a1,z D b1]),O ok1]),Eqv (X #[(K #[z D a1,z D b1]),O ok1]),Eqv (K #[z D a1,z D b1]),Eqv (O ok1),AlcD V5.heap.size 45 [z D 0,z D 0]] (by repeat (first|exact AllStb.nil|refine AllStb.cons (by first|exact aY _|exact bi _ _ _) ?_)) ?_ ?_ ?_
    ·intro i o hi hX ho a' W hW hIW hfar hdep
     have hi8:i=9:=by simpa[or_assoc]using hX
     clear hfar hX hi;subst hi8
     simp at ho
     subst ho
     ·have d1:a'.tmps.getD 50 undef=_:=dp hdep 7
      exact⟨(O ok1),fun W'=>by simp only[execOp,Act.eval,d1];go_simp,rfl⟩
    ·intro i o hi hX ho a' W hW hIW hfar hdep
     have e0:a'.tmps.getD 0 undef=(I (some ⟨t.bt,0,none⟩)):=(fr hfar 0).trans rfl
     have e15:a'.tmps.getD 15 undef=(I (some ⟨w4.heap.size,0,none⟩)):=(fr hfar 15).trans rfl
     have hi8:i=0\/i=1\/i=2\/i=3\/i=4\/i=5\/i=6\/i=7\/i=8\/i=10:=by simp at hX;omega
     clear hfar hX hi
     rcases hi8 with rfl|rfl|rfl|rfl|rfl|rfl|rfl|rfl|rfl|rfl
     all_goals (simp at ho;subst ho)
     ·refine il ?_;simp only[execOp,Act.eval,e0];go_simp
     ·have d1:a'.tmps.getD 51 undef=_:=dp hdep 0
      refine il ?_;simp only[execOp,Act.eval,d1];go_simp
     ·have d1:a'.tmps.getD 52 undef=_:=dp hdep 1
      refine il ?_;simp only[execOp,Act.eval,d1];go_simp
     ·have d1:a'.tmps.getD 53 undef=_:=dp hdep 2
      have y0:=(HIV5.out.below hW).tb 0 _ rfl;have y1:=(HIV5.out.below hW).tb 1 _ rfl;have y2:=(HIV5.out.below hW).tb 2 _ rfl;have y3:=(HIV5.out.below hW).tb 3 _ rfl
      refine il ?_;simp only[execOp,Act.eval,d1];go_simp
     ·refine il ?_;simp only[execOp,Act.eval,e15];go_simp
     ·have d1:a'.tmps.getD 55 undef=_:=dp hdep 4
      have y0:=(HCV5.out.below hW).cell 2 _ rfl;have y1:=(HCV5.out.below hW).cell 3 _ rfl
      refine il ?_;simp only[execOp,Act.eval,d1];go_simp
     ·have d1:a'.tmps.getD 54 undef=_:=dp hdep 3
      have d2:a'.tmps.getD 56 undef=_:=dp hdep 5
      refine .inr ⟨141,#[(K #[z D t.p,z D (t.c:Int),z D (t.h:Int),z D (t.s:Int)]),(K #[z D hn,z D (hd:Int)])],by simp only[execOp,Act.eval,d1,d2];go_simp,?_⟩
      refine(CM1.out W).mono ?_
      rintro e W' ⟨rfl,hb'⟩
      exact⟨_,rfl,hb',trivial,rfl⟩
     ·have d1:a'.tmps.getD 57 undef=_:=dp hdep 6
      refine il ?_;simp only[execOp,Act.eval,d1];go_simp
     ·have d1:a'.tmps.getD 50 undef=_:=dp hdep 7
      refine il ?_;simp only[execOp,Act.eval,d1];go_simp
     ·exact .inl ⟨I (some ⟨W.heap.size,0,none⟩),W.alloc (J #[z D 0,z D 0] 45),by kernel_rfl,Bel.alloc _ _,trivial,jv _ _ _ (Below.size hW)⟩
    intro v w6 hW hIW hg
    have g0:v 0=_:=gq hg 0
    have g1:v 1=_:=gq hg 1
    have g2:v 2=_:=gq hg 2
    have g3:v 3=_:=gq hg 3
    have g4:v 4=_:=gq hg 4
    have g5:v 5=_:=gq hg 5
    have g6:v 6=_:=gq hg 6
    have g7:v 7=_:=gq hg 7
    have g8:v 8=_:=gq hg 8
    have g9:v 9=_:=gq hg 9
    obtain⟨gx,g10,glgx,hAx,_⟩:AlcD V5.heap.size 45 [z D 0,z D 0] (v 10) w6:=hg 10 (by omega)
    simp only[List.drop_succ_cons,List.drop_zero,putV,dsP11,g0,g1,g2,g3,g4,g5,g6,g7,g8,g9,g10,Act.put]
    clear g0 g1 g2 g3 g4 g5 g6 g7 g8 g9 g10 hg hIW;have c0x:=hAx.cell 0 _ rfl;have c1x:=hAx.cell 1 _ rfl;have f0x:=hAx.froz 0 _ rfl;have f1x:=hAx.froz 1 _ rfl;have HAX:=h_ hAx;have HBW:=h_ hW;have HGL:=h_ glgx;clear hAx hW glgx
    go_wp2_with (fail)
    obtain⟨V6,hVn⟩:∃W,W=(w6.setCell ⟨gx,0,none⟩ (z D a1)).setCell ⟨gx,1,none⟩ (z D b1):=⟨_,rfl⟩;rw[<-hVn]
    have HBnV6:Hid (Below V5.heap.size V5 V6):=by rw[hVn];exact stw (stw HBW.out HGL.out) HGL.out
    have HXV6:Hid (Cel V6 gx [z D a1,z D b1]):=by rw[hVn];exact(HAX.out.st (i:=0) (v:=z D a1) (by simp)).st (i:=1) (v:=z D b1) (by simp)
    have HCV6:=h_ (HCV5.out.below HBnV6.out);have HIV6:=h_ (HIV5.out.below HBnV6.out);clear hVn HAX HBW HGL c0x c1x f0x f1x HIV5 HCV5
    refine w_ 11 (fun i=>i==9) dsP12 [Eqv (I (some ⟨t.bt,0,none⟩)),Eqv (I (some ⟨t.bt,0,none⟩)),Eqv (I (some ⟨t.bt,0,none⟩)),Eqv (K #[z D t.p,z D (t.c:Int),z D (t.h:Int),z D (t.s:Int)]),Eqv (I (some ⟨w4.heap.size,0,none⟩)),Eqv (K #[z D ln,z D (ld:Int)]),Eqv (X #[(K #[z D a2,z D b2]),O ok2]),Eqv (X #[(K #[z D a2,z D b2]),O ok2]),Eqv (K #[z D a2,z D b2]),Eqv (O ok2),AlcD V6.heap.size 45 [z D 0,z D 0]] (by repeat (first|exact AllStb.nil|refine AllStb.cons (by first|exact aY _|exact bi _ _ _) ?_)) ?_ ?_ ?_
    ·intro i o hi hX ho a' W hW hIW hfar hdep
     have hi8:i=9:=by simpa[or_assoc]using hX
     clear hfar hX hi;subst hi8
     simp at ho
     subst ho
     ·have d1:a'.tmps.getD 60 undef=_:=dp hdep 7
      exact⟨(O ok2),fun W'=>by simp only[execOp,Act.eval,d1];go_simp,rfl⟩
    ·intro i o hi hX ho a' W hW hIW hfar hdep
     have e0:a'.tmps.getD 0 undef=(I (some ⟨t.bt,0,none⟩)):=(fr hfar 0).trans rfl
     have e15:a'.tmps.getD 15 undef=(I (some ⟨w4.heap.size,0,none⟩)):=(fr hfar 15).trans rfl
     have hi8:i=0\/i=1\/i=2\/i=3\/i=4\/i=5\/i=6\/i=7\/i=8\/i=10:=by simp at hX;omega
     clear hfar hX hi
     rcases hi8 with rfl|rfl|rfl|rfl|rfl|rfl|rfl|rfl|rfl|rfl
     all_goals (simp at ho;subst ho)
     ·refine il ?_;simp only[execOp,Act.eval,e0];go_simp
     ·have d1:a'.tmps.getD 61 undef=_:=dp hdep 0
      refine il ?_;simp only[execOp,Act.eval,d1];go_simp
     ·have d1:a'.tmps.getD 62 undef=_:=dp hdep 1
      refine il ?_;simp only[execOp,Act.eval,d1];go_simp
     ·have d1:a'.tmps.getD 63 undef=_:=dp hdep 2
      have y0:=(HIV6.out.below hW).tb 0 _ rfl;have y1:=(HIV6.out.below hW).tb 1 _ rfl;have y2:=(HIV6.out.below hW).tb 2 _ rfl;have y3:=(HIV6.out.below hW).tb 3 _ rfl
      refine il ?_;simp only[execOp,Act.eval,d1];go_simp
     ·refine il ?_;simp only[execOp,Act.eval,e15];go_simp
     ·have d1:a'.tmps.getD 65 undef=_:=dp hdep 4
      have y0:=(HCV6.out.below hW).cell 0 _ rfl;have y1:=(HCV6.out.below hW).cell 1 _ rfl
      refine il ?_;simp only[execOp,Act.eval,d1];go_simp
     ·have d1:a'.tmps.getD 64 undef=_:=dp hdep 3
      have d2:a'.tmps.getD 66 undef=_:=dp hdep 5
      refine .inr ⟨141,#[(K #[z D t.p,z D (t.c:Int),z D (t.h:Int),z D (t.s:Int)]),(K #[z D ln,z D (ld:Int)])],by simp only[execOp,Act.eval,d1,d2];go_simp,?_⟩
      refine(CM2.out W).mono ?_
      rintro e W' ⟨rfl,hb'⟩
      exact⟨_,rfl,hb',trivial,rfl⟩
     ·have d1:a'.tmps.getD 67 undef=_:=dp hdep 6
      refine il ?_;simp only[execOp,Act.eval,d1];go_simp
     ·have d1:a'.tmps.getD 60 undef=_:=dp hdep 7
      refine il ?_;simp only[execOp,Act.eval,d1];go_simp
     ·exact .inl ⟨I (some ⟨W.heap.size,0,none⟩),W.alloc (J #[z D 0,z D 0] 45),by kernel_rfl,Bel.alloc _ _,trivial,jv _ _ _ (Below.size hW)⟩
    intro v w7 hW hIW hg
    have g0:v 0=_:=gq hg 0
    have g1:v 1=_:=gq hg 1
    have g2:v 2=_:=gq hg 2
    have g3:v 3=_:=gq hg 3
    have g4:v 4=_:=gq hg 4
    have g5:v 5=_:=gq hg 5
    have g6:v 6=_:=gq hg 6
    have g7:v 7=_:=gq hg 7
    have g8:v 8=_:=gq hg 8
    have g9:v 9=_:=gq hg 9
    obtain⟨gy,g10,glgy,hAy,_⟩:AlcD V6.heap.size 45 [z D 0,z D 0] (v 10) w7:=hg 10 (by omega)
    simp only[List.drop_succ_cons,List.drop_zero,putV,dsP12,g0,g1,g2,g3,g4,g5,g6,g7,g8,g9,g10,Act.put]
    clear g0 g1 g2 g3 g4 g5 g6 g7 g8 g9 g10 hg hIW;have c0x:=hAy.cell 0 _ rfl;have c1x:=hAy.cell 1 _ rfl;have f0x:=hAy.froz 0 _ rfl;have f1x:=hAy.froz 1 _ rfl;have HAX:=h_ hAy;have HBW:=h_ hW;have HGL:=h_ glgy;clear hAy hW glgy
    go_upto_region 13 with (fail)
    obtain⟨V7,hVn⟩:∃W,W=(w7.setCell ⟨gy,0,none⟩ (z D a2)).setCell ⟨gy,1,none⟩ (z D b2):=⟨_,rfl⟩;rw[<-hVn]
    have HBnV7:Hid (Below V6.heap.size V6 V7):=by rw[hVn];exact stw (stw HBW.out HGL.out) HGL.out
    have HXV7:Hid (Cel V7 gy [z D a2,z D b2]):=by rw[hVn];exact(HAX.out.st (i:=0) (v:=z D a2) (by simp)).st (i:=1) (v:=z D b2) (by simp)
    have HIV7:=h_ (HIV6.out.below HBnV7.out);clear hVn HAX HBW HGL c0x c1x f0x f1x HIV6 HCV6;have HB47:Hid (Below w4.heap.size w4 V7):=HB5.out.trans ((HBnV6.out.trans (HBnV7.out.mono HBnV6.out.size)).mono HB5.out.size);have HGX:=h_ (HXV6.out.below HBnV7.out);have HF7:=h_ (HF4.out.below HB47.out);have HFX7:Hid (Frm t.S w1 V7):=HFX4.out.trans (Frm.of_below' _ HB47.out);have HO7:=h_ (own_below HO4.out HB47.out);have hz7:w4.heap.size<=V7.heap.size:=HB47.out.size
    have HNO:Hid (∀k,some k=vx.ownBlock->¬t.S k):=fun k hk h9=>by have:=(HVO.out k hk.symm).1;have:=HLOW.out k h9;omega
    have HRN:Hid (RES=none->RetPi t T w RES (U (X #[F none 0 0,O false])) V7):=fun h9=>by
     rw[h9]
     exact⟨rfl,HIV7.out.less (fun k hk=>.inl hk) (fun k hk=>(HIV7.out.sub k hk).elim id (fun h9=>absurd hk (HNO.out k h9.symm))),HF7.out.f⟩
    clear HB5 HBnV6 HBnV7 HXV6 HF4 HFX4 HO4 HI4 CM1 CM2
    rcases r1 with _|e1
    ·have hk:ok1=false:=HE1.out.2.2;subst hk
     have HRE:=h_ (HRN.out (HMS2.out (by rw[HFL.out];rfl)))
     clear HRN HMS2 HFL HMT2
     rcases ok2 with _|_
     ·go_wp2_with (fail)
      go_ret2
      exact HRE.out
     ·go_wp2_with (fail)
      go_ret2
      exact HRE.out
    ·have hk:ok1=true:=HE1.out.2.2;subst hk
     rcases r2 with _|e2
     ·have hk:ok2=false:=HE2.out.2.2;subst hk
      have HRE:=h_ (HRN.out (HMS2.out (by rw[HFL.out];rfl)))
      clear HRN HMS2 HFL HMT2
      go_wp2_with (fail)
      go_ret2
      exact HRE.out
     ·have hk:ok2=true:=HE2.out.2.2;subst hk
      have HM2:Hid (mapO (fun x=>(ivE t.s P t.h tu (x.2,x.1)).bind (flipE (sq t.s))) (PL.take (q+1))=some (L++[(e1,e2)])):=by
       unfold Hid
       rw[HMT2.out,HFL.out];rfl
      have HEC:Hid (ivCs (L++[(e1,e2)])=ivCs L++[z D a1,z D b1,z D a2,z D b2]):=by
       unfold Hid;rw[ivCs_snoc];have q1:a1=e1.num:=HE1.out.1;have q2:b1=(e1.depth:Int):=HE1.out.2.1;have q3:a2=e2.num:=HE2.out.1;have q4:b2=(e2.depth:Int):=HE2.out.2.1
       rw[q1,q2,q3,q4];rfl
      have HLL:Hid (L.length<=781250):=by
       have h9:=bN HM.out;rw[List.length_take]at h9
       unfold Hid;omega
      have HROW:Hid ((V7.alloc (J #[z D a1,z D b1,z D a2,z D b2] 47)).ownsRow w1.heap.size 47 4 vx L.length (ivCs L)):=World.ownsRow.alloc HO7.out _
      have HNW:Hid (∀j u,[z D a1,z D b1,z D a2,z D b2][j]? =some u->(V7.alloc (J #[z D a1,z D b1,z D a2,z D b2] 47)).cell? ((⟨V7.heap.size,0,none⟩:Addr).add j)=some u):=fun j u hj=>by
       have h9:=(Cel.new V7 #[z D a1,z D b1,z D a2,z D b2] 47).cell j u hj;unfold Addr.add
       split
       ·rename_i h0;rw[h0]at h9;exact h9
       ·rw[Nat.zero_add];exact h9
      have x0:=HGX.out.cell 0 _ rfl;have x1:=HGX.out.cell 1 _ rfl;have x2:=HXV7.out.cell 0 _ rfl;have x3:=HXV7.out.cell 1 _ rfl
      have hzb:w1.heap.size<=(V7.alloc (J #[z D a1,z D b1,z D a2,z D b2] 47)).heap.size:=by simp;omega
      clear HMT2 HFL HMS2 HRN HM
      go_wp2_with (at_builtin;(refine wpList_append_own_at _ rfl _ _ 30 rfl w1.heap.size 47 j0 (K #[z D 0,z D 0,z D 0,z D 0]) 4 32 Tryz.underlying30 hj jz0 jz1 jz2 rfl (by decide) _ _ _ rfl HROW.out ⟨V7.heap.size,0,none⟩ 1 1 [z D a1,z D b1,z D a2,z D b2] rfl rfl HNW.out (fun u hu=>by simp at hu;rcases hu with rfl|rfl|rfl|rfl<;>rfl) (by have:=HLL.out;unfold maxLen;omega) (by have:=HLL.out;omega) hzb ?_);intro v' w8 hown hgrow _ hat)
      have hba:Below V7.heap.size V7 (V7.alloc (J #[z D a1,z D b1,z D a2,z D b2] 47)):=(Below.refl _ _).alloc (Nat.le_refl _) _
      have HO8:Hid (w8.ownsRow w1.heap.size 47 4 v' (L++[(e1,e2)]).length (ivCs (L++[(e1,e2)]))):=by
       unfold Hid;rw[HEC.out,List.length_append]
       exact hown
      have HI8:Hid (RaceI t (wth T v') w8):=(HIV7.out.below hba).grew hgrow hat HNO.out
      have HFX8:Hid (Frm t.S w1 w8):=(HFX7.out.trans (Frm.of_below' _ hba)).outs' (Frm.of_grown hgrow) (fun k hk=>.inr (HVO.out k hk.symm).1)
      have HF8:Hid (FrS t.S w w8 [[F A1 n1 c1,F A2 n2 c2],[z D (ra:Int),z D (rb:Int)]]):=(HF7.out.below hba).out (Frm.of_grown hgrow) (fun k hk=>by have:=(HVO.out k hk.symm).1;simp;omega)
      clear hown hgrow hat hba HROW HNW HIV7 HFX7 HF7 HO7
      exact⟨⟨q+1,L++[(e1,e2)],by omega,by go_num,⟨v',rfl,HO8,HI8⟩,HM2,HFX8,HF8⟩,by simp[intOf];omega⟩
  ·have hji:¬(q:Int)<(n:Int):=by omega
   have HRE:Hid (RetPi t T w RES (U (X #[vx,O true])) wr):=by
    have h9:=HM.out
    rw[List.take_of_length_le (by have:=HN.out;omega)]at h9
    rw[HRES.out,h9]
    exact⟨⟨vx,rfl,aH HO.out (by omega)⟩,HI.out.less (fun k hk=>.inl hk) (fun k hk=>(HI.out.sub k hk).elim id (fun h9=>absurd hk (fun h8=>by have:=(World.ownsRow.lt HO.out k h9).1;have:=HLOW.out k h8;omega))),HF.out.f⟩
   clear HO HI HM HFX HF
   go_wp2_with (fail)
   go_ret2
   exact HRE.out
end Go.Proofs.YtcmeoenkgmghkaaGreat

/- Part of one proof. There are no conditions. -/
import Derived.Test.YtcmeoenkgmghkaaGreatON37
set_option maxHeartbeats 0
set_option linter.unusedVariables false
set_option linter.unusedSimpArgs false
set_option maxRecDepth 100000
open Go.IntKind renaming i64->C
open Go.Obj renaming cells->D
open Go.Value renaming bool->F,slice->I,tuple->J,agg->L,pointer->R
open Go.Ending renaming returned->Q
open Go renaming World->jz,Value->j0,bodyPost_ret->j1
open Go.Act renaming eval->j2
open Nat renaming le_refl->qa
open Go.RowKit.Below renaming refl->qb
open Go.World.ownsRow renaming lt->qc
open Go.Proofs.Tryz renaming prog->qd
namespace Go.Proofs.YtcmeoenkgmghkaaGreat
open Go.RowKit Ps Ra Ex Go.Maps
theorem Tryz.infoE:(Tryz.prog.info? 45).map (fun i=>(i.zero,i.size,i.bytes))=some (some (L #[.int C 0,.int C 0]),2,16):=by kernel_rfl
theorem allS_val{B:Int}{g:Nat×Nat->Option E}(hg:∀r x,g r=some x->Val B x){l:List (Nat×Nat)}:∀{xs:List E},allS g l=some xs->∀x∈xs,Val B x:=by
 induction l using bw with
 |nil=>intro xs h x hx;unfold allS at h;simp at h;subst h;simp at hx
 |snoc l r ih=>
  intro xs h x hx
  rw[cU]at h
  rcases hs:allS g l with _|u
  ·rw[hs]at h;cases h
  ·rw[hs]at h
   rcases hr:g r with _|y
   ·rw[hr]at h;cases h
   ·rw[hr]at h
    simp only[Option.bind_some,Option.map_some,Option.some.injEq]at h
    subst h
    rcases List.mem_append.1 hx with hx|hx
    ·exact ih hs x hx
    ·have:x=y:=by simpa using hx
     rw[this];exact hg r y hr
theorem allS_stop{g:Nat×Nat->Option E}{l:List (Nat×Nat)}{k:Nat}(hk:k<l.length){xs:List E}(hs:allS g (l.take k)=some xs)(hr:g (l.getD k (0,0))=none):allS g l=none:=by
 have h1:allS g (l.take (k+1))=none:=by rw[aG l (0,0) hk,cU,hs,hr];rfl
 have:=allS_none (k:=l.drop (k+1)) h1
 rwa [List.take_append_drop]at this
theorem allS_go{g:Nat×Nat->Option E}{l:List (Nat×Nat)}{k:Nat}(hk:k<l.length){xs:List E}{x:E}(hs:allS g (l.take k)=some xs)(hr:g (l.getD k (0,0))=some x):allS g (l.take (k+1))=some (xs++[x]):=by
 rw[aG l (0,0) hk,cU,hs,hr];rfl
noncomputable def rollE(s:Nat)(own other:List Int)(r:Nat×Nat):Option E:=(Ra.best s own other r).map fun t=>t.2.2
theorem dT(s:Nat)(own other:List Int)(a b:Nat):rollE s own other (a,b)=(bestS (sq s) (sec s other) (resultsL own a b)).map fun t=>t.2.2:=rfl
theorem rollE_val{s:Nat}(hB:1<=sq s)(own other:List Int)(r:Nat×Nat)(x:E)(h:rollE s own other r=some x):Val (sq s) x:=by
 obtain⟨a,b⟩:=r;rw[dT]at h
 rcases hb:bestS (sq s) (sec s other) (resultsL own a b)with _|u
 ·rw[hb]at h;cases h
 ·rw[hb]at h
  simp only[Option.map_some,Option.some.injEq]at h
  subst h
  exact kj hB (fun q x h=>sec_val hB h) hb
def OwnE(w:jz)(base:Nat)(v:j0)(xs:List E):Prop:=w.ownsRow base 45 2 v xs.length (exC xs)
theorem OwnE.el{w:jz}{base:Nat}{v:j0}{xs:List E}(h:OwnE w base v xs):∃A c,v=I A xs.length c/\EL (fun _=>False) w A xs.length xs/\xs.length<=c:=by
 obtain⟨A,c,hv,hs,hc⟩:=aY (S:=fun _=>False) h (fun k hk h=>h) (by omega)
 exact⟨A,c,hv,⟨rfl,hs⟩,hc⟩
theorem wth_low{v:j0}{base:Nat}{t:RT}{w:jz}{n:Nat}{cs:List j0}{e:TypeId}{z:Nat}(hr:w.ownsRow base e z v n cs)(hs:∀k,t.S k->k<base):∀k,some k=v.ownBlock->¬t.S k:=fun k hk h=>by
 have:=(qc hr k hk.symm).1;have:=hs k h
 omega
theorem RaceI.grew{t:RT}{T:Nat->Prop}{w w1:jz}{v v':j0}(h:RaceI t (wth T v) w)(hg:w.grownBy w1 v.ownBlock)(hat:v'.ownBlock=v.ownBlock\/v'.ownBlock=some w.heap.size)(hn:∀k,some k=v.ownBlock->¬t.S k):RaceI t (wth T v') w1:=by
 have h1:=h.set (T':=fun k=>wth T v k\/wth T v' k) (fun k hk=>hk.elim .inl (jw hat k)) (fun k hk=>.inl (h.sub k hk))
 have h2:=h1.own (Frm.of_grown hg) (fun k hk=>.inl (.inr hk.symm)) hn
 exact h2.less (fun k hk=>.inr hk) (fun k hk=>by
  have h3:=h.sub k hk
  rcases h3 with h3|h3
  ·exact .inl h3
  ·exact absurd hk (hn k h3.symm))
theorem compute_any(t:RT)(ht:t.Ok){own other:List Int}(hq:PosP t.h t.c own)(hq2:PosP t.h t.c other)(hs0:own.sum≠0)(ht0:other.sum≠0)(hwin:∀q,PosP t.h t.c q->pips q<pips own->WinC t other q)
  (T:Nat->Prop) (A B:Option Addr) (ca cb:Nat) (w:jz) (hT:∀k,w.heap.size<=k->¬T k) (hI:RaceI t T w) (hA:SQ T w A t.h own) (hca:t.h<=ca) (hB:SQ T w B t.h other) (hcb:t.h<=cb):
  Calls qd 167 #[R (some ⟨t.bt,0,none⟩),I A t.h ca,I B t.h cb] w (RetWn t T w (win t.s own other)):=by
 obtain⟨i0,hi,hz0,hz1,hz2⟩:=info_parts Tryz.infoE;have hv:=aA ht.v
 have hs1:1<=t.s:=by omega
 have hs6:t.s<=6:=by omega
 obtain⟨hq1,-,_⟩:=sq_bd hs1 hs6;have hlow:=hI.ltS;have HLOW:=h_ hlow;have HSUB:=h_ hI.sub
 have HNS:Hid (¬t.S w.heap.size):=fun h=>by have:=hlow _ h;omega
 have HF0:Hid (FrS t.S w (w.alloc (D #[.int C 0,.int C 0] 45)) [[.int C 0,.int C 0]]):=(FrS.start w hlow).allocT (by simp) _ _
 have hb0:Below w.heap.size w (w.alloc (D #[.int C 0,.int C 0] 45)):=(qb _ _).alloc (qa _) _
 have HI0:Hid (RaceI t (wth (ownT T w 1) (I none 0 0)) (w.alloc (D #[.int C 0,.int C 0] 45))):=((hI.wide 1).below hb0).less (fun k hk=>hk.elim id fun h=>by cases h) (fun k hk=>.inl (.inl (hI.sub k hk)))
 have HA:=h_ (hA.set (S':=fun k=>T k\/w.heap.size<=k) fun k hk=>hk)
 have HB:=h_ (hB.set (S':=fun k=>T k\/w.heap.size<=k) fun k hk=>hk)
 have HT:=h_ hT;have HWIN:Hid (win t.s own other=(allS (rollE t.s own other) (ah t.s)).bind (meanE (sq t.s) (ah t.s))):=win_eq hq hq2 hs0 ht0;have HVAL:=h_ (rollE_val hq1 own other);have HR:=h_ ht.r
 have hnr21:t.nr<=21:=by rw[<-ht.r];exact cN hs6
 have CBEST:Hid (∀(k a b:Nat),k<t.nr->(ah t.s).getD k (0,0)=(a,b)->∀(T:Nat->Prop) (w:jz),(∀k,w.heap.size<=k->¬T k)->RaceI t T w->SQ T w A t.h own->SQ T w B t.h other->
   Calls qd 202 #[R (some ⟨t.bt,0,none⟩),I A t.h ca,I B t.h cb,.int C (k:Int)] w (RetBest t T w (resultsL own a b) (bestS (sq t.s) (sec t.s other) (resultsL own a b)))):=fun k a b hk hab T w hT hI hA hB=>by
  have hr:=bC.1 (ak (ah t.s) (0,0) (k:=k) (by rw[ht.r];exact hk))
  rw[hab]at hr;obtain⟨r1,r2,r3⟩:=hr
  simp only at r1 r2 r3
  exact best_any t ht hq hs0 k a b hk hab (fun q hqm=>second_any t ht (hwin q (bi (by omega) r1 hq q hqm).1 ((bi (by omega) r1 hq q hqm).2.2 hs0))) T A B ca cb w hT hI hA hca hB hcb
 have MEAN:=h_ fun(W:jz) (A:Option Addr) (c0:Nat) (xs:List E) (hx:EL (fun _=>False) W A t.nr xs) (hval:∀x∈xs,Val (sq t.s) x)=>eD t.p t.c t.h t.s t.nr c0 A xs W ht.v hx ht.r hval
 clear hT hI hA hB hv hlow hb0 hq hq2 hs0 ht0 hwin ht;generalize hTT:ownT T w 1=T' at *
 have HTN:Hid (∀(W:jz) (v:j0) (xs:List E),w.heap.size+1<=W.heap.size->OwnE W (w.heap.size+1) v xs->∀k,W.heap.size<=k->¬wth T' v k):=fun W v xs hz ho k hk=>by
  rintro(h|h)
  ·rw[<-hTT]at h;exact dF HT.out hz k hk h
  ·have:=(qc ho k h).2;omega
 have HSU:Hid (∀k,t.S k->T k\/w.heap.size<=k):=fun k hk=>.inl (HSUB.out k hk)
 have HTT:=h_ hTT;clear hTT;have e5:=HI0.out.tb 5 _ rfl
 go_enter Tryz.func167,Tryz.ntmps167
 go_wp2_with (fail)
 go_loopw [8,18] (fun v8 v18 wr=>∃(k:Nat) (xs:List E),k<=t.nr/\v18= .int C k/\Hid (allS (rollE t.s own other) ((ah t.s).take k)=some xs/\xs.length=k)/\(∃vx,vx=v8/\Hid (OwnE wr (w.heap.size+1) vx xs/\RaceI t (wth T' vx) wr))/\Hid (FrS t.S w wr [[.int C 0,.int C 0]])) (fun _ v18 _=>t.nr-(intOf v18).toNat)
 case atStart=>exact⟨0,[],by omega,rfl,⟨rfl,rfl⟩,⟨_,rfl,World.ownsRow_nil _ _ _ _,HI0.out⟩,HF0.out⟩
 case round=>
  clear e5 HI0 HF0;obtain⟨k,xs,hk,rfl,hxs,⟨vx,rfl,hOI⟩,HF⟩:=hrel;have HI:=h_ hOI.out.2;have HO:=h_ hOI.out.1;clear hOI;have hxk:=hxs.out.2;have HXK:=h_ hxk;clear hxk
  by_cases hlt:k<t.nr
  ·have hki:(k:Int)<(t.nr:Int):=by omega
   have hzr:w.heap.size+1<=wr.heap.size:=by have:=HF.out.z;simpa using this
   have hUU:∀j,wth T' vx j->T j\/w.heap.size<=j:=fun j hj=>by
    rcases hj with h|h
    ·rw[<-HTT.out]at h
     exact h.imp id fun h=>h.1
    ·have:=(qc HO.out j h).1;omega
   have hfu:Frm (fun k=>T k\/w.heap.size<=k) w wr:=HF.out.f.mono HSU.out
   have HLK:Hid (k<(ah t.s).length):=by unfold Hid;rw[HR.out];exact hlt
   have hsl:∀j,t.S j->j<w.heap.size+1:=fun j hj=>by have:=HLOW.out j hj;omega
   have HNR:=h_ (wth_low HO.out hsl)
   rcases hab:(ah t.s).getD k (0,0)with⟨a,b⟩
   have CB:=h_ (CBEST.out k a b hlt hab (wth T' vx) wr (HTN.out wr vx xs hzr HO.out) HI.out ((HA.out.frm hfu).less hUU) ((HB.out.frm hfu).less hUU))
   rcases hbs:bestS (sq t.s) (sec t.s other) (resultsL own a b)with _|⟨cnt,at',⟨xn,xd⟩⟩
   ·have HRE:Hid (win t.s own other=none):=by
     unfold Hid
     rw[HWIN.out,allS_stop HLK.out hxs.out.1 (by rw[hab,dT,hbs];rfl)];rfl
    rw[hbs]at CB;clear hab hbs hfu hUU hsl
    go_wp2_with (fail)
    refine CB.out.mono ?_
    rintro e w2 ⟨hI2,hf2,rfl⟩
    have HF2:=h_ (HF.out.frm hf2);have HI2:=h_ hI2;clear hI2 hf2 HF HI HO CB
    have z0:=HF2.out.l0 (by simp)
    have c00:=HF2.out.c0 0 rfl;have f00:=HF2.out.f0 0 rfl;have c01:=HF2.out.c0 1 rfl;have f01:=HF2.out.f0 1 rfl
    go_wp2_with (fail)
    refine j1 (v:=J #[L #[.int C 0,.int C 0],F false]) (by simp[results,Tryz.results167,go_sem,c00,c01,z0,f00,f01]) rfl (RetWn.mkN HRE.out ?_ ?_)
    ·refine RaceI.less (T:=wth T' vx) ?_ (fun j hj=>by rw[<-HTT.out];exact .inl (.inl hj)) HSUB.out
     repeat (first|exact HI2.out|refine RaceI.alloc ?_ _|refine RaceI.stored ?_ _ (by rw[<-HTT.out];exact .inl (bj 0 rfl (by omega))) HNS.out)
    ·repeat (first|exact HF2.out.f|refine Frm.alloc ?_ _|refine Frm.ownSet ?_ (by omega) _)
   ·have HXS:Hid (allS (rollE t.s own other) ((ah t.s).take (k+1))=some (xs++[⟨xn,xd⟩])):=allS_go HLK.out hxs.out.1 (by rw[hab,dT,hbs];rfl)
    rw[hbs]at CB;clear hab hbs hfu hUU hsl
    go_wp2_with (fail)
    refine CB.out.mono ?_
    rintro e w2 ⟨hI2,hf2,vb,rfl,_⟩
    have HF3:Hid (FrS t.S w ((w2.alloc (D #[.int C xn,.int C (xd:Int)] 45)).alloc (D #[.int C xn,.int C (xd:Int)] 45)) [[.int C 0,.int C 0]]):=((HF.out.frm hf2).alloc _).alloc _;have HI3:Hid (RaceI t (wth T' vx) ((w2.alloc (D #[.int C xn,.int C (xd:Int)] 45)).alloc (D #[.int C xn,.int C (xd:Int)] 45))):=(hI2.alloc _).alloc _
    have HROW:Hid (((w2.alloc (D #[.int C xn,.int C (xd:Int)] 45)).alloc (D #[.int C xn,.int C (xd:Int)] 45)).ownsRow (w.heap.size+1) 45 2 vx xs.length (exC xs)):=
     row_alloc (row_alloc (hf2.row HO.out fun j hj=>HNR.out j hj.symm) _) _
    have HVL:=h_ fun(j:Nat) (hj:vx.ownBlock=some j)=>qc HO.out j hj
    have hzs:=h_ (Nat.le_trans hzr hf2.size);clear hI2 hf2 HF HI HO CB;have hzq:w.heap.size+1<=w2.heap.size:=hzs.out
    have hTN:Hid (∀j u,[Value.int C xn,.int C (xd:Int)][j]? =some u->((w2.alloc (D #[.int C xn,.int C (xd:Int)] 45)).alloc (D #[.int C xn,.int C (xd:Int)] 45)).cell? ((⟨w2.heap.size+1,0,none⟩:Addr).add j)=some u):=by
     have h:=eO (w2.alloc (D #[.int C xn,.int C (xd:Int)] 45)) xn (xd:Int) 45
     rw[show(w2.alloc (D #[.int C xn,.int C (xd:Int)] 45)).heap.size=w2.heap.size+1 by simp]at h
     exact h
    go_wp2_with (at_builtin;(refine wpList_append_own_at _ rfl _ _ 78 rfl (w.heap.size+1) 45 i0 (L #[.int C 0,.int C 0]) 2 16 Tryz.underlying78 hi hz0 hz1 hz2 rfl (by decide) _ _ _ rfl HROW.out ⟨w2.heap.size+1,0,none⟩ 1 1 [.int C xn,.int C (xd:Int)] rfl rfl hTN.out (gE _ _) (by have:=HXK.out;unfold maxLen;omega) (by have:=HXK.out;omega) (by simp;omega) ?_);intro v' w4 hown hgrow _ hat)
    have HI4:Hid (RaceI t (wth T' v') w4):=HI3.out.grew hgrow hat HNR.out
    have HF4:Hid (FrS t.S w w4 [[.int C 0,.int C 0]]):=HF3.out.out (Frm.of_grown hgrow) (fun j hj=>by have:=(HVL.out j hj.symm).1;simpa using this)
    have HO4:Hid (OwnE w4 (w.heap.size+1) v' (xs++[⟨xn,xd⟩])):=by
     unfold Hid OwnE;rw[fF,List.length_append]
     exact hown
    have HL4:Hid ((xs++[(⟨xn,xd⟩:E)]).length=k+1):=by unfold Hid;rw[List.length_append,HXK.out];rfl
    clear hown hgrow hat HI3 HF3 HROW
    go_wp2_with (fail)
    go_roundw
    case rel=>exact⟨k+1,xs++[⟨xn,xd⟩],by omega,by go_num,⟨HXS.out,HL4.out⟩,⟨_,rfl,HO4.out,HI4.out⟩,HF4.out⟩
    case measure=>(simp[intOf])<;>omega
  focus
   have hke:k=t.nr:=by omega
   have HALL:Hid (allS (rollE t.s own other) (ah t.s)=some xs):=by
    have h:=hxs.out.1
    rwa [List.take_of_length_le (by rw[HR.out];omega)]at h
   have HRE:Hid (win t.s own other=meanE (sq t.s) (ah t.s) xs):=by
    unfold Hid
    rw[HWIN.out,HALL.out];rfl
   obtain⟨Av,cv,hvx,hel,_⟩:=HO.out.el
   have hxl:xs.length=t.nr:=by rw[HXK.out,hke]
   rw[hxl]at hvx hel;have MEAN2:=h_ (MEAN.out wr Av cv xs hel (allS_val HVAL.out HALL.out));subst hvx;have e0:=HI.out.tb 0 _ rfl;have e1:=HI.out.tb 1 _ rfl;have e2:=HI.out.tb 2 _ rfl;have e3:=HI.out.tb 3 _ rfl;clear hel hxl HO hxs;generalize meanE (sq t.s) (ah t.s) xs=o at *
   rcases o with _|⟨m,d⟩
   focus
    go_wp2_with (fail)
    refine MEAN2.out.mono ?_
    rintro e w2 ⟨rfl,hb2⟩
    simp only[Option.getD_none,Option.isSome_none]
    refine ?za
   rotate_left
   focus
    go_wp2_with (fail)
    refine MEAN2.out.mono ?_
    rintro e w2 ⟨rfl,hb2⟩
    simp only[Option.getD_some,Option.isSome_some]
    refine ?zb
  rotate_left 2
  case' za|zb=>
   have HF2:=h_ (HF.out.below hb2);have HI2:=h_ (HI.out.below hb2);clear HF HI hb2 e0 e1 e2 e3 MEAN2;have c00:=HF2.out.c0 0 rfl;have f00:=HF2.out.f0 0 rfl;have c01:=HF2.out.c0 1 rfl;have f01:=HF2.out.f0 1 rfl
   go_wp2_with (fail)
  case' za=>
   refine j1 (v:=J #[L #[.int C 0,.int C 0],F false]) (by simp[results,Tryz.results167,go_sem,c00,c01,f00,f01]) rfl (RetWn.mkN HRE.out ?_ ?_)
   rotate_left
   ·repeat (first|exact HF2.out.f|refine Frm.alloc ?_ _|refine Frm.ownSet ?_ (by omega) _)
  case' zb=>
   refine j1 (v:=J #[L #[.int C m,.int C (d:Int)],F true]) (by simp[results,Tryz.results167,go_sem,c00,c01,f00,f01]) rfl (RetWn.mkY HRE.out ?_ ?_)
   rotate_left
   ·repeat (first|exact HF2.out.f|refine Frm.alloc ?_ _|refine Frm.ownSet ?_ (by omega) _)
  case za|zb=>
   refine RaceI.less (T:=wth T' (I Av t.nr cv)) ?_ (fun j hj=>by rw[<-HTT.out];exact .inl (.inl hj)) HSUB.out
   repeat (first|exact HI2.out|refine RaceI.alloc ?_ _|refine RaceI.stored ?_ _ (by rw[<-HTT.out];exact .inl (bj 0 rfl (by omega))) HNS.out)
theorem RaceM.put2{t:RT}{T:Nat->Prop}{w w1 w2:jz}{f1 f2 f3:Lit->Option j0}{q r:List Int}(h:RaceM t T w f1 f2 f3)(hq:PosP t.h t.c q)(hr:PosP t.h t.c r)
  (hs2:MapV qd 2 w1 t.b2 (keysU t.N) (putF f2 (t.k2 q r) (exV (win t.s q r)))) (hg2:w.grownBy w1 (some t.b2))
  (hs3:MapV qd 2 w2 t.b3 (keysU t.N) (putF f3 (t.k2 q r) (F (win t.s q r).isNone))) (hg3:w1.grownBy w2 (some t.b3))
  (hT2:T t.b2) (hT3:T t.b3) (d12:t.b1≠t.b2) (d13:t.b1≠t.b3) (d23:t.b2≠t.b3):RaceM t T w2 f1 (putF f2 (t.k2 q r) (exV (win t.s q r))) (putF f3 (t.k2 q r) (F (win t.s q r).isNone)):=by
 obtain⟨h1,_,_,h4,h5⟩:=h
 have hf2:Frm (fun k=>k=t.b2) w w1:=(Frm.of_grown hg2).mono fun k hk=>by injection hk
 have hf3:Frm (fun k=>k=t.b3) w1 w2:=(Frm.of_grown hg3).mono fun k hk=>by injection hk
 refine⟨(h1.frm hf2 d12).frm hf3 d13,hs2.frm hf3 d23,hs3,fun q' hq' u hu=>((h4 q' hq' u hu).frm hf2 fun k hk=>by rw[hk];exact hT2).frm hf3 fun k hk=>by rw[hk];exact hT3,fun q' r' hq' hr' u hu=>?_⟩
 by_cases e:t.k2 q' r'=t.k2 q r
 ·obtain⟨rfl,rfl⟩:=k2_inj hq' hr' hq hr e
  rw[gS]at hu ⊢;injection hu with hu
  exact⟨hu.symm,rfl⟩
 ·rw[dY f2 e]at hu
  rw[dY f3 e]
  exact h5 q' r' hq' hr' u hu
theorem RaceI.put2{t:RT}{T:Nat->Prop}{w w1 w2:jz}{f1 f2 f3:Lit->Option j0}{q r:List Int}(hI:RaceI t T w)(h:RaceM t T w f1 f2 f3)(hq:PosP t.h t.c q)(hr:PosP t.h t.c r)
  (hs2:MapV qd 2 w1 t.b2 (keysU t.N) (putF f2 (t.k2 q r) (exV (win t.s q r)))) (hg2:w.grownBy w1 (some t.b2))
  (hs3:MapV qd 2 w2 t.b3 (keysU t.N) (putF f3 (t.k2 q r) (F (win t.s q r).isNone))) (hg3:w1.grownBy w2 (some t.b3)):RaceI t T w2:=by
 have hT2:=hI.sub _ (.inr (.inl rfl));have hT3:=hI.sub _ (.inr (.inr rfl));have hf:Frm t.S w w2:=(frm_S hg2 (.inr (.inl rfl))).trans (frm_S hg3 (.inr (.inr rfl)))
 exact⟨fun j v hv=>hf.cell' (hI.tb j v hv) fun h=>hI.nt (hI.sub _ h),hI.nt,hI.rl.frm (hf.mono hI.sub),hI.sub,hI.d12,hI.d13,hI.d23,_,_,_,h.put2 hq hr hs2 hg2 hs3 hg3 hT2 hT3 hI.d12 hI.d13 hI.d23⟩
theorem win_step(t:RT)(ht:t.Ok){own other:List Int}(hq:PosP t.h t.c own)(hq2:PosP t.h t.c other)(hwin:own.sum≠0->∀q,PosP t.h t.c q->pips q<pips own->WinC t other q):WinC t own other:=by
 intro T A B ca cb w hT hI hA hca hB hcb
 have hv:=aA ht.v
 have hh24:t.h<=24:=by omega
 have hc15:t.c<=15:=by omega
 have hlow:=hI.ltS;have HSUB:=h_ hI.sub
 have HNS:Hid (¬t.S w.heap.size):=fun h=>by have:=hlow _ h;omega
 have HF0:Hid (FrS t.S w (w.alloc (D #[.int C 0,.int C 0] 45)) [[.int C 0,.int C 0]]):=(FrS.start w hlow).allocT (by simp) _ _
 have hb0:Below w.heap.size w (w.alloc (D #[.int C 0,.int C 0] 45)):=(qb _ _).alloc (qa _) _;have HI0:Hid (RaceI t (ownT T w 1) (w.alloc (D #[.int C 0,.int C 0] 45))):=(hI.wide 1).below hb0;have HA:=h_ ((hA.wide 1).below hb0);have HB:=h_ ((hB.wide 1).below hb0)
 have HTN:Hid (∀W:jz,w.heap.size+1<=W.heap.size->∀k,W.heap.size<=k->¬ownT T w 1 k):=fun W hz=>dF hT hz
 have TOA:=h_ (cE A t.h ca own _ HA.out.1 hq.2.1 (by have:=hq.2.2;omega) (by omega))
 have TOB:=h_ (cE B t.h cb other _ HB.out.1 hq2.2.1 (by have:=hq2.2.2;omega) (by omega))
 have HIW:=h_ (hI.wide 1)
 by_cases hs0:own.sum=0
 ·have HRE:Hid (win t.s own other=some ⟨1,0⟩):=win_own hs0
  have b0:(own.sum==0)=true:=by simp[hs0]
  clear hT hI hA hB hv hlow hb0 hq hq2 hwin hs0 ht HTN HA HB TOB
  go_enter Tryz.func98,Tryz.ntmps98
  go_wp2_with (go_at_call 97;(with_reducible refine TOA.out.mono ?_);rintro e w' ⟨rfl,rfl⟩)
  refine j1 (v:=J #[L #[.int C 1,.int C ((0:Nat):Int)],F true]) (by simp[results,Tryz.results98,go_sem]) rfl (RetWn.mkY HRE.out ?_ ?_)
  ·refine RaceI.less (T:=ownT T w 1) ?_ (fun k hk=>.inl hk) HSUB.out
   repeat (first|exact HIW.out|refine RaceI.alloc ?_ _)
  ·repeat (first|exact Frm.refl _ _|refine Frm.alloc ?_ _)
 focus
  have b0:(own.sum==0)=false:=by simp[hs0]
  by_cases ht0:other.sum=0
  ·have HRE:Hid (win t.s own other=some ⟨0,0⟩):=jy hs0 ht0
   have b1:(other.sum==0)=true:=by simp[ht0]
   clear hT hI hA hB hv hlow hb0 hq hq2 hwin hs0 ht0 ht HTN HA HB
   go_enter Tryz.func98,Tryz.ntmps98
   go_wp2_with (first|(go_at_call 97;(with_reducible refine TOA.out.mono ?_);rintro e w' ⟨rfl,rfl⟩)|(go_at_call 97;(with_reducible refine TOB.out.mono ?_);rintro e w' ⟨rfl,rfl⟩))
   refine j1 (v:=J #[L #[.int C 0,.int C ((0:Nat):Int)],F true]) (by simp[results,Tryz.results98,go_sem]) rfl (RetWn.mkY HRE.out ?_ ?_)
   ·refine RaceI.less (T:=ownT T w 1) ?_ (fun k hk=>.inl hk) HSUB.out
    repeat (first|exact HIW.out|refine RaceI.alloc ?_ _)
   ·repeat (first|exact Frm.refl _ _|refine Frm.alloc ?_ _)
  focus
   have b1:(other.sum==0)=false:=by simp[ht0]
   have HQ:=h_ hq;have HQ2:=h_ hq2
   have COMP:=h_ fun(W:jz)=>compute_any t ht hq hq2 hs0 ht0 (hwin hs0) (ownT T w 1) A B ca cb W
   have CN1:=h_ fun(W:jz) (hx:SL W A t.h own)=>cM t.p t.s t.c t.h A t.h ca own W hx hq hc15 hh24
   have CN2:=h_ fun(W:jz) (hx:SL W B t.h other)=>cM t.p t.s t.c t.h B t.h cb other W hx hq2 hc15 hh24
   have hn1:num t.c own<t.N:=dG hq;have hn2:num t.c other<t.N:=dG hq2;have hN5:=ht.n
   have hmul:num t.c own*t.N<=500*500:=Nat.mul_le_mul (by omega) hN5
   have HKU:Hid (Lit.int C ((num t.c own*t.N+num t.c other:Nat):Int)∈keysU t.N):=mem_keysU (pair_lt hn1 hn2);have HN5:=h_ hN5
   have hw1:IntKind.i64.wrap ((num t.c own:Int)*(t.N:Int))=((num t.c own*t.N:Nat):Int):=by
    rw[<-Int.natCast_mul];exact IntWalk.i64_in _ (by omega)
   have hw2:IntKind.i64.wrap (((num t.c own*t.N:Nat):Int)+(num t.c other:Int))=((num t.c own*t.N+num t.c other:Nat):Int):=by
    rw[<-Int.natCast_add];exact IntWalk.i64_in _ (by omega)
   have HK2:Hid (t.k2 own other=Lit.int C ((num t.c own*t.N+num t.c other:Nat):Int)):=rfl
   have hkb:num t.c own*t.N+num t.c other<=1000000:=by omega
   generalize hKK:num t.c own*t.N+num t.c other=K at *;generalize hMM:num t.c own*t.N=M at *;have HMM:=h_ hMM;have HKK:=h_ hKK;clear hMM hKK;generalize num t.c own=na at *;generalize num t.c other=nb at *
   have hzz:w.heap.size+1<=(w.alloc (D #[.int C 0,.int C 0] 45)).heap.size:=by simp
   clear hT hI hA hB hv hlow hb0 hq hq2 hwin hs0 ht0 ht
   go_enter Tryz.func98,Tryz.ntmps98
   go_wp2_with (first|(go_at_call 97;(with_reducible refine TOA.out.mono ?_);rintro e w' ⟨rfl,rfl⟩)|(go_at_call 97;(with_reducible refine TOB.out.mono ?_);rintro e w' ⟨rfl,rfl⟩))
   generalize w.alloc (D #[.int C 0,.int C 0] 45)=W0 at *;have e0:=HI0.out.tb 0 _ rfl;have e1:=HI0.out.tb 1 _ rfl;have e2:=HI0.out.tb 2 _ rfl;have e3:=HI0.out.tb 3 _ rfl;have e4:=HI0.out.tb 4 _ rfl;have hbt:=HI0.out.ltB;clear TOA TOB
   first|refine ag (by kernel_rfl) (by kernel_rfl) ?_|refine ac (by kernel_rfl) (by kernel_rfl) ?_
   repeat (first|go_big_quiet_step (first|(go_at_call_of 132 A;exact more_call (CN1.out _ (HA.out.1.more _)))|(go_at_call_of 132 B;exact more_call (CN2.out _ (HB.out.1.more _))))|quiet_step (first|(go_at_call_of 132 A;exact more_call (CN1.out _ (HA.out.1.more _)))|(go_at_call_of 132 B;exact more_call (CN2.out _ (HB.out.1.more _)))))
   refine wpQuiet_nil ?_
   intro _ hw'
   obtain⟨tr,hw''⟩:=hw';subst hw'';have HF1:=h_ (HF0.out.more tr);have HI1:=h_ (HI0.out.below (aa _ tr));have HA1:=h_ (HA.out.below (aa _ tr));have HB1:=h_ (HB.out.below (aa _ tr));have hz1:=Nat.le_trans hzz (ai _ tr);clear HF0 HI0 HA HB hzz e0 e1 e2 e3 e4 hbt CN1 CN2;generalize more W0 tr=W1 at *;obtain⟨f1,f2,f3,hm⟩:=HI1.out.maps;have HM:=h_ hm;clear hm HMM HKK hmul hn1 hn2 hw1 hw2;have e7:=HI1.out.tb 7 _ rfl
   have hlook:=HM.out.2.1.look_ok keyI Tryz.underlying166 (z:=L #[.int C 0,.int C 0]) (by kernel_rfl) (i6 (k:=K) (by omega))
   rcases hf:f2 (t.k2 own other)with _|u
   focus
    have hlk:(Instr.lookup 166 (.map (some t.b2)) (.int C (K:Int)) true).run qd W1= .ok (J #[L #[.int C 0,.int C 0],F false]) W1:=by
     have h:=hlook;rw[<-HK2.out,hf]at h
     exact h
    clear hlook hf HM;have hbx:Below W1.heap.size W1 (W1.alloc (D #[.int C 0,.int C 0] 45)):=(qb _ _).alloc (qa _) _
    have COMP2:=h_ (COMP.out (W1.alloc (D #[.int C 0,.int C 0] 45)) (HTN.out _ (by simp;omega)) (HI1.out.alloc _) (HA1.out.below hbx) hca (HB1.out.below hbx) hcb)
    clear COMP hbx
    go_wp2_with (fail)
    refine COMP2.out.mono ?_
    rintro e w2 ⟨rfl,hI2,hf2⟩
    have HF2:=h_ ((HF1.out.alloc (D #[.int C 0,.int C 0] 45)).frm hf2);have HI2:=h_ hI2
    have hz2:W1.heap.size+1<=w2.heap.size:=by have:=hf2.size;simpa using this
    clear hI2 hf2 COMP2 HF1 HI1 HA1 HB1 e7 hlk
    rcases hwo:win t.s own other with _|⟨m,d⟩
    focus
     have HRE:=h_ hwo
     clear hwo;unfold exV
     simp only[Option.getD_none,Option.isSome_none]
     go_wp2_with (fail)
     have HF3:Hid (FrS t.S w (w2.alloc (D #[.int C (0),.int C (0)] 45)) [[.int C 0,.int C 0]]):=HF2.out.alloc _;have HI3:Hid (RaceI t (ownT T w 1) (w2.alloc (D #[.int C (0),.int C (0)] 45))):=HI2.out.alloc _
     have g0:(w2.alloc (D #[.int C (0),.int C (0)] 45)).cell? ⟨w2.heap.size,0,none⟩=some (.int C (0)):=by simp[go_sem]
     have g1:(w2.alloc (D #[.int C (0),.int C (0)] 45)).cell? ⟨w2.heap.size,1,none⟩=some (.int C (0)):=by simp[go_sem]
     have gz:w2.heap.size<(w2.alloc (D #[.int C (0),.int C (0)] 45)).heap.size:=by simp
     clear HF2 HI2;generalize w2.alloc (D #[.int C (0),.int C (0)] 45)=X at *;have e7:=HI3.out.tb 7 _ rfl;have hbt:=HI3.out.ltB
     refine ?zc
    rotate_left
    focus
     have HRE:=h_ hwo
     clear hwo;unfold exV
     simp only[Option.getD_some,Option.isSome_some]
     go_wp2_with (fail)
     have HF3:Hid (FrS t.S w (w2.alloc (D #[.int C (m),.int C ((d:Int))] 45)) [[.int C 0,.int C 0]]):=HF2.out.alloc _;have HI3:Hid (RaceI t (ownT T w 1) (w2.alloc (D #[.int C (m),.int C ((d:Int))] 45))):=HI2.out.alloc _
     have g0:(w2.alloc (D #[.int C (m),.int C ((d:Int))] 45)).cell? ⟨w2.heap.size,0,none⟩=some (.int C (m)):=by simp[go_sem]
     have g1:(w2.alloc (D #[.int C (m),.int C ((d:Int))] 45)).cell? ⟨w2.heap.size,1,none⟩=some (.int C ((d:Int))):=by simp[go_sem]
     have gz:w2.heap.size<(w2.alloc (D #[.int C (m),.int C ((d:Int))] 45)).heap.size:=by simp
     clear HF2 HI2;generalize w2.alloc (D #[.int C (m),.int C ((d:Int))] 45)=X at *;have e7:=HI3.out.tb 7 _ rfl;have hbt:=HI3.out.ltB
     refine ?zd
   rotate_left 2
   ·obtain⟨hu1,hu2⟩:=HM.out.2.2.2.2 own other HQ.out HQ2.out u hf
    have hlk:(Instr.lookup 166 (.map (some t.b2)) (.int C (K:Int)) true).run qd W1= .ok (J #[u,F true]) W1:=by
     have h:=hlook;rw[<-HK2.out,hf]at h
     exact h
    have HL3:Hid (∀(W:jz) (O:Nat->Prop),(∀k,O k->¬t.S k)->Frm O W1 W->(Instr.lookup 167 (.map (some t.b3)) (.int C (K:Int)) false).run qd W= .ok (F (win t.s own other).isNone) W):=fun W O hO hW=>by
     have h:=(HM.out.2.2.1.frm hW (fun h=>hO _ h (.inr (.inr rfl)))).look keyI Tryz.underlying167 (z:=F false) (by kernel_rfl) (i6 (k:=K) (by omega))
     rw[<-HK2.out,hu2]at h
     exact h
    subst hu1;clear hlook hf hu2 COMP
    rcases hwo:win t.s own other with _|⟨m,d⟩
    ·have HRE:=h_ hwo
     rw[hwo]at hlk HL3;have hlk':(Instr.lookup 166 (.map (some t.b2)) (.int C (K:Int)) true).run qd W1= .ok (J #[L #[.int C 0,.int C 0],F true]) W1:=hlk;clear hwo hlk
     go_wp2_with (fail)
     have HF2:Hid (FrS t.S w (W1.alloc (D #[.int C (0),.int C (0)] 45)) [[.int C 0,.int C 0]]):=HF1.out.alloc _;have HI2:Hid (RaceI t (ownT T w 1) (W1.alloc (D #[.int C (0),.int C (0)] 45))):=HI1.out.alloc _
     have g0:(W1.alloc (D #[.int C (0),.int C (0)] 45)).cell? ⟨W1.heap.size,0,none⟩=some (.int C (0)):=by simp[go_sem]
     have g1:(W1.alloc (D #[.int C (0),.int C (0)] 45)).cell? ⟨W1.heap.size,1,none⟩=some (.int C (0)):=by simp[go_sem]
     have gz:W1.heap.size<(W1.alloc (D #[.int C (0),.int C (0)] 45)).heap.size:=by simp
     have e8:=HI2.out.tb 8 _ rfl;have hbt2:=HI2.out.ltB
     have hl1:=HL3.out (W1.alloc (D #[.int C (0),.int C (0)] 45)).drew (fun k=>k=w.heap.size) (fun k hk=>by rw[hk];exact HNS.out) (((Frm.refl _ W1).alloc _).drew)
     have hl2:=HL3.out (((W1.alloc (D #[.int C (0),.int C (0)] 45)).setCell ⟨w.heap.size,0,none⟩ (.int C (0))).setCell ⟨w.heap.size,1,none⟩ (.int C (0))).drew (fun k=>k=w.heap.size) (fun k hk=>by rw[hk];exact HNS.out) ((((Frm.refl _ W1).alloc _).trans ((Frm.set _ _ _ _).trans (Frm.set _ _ _ _))).drew)
     clear HF1 HI1 e7 hlk' HL3 HM;generalize W1.alloc (D #[.int C (0),.int C (0)] 45)=X at *;have c00:=HF2.out.c0 0 rfl;have f00:=HF2.out.f0 0 rfl;have c01:=HF2.out.c0 1 rfl;have f01:=HF2.out.f0 1 rfl
     go_region
     all_goals go_wp2_with (fail)
     all_goals
      refine j1 (v:=J #[L #[.int C 0,.int C 0],F false]) (by simp[results,Tryz.results98,go_sem,c00,c01,f00,f01]) rfl (RetWn.mkN HRE.out ?_ ?_)
      ·refine RaceI.less (T:=ownT T w 1) ?_ (fun k hk=>.inl hk) HSUB.out
       repeat (first|exact HI2.out|refine RaceI.alloc ?_ _|refine RaceI.drew ?_|refine RaceI.stored ?_ _ (bj 0 rfl (by omega)) HNS.out)
      ·repeat (first|exact HF2.out.f|refine Frm.alloc ?_ _|refine Frm.drew ?_|refine Frm.ownSet ?_ (by omega) _)
    ·have HRE:=h_ hwo
     rw[hwo]at hlk HL3;have hlk':(Instr.lookup 166 (.map (some t.b2)) (.int C (K:Int)) true).run qd W1= .ok (J #[L #[.int C m,.int C (d:Int)],F true]) W1:=hlk;clear hwo hlk
     go_wp2_with (fail)
     have HF2:Hid (FrS t.S w (W1.alloc (D #[.int C (m),.int C ((d:Int))] 45)) [[.int C 0,.int C 0]]):=HF1.out.alloc _;have HI2:Hid (RaceI t (ownT T w 1) (W1.alloc (D #[.int C (m),.int C ((d:Int))] 45))):=HI1.out.alloc _
     have g0:(W1.alloc (D #[.int C (m),.int C ((d:Int))] 45)).cell? ⟨W1.heap.size,0,none⟩=some (.int C (m)):=by simp[go_sem]
     have g1:(W1.alloc (D #[.int C (m),.int C ((d:Int))] 45)).cell? ⟨W1.heap.size,1,none⟩=some (.int C ((d:Int))):=by simp[go_sem]
     have gz:W1.heap.size<(W1.alloc (D #[.int C (m),.int C ((d:Int))] 45)).heap.size:=by simp
     have e8:=HI2.out.tb 8 _ rfl;have hbt2:=HI2.out.ltB
     have hl1:=HL3.out (W1.alloc (D #[.int C (m),.int C ((d:Int))] 45)).drew (fun k=>k=w.heap.size) (fun k hk=>by rw[hk];exact HNS.out) (((Frm.refl _ W1).alloc _).drew)
     have hl2:=HL3.out (((W1.alloc (D #[.int C (m),.int C ((d:Int))] 45)).setCell ⟨w.heap.size,0,none⟩ (.int C (m))).setCell ⟨w.heap.size,1,none⟩ (.int C ((d:Int)))).drew (fun k=>k=w.heap.size) (fun k hk=>by rw[hk];exact HNS.out) ((((Frm.refl _ W1).alloc _).trans ((Frm.set _ _ _ _).trans (Frm.set _ _ _ _))).drew)
     clear HF1 HI1 e7 hlk' HL3 HM;generalize W1.alloc (D #[.int C (m),.int C ((d:Int))] 45)=X at *;have c00:=HF2.out.c0 0 rfl;have f00:=HF2.out.f0 0 rfl;have c01:=HF2.out.c0 1 rfl;have f01:=HF2.out.f0 1 rfl
     go_region
     all_goals go_wp2_with (fail)
     all_goals
      refine j1 (v:=J #[L #[.int C m,.int C (d:Int)],F true]) (by simp[results,Tryz.results98,go_sem,c00,c01,f00,f01]) rfl (RetWn.mkY HRE.out ?_ ?_)
      ·refine RaceI.less (T:=ownT T w 1) ?_ (fun k hk=>.inl hk) HSUB.out
       repeat (first|exact HI2.out|refine RaceI.alloc ?_ _|refine RaceI.drew ?_|refine RaceI.stored ?_ _ (bj 0 rfl (by omega)) HNS.out)
      ·repeat (first|exact HF2.out.f|refine Frm.alloc ?_ _|refine Frm.drew ?_|refine Frm.ownSet ?_ (by omega) _)
 rotate_left 2
 case' zc|zd=>
  first|refine am 6 (by kernel_rfl) (by kernel_rfl) ?_|refine an 6 (by kernel_rfl) (by kernel_rfl) ?_
  simp only[List.take_succ_cons,List.take_zero,List.drop_succ_cons,List.drop_zero]
  repeat (first|go_big_quiet_step (fail)|quiet_step (fail))
  refine wpQuiet_nil ?_
  intro _ hw'
  obtain⟨tr,hw''⟩:=hw';subst hw'';have HFz:=h_ (HF3.out.more tr);have HIz:=h_ (HI3.out.below (aa _ tr));have k0:=ae g0 (aa _ tr);have k1:=ae g1 (aa _ tr);have kz:=Nat.lt_of_lt_of_le gz (ai _ tr);clear HF3 HI3 g0 g1 gz e7 hbt;generalize more X tr=Z at *;obtain⟨f1',f2',f3',hm⟩:=HIz.out.maps
 case' zc=>
  obtain⟨Z1,hrun1,hst1,hg1⟩:=hm.2.1.store keyI Tryz.underlying166 (fa HN5.out) (key:=.int C (K:Int)) (val:=L #[.int C (0),.int C (0)]) (i6 (by omega)) HKU.out
 case' zd=>
  obtain⟨Z1,hrun1,hst1,hg1⟩:=hm.2.1.store keyI Tryz.underlying166 (fa HN5.out) (key:=.int C (K:Int)) (val:=L #[.int C (m),.int C ((d:Int))]) (i6 (by omega)) HKU.out
 case' zc|zd=>
  have hfz1:Frm (fun k=>k=t.b2) Z Z1:=(Frm.of_grown hg1).mono fun k hk=>by injection hk
 case' zc=>
  obtain⟨Z2,hrun2,hst2,hg2⟩:=(hm.2.2.1.frm hfz1 (Ne.symm HIz.out.d23)).store keyI Tryz.underlying167 (fa HN5.out) (key:=.int C (K:Int)) (val:=F (true)) (i6 (by omega)) HKU.out
 case' zd=>
  obtain⟨Z2,hrun2,hst2,hg2⟩:=(hm.2.2.1.frm hfz1 (Ne.symm HIz.out.d23)).store keyI Tryz.underlying167 (fa HN5.out) (key:=.int C (K:Int)) (val:=F (false)) (i6 (by omega)) HKU.out
 case' zc|zd=>
  have hst1':MapV qd 2 Z1 t.b2 (keysU t.N) (putF f2' (t.k2 own other) (exV (win t.s own other))):=by rw[HRE.out,HK2.out];exact hst1
  have hst2':MapV qd 2 Z2 t.b3 (keysU t.N) (putF f3' (t.k2 own other) (F (win t.s own other).isNone)):=by rw[HRE.out,HK2.out];exact hst2
  have HIf:Hid (RaceI t (ownT T w 1) Z2):=RaceI.put2 HIz.out hm HQ.out HQ2.out hst1' hg1 hst2' hg2;have hs1:Frm t.S Z Z1:=frm_S hg1 (.inr (.inl rfl));have hs2:Frm t.S Z1 Z2:=frm_S hg2 (.inr (.inr rfl));have HFf:Hid (FrS t.S w Z2 [[.int C 0,.int C 0]]):=(HFz.out.frm hs1).frm hs2
  have hgS:¬t.S w2.heap.size:=fun h=>by have:=HFz.out.low _ h;omega
  have e8:=hs1.cell' (HIz.out.tb 8 _ rfl) fun h=>HIz.out.nt (HIz.out.sub _ h)
  have k0':=hs2.cell' (hs1.cell' k0 hgS) hgS;have k1':=hs2.cell' (hs1.cell' k1 hgS) hgS;clear hm hst1 hg1 hst2 hg2 hst1' hst2' hfz1 hs1 hs2 HIz HFz hgS k0 k1 kz;have c00:=HFf.out.c0 0 rfl;have f00:=HFf.out.f0 0 rfl;have c01:=HFf.out.c0 1 rfl;have f01:=HFf.out.f0 1 rfl
  go_wp2_with (fail)
 case' zc=>
  refine j1 (v:=J #[L #[.int C 0,.int C 0],F false]) (by simp[results,Tryz.results98,go_sem,c00,c01,f00,f01]) rfl (RetWn.mkN HRE.out ?_ ?_)
  rotate_left
  ·repeat (first|exact HFf.out.f|refine Frm.alloc ?_ _|refine Frm.drew ?_|refine Frm.ownSet ?_ (by omega) _)
 case' zd=>
  refine j1 (v:=J #[L #[.int C m,.int C (d:Int)],F true]) (by simp[results,Tryz.results98,go_sem,c00,c01,f00,f01]) rfl (RetWn.mkY HRE.out ?_ ?_)
  rotate_left
  ·repeat (first|exact HFf.out.f|refine Frm.alloc ?_ _|refine Frm.drew ?_|refine Frm.ownSet ?_ (by omega) _)
 case zc|zd=>
  refine RaceI.less (T:=ownT T w 1) ?_ (fun k hk=>.inl hk) HSUB.out
  repeat (first|exact HIf.out|refine RaceI.alloc ?_ _|refine RaceI.drew ?_|refine RaceI.stored ?_ _ (bj 0 rfl (by omega)) HNS.out)
theorem win_any(t:RT)(ht:t.Ok):∀(f:Nat) {own other:List Int},PosP t.h t.c own->PosP t.h t.c other->pips own+pips other<f->WinC t own other
 | 0,own,other,hq,hq2,h=>by have:=aN hq.2.1;have:=aN hq2.2.1;omega
 |f+1,own,other,hq,hq2,h=>win_step t ht hq hq2 fun _ q hp hlt=>win_any t ht f hq2 hp (by omega)
theorem win_all(t:RT)(ht:t.Ok){own other:List Int}(hq:PosP t.h t.c own)(hq2:PosP t.h t.c other):WinC t own other:=by
 exact win_any t ht ((pips own+pips other).toNat+1) hq hq2 (by omega)
open Go.RowKit Ps Ra Ex
structure RT2 where
 p:Int
 c:Nat
 h:Nat
 s:Nat
 bt:Nat
 bk:Nat
 bv:Nat
def RT2.S(t:RT2):Nat->Prop:=fun k=>k=t.bk\/k=t.bv
def RT2.N(t:RT2):Nat:=wys t.h t.c
def RT2.M(t:RT2):Nat:=t.N*t.N
def RT2.cells(t:RT2):List j0:=[.int C t.p,.int C t.c,.int C t.h,.int C t.s,.int C t.N,I (some ⟨t.bk,0,none⟩) t.M t.M,I (some ⟨t.bv,0,none⟩) t.M t.M]
structure RT2.Ok(t:RT2):Prop where
 v:isVar t.p t.c t.h t.s=true
 n:t.N<=500
def RT2.key(t:RT2)(q r:List Int):Nat:=num t.c q*t.N+num t.c r
theorem RT2.key_lt{t:RT2}{q r:List Int}(hq:PosP t.h t.c q)(hr:PosP t.h t.c r):t.key q r<t.M:=pair_lt (dG hq) (dG hr)
theorem RT2.key_inj{t:RT2}{q r q' r':List Int}(hq:PosP t.h t.c q)(hr:PosP t.h t.c r)(hq':PosP t.h t.c q')(hr':PosP t.h t.c r')(h:t.key q r=t.key q' r'):q=q'/\r=r':=by
 obtain⟨h1,h2⟩:=pair_inj (dG hr) (dG hr') h
 exact⟨jP hq hq' h1,jP hr hr' h2⟩
theorem RT2.M_pos(t:RT2):0<t.M:=Nat.mul_pos (wys_pos _ _) (wys_pos _ _)
structure TabC(t:RT2)(w:jz)(kf:Nat->Bool)(ef:Nat->Int×Int):Prop where
 tb:∀j v,t.cells[j]? =some v->w.cell? ⟨t.bt,j,none⟩=some v
 nt:¬t.S t.bt
 d:t.bk≠t.bv
 k:∀i,i<t.M->w.cell? ⟨t.bk,i,none⟩=some (F (kf i))
 e:∀i,i<t.M->w.cell? ⟨t.bv,i*2,none⟩=some (.int C (ef i).1)/\w.cell? ⟨t.bv,i*2+1,none⟩=some (.int C (ef i).2)
 fk:∀j,w.frozen? ⟨t.bk,j,none⟩=false
 fv:∀j,w.frozen? ⟨t.bv,j,none⟩=false
def TabM(t:RT2)(kf:Nat->Bool)(ef:Nat->Int×Int):Prop:=
 ∀q r,PosP t.h t.c q->PosP t.h t.c r->kf (t.key q r)=true->∃e,win t.s q r=some e/\ef (t.key q r)=(e.num,(e.depth:Int))
def TabI(t:RT2)(w:jz):Prop:=∃kf ef,TabC t w kf ef/\TabM t kf ef
open Classical in
noncomputable def updF{α:Type}(f:Nat->α)(i:Nat)(x:α):Nat->α:=fun j=>if j=i then x else f j
theorem jC{α:Type}(f:Nat->α)(i:Nat)(x:α):updF f i x i=x:=by unfold updF;exact if_pos rfl
theorem fm{α:Type}(f:Nat->α){i j:Nat}(h:j≠i)(x:α):updF f i x j=f j:=by unfold updF;exact if_neg h
section
variable {t:RT2}{O:Nat->Prop}{w w':jz}{kf:Nat->Bool}{ef:Nat->Int×Int}
theorem TabC.ltB(h:TabC t w kf ef):t.bt<w.heap.size:=World.block_lt_of_cell? w _ (h.tb 0 _ rfl)
theorem TabC.ltK(h:TabC t w kf ef):t.bk<w.heap.size:=World.block_lt_of_cell? w _ (h.k 0 t.M_pos)
theorem TabC.ltV(h:TabC t w kf ef):t.bv<w.heap.size:=World.block_lt_of_cell? w _ (h.e 0 t.M_pos).1
theorem TabC.frm(h:TabC t w kf ef)(hf:Frm O w w')(hO:∀k,O k->¬t.S k)(hb:¬O t.bt):TabC t w' kf ef:=by
 have h1:¬O t.bk:=fun h=>hO _ h (.inl rfl)
 have h2:¬O t.bv:=fun h=>hO _ h (.inr rfl)
 exact⟨fun j v hv=>hf.cell' (h.tb j v hv) hb,h.nt,h.d,fun i hi=>hf.cell' (h.k i hi) h1,fun i hi=>⟨hf.cell' (h.e i hi).1 h2,hf.cell' (h.e i hi).2 h2⟩,
  fun j=>(cZ hf h.ltK h1).trans (h.fk j),fun j=>(cZ hf h.ltV h2).trans (h.fv j)⟩
theorem TabC.below(h:TabC t w kf ef)(hb:Below w.heap.size w w'):TabC t w' kf ef:=h.frm (Frm.of_below hb) (fun _ h=>h.elim) id
theorem TabC.stored(h:TabC t w kf ef){b i:Nat}(v:j0)(hS:¬t.S b)(hb:t.bt≠b):TabC t (w.setCell ⟨b,i,none⟩ v) kf ef:=h.frm (Frm.set w b i v) (fun k hk=>by rw[hk];exact hS) hb
theorem TabC.setK(h:TabC t w kf ef){K:Nat}(hK:K<t.M):TabC t (w.setCell ⟨t.bk,K,none⟩ (F true)) (updF kf K true) ef:=by
 have hf:=Frm.set w t.bk K (F true)
 have hb:¬t.bt=t.bk:=fun e=>h.nt (.inl e)
 have hv:¬t.bv=t.bk:=Ne.symm h.d
 refine⟨fun j v hv=>hf.cell' (h.tb j v hv) hb,h.nt,h.d,fun i hi=>?_,fun i hi=>⟨hf.cell' (h.e i hi).1 hv,hf.cell' (h.e i hi).2 hv⟩,fun j=>?_,fun j=>(cZ hf h.ltV hv).trans (h.fv j)⟩
 ·by_cases e:i=K
  ·subst e;rw[jC];exact World.cell?_setCell_same _ _ _ (h.k i hi)
  ·rw[fm kf e]
   exact(World.cell?_setCell_other _ _ _ _ (by intro e';simp only[Addr.mk.injEq]at e';omega)).trans (h.k i hi)
 ·have:=h.fk j;simp[go_sem,this]
theorem TabC.setV(h:TabC t w kf ef){K:Nat}(hK:K<t.M)(a b:Int):TabC t ((w.setCell ⟨t.bv,K*2,none⟩ (.int C a)).setCell ⟨t.bv,K*2+1,none⟩ (.int C b)) kf (updF ef K (a,b)):=by
 have hf:Frm (fun k=>k=t.bv) w ((w.setCell ⟨t.bv,K*2,none⟩ (.int C a)).setCell ⟨t.bv,K*2+1,none⟩ (.int C b)):=(Frm.set _ _ _ _).trans (Frm.set _ _ _ _)
 have hb:¬t.bt=t.bv:=fun e=>h.nt (.inr e)
 have hk:¬t.bk=t.bv:=h.d
 refine⟨fun j v hv=>hf.cell' (h.tb j v hv) hb,h.nt,h.d,fun i hi=>hf.cell' (h.k i hi) hk,fun i hi=>?_,fun j=>(cZ hf h.ltK hk).trans (h.fk j),fun j=>?_⟩
 ·obtain⟨e1,e2⟩:=h.e i hi
  by_cases e:i=K
  ·subst e
   rw[jC]
   refine⟨?_,?_⟩
   ·exact(World.cell?_setCell_other _ _ _ _ (by intro e';simp only[Addr.mk.injEq]at e';omega)).trans (World.cell?_setCell_same _ _ _ e1)
   ·exact World.cell?_setCell_same _ _ _ ((World.cell?_setCell_other _ _ _ _ (by intro e';simp only[Addr.mk.injEq]at e';omega)).trans e2)
  ·rw[fm ef e]
   refine⟨?_,?_⟩
   ·exact(World.cell?_setCell_other _ _ _ _ (by intro e';simp only[Addr.mk.injEq]at e';omega)).trans ((World.cell?_setCell_other _ _ _ _ (by intro e';simp only[Addr.mk.injEq]at e';omega)).trans e1)
   ·exact(World.cell?_setCell_other _ _ _ _ (by intro e';simp only[Addr.mk.injEq]at e';omega)).trans ((World.cell?_setCell_other _ _ _ _ (by intro e';simp only[Addr.mk.injEq]at e';omega)).trans e2)
 ·have:=h.fv j;simp[go_sem,this]
theorem TabM.put(h:TabM t kf ef){q r:List Int}(hq:PosP t.h t.c q)(hr:PosP t.h t.c r){e:E}(he:win t.s q r=some e):TabM t (updF kf (t.key q r) true) (updF ef (t.key q r) (e.num,(e.depth:Int))):=by
 intro q' r' hq' hr' hk
 by_cases e1:t.key q' r'=t.key q r
 ·obtain⟨rfl,rfl⟩:=RT2.key_inj hq' hr' hq hr e1
  exact⟨e,he,by rw[jC]⟩
 ·rw[fm kf e1]at hk
  rw[fm ef e1]
  exact h q' r' hq' hr' hk
theorem TabI.frm(h:TabI t w)(hf:Frm O w w')(hO:∀k,O k->¬t.S k)(hb:¬O t.bt):TabI t w':=let ⟨kf,ef,h1,h2⟩:=h;⟨kf,ef,h1.frm hf hO hb,h2⟩
theorem TabI.below(h:TabI t w)(hb:Below w.heap.size w w'):TabI t w':=h.frm (Frm.of_below hb) (fun _ h=>h.elim) id
theorem TabI.alloc(h:TabI t w)(o:Obj):TabI t (w.alloc o):=h.below ((qb _ _).alloc (qa _) o)
theorem TabI.drew(h:TabI t w):TabI t w.drew:=h.below (drw (qb _ _))
theorem TabI.more(h:TabI t w)(tr:jz):TabI t (more w tr):=h.below (aa w tr)
theorem TabI.stored(h:TabI t w){b i:Nat}(v:j0)(hS:¬t.S b)(hb:t.bt≠b):TabI t (w.setCell ⟨b,i,none⟩ v):=let ⟨kf,ef,h1,h2⟩:=h;⟨kf,ef,h1.stored v hS hb,h2⟩
theorem TabI.tb(h:TabI t w):∀j v,t.cells[j]? =some v->w.cell? ⟨t.bt,j,none⟩=some v:=let ⟨_,_,h1,_⟩:=h;h1.tb
theorem TabI.ltB(h:TabI t w):t.bt<w.heap.size:=let ⟨_,_,h1,_⟩:=h;h1.ltB
theorem TabI.ltS(h:TabI t w):∀k,t.S k->k<w.heap.size:=by
 obtain⟨_,_,h1,_⟩:=h
 rintro k (rfl|rfl)
 ·exact h1.ltK
 ·exact h1.ltV
end
def RetTn(t:RT2)(w:jz)(o:Option E)(e:Ending)(w':jz):Prop:=e=Q (J #[exV o,F o.isSome])/\TabI t w'/\Frm t.S w w'
theorem RetTn.mkY{t:RT2}{w w':jz}{o:Option E}{m:Int}{d:Nat}(ho:o=some ⟨m,d⟩)(h1:TabI t w')(h2:Frm t.S w w'):RetTn t w o (Q (J #[L #[.int C m,.int C (d:Int)],F true])) w':=by subst ho;exact⟨rfl,h1,h2⟩
theorem RetTn.mkN{t:RT2}{w w':jz}{o:Option E}(ho:o=none)(h1:TabI t w')(h2:Frm t.S w w'):RetTn t w o (Q (J #[L #[.int C 0,.int C 0],F false])) w':=by subst ho;exact⟨rfl,h1,h2⟩
def ValC(t:RT2)(own other:List Int):Prop:=∀(A B:Option Addr) (ca cb:Nat) (w:jz),TabI t w->SQ t.S w A t.h own->t.h<=ca->SQ t.S w B t.h other->t.h<=cb->
 Calls qd 90 #[R (some ⟨t.bt,0,none⟩),I A t.h ca,I B t.h cb] w (RetTn t w (win t.s own other))
def AftC(t:RT2)(q other:List Int):Prop:=∀(A B:Option Addr) (ca cb:Nat) (w:jz),TabI t w->SQ t.S w A t.h q->t.h<=ca->SQ t.S w B t.h other->t.h<=cb->
 Calls qd 199 #[R (some ⟨t.bt,0,none⟩),I A t.h ca,I B t.h cb] w (RetTn t w (sec t.s other q))
def RetNew2(w:jz)(p:Int)(c h s:Nat)(e:Ending)(w':jz):Prop:=
 ∃t:RT2,t.p=p/\t.c=c/\t.h=h/\t.s=s/\e=Q (R (some ⟨t.bt,0,none⟩))/\t.Ok/\TabI t w'/\(∀k,t.S k->w.heap.size<=k)/\w.heap.size<=t.bt/\Below w.heap.size w w'
theorem Tryz.infoB:(Tryz.prog.info? 4).map (fun i=>(i.zero,i.size,i.bytes))=some (some (F false),1,1):=by kernel_rfl
def new2G(w:jz)(p:Int)(c h s N:Nat)(i:Nat)(v:j0)(W:jz):Prop:=
 match i with
 | 0=>v=L #[.int C p,.int C c,.int C h,.int C s]
 | 4=>v= .int C ((N*N:Nat):Int)
 | 5=>∃b,v=I (some ⟨b,0,none⟩) (N*N) (N*N)/\W.ownsRow w.heap.size 4 1 v (N*N) (madeCells #[F false] (N*N*1)).toList
 | 8=>v= .int C ((N*N:Nat):Int)
 | 9=>∃b,v=I (some ⟨b,0,none⟩) (N*N) (N*N)/\W.ownsRow w.heap.size 45 2 v (N*N) (madeCells #[.int C 0,.int C 0] (N*N*2)).toList
 |_=>v= .int C (N:Int)
def new2O(i:Nat)(v:j0):Option Nat:=if i=5\/i=9 then v.ownBlock else none
theorem new2G_stab{w:jz}{p:Int}{c h s N:Nat}(i:Nat)(v:j0)(W W':jz)(hg:new2G w p c h s N i v W)(hb:Below W.heap.size W W'):new2G w p c h s N i v W':=by
 unfold new2G at *
 split at hg<;>first|exact hg|(obtain⟨b,h1,h2⟩:=hg;exact⟨b,h1,own_below h2 hb⟩)
theorem new2G_lt{w:jz}{p:Int}{c h s N:Nat}(i:Nat)(v:j0)(W:jz)(b:Nat)(hg:new2G w p c h s N i v W)(ho:new2O i v=some b):b<W.heap.size:=by
 unfold new2O at ho
 split at ho
 ·rename_i h5
  unfold new2G at hg
  split at hg<;>first|(obtain⟨b',_,h2⟩:=hg;exact(qc h2 b ho).2)|(subst hg;cases ho)
 ·cases ho
open Go.RowKit Ps Ra Ex
theorem made_b(n j:Nat)(h:j<n):(madeCells #[Value.bool false] (n*1)).toList[j]? =some (F false):=by
 rw[toList_madeCells_one,List.getElem?_replicate];simp[h]
theorem made_e(n j:Nat)(h:j<n*2):(madeCells #[Value.int C 0,.int C 0] (n*2)).toList[j]? =some (.int C 0):=by
 rcases Nat.mod_two_eq_zero_or_one j with h1|h1<;>simp[madeCells,h,h1]
theorem l12New_any(p:Int)(c h s:Nat)(w:jz)(hv:isVar p c h s=true)(hN:wys h c<=500):
  Calls qd 67 #[L #[.int C p,.int C c,.int C h,.int C s]] w (RetNew2 w p c h s):=by
 obtain⟨ib,hib,hb0,hb1,hb2⟩:=info_parts Tryz.infoB;obtain⟨ie,hie,he0,he1,he2⟩:=info_parts Tryz.infoE;have hvv:=aA hv;have HV:=h_ hv;have HN:=h_ hN
 have CW:=h_ fun(W:jz)=>l10Ways_any h c W (by omega) (by omega)
 have HC:Hid (wysC h c=wys h c):=eK (by omega)
 rw[HC.out]at CW
 have HF0:=h_ ((Fr.start w).allocT (by simp) #[.int C p,.int C c,.int C h,.int C s] 33)
 have hmm:wys h c*wys h c<=250000:=Nat.mul_le_mul hN hN
 have hwrap:IntKind.i64.wrap ((wys h c:Int)*(wys h c:Int))=((wys h c*wys h c:Nat):Int):=by
  rw[<-Int.natCast_mul];exact IntWalk.i64_in _ (by omega)
 clear hv hN hvv HC
 go_enter Tryz.func67,Tryz.ntmps67
 go_wp2_with (go_at_call 112;(with_reducible refine(CW.out _).mono ?_);rintro e w' ⟨rfl,rfl⟩)
 generalize hNN:wys h c=N at *
 refine aR 10 (fun i=>i+9) (new2G w p c h s N) new2O (by kernel_rfl) (by kernel_rfl) new2G_stab new2G_lt ?_ ?_
 ·intro i o hi ho a' W hb hfar hdep
  have e1:a'.tmps.getD 1 undef=R (some ⟨w.heap.size,0,none⟩):=(hfar 1 (fun j _=>by omega)).trans rfl
  have e3:a'.tmps.getD 3 undef= .int C (N:Int):=(hfar 3 (fun j _=>by omega)).trans rfl
  have HFh:=h_ (HF0.out.below hb);have hWz:w.heap.size<=W.heap.size:=HFh.out.b.size;have c00:=HFh.out.c0 0 rfl;have c01:=HFh.out.c0 1 rfl;have c02:=HFh.out.c0 2 rfl;have c03:=HFh.out.c0 3 rfl;have dep:∀j,j<10->Region.waitsFor .any _ i j=true->new2G w p c h s N j (a'.tmps.getD (j+9) undef) W:=hdep
  have good:∀(v:j0) (W':jz),Below W.heap.size W W'->new2G w p c h s N i v W'->(∀b,new2O i v=some b->W.heap.size<=b)->MGood (new2G w p c h s N) new2O i W v W':=fun v W' h1 h2 h3=>⟨h1,h2,h3⟩
  have hi8:=i_9 hi
  rcases hi8 with rfl|rfl|rfl|rfl|rfl|rfl|rfl|rfl|rfl|rfl
  all_goals
   simp at ho
   subst ho
  ·refine .inl ⟨_,W,?_,good (L #[.int C p,.int C c,.int C h,.int C s]) _ (qb _ _) rfl (fun b hb=>by simp[new2O]at hb)⟩
   simp only[execOp,j2,e1]
   go_simp
  ·exact .inl ⟨.int C (N:Int),W,by simp only[execOp,j2,e3];go_simp,good _ _ (qb _ _) rfl (fun b hb=>by simp[new2O]at hb)⟩
  ·exact .inl ⟨.int C (N:Int),W,by simp only[execOp,j2,e3];go_simp,good _ _ (qb _ _) rfl (fun b hb=>by simp[new2O]at hb)⟩
  ·exact .inl ⟨.int C (N:Int),W,by simp only[execOp,j2,e3];go_simp,good _ _ (qb _ _) rfl (fun b hb=>by simp[new2O]at hb)⟩
  ·have d2:a'.tmps.getD 11 undef=_:=dp hdep 2
   have d3:a'.tmps.getD 12 undef=_:=dp hdep 3
   exact .inl ⟨.int C ((N*N:Nat):Int),W,by simp only[execOp,j2,d2,d3];go_simp,good _ _ (qb _ _) rfl (fun b hb=>by simp[new2O]at hb)⟩
  ·have d4:a'.tmps.getD 13 undef=_:=dp hdep 4
   obtain⟨W',hrun,hown,hgr⟩:=run_make_full (P:=qd) W w.heap.size 161 4 ib (F false) 1 Tryz.underlying161 hib hb0 hb1 C C (N*N) (by rw[hb2];omega) (by unfold maxLen;omega) hWz
   refine .inl ⟨_,W',?_,good (I (some ⟨W.heap.size,0,none⟩) (N*N) (N*N)) _ ⟨hgr.os,hgr.tape,hgr.output,hgr.size,fun k hk=>hgr.block k hk (by simp)⟩ ⟨W.heap.size,rfl,hown⟩ (fun b hb=>by simp[new2O,Value.ownBlock]at hb;omega)⟩
   simp only[execOp,j2,d4]
   go_simp
   rw[<-Int.natCast_mul,hrun]
   rfl
  ·exact .inl ⟨.int C (N:Int),W,by simp only[execOp,j2,e3];go_simp,good _ _ (qb _ _) rfl (fun b hb=>by simp[new2O]at hb)⟩
  ·exact .inl ⟨.int C (N:Int),W,by simp only[execOp,j2,e3];go_simp,good _ _ (qb _ _) rfl (fun b hb=>by simp[new2O]at hb)⟩
  ·have d2:a'.tmps.getD 15 undef=_:=dp hdep 6
   have d3:a'.tmps.getD 16 undef=_:=dp hdep 7
   exact .inl ⟨.int C ((N*N:Nat):Int),W,by simp only[execOp,j2,d2,d3];go_simp,good _ _ (qb _ _) rfl (fun b hb=>by simp[new2O]at hb)⟩
  ·have d4:a'.tmps.getD 17 undef=_:=dp hdep 8
   obtain⟨W',hrun,hown,hgr⟩:=run_make_full (P:=qd) W w.heap.size 78 45 ie (L #[.int C 0,.int C 0]) 2 Tryz.underlying78 hie he0 he1 C C (N*N) (by rw[he2];omega) (by unfold maxLen;omega) hWz
   refine .inl ⟨_,W',?_,good (I (some ⟨W.heap.size,0,none⟩) (N*N) (N*N)) _ ⟨hgr.os,hgr.tape,hgr.output,hgr.size,fun k hk=>hgr.block k hk (by simp)⟩ ⟨W.heap.size,rfl,hown⟩ (fun b hb=>by simp[new2O,Value.ownBlock]at hb;omega)⟩
   simp only[execOp,j2,d4]
   go_simp
   rw[<-Int.natCast_mul,hrun]
   rfl
 ·intro v W hb hg ho
  have HBW:Below w.heap.size w W:=((qb _ _).alloc (qa _) _).trans (hb.mono (by simp))
  have g0:v 0=_:=gq hg 0
  have g1:v 1=_:=gq hg 1
  have g2:v 2=_:=gq hg 2
  have g3:v 3=_:=gq hg 3
  have g4:v 4=_:=gq hg 4
  obtain⟨bk,g5,o5⟩:∃b,v 5=I (some ⟨b,0,none⟩) (N*N) (N*N)/\W.ownsRow w.heap.size 4 1 (v 5) (N*N) (madeCells #[F false] (N*N*1)).toList:=hg 5 (by omega)
  have g6:v 6=_:=gq hg 6
  have g7:v 7=_:=gq hg 7
  have g8:v 8=_:=gq hg 8
  obtain⟨bv,g9,o9⟩:∃b,v 9=I (some ⟨b,0,none⟩) (N*N) (N*N)/\W.ownsRow w.heap.size 45 2 (v 9) (N*N) (madeCells #[.int C 0,.int C 0] (N*N*2)).toList:=hg 9 (by omega)
  have d:bk≠bv:=fun e=>ho 5 9 (by omega) (by omega) (by omega) bk (by rw[g5];rfl) (by rw[g9,e];rfl)
  rw[g5]at o5;rw[g9]at o9;have l5:=qc o5 bk rfl;have l9:=qc o9 bv rfl
  have HR:Hid (∀W',W'=W.alloc (D #[.int C p,.int C c,.int C h,.int C s,.int C (N:Int),I (some ⟨bk,0,none⟩) (N*N) (N*N),I (some ⟨bv,0,none⟩) (N*N) (N*N)] 163)->RetNew2 w p c h s (Q (R (some ⟨W.heap.size,0,none⟩))) W'):=fun W' hW'=>by
   subst hW';have hz:w.heap.size<=W.heap.size:=HBW.size;have hNt:(⟨p,c,h,s,W.heap.size,bk,bv⟩:RT2).N=N:=hNN
   have hMt:(⟨p,c,h,s,W.heap.size,bk,bv⟩:RT2).M=N*N:=by unfold RT2.M;rw[hNt]
   refine⟨⟨p,c,h,s,W.heap.size,bk,bv⟩,rfl,rfl,rfl,rfl,rfl,⟨HV.out,by rw[hNt];exact HN.out⟩,⟨fun _=>false,fun _=>(0,0),⟨fun j v hj=>?_,?_,d,fun i hi=>?_,fun i hi=>?_,fun j=>?_,fun j=>?_⟩,fun q r _ _ hk=>by cases hk⟩,?_,hz,HBW.alloc hz _⟩
   ·have:(#[.int C p,.int C c,.int C h,.int C s,.int C (N:Int),I (some ⟨bk,0,none⟩) (N*N) (N*N),I (some ⟨bv,0,none⟩) (N*N) (N*N)]:Array j0)[j]? =some v:=by rw[<-hj];unfold RT2.cells;rw[hMt,hNt];simp
    simp[go_sem,this]
   ·rintro(h'|h')
    ·simp at h';omega
    ·simp at h';omega
   ·rw[hMt]at hi
    rw[ar _ _ _ l5.2,o5.cellAt i (by omega),made_b _ _ hi]
   ·rw[hMt]at hi
    rw[ar _ _ _ l9.2,ar _ _ _ l9.2,o9.cellAt (i*2) (by omega),o9.cellAt (i*2+1) (by omega),made_e _ _ (by omega),made_e _ _ (by omega)]
    exact⟨rfl,rfl⟩
   ·rw[aE _ _ _ l5.2];exact o5.frozenAt j
   ·rw[aE _ _ _ l9.2];exact o9.frozenAt j
   ·rintro k (rfl|rfl)
    ·exact l5.1
    ·exact l9.1
  clear o5 o9 hg ho l5 l9 hmm
  simp only[List.drop_succ_cons,List.drop_zero,putV,g0,g1,g2,g3,g4,g5,g6,g7,g8,g9,Act.put]
  clear g0 g1 g2 g3 g4 g5 g6 g7 g8 g9 hNN hwrap
  go_wp2_with (fail)
  go_ret
  exact HR.out _ rfl
theorem oneM_zero{B:Int}(hB:1<=B):oneM B aj=some oneE:=by
 unfold oneM addE
 exact mk_self eA
theorem sec_zero{s:Nat}(hB:1<=sq s){other q:List Int}(h0:other.sum≠0)(h1:q.sum=0):sec s other q=some ⟨1,0⟩:=by
 unfold sec;rw[jy h0 h1]
 exact oneM_zero hB
theorem l12After_any(t:RT2)(ht:t.Ok){q other:List Int}(hq:PosP t.h t.c q)(h0:other.sum≠0)(hw:ValC t other q):AftC t q other:=by
 intro A B ca cb w hI hA hca hB hcb
 have hv:=aA ht.v
 have hs1:1<=t.s:=by omega
 have hs6:t.s<=6:=by omega
 have hh24:t.h<=24:=by omega
 obtain⟨hq1,-,_⟩:=sq_bd hs1 hs6;have hlow:=hI.ltS
 have HNS:Hid (¬t.S w.heap.size):=fun h=>by have:=hlow _ h;omega
 have HNB:Hid (t.bt≠w.heap.size):=fun h=>by have:=hI.ltB;omega
 have HF0:Hid (FrS t.S w (w.alloc (D #[.int C 0,.int C 0] 45)) [[.int C 0,.int C 0]]):=(FrS.start w hlow).allocT (by simp) _ _
 have hb0:Below w.heap.size w (w.alloc (D #[.int C 0,.int C 0] 45)):=(qb _ _).alloc (qa _) _;have CW:=h_ (hw B A cb ca _ (hI.below hb0) (hB.below hb0) hcb (hA.below hb0) hca);have HX:=h_ (hA.below hb0)
 have SUM:=h_ fun(W:jz) (hx:SL W A t.h q)=>eb A t.h ca q W hx hq.2.1 (by have:=hq.2.2;omega) (by omega)
 have HVAL:=h_ fun(e:E) (h:win t.s other q=some e)=>win_val hq1 h
 have HSEC:Hid (sec t.s other q=(win t.s other q).bind (oneM (sq t.s))):=rfl
 have HS0:=h_ fun(h:q.sum=0)=>sec_zero hq1 h0 h
 clear hI hA hB hw hv ht hlow hb0 hq h0;generalize win t.s other q=o at *
 by_cases hz:q.sum=0
 focus
  have HR:=h_ (HS0.out hz)
  clear HS0 HSEC HVAL
  refine ?zl
 rotate_left
 focus
  have b0:(q.sum==0)=false:=by simp[hz]
  refine ?zm
 rotate_left
 case' zl|zm=>
  go_enter Tryz.func199,Tryz.ntmps199
  go_wp2_with (fail)
  refine CW.out.mono ?_
  rintro e w1 ⟨rfl,hI1,hf1⟩
 case' zl=>
  have HX2:Hid (SL (w1.alloc (D #[.int C (o.getD ⟨0,0⟩).num,.int C ((o.getD ⟨0,0⟩).depth:Int)] 45)) A t.h q):=(HX.out.frm hf1).1.alloc _;have HF2:Hid (FrS t.S w (w1.alloc (D #[.int C (o.getD ⟨0,0⟩).num,.int C ((o.getD ⟨0,0⟩).depth:Int)] 45)) [[.int C 0,.int C 0]]):=(HF0.out.frm hf1).alloc _;have HI2:Hid (TabI t (w1.alloc (D #[.int C (o.getD ⟨0,0⟩).num,.int C ((o.getD ⟨0,0⟩).depth:Int)] 45))):=hI1.alloc _;unfold exV;clear hI1 hf1 CW HF0;generalize (o.getD ⟨0,0⟩).num=m at *;generalize ((o.getD ⟨0,0⟩).depth:Int)=d at *
  go_wp2_with (first
   |(go_at_call 161;(with_reducible refine(SUM.out _ HX2.out).mono ?_);rintro e w' ⟨rfl,rfl⟩)
   | (go_at_call 142;(with_reducible refine(more_first (cD _)).mono ?_);rintro e w' ⟨rfl,tr,rfl⟩
      have HZ:=h_ (HF2.out.more tr);have HIz:=h_ (HI2.out.more tr);clear HF2 HI2 HX2;generalize more (w1.alloc (D #[.int C m, .int C d] 45)) tr=Z at *;have c00:=HZ.out.c0 0 rfl;have f00:=HZ.out.f0 0 rfl;have c01:=HZ.out.c0 1 rfl;have f01:=HZ.out.f0 1 rfl
      ))
  refine j1 (v:=J #[L #[.int C 1,.int C ((0:Nat):Int)],F true]) (by simp[results,Tryz.results199,go_sem,c00,c01,f00,f01]) rfl (RetTn.mkY HR.out ?_ ?_)
  focus
   refine ?zc
  rotate_left
  focus
   refine ?zg
 case' zm=>
  have HI1:=h_ hI1;have HF1:Hid (FrS t.S w w1 [[.int C 0,.int C 0]]):=HF0.out.frm hf1;have HX1:=h_ (HX.out.frm hf1);clear hI1 hf1 CW HF0 HX HS0
  rcases o with _|⟨m,d⟩
  focus
   have HR:Hid (sec t.s other q=none):=by rw[HSEC.out];rfl
   have HZ:=HF1;have HIz:=HI1;have HX2:Hid (SL (w1.alloc (D #[.int C 0,.int C 0] 45)) A t.h q):=HX1.out.1.alloc _;unfold exV
   simp only[Option.getD_none,Option.isSome_none]
   have z0:=HF1.out.l0 (by simp)
   have c00:=HF1.out.c0 0 rfl;have f00:=HF1.out.f0 0 rfl;have c01:=HF1.out.c0 1 rfl;have f01:=HF1.out.f0 1 rfl
   refine ?zk
  rotate_left
  focus
   have hx:Val (sq t.s) ⟨m,d⟩:=HVAL.out _ rfl
   have COM:=h_ fun(W:jz)=>eY t.p t.c t.h m t.s d W hs1 hs6 hx
   have HR0:Hid (sec t.s other q=oneM (sq t.s) ⟨m,d⟩):=HSEC.out;have HF2:Hid (FrS t.S w (w1.alloc (D #[.int C m,.int C (d:Int)] 45)) [[.int C 0,.int C 0]]):=HF1.out.alloc _;have HI2:Hid (TabI t (w1.alloc (D #[.int C m,.int C (d:Int)] 45))):=HI1.out.alloc _;have HX2:Hid (SL (w1.alloc (D #[.int C m,.int C (d:Int)] 45)) A t.h q):=HX1.out.1.alloc _;have e0:=HI1.out.tb 0 _ rfl;have e1:=HI1.out.tb 1 _ rfl;have e2:=HI1.out.tb 2 _ rfl;have e3:=HI1.out.tb 3 _ rfl;have hbt:=HI1.out.ltB;unfold exV
   simp only[Option.getD_some,Option.isSome_some]
   generalize oneM (sq t.s) ⟨m,d⟩=o1 at *
   rcases o1 with _|⟨m1,d1⟩
   focus
    have COM':Hid (∀W:jz,Calls qd 192 #[L #[.int C t.p,.int C t.c,.int C t.h,.int C t.s],L #[.int C m,.int C d]] W fun e w'=>e=Q (J #[L #[.int C 0,.int C 0],F false])/\Below W.heap.size W w'):=fun W=>COM.out W
    have HR:Hid (sec t.s other q=none):=HR0.out;clear COM HR0
    refine ?za
   rotate_left
   focus
    have COM':Hid (∀W:jz,Calls qd 192 #[L #[.int C t.p,.int C t.c,.int C t.h,.int C t.s],L #[.int C m,.int C d]] W fun e w'=>e=Q (J #[L #[.int C m1,.int C d1],F true])/\Below W.heap.size W w'):=fun W=>COM.out W
    have HR:Hid (sec t.s other q=some ⟨m1,d1⟩):=HR0.out;clear COM HR0
    refine ?zb
 case' zk|za|zb=>
  go_wp2_with (go_at_call 161;(with_reducible refine(SUM.out _ HX2.out).mono ?_);rintro e w' ⟨rfl,rfl⟩)
 case' zk=>
  refine j1 (v:=J #[L #[.int C 0,.int C 0],F false]) (by simp[results,Tryz.results199,go_sem,c00,c01,z0,f00,f01]) rfl (RetTn.mkN HR.out ?_ ?_)
  focus
   refine ?zd
  rotate_left
  focus
   refine ?zh
 case' za|zb=>
  first|refine am 8 (by kernel_rfl) (by kernel_rfl) ?_|refine an 8 (by kernel_rfl) (by kernel_rfl) ?_
  simp only[List.take_succ_cons,List.take_zero,List.drop_succ_cons,List.drop_zero]
  repeat (first|go_big_quiet_step ((go_at_call 192;exact more_call (COM'.out _)))|quiet_step ((go_at_call 192;exact more_call (COM'.out _))))
  refine wpQuiet_nil ?_
  intro _ hw'
  obtain⟨tr,hw''⟩:=hw';subst hw'';have HZ:=h_ (HF2.out.more tr);have HIz:=h_ (HI2.out.more tr);clear HF2 HI2 e0 e1 e2 e3;generalize more (w1.alloc (D #[.int C m,.int C (d:Int)] 45)) tr=Z at *;have c00:=HZ.out.c0 0 rfl;have f00:=HZ.out.f0 0 rfl;have c01:=HZ.out.c0 1 rfl;have f01:=HZ.out.f0 1 rfl
  go_wp2_with (fail)
 case' za=>
  refine j1 (v:=J #[L #[.int C 0,.int C 0],F false]) (by simp[results,Tryz.results199,go_sem,c00,c01,f00,f01]) rfl (RetTn.mkN HR.out ?_ ?_)
  focus
   refine ?ze
  rotate_left
  focus
   refine ?zi
 case' zb=>
  refine j1 (v:=J #[L #[.int C m1,.int C d1],F true]) (by simp[results,Tryz.results199,go_sem,c00,c01,f00,f01]) rfl (RetTn.mkY HR.out ?_ ?_)
  focus
   refine ?zf
  rotate_left
  focus
   refine ?zj
 case zc|zd|ze|zf=>
  repeat (first|exact HIz.out|refine TabI.alloc ?_ _|refine TabI.drew ?_|refine TabI.stored ?_ _ HNS.out HNB.out)
 case zg|zh|zi|zj=>
  repeat (first|exact HZ.out.f|refine Frm.alloc ?_ _|refine Frm.ownSet ?_ (by omega) _)
end Go.Proofs.YtcmeoenkgmghkaaGreat

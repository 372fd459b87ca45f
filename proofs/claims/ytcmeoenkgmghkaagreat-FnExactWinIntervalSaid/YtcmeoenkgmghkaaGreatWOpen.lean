/- Part of one proof. There are no conditions. -/
import Derived.Test.YtcmeoenkgmghkaaGreatWY51
import Derived.ProofKit
import Derived.OpenShut
import Derived.Lib.SmallJoins
import Derived.Deep.Slices
import Derived.Deep.Fields
import Derived.ChangeSame
import Derived.ChangeSlices
import Derived.Below
set_option maxHeartbeats 0
set_option linter.unusedVariables false
set_option linter.unusedSimpArgs false
set_option maxRecDepth 100000
open Go.Value renaming slice->q,agg->B,pointer->D,tuple->F,bool->I
open Go.IntKind renaming i64->l
open Go.Ending renaming returned->C
open Go.Obj renaming cells->E
namespace Go.Proofs.YtcmeoenkgmghkaaGreat
open Go.RowKit Pl Ps Ra Ex
noncomputable def iwR (p c h s:Int) (own other:List Int) (tu:Int):Int×Iv:=
 if cdT p c h s own other tu true=0 then (0,(ivE s.toNat p.toNat h.toNat tu.toNat (own,other)).getD (an,an)) else (cdT p c h s own other tu true,(an,an))
def RetWI (w:World) (r:Int×Iv) (e:Ending) (w':World):Prop:=e = C (F #[ivV r.2,.int l r.1])/\Below w.heap.size w w'
theorem RetWI.mk' {w w':World} {r:Int×Iv} {k:Int} {x:Iv} (hr:r=(k,x)) (hb:Below w.heap.size w w'):RetWI w r (C (F #[B #[.int l x.1.num,.int l (x.1.depth:Int),.int l x.2.num,.int l (x.2.depth:Int)],.int l k])) w':=by subst hr;exact⟨rfl,hb⟩
def evI (va ba ta tu x k:Value):Nat->Option Value
 | 0=>some va
 | 2=>some ba
 | 3=>some ta
 | 4=>some tu
 | 5=>some tu
 | 6=>some x
 | 7=>some k
 | _=>none
structure JI (V:World) (TP:World->Value->(Nat->Prop)->Prop) (ev:Nat->Option Value) (L:Nat->Bool) (vs:Nat->Value) (W:World):Prop where
 b:Below V.heap.size V W
 eq:∀i y,i<9->L i=true->ev i=some y->vs i=y
 al:L 8=true->∃g,vs 8 = D (some ⟨g,0,none⟩)/\V.heap.size<=g/\Cel W g [.int l 0,.int l 0,.int l 0,.int l 0]
 ra:L 1=true->L 4=false->∃(S:Nat->Prop) (l1 hi:Nat),TP W (vs 1) S/\hi<=W.heap.size/\V.heap.size<=l1/\l1<=hi/\(∀k,S k->l1<=k/\k<hi)/\∀g,L 8=true->vs 8 = D (some ⟨g,0,none⟩)->g<l1\/hi<=g
section
variable {V W W':World} {TP:World->Value->(Nat->Prop)->Prop} {ev:Nat->Option Value} {L L':Nat->Bool} {vs vs':Nat->Value} {i:Nat} {v:Value}
theorem JI.pureS (H:JI V TP ev L vs W) (hu:Upd 9 i v L vs L' vs') (hb:Below W.heap.size W W') (hst:∀v S,TP W v S->TP W' v S) (h1:i≠1/\i≠4/\i≠8) (hv:∀y,ev i=some y->v=y):JI V TP ev L' vs' W':=by
 obtain⟨u1,u2,u3⟩:=hu
 have e7:=u3 8 (by omega) (by omega)
 have e3:=u3 4 (by omega) (by omega)
 have e1:=u3 1 (by omega) (by omega)
 refine⟨H.b.trans (hb.mono H.b.size),fun k y hk hl he=>?_,fun hl=>?_,fun hl hl3=>?_⟩
 ·by_cases ek:k=i
  ·subst ek;rw[u2];exact hv y he
  ·rw[(u3 k hk ek).2];exact H.eq k y hk (by rw[<- (u3 k hk ek).1];exact hl) he
 ·obtain⟨g,g1,g2,g3⟩:=H.al (by rw[<- e7.1];exact hl)
  exact⟨g,by rw[e7.2];exact g1,g2,g3.below hb⟩
 ·obtain⟨S,l1,hi,a1,a7,a8,a8',a9,a10⟩:=H.ra (by rw[<- e1.1];exact hl) (by rw[<- e3.1];exact hl3)
  exact⟨S,l1,hi,by rw[e1.2];exact hst _ _ a1,Nat.le_trans a7 hb.size,a8,a8',a9,fun g hg hg2=>a10 g (by rw[<- e7.1];exact hg) (by rw[<- e7.2];exact hg2)⟩
theorem JI.pure (H:JI V TP ev L vs W) (hu:Upd 9 i v L vs L' vs') (_:Below W.heap.size W W) (h1:i≠1/\i≠4/\i≠8) (hv:∀y,ev i=some y->v=y):JI V TP ev L' vs' W:=H.pureS hu (Below.refl _ _) (fun _ _ h=>h) h1 hv
theorem JI.alloc (H:JI V TP ev L vs W) (T:TypeId) (hu:Upd 9 8 (D (some ⟨W.heap.size,0,none⟩)) L vs L' vs') (he:ev 8=none) (hst:∀W W' v S,TP W v S->Below W.heap.size W W'->TP W' v S):JI V TP ev L' vs' (W.alloc (E #[.int l 0,.int l 0,.int l 0,.int l 0] T)):=by
 obtain⟨u1,u2,u3⟩:=hu;have hb:Below W.heap.size W (W.alloc (E #[.int l 0,.int l 0,.int l 0,.int l 0] T)):=Bel.alloc W _
 have e3:=u3 4 (by omega) (by omega)
 have e1:=u3 1 (by omega) (by omega)
 refine⟨H.b.trans (hb.mono H.b.size),fun k y hk hl he'=>?_,fun hl=>⟨_,u2,H.b.size,Cel.new W #[.int l 0,.int l 0,.int l 0,.int l 0] T⟩,fun hl hl3=>?_⟩
 ·by_cases ek:k=8
  ·subst ek;rw[he]at he';cases he'
  ·rw[(u3 k hk ek).2];exact H.eq k y hk (by rw[<- (u3 k hk ek).1];exact hl) he'
 ·obtain⟨S,l1,hi,a1,a7,a8,a8',a9,_⟩:=H.ra (by rw[<- e1.1];exact hl) (by rw[<- e3.1];exact hl3)
  refine⟨S,l1,hi,by rw[e1.2];exact hst _ _ _ _ a1 hb,Nat.le_trans a7 hb.size,a8,a8',a9,fun g _ hg2=>.inr ?_⟩
  rw[u2]at hg2;injection hg2 with hg2;injection hg2 with hg2;injection hg2 with hg2
  omega
theorem JI.race (H:JI V TP ev L vs W) {S:Nat->Prop} (hu:Upd 9 1 v L vs L' vs') (hb:Below W.heap.size W W') (he:ev 1=none) (ht:TP W' v S) (hS:∀k,S k->W.heap.size<=k/\k<W'.heap.size):JI V TP ev L' vs' W':=by
 obtain⟨u1,u2,u3⟩:=hu
 have e7:=u3 8 (by omega) (by omega)
 refine⟨H.b.trans (hb.mono H.b.size),fun k y hk hl he'=>?_,fun hl=>?_,fun hl hl3=>?_⟩
 ·by_cases ek:k=1
  ·subst ek;rw[he]at he';cases he'
  ·rw[(u3 k hk ek).2];exact H.eq k y hk (by rw[<- (u3 k hk ek).1];exact hl) he'
 ·obtain⟨g,g1,g2,g3⟩:=H.al (by rw[<- e7.1];exact hl)
  exact⟨g,by rw[e7.2];exact g1,g2,g3.below hb⟩
 ·refine⟨S,W.heap.size,W'.heap.size,by rw[u2];exact ht,Nat.le_refl _,H.b.size,hb.size,hS,fun g hg hg2=>.inl ?_⟩
  obtain⟨g',g1,g2,g3⟩:=H.al (by rw[<- e7.1];exact hg)
  rw[e7.2,g1]at hg2;injection hg2 with hg2;injection hg2 with hg2;injection hg2 with hg2;have:=g3.lt
  omega
theorem JI.chance (H:JI V TP ev L vs W) {S:Nat->Prop} (hu:Upd 9 4 v L vs L' vs') (hf:Frm S W W') (hS:∀k,S k->V.heap.size<=k) (hg:∀g,L 8=true->vs 8 = D (some ⟨g,0,none⟩)->¬S g) (hv:∀y,ev 4=some y->v=y):JI V TP ev L' vs' W':=by
 obtain⟨u1,u2,u3⟩:=hu
 have e7:=u3 8 (by omega) (by omega)
 refine⟨H.b.trans (hf.below H.b.size hS),fun k y hk hl he'=>?_,fun hl=>?_,fun _ hl3=>(by rw[u1]at hl3;cases hl3)⟩
 ·by_cases ek:k=4
  ·subst ek;rw[u2];exact hv y he'
  ·rw[(u3 k hk ek).2];exact H.eq k y hk (by rw[<- (u3 k hk ek).1];exact hl) he'
 ·obtain⟨g,g1,g2,g3⟩:=H.al (by rw[<- e7.1];exact hl)
  have hn:=hg g (by rw[<- e7.1];exact hl) g1
  exact⟨g,by rw[e7.2];exact g1,g2,⟨Nat.lt_of_lt_of_le g3.lt hf.size,fun i x hx=>hf.cell' (g3.cell i x hx) hn,fun i x hx=>(cV hf g3.lt hn).trans (g3.froz i x hx)⟩⟩
end
def dsWII:Nat->Nat
 | 0=>20
 | 1=>21
 | 2=>22
 | 3=>23
 | 4=>24
 | 5=>19
 | 6=>25
 | 7=>26
 | 8=>9
 | _=>0
def TQi (p:Int) (c h s:Nat) (W:World) (v:Value) (S:Nat->Prop):Prop:=∃t:RT,v = D (some ⟨t.bt,0,none⟩)/\t.p=p/\t.c=c/\t.h=h/\t.s=s/\t.Ok/\RaceI t t.S W/\S=t.S
theorem TQ_stbi (p:Int) (c h s:Nat):∀W W' v S,TQi p c h s W v S->Below W.heap.size W W'->TQi p c h s W' v S:=fun _ _ _ _ ⟨t,h0,h1,h2,h3,h4,h5,h6,h7⟩ hb=>⟨t,h0,h1,h2,h3,h4,h5,h6.below hb,h7⟩
theorem jX (p c h s tu:Int) (A1 A2:Option Addr) (n1 c1 n2 c2:Nat) (own other:List Int) (w:World) (hA:SL w A1 n1 own) (hB:SL w A2 n2 other) (hc1:n1<=c1) (hc2:n2<=c2) (hm1:n1<=2000000) (hm2:n2<=2000000):
  Calls Tryz.prog 23 #[B #[.int l p,.int l c,.int l h,.int l s],B #[q A1 n1 c1,q A2 n2 c2],.int l tu] w (RetWI w (iwR p c h s own other tu)):=by
 obtain⟨Z,hZ⟩:∃Z,Z=cdT p c h s own other tu true:=⟨_,rfl⟩
 have HF0:Hid (Fr w (((w.alloc (E #[.int l p,.int l c,.int l h,.int l s] 33)).alloc (E #[q A1 n1 c1,q A2 n2 c2] 35)).alloc (E #[.int l 0,.int l 0,.int l 0,.int l 0] 47)) [[.int l p,.int l c,.int l h,.int l s],[q A1 n1 c1,q A2 n2 c2],[.int l 0,.int l 0,.int l 0,.int l 0]]):=(((Fr.start w).allocT (by simp) _ _).allocT (by simp) _ _).allocT (by simp) _ _
 have CC:Hid (∀W:World,Below w.heap.size w W->Calls Tryz.prog 69 #[B #[.int l p,.int l c,.int l h,.int l s],B #[q A1 n1 c1,q A2 n2 c2],.int l tu,I true] W fun e w'=>e = C (.int l Z)/\Below W.heap.size W w'):=fun W hw=>by rw[hZ];exact iw p c h s tu true A1 A2 n1 c1 n2 c2 own other W (hA.below hw) (hB.below hw) hm1 hm2
 have HA0:=h_ (hA.below HF0.out.b);have HB0:=h_ (hB.below HF0.out.b);clear hA hB;have hZb:=cdT_bd (p:=p) (c:=c) (h:=h) (s:=s) (own:=own) (other:=other) (tu:=tu) (mo:=true);rw[<- hZ]at hZb;have HZ:=h_ hZ
 by_cases h0:Z=0
 focus
  obtain⟨hbd,hin,_,hsm⟩:=cdT_yes (by rw[<- HZ.out];exact h0)
  have b0:(Z != 0)=false:=by simp[h0]
  obtain⟨hvv,hsd1,hsd2,_,_⟩:=board_yes hbd;obtain⟨hl1,hq1,hms1⟩:=bY hsd1;obtain⟨hl2,hq2,hms2⟩:=bY hsd2;have hv8:=aC hvv;obtain⟨_,hp6,hc3,hs3⟩:=ig hsm;have hin2:0<=tu/\tu<=2:=of_decide_eq_true hin
  obtain⟨P,rfl⟩:∃P:Nat,p=P:=⟨p.toNat,by omega⟩
  obtain⟨c',rfl⟩:∃c':Nat,c=c':=⟨c.toNat,by omega⟩
  obtain⟨h',rfl⟩:∃h':Nat,h=h':=⟨h.toNat,by omega⟩
  obtain⟨s',rfl⟩:∃s':Nat,s=s':=⟨s.toNat,by omega⟩
  obtain⟨tu',rfl⟩:∃tu':Nat,tu=tu':=⟨tu.toNat,by omega⟩
  have hsd:Sd P c' (own,other):=⟨⟨hl1,hq1,hms1⟩,⟨hl2,hq2,hms2⟩⟩
  obtain⟨⟨⟨xn,xd⟩,⟨yn,yd⟩⟩,hx,_⟩:=ivE_ok (P:=P) (h:=h') (c:=c') (s:=s') (by omega) (by omega) (by omega) (by omega) (by omega) tu' (by omega) hsd
  have HWR:Hid (iwR P c' h' s' own other tu'=(0,((⟨xn,xd⟩,⟨yn,yd⟩):Iv))):=by
   unfold Hid iwR
   rw[if_pos (by rw[<- HZ.out];exact h0)]
   simp only[Int.toNat_natCast]
   rw[hx];rfl
  have CNEW:=h_ fun (W:World)=>newRace_any (P:Int) c' h' s' W hvv (f7 (by omega) (by omega))
  have CCH:Hid (∀(t:RT) (W:World),t.p=(P:Int)->t.c=c'->t.h=h'->t.s=s'->t.Ok->RaceI t t.S W->SQ t.S W A1 n1 own->SQ t.S W A2 n2 other->
    Calls Tryz.prog 74 #[D (some ⟨t.bt,0,none⟩),B #[q A1 n1 c1,q A2 n2 c2],.int l (tu':Int)] W fun e W'=>e = C (F #[B #[.int l xn,.int l (xd:Int),.int l yn,.int l (yd:Int)],I true])/\Frm t.S W W'):=fun t W hp' hc' hh' hs' hok' hI hA hB=>by
   subst hc' hh' hs'
   have h9:=iv_all t hok' P hp' (by rw[hp'];exact hsm) tu' (by omega) t.S own other A1 A2 n1 c1 n2 c2 W (fun k hk h9=>by have:=hI.ltS k h9;omega) hI hA hB hsd hc1 hc2
   rw[hx]at h9
   exact h9.mono fun e W' h=>⟨h.1,h.2.2⟩
  clear hbd hin hsm hvv hsd1 hsd2 hl1 hl2 hq1 hq2 hms1 hms2 hsd hx hZ HZ hv8 hin2
  refine ?za
 rotate_left
 focus
  have b0:(Z != 0)=true:=by simp[h0]
  have HWR:Hid (iwR p c h s own other tu=(Z,(an,an))):=by
   unfold Hid iwR;rw[<- HZ.out,if_neg h0]
  clear hZ HZ
  refine ?zb
 rotate_left
 case' za|zb=>
  go_enter Tryz.func23,Tryz.ntmps23
  go_wp2_with (fail)
  refine (CC.out _ HF0.out.b).mono ?_
  rintro e w3 ⟨rfl,hb⟩
  have HF3:=h_ (HF0.out.below hb);have HA3:=h_ (HA0.out.below hb);have HB3:=h_ (HB0.out.below hb);clear hb HF0 HA0 HB0 CC;obtain⟨z0,c00,f00,c01,f01,c02,f02,c03,f03,z1,c10,f10,c11,f11,z2,c20,f20,c21,f21,c22,f22,c23,f23⟩:=HF3.out.xf0
  go_wp2_with (fail)
 case za=>
  clear z0 c00 f00 c01 f01 c02 f02 c03 f03 z1 c10 f10 c11 f11 z2 c20 f20 c21 f21 c22 f22 c23 f23
  have C0:Hid (Cel w3 w.heap.size [.int l (P:Int),.int l (c':Int),.int l (h':Int),.int l (s':Int)]):=⟨HF3.out.l0 (by simp),fun i x hx=>HF3.out.c0 i (by simpa[frAt]using hx),fun i x hx=>HF3.out.f0 i (v:=x) (by simpa[frAt]using hx)⟩
  have C1:Hid (Cel w3 (w.heap.size+1) [q A1 n1 c1,q A2 n2 c2]):=⟨HF3.out.l1 (by simp),fun i x hx=>HF3.out.c1 i (by simpa[frAt]using hx),fun i x hx=>HF3.out.f1 i (v:=x) (by simpa[frAt]using hx)⟩
  generalize w3=V at *
  have HJ:Hid (∀vs,JI V (TQi (P:Int) c' h' s') (evI (B #[.int l (P:Int),.int l (c':Int),.int l (h':Int),.int l (s':Int)]) (B #[q A1 n1 c1,q A2 n2 c2]) (.int l (tu':Int)) (F #[B #[.int l xn,.int l (xd:Int),.int l yn,.int l (yd:Int)],I true]) (B #[.int l xn,.int l (xd:Int),.int l yn,.int l (yd:Int)]) (I true)) (fun _=>false) vs { V with drawn:=V.drawn+1 }):=fun vs=>⟨Bel.drew _,fun _ _ _ h=>(by cases h),fun h=>(by cases h),fun h=>(by cases h)⟩
  refine cT 9 (fun i=>i == 7) dsWII (JI V (TQi (P:Int) c' h' s') (evI (B #[.int l (P:Int),.int l (c':Int),.int l (h':Int),.int l (s':Int)]) (B #[q A1 n1 c1,q A2 n2 c2]) (.int l (tu':Int)) (F #[B #[.int l xn,.int l (xd:Int),.int l yn,.int l (yd:Int)],I true]) (B #[.int l xn,.int l (xd:Int),.int l yn,.int l (yd:Int)]) (I true))) (by kernel_rfl) (by kernel_rfl) (fun _ _ _ _ _ h=>h) HJ.out ?_ ?_ ?_
  ·intro i op hi hX ho Ls a' W H hun hfar hdep
   have hi8:i=7:=by simpa using hX
   clear hX hi hfar;subst hi8
   simp at ho
   subst ho
   have d1:a'.tmps.getD 19 undef = F #[B #[.int l xn,.int l (xd:Int),.int l yn,.int l (yd:Int)],I true]:=H.eq 5 _ (by omega) (hdep 5 (by omega) (by kernel_rfl)) rfl
   exact⟨I true,fun W'=>by simp only[execOp,Act.eval,d1];go_simp,fun L' vs' hu=>H.pure hu (Below.refl _ _) (by decide) (fun y hy=>by injection hy)⟩
  ·intro i op hi hX ho Ls a' W H hun hfar hdep
   have e2:a'.tmps.getD 2 undef = .int l (tu':Int):=(fr hfar 2).trans rfl
   have e3:a'.tmps.getD 3 undef = D (some ⟨w.heap.size,0,none⟩):=(fr hfar 3).trans rfl
   have e4:a'.tmps.getD 4 undef = D (some ⟨w.heap.size+1,0,none⟩):=(fr hfar 4).trans rfl
   have hi8:i=0\/i=1\/i=2\/i=3\/i=4\/i=5\/i=6\/i=8:=by simp at hX;omega
   clear hX hi hfar
   rcases hi8 with rfl|rfl|rfl|rfl|rfl|rfl|rfl|rfl
   all_goals (simp at ho;subst ho)
   ·have zz:=C0.out.below H.b
    have z0:=zz.cell 0 _ rfl;have z1:=zz.cell 1 _ rfl;have z2:=zz.cell 2 _ rfl;have z3:=zz.cell 3 _ rfl
    exact .inl ⟨B #[.int l (P:Int),.int l (c':Int),.int l (h':Int),.int l (s':Int)],W,by simp only[execOp,Act.eval,e3];go_simp,fun L' vs' hu=>H.pure hu (Below.refl _ _) (by decide) (fun y hy=>by injection hy)⟩
   ·have d1:a'.tmps.getD 20 undef = B #[.int l (P:Int),.int l (c':Int),.int l (h':Int),.int l (s':Int)]:=H.eq 0 _ (by omega) (hdep 0 (by omega) (by kernel_rfl)) rfl
    refine .inr ⟨71,#[B #[.int l (P:Int),.int l (c':Int),.int l (h':Int),.int l (s':Int)]],by simp only[execOp,Act.eval,d1];go_simp,?_⟩
    refine (CNEW.out W).mono ?_
    rintro e W' ⟨t,hp',hc',hh',hs',rfl,hok',hI,hlow,_,hb'⟩
    exact⟨_,rfl,fun L' vs' hu=>H.race hu hb' rfl ⟨t,rfl,hp',hc',hh',hs',hok',hI,rfl⟩ (fun k hk=>⟨hlow k hk,hI.ltS k hk⟩)⟩
   ·have zz:=C1.out.below H.b
    have z0:=zz.cell 0 _ rfl;have z1:=zz.cell 1 _ rfl
    exact .inl ⟨B #[q A1 n1 c1,q A2 n2 c2],W,by simp only[execOp,Act.eval,e4];go_simp,fun L' vs' hu=>H.pure hu (Below.refl _ _) (by decide) (fun y hy=>by injection hy)⟩
   ·exact .inl ⟨.int l (tu':Int),W,by simp only[execOp,Act.eval,e2];go_simp,fun L' vs' hu=>H.pure hu (Below.refl _ _) (by decide) (fun y hy=>by injection hy)⟩
   ·obtain⟨S,l1,hi,⟨t,d1,hp',hc',hh',hs',hok',hI,hS⟩,a7,a8,a8',a9,a10⟩:=H.ra (hdep 1 (by omega) (by kernel_rfl)) hun
    subst hS;replace d1:a'.tmps.getD 21 undef = D (some ⟨t.bt,0,none⟩):=d1
    have d2:a'.tmps.getD 22 undef = B #[q A1 n1 c1,q A2 n2 c2]:=H.eq 2 _ (by omega) (hdep 2 (by omega) (by kernel_rfl)) rfl
    have d3:a'.tmps.getD 23 undef = .int l (tu':Int):=H.eq 3 _ (by omega) (hdep 3 (by omega) (by kernel_rfl)) rfl
    have hlo:∀k,t.S k->V.heap.size<=k:=fun k hk=>Nat.le_trans a8 (a9 k hk).1
    refine .inr ⟨74,#[D (some ⟨t.bt,0,none⟩),B #[q A1 n1 c1,q A2 n2 c2],.int l (tu':Int)],by simp only[execOp,Act.eval,d1,d2,d3];go_simp,?_⟩
    refine (CCH.out t W hp' hc' hh' hs' hok' hI ((sq_of HA3.out (fun k hk h9=>by have:=hlo k h9;omega)).frm (Frm.of_below' _ H.b)) ((sq_of HB3.out (fun k hk h9=>by have:=hlo k h9;omega)).frm (Frm.of_below' _ H.b))).mono ?_
    rintro e W' ⟨rfl,hf'⟩
    exact⟨_,rfl,fun L' vs' hu=>H.chance hu hf' hlo (fun g hg hg2 hSg=>by have:=a9 g hSg;rcases a10 g hg hg2 with h|h<;>omega) (fun y hy=>by injection hy)⟩
   ·have d1:a'.tmps.getD 24 undef = F #[B #[.int l xn,.int l (xd:Int),.int l yn,.int l (yd:Int)],I true]:=H.eq 4 _ (by omega) (hdep 4 (by omega) (by kernel_rfl)) rfl
    exact .inl ⟨F #[B #[.int l xn,.int l (xd:Int),.int l yn,.int l (yd:Int)],I true],W,by simp only[execOp,Act.eval,d1];go_simp,fun L' vs' hu=>H.pure hu (Below.refl _ _) (by decide) (fun y hy=>by injection hy)⟩
   ·have d1:a'.tmps.getD 19 undef = F #[B #[.int l xn,.int l (xd:Int),.int l yn,.int l (yd:Int)],I true]:=H.eq 5 _ (by omega) (hdep 5 (by omega) (by kernel_rfl)) rfl
    exact .inl ⟨B #[.int l xn,.int l (xd:Int),.int l yn,.int l (yd:Int)],W,by simp only[execOp,Act.eval,d1];go_simp,fun L' vs' hu=>H.pure hu (Below.refl _ _) (by decide) (fun y hy=>by injection hy)⟩
   ·exact .inl ⟨D (some ⟨W.heap.size,0,none⟩),W.alloc (E #[.int l 0,.int l 0,.int l 0,.int l 0] 47),by kernel_rfl,fun L' vs' hu=>H.alloc _ hu rfl (TQ_stbi _ _ _ _)⟩
  intro Ls v W2 hall H
  have g0:v 0 = B #[.int l (P:Int),.int l (c':Int),.int l (h':Int),.int l (s':Int)]:=H.eq 0 _ (by omega) (hall 0 (by omega)) rfl
  have g2:v 2 = B #[q A1 n1 c1,q A2 n2 c2]:=H.eq 2 _ (by omega) (hall 2 (by omega)) rfl
  have g3:v 3 = .int l (tu':Int):=H.eq 3 _ (by omega) (hall 3 (by omega)) rfl
  have g4:v 4 = F #[B #[.int l xn,.int l (xd:Int),.int l yn,.int l (yd:Int)],I true]:=H.eq 4 _ (by omega) (hall 4 (by omega)) rfl
  have g5:v 5 = F #[B #[.int l xn,.int l (xd:Int),.int l yn,.int l (yd:Int)],I true]:=H.eq 5 _ (by omega) (hall 5 (by omega)) rfl
  have g6:v 6 = B #[.int l xn,.int l (xd:Int),.int l yn,.int l (yd:Int)]:=H.eq 6 _ (by omega) (hall 6 (by omega)) rfl
  have g7:v 7 = I true:=H.eq 7 _ (by omega) (hall 7 (by omega)) rfl
  obtain⟨t1,g1⟩:∃t1,v 1=t1:=⟨_,rfl⟩
  obtain⟨g,g8,gl,AL⟩:=H.al (hall 8 (by omega))
  have hW:=h_ H.b
  simp only[List.drop_succ_cons,List.drop_zero,putV,dsWII,g0,g1,g2,g3,g4,g5,g6,g7,g8,Act.put]
  clear g0 g1 g2 g3 g4 g5 g6 g7 g8 H hall C0 C1 CNEW CCH HA3 HB3
  have hzV:w.heap.size+3<=V.heap.size:=by have:=HF3.out.z;simpa using this
  have HFZ:=h_ (HF3.out.below hW.out);clear HF3;have y0:=AL.cell 0 _ rfl;have y1:=AL.cell 1 _ rfl;have y2:=AL.cell 2 _ rfl;have y3:=AL.cell 3 _ rfl;have q0:=AL.froz 0 _ rfl;have q1:=AL.froz 1 _ rfl;have q2:=AL.froz 2 _ rfl;have q3:=AL.froz 3 _ rfl;have yl:=AL.lt;have HALC:=h_ AL;clear AL
  have hn2:g≠w.heap.size+1+1:=by omega
  have hn2':w.heap.size+1+1≠g:=by omega
  obtain⟨z0,c00,f00,c01,f01,c02,f02,c03,f03,z1,c10,f10,c11,f11,z2,c20,f20,c21,f21,c22,f22,c23,f23⟩:=HFZ.out.xf0
  go_wp2_with (fail)
  refine bodyPost_ret (v:=F #[B #[.int l xn,.int l (xd:Int),.int l yn,.int l (yd:Int)],.int l 0]) (by simp[results,Tryz.results23,go_sem,c20,c21,c22,c23,z2,f20,f21,f22,f23]) rfl (RetWI.mk' HWR.out ?_)
  repeat (first|with_reducible exact HFZ.out.b|refine stw ?_ (by omega)|refine alw ?_ (by omega))
 case zb=>
  refine bodyPost_ret (v:=F #[B #[.int l 0,.int l 0,.int l 0,.int l 0],.int l Z]) (by simp[results,Tryz.results23,go_sem,c20,c21,c22,c23,z2,f20,f21,f22,f23]) rfl (RetWI.mk' HWR.out ?_)
  repeat (first|with_reducible exact HF3.out.b|refine stw ?_ (by omega)|refine alw ?_ (by omega))
def dsWIS:Nat->Nat
 | 0=>21
 | 1=>22
 | 2=>23
 | 3=>24
 | 4=>25
 | 5=>20
 | 6=>26
 | 7=>27
 | 8=>9
 | _=>0
def TQs (p:Int) (c h s:Nat) (W:World) (v:Value) (S:Nat->Prop):Prop:=∃t:RT2,v = D (some ⟨t.bt,0,none⟩)/\t.p=p/\t.c=c/\t.h=h/\t.s=s/\t.Ok/\TabI t W/\S=t.S
theorem TQ_stbs (p:Int) (c h s:Nat):∀W W' v S,TQs p c h s W v S->Below W.heap.size W W'->TQs p c h s W' v S:=fun _ _ _ _ ⟨t,h0,h1,h2,h3,h4,h5,h6,h7⟩ hb=>⟨t,h0,h1,h2,h3,h4,h5,h6.below hb,h7⟩
theorem iO (p c h s tu:Int) (A1 A2:Option Addr) (n1 c1 n2 c2:Nat) (own other:List Int) (w:World) (hA:SL w A1 n1 own) (hB:SL w A2 n2 other) (hc1:n1<=c1) (hc2:n2<=c2) (hm1:n1<=2000000) (hm2:n2<=2000000):
  Calls Tryz.prog 22 #[B #[.int l p,.int l c,.int l h,.int l s],B #[q A1 n1 c1,q A2 n2 c2],.int l tu] w (RetWI w (iwR p c h s own other tu)):=by
 obtain⟨Z,hZ⟩:∃Z,Z=cdT p c h s own other tu true:=⟨_,rfl⟩
 have HF0:Hid (Fr w (((w.alloc (E #[.int l p,.int l c,.int l h,.int l s] 33)).alloc (E #[q A1 n1 c1,q A2 n2 c2] 35)).alloc (E #[.int l 0,.int l 0,.int l 0,.int l 0] 47)) [[.int l p,.int l c,.int l h,.int l s],[q A1 n1 c1,q A2 n2 c2],[.int l 0,.int l 0,.int l 0,.int l 0]]):=(((Fr.start w).allocT (by simp) _ _).allocT (by simp) _ _).allocT (by simp) _ _
 have CC:Hid (∀W:World,Below w.heap.size w W->Calls Tryz.prog 65 #[B #[.int l p,.int l c,.int l h,.int l s],B #[q A1 n1 c1,q A2 n2 c2],.int l tu,B #[.int l 0,.int l 0],I false] W fun e w'=>e = C (.int l Z)/\Below W.heap.size W w'):=fun W hw=>by rw[hZ];exact l15CodeT_any p c h s tu 0 0 false A1 A2 n1 c1 n2 c2 own other W (hA.below hw) (hB.below hw) hm1 hm2
 have HA0:=h_ (hA.below HF0.out.b);have HB0:=h_ (hB.below HF0.out.b);clear hA hB;have hZb:=cdT_bd (p:=p) (c:=c) (h:=h) (s:=s) (own:=own) (other:=other) (tu:=tu) (mo:=true);rw[<- hZ]at hZb;have HZ:=h_ hZ
 by_cases h0:Z=0
 focus
  obtain⟨hbd,hin,_,hsm⟩:=cdT_yes (by rw[<- HZ.out];exact h0)
  have b0:(Z != 0)=false:=by simp[h0]
  obtain⟨hvv,hsd1,hsd2,_,_⟩:=board_yes hbd;obtain⟨hl1,hq1,hms1⟩:=bY hsd1;obtain⟨hl2,hq2,hms2⟩:=bY hsd2;have hv8:=aC hvv;obtain⟨_,hp6,hc3,hs3⟩:=ig hsm;have hin2:0<=tu/\tu<=2:=of_decide_eq_true hin
  obtain⟨P,rfl⟩:∃P:Nat,p=P:=⟨p.toNat,by omega⟩
  obtain⟨c',rfl⟩:∃c':Nat,c=c':=⟨c.toNat,by omega⟩
  obtain⟨h',rfl⟩:∃h':Nat,h=h':=⟨h.toNat,by omega⟩
  obtain⟨s',rfl⟩:∃s':Nat,s=s':=⟨s.toNat,by omega⟩
  obtain⟨tu',rfl⟩:∃tu':Nat,tu=tu':=⟨tu.toNat,by omega⟩
  have hsd:Sd P c' (own,other):=⟨⟨hl1,hq1,hms1⟩,⟨hl2,hq2,hms2⟩⟩
  obtain⟨⟨⟨xn,xd⟩,⟨yn,yd⟩⟩,hx,_⟩:=ivE_ok (P:=P) (h:=h') (c:=c') (s:=s') (by omega) (by omega) (by omega) (by omega) (by omega) tu' (by omega) hsd
  have HWR:Hid (iwR P c' h' s' own other tu'=(0,((⟨xn,xd⟩,⟨yn,yd⟩):Iv))):=by
   unfold Hid iwR
   rw[if_pos (by rw[<- HZ.out];exact h0)]
   simp only[Int.toNat_natCast]
   rw[hx];rfl
  have CNEW:=h_ fun (W:World)=>l12New_any (P:Int) c' h' s' W hvv (f7 (by omega) (by omega))
  have CCH:Hid (∀(t:RT2) (W:World),t.p=(P:Int)->t.c=c'->t.h=h'->t.s=s'->t.Ok->TabI t W->SQ t.S W A1 n1 own->SQ t.S W A2 n2 other->
    Calls Tryz.prog 73 #[D (some ⟨t.bt,0,none⟩),B #[q A1 n1 c1,q A2 n2 c2],.int l (tu':Int)] W fun e W'=>e = C (F #[B #[.int l xn,.int l (xd:Int),.int l yn,.int l (yd:Int)],I true])/\Frm t.S W W'):=fun t W hp' hc' hh' hs' hok' hI hA hB=>by
   subst hc' hh' hs'
   have h9:=iv2_all t hok' P hp' (by rw[hp'];exact hsm) tu' (by omega) own other A1 A2 n1 c1 n2 c2 W hI hA hB hsd hc1 hc2
   rw[hx]at h9
   exact h9.mono fun e W' h=>⟨h.1,h.2.2⟩
  clear hbd hin hsm hvv hsd1 hsd2 hl1 hl2 hq1 hq2 hms1 hms2 hsd hx hZ HZ hv8 hin2
  refine ?za
 rotate_left
 focus
  have b0:(Z != 0)=true:=by simp[h0]
  have HWR:Hid (iwR p c h s own other tu=(Z,(an,an))):=by
   unfold Hid iwR;rw[<- HZ.out,if_neg h0]
  clear hZ HZ
  refine ?zb
 rotate_left
 case' za|zb=>
  go_enter Tryz.func22,Tryz.ntmps22
  go_wp2_with (fail)
  refine (CC.out _ HF0.out.b).mono ?_
  rintro e w3 ⟨rfl,hb⟩
  have HF3:=h_ (HF0.out.below hb);have HA3:=h_ (HA0.out.below hb);have HB3:=h_ (HB0.out.below hb);clear hb HF0 HA0 HB0 CC;obtain⟨z0,c00,f00,c01,f01,c02,f02,c03,f03,z1,c10,f10,c11,f11,z2,c20,f20,c21,f21,c22,f22,c23,f23⟩:=HF3.out.xf0
  go_wp2_with (fail)
 case za=>
  clear z0 c00 f00 c01 f01 c02 f02 c03 f03 z1 c10 f10 c11 f11 z2 c20 f20 c21 f21 c22 f22 c23 f23
  have C0:Hid (Cel w3 w.heap.size [.int l (P:Int),.int l (c':Int),.int l (h':Int),.int l (s':Int)]):=⟨HF3.out.l0 (by simp),fun i x hx=>HF3.out.c0 i (by simpa[frAt]using hx),fun i x hx=>HF3.out.f0 i (v:=x) (by simpa[frAt]using hx)⟩
  have C1:Hid (Cel w3 (w.heap.size+1) [q A1 n1 c1,q A2 n2 c2]):=⟨HF3.out.l1 (by simp),fun i x hx=>HF3.out.c1 i (by simpa[frAt]using hx),fun i x hx=>HF3.out.f1 i (v:=x) (by simpa[frAt]using hx)⟩
  generalize w3=V at *
  have HJ:Hid (∀vs,JI V (TQs (P:Int) c' h' s') (evI (B #[.int l (P:Int),.int l (c':Int),.int l (h':Int),.int l (s':Int)]) (B #[q A1 n1 c1,q A2 n2 c2]) (.int l (tu':Int)) (F #[B #[.int l xn,.int l (xd:Int),.int l yn,.int l (yd:Int)],I true]) (B #[.int l xn,.int l (xd:Int),.int l yn,.int l (yd:Int)]) (I true)) (fun _=>false) vs { V with drawn:=V.drawn+1 }):=fun vs=>⟨Bel.drew _,fun _ _ _ h=>(by cases h),fun h=>(by cases h),fun h=>(by cases h)⟩
  refine cT 9 (fun i=>i == 7) dsWIS (JI V (TQs (P:Int) c' h' s') (evI (B #[.int l (P:Int),.int l (c':Int),.int l (h':Int),.int l (s':Int)]) (B #[q A1 n1 c1,q A2 n2 c2]) (.int l (tu':Int)) (F #[B #[.int l xn,.int l (xd:Int),.int l yn,.int l (yd:Int)],I true]) (B #[.int l xn,.int l (xd:Int),.int l yn,.int l (yd:Int)]) (I true))) (by kernel_rfl) (by kernel_rfl) (fun _ _ _ _ _ h=>h) HJ.out ?_ ?_ ?_
  ·intro i op hi hX ho Ls a' W H hun hfar hdep
   have hi8:i=7:=by simpa using hX
   clear hX hi hfar;subst hi8
   simp at ho
   subst ho
   have d1:a'.tmps.getD 20 undef = F #[B #[.int l xn,.int l (xd:Int),.int l yn,.int l (yd:Int)],I true]:=H.eq 5 _ (by omega) (hdep 5 (by omega) (by kernel_rfl)) rfl
   exact⟨I true,fun W'=>by simp only[execOp,Act.eval,d1];go_simp,fun L' vs' hu=>H.pure hu (Below.refl _ _) (by decide) (fun y hy=>by injection hy)⟩
  ·intro i op hi hX ho Ls a' W H hun hfar hdep
   have e2:a'.tmps.getD 2 undef = .int l (tu':Int):=(fr hfar 2).trans rfl
   have e3:a'.tmps.getD 3 undef = D (some ⟨w.heap.size,0,none⟩):=(fr hfar 3).trans rfl
   have e4:a'.tmps.getD 4 undef = D (some ⟨w.heap.size+1,0,none⟩):=(fr hfar 4).trans rfl
   have hi8:i=0\/i=1\/i=2\/i=3\/i=4\/i=5\/i=6\/i=8:=by simp at hX;omega
   clear hX hi hfar
   rcases hi8 with rfl|rfl|rfl|rfl|rfl|rfl|rfl|rfl
   all_goals (simp at ho;subst ho)
   ·have zz:=C0.out.below H.b
    have z0:=zz.cell 0 _ rfl;have z1:=zz.cell 1 _ rfl;have z2:=zz.cell 2 _ rfl;have z3:=zz.cell 3 _ rfl
    exact .inl ⟨B #[.int l (P:Int),.int l (c':Int),.int l (h':Int),.int l (s':Int)],W,by simp only[execOp,Act.eval,e3];go_simp,fun L' vs' hu=>H.pure hu (Below.refl _ _) (by decide) (fun y hy=>by injection hy)⟩
   ·have d1:a'.tmps.getD 21 undef = B #[.int l (P:Int),.int l (c':Int),.int l (h':Int),.int l (s':Int)]:=H.eq 0 _ (by omega) (hdep 0 (by omega) (by kernel_rfl)) rfl
    refine .inr ⟨67,#[B #[.int l (P:Int),.int l (c':Int),.int l (h':Int),.int l (s':Int)]],by simp only[execOp,Act.eval,d1];go_simp,?_⟩
    refine (CNEW.out W).mono ?_
    rintro e W' ⟨t,hp',hc',hh',hs',rfl,hok',hI,hlow,_,hb'⟩
    exact⟨_,rfl,fun L' vs' hu=>H.race hu hb' rfl ⟨t,rfl,hp',hc',hh',hs',hok',hI,rfl⟩ (fun k hk=>⟨hlow k hk,hI.ltS k hk⟩)⟩
   ·have zz:=C1.out.below H.b
    have z0:=zz.cell 0 _ rfl;have z1:=zz.cell 1 _ rfl
    exact .inl ⟨B #[q A1 n1 c1,q A2 n2 c2],W,by simp only[execOp,Act.eval,e4];go_simp,fun L' vs' hu=>H.pure hu (Below.refl _ _) (by decide) (fun y hy=>by injection hy)⟩
   ·exact .inl ⟨.int l (tu':Int),W,by simp only[execOp,Act.eval,e2];go_simp,fun L' vs' hu=>H.pure hu (Below.refl _ _) (by decide) (fun y hy=>by injection hy)⟩
   ·obtain⟨S,l1,hi,⟨t,d1,hp',hc',hh',hs',hok',hI,hS⟩,a7,a8,a8',a9,a10⟩:=H.ra (hdep 1 (by omega) (by kernel_rfl)) hun
    subst hS;replace d1:a'.tmps.getD 22 undef = D (some ⟨t.bt,0,none⟩):=d1
    have d2:a'.tmps.getD 23 undef = B #[q A1 n1 c1,q A2 n2 c2]:=H.eq 2 _ (by omega) (hdep 2 (by omega) (by kernel_rfl)) rfl
    have d3:a'.tmps.getD 24 undef = .int l (tu':Int):=H.eq 3 _ (by omega) (hdep 3 (by omega) (by kernel_rfl)) rfl
    have hlo:∀k,t.S k->V.heap.size<=k:=fun k hk=>Nat.le_trans a8 (a9 k hk).1
    refine .inr ⟨73,#[D (some ⟨t.bt,0,none⟩),B #[q A1 n1 c1,q A2 n2 c2],.int l (tu':Int)],by simp only[execOp,Act.eval,d1,d2,d3];go_simp,?_⟩
    refine (CCH.out t W hp' hc' hh' hs' hok' hI ((sq_of HA3.out (fun k hk h9=>by have:=hlo k h9;omega)).frm (Frm.of_below' _ H.b)) ((sq_of HB3.out (fun k hk h9=>by have:=hlo k h9;omega)).frm (Frm.of_below' _ H.b))).mono ?_
    rintro e W' ⟨rfl,hf'⟩
    exact⟨_,rfl,fun L' vs' hu=>H.chance hu hf' hlo (fun g hg hg2 hSg=>by have:=a9 g hSg;rcases a10 g hg hg2 with h|h<;>omega) (fun y hy=>by injection hy)⟩
   ·have d1:a'.tmps.getD 25 undef = F #[B #[.int l xn,.int l (xd:Int),.int l yn,.int l (yd:Int)],I true]:=H.eq 4 _ (by omega) (hdep 4 (by omega) (by kernel_rfl)) rfl
    exact .inl ⟨F #[B #[.int l xn,.int l (xd:Int),.int l yn,.int l (yd:Int)],I true],W,by simp only[execOp,Act.eval,d1];go_simp,fun L' vs' hu=>H.pure hu (Below.refl _ _) (by decide) (fun y hy=>by injection hy)⟩
   ·have d1:a'.tmps.getD 20 undef = F #[B #[.int l xn,.int l (xd:Int),.int l yn,.int l (yd:Int)],I true]:=H.eq 5 _ (by omega) (hdep 5 (by omega) (by kernel_rfl)) rfl
    exact .inl ⟨B #[.int l xn,.int l (xd:Int),.int l yn,.int l (yd:Int)],W,by simp only[execOp,Act.eval,d1];go_simp,fun L' vs' hu=>H.pure hu (Below.refl _ _) (by decide) (fun y hy=>by injection hy)⟩
   ·exact .inl ⟨D (some ⟨W.heap.size,0,none⟩),W.alloc (E #[.int l 0,.int l 0,.int l 0,.int l 0] 47),by kernel_rfl,fun L' vs' hu=>H.alloc _ hu rfl (TQ_stbs _ _ _ _)⟩
  intro Ls v W2 hall H
  have g0:v 0 = B #[.int l (P:Int),.int l (c':Int),.int l (h':Int),.int l (s':Int)]:=H.eq 0 _ (by omega) (hall 0 (by omega)) rfl
  have g2:v 2 = B #[q A1 n1 c1,q A2 n2 c2]:=H.eq 2 _ (by omega) (hall 2 (by omega)) rfl
  have g3:v 3 = .int l (tu':Int):=H.eq 3 _ (by omega) (hall 3 (by omega)) rfl
  have g4:v 4 = F #[B #[.int l xn,.int l (xd:Int),.int l yn,.int l (yd:Int)],I true]:=H.eq 4 _ (by omega) (hall 4 (by omega)) rfl
  have g5:v 5 = F #[B #[.int l xn,.int l (xd:Int),.int l yn,.int l (yd:Int)],I true]:=H.eq 5 _ (by omega) (hall 5 (by omega)) rfl
  have g6:v 6 = B #[.int l xn,.int l (xd:Int),.int l yn,.int l (yd:Int)]:=H.eq 6 _ (by omega) (hall 6 (by omega)) rfl
  have g7:v 7 = I true:=H.eq 7 _ (by omega) (hall 7 (by omega)) rfl
  obtain⟨t1,g1⟩:∃t1,v 1=t1:=⟨_,rfl⟩
  obtain⟨g,g8,gl,AL⟩:=H.al (hall 8 (by omega))
  have hW:=h_ H.b
  simp only[List.drop_succ_cons,List.drop_zero,putV,dsWIS,g0,g1,g2,g3,g4,g5,g6,g7,g8,Act.put]
  clear g0 g1 g2 g3 g4 g5 g6 g7 g8 H hall C0 C1 CNEW CCH HA3 HB3
  have hzV:w.heap.size+3<=V.heap.size:=by have:=HF3.out.z;simpa using this
  have HFZ:=h_ (HF3.out.below hW.out);clear HF3;have y0:=AL.cell 0 _ rfl;have y1:=AL.cell 1 _ rfl;have y2:=AL.cell 2 _ rfl;have y3:=AL.cell 3 _ rfl;have q0:=AL.froz 0 _ rfl;have q1:=AL.froz 1 _ rfl;have q2:=AL.froz 2 _ rfl;have q3:=AL.froz 3 _ rfl;have yl:=AL.lt;have HALC:=h_ AL;clear AL
  have hn2:g≠w.heap.size+1+1:=by omega
  have hn2':w.heap.size+1+1≠g:=by omega
  obtain⟨z0,c00,f00,c01,f01,c02,f02,c03,f03,z1,c10,f10,c11,f11,z2,c20,f20,c21,f21,c22,f22,c23,f23⟩:=HFZ.out.xf0
  go_wp2_with (fail)
  refine bodyPost_ret (v:=F #[B #[.int l xn,.int l (xd:Int),.int l yn,.int l (yd:Int)],.int l 0]) (by simp[results,Tryz.results22,go_sem,c20,c21,c22,c23,z2,f20,f21,f22,f23]) rfl (RetWI.mk' HWR.out ?_)
  repeat (first|with_reducible exact HFZ.out.b|refine stw ?_ (by omega)|refine alw ?_ (by omega))
 case zb=>
  refine bodyPost_ret (v:=F #[B #[.int l 0,.int l 0,.int l 0,.int l 0],.int l Z]) (by simp[results,Tryz.results22,go_sem,c20,c21,c22,c23,z2,f20,f21,f22,f23]) rfl (RetWI.mk' HWR.out ?_)
  repeat (first|with_reducible exact HF3.out.b|refine stw ?_ (by omega)|refine alw ?_ (by omega))
open Go.RowKit
theorem iK (A1 A2:Option Addr) (n c1 c2:Nat) (xs:List Int) (w:World) (h1:SL w A1 n xs) (h2:SL w A2 n xs) (hn:n<=2000000):
  Calls Tryz.prog 32 #[q A1 n c1,q A2 n c2] w fun e w'=>e = C (I true)/\Below w.heap.size w w':=by
 have H1:=h_ h1;have H2:=h_ h2;clear h1 h2
 have hne:((n:Int) != (n:Int))=false:=by simp
 go_enter Tryz.func32,Tryz.ntmps32
 go_wp2_with (fail)
 go_loopw [5] (fun i wr=>∃k:Nat,k<=n/\i = .int l k/\Below w.heap.size w wr) (fun i _=>n-(intOf i).toNat)
 case atStart=>exact⟨0,by omega,rfl,Below.refl _ _⟩
 case round=>
  obtain⟨k,hk,rfl,hb⟩:=hrel
  by_cases hlt:k<n
  ·obtain⟨x1,o1,rfl,hb1,hc1⟩:=(H1.out.keep (Nat.le_refl _) hb).2 (by omega)
   obtain⟨x2,o2,rfl,hb2,hc2⟩:=(H2.out.keep (Nat.le_refl _) hb).2 (by omega)
   have q1:=hc1 k hlt;have q2:=hc2 k hlt
   have hki:(k:Int)<(n:Int):=by omega
   have hk0:(0:Int)<=(k:Int):=by omega
   clear hc1 hc2;generalize xs.getD k 0=u at *
   go_wp2_with (fail)
   refine ae (by kernel_rfl) (by kernel_rfl) ?_
   repeat (first|go_big_quiet_step ((fail))|quiet_step ((fail)))
   refine wpQuiet_nil ?_
   intro _ hw'
   obtain⟨tq,hw''⟩:=hw';subst hw'';have hbm:=aa wr tq
   go_wp2
   go_roundw
   case rel=>exact⟨k+1,by omega,by go_num,hb.trans (hbm.mono hb.size)⟩
   case measure=>simp[intOf];omega
  ·go_wp2
   go_ret
   exact⟨rfl,hb⟩
theorem eqBoard_yes (A1 A2 B1 B2:Option Addr) (n1 c1 n2 c2 d1 d2:Nat) (xs ys:List Int) (w:World) (h1:SL w A1 n1 xs) (h2:SL w A2 n2 ys) (k1:SL w B1 n1 xs) (k2:SL w B2 n2 ys) (hn1:n1<=2000000) (hn2:n2<=2000000):
  Calls Tryz.prog 18 #[B #[q A1 n1 c1,q A2 n2 c2],B #[q B1 n1 d1,q B2 n2 d2]] w fun e w'=>e = C (I true)/\Below w.heap.size w w':=by
 have HB:Hid (Below w.heap.size w ((w.alloc (E #[q A1 n1 c1,q A2 n2 c2] 35)).alloc (E #[q B1 n1 d1,q B2 n2 d2] 35))):=((Below.refl _ _).alloc (Nat.le_refl _) _).alloc (by simp) _
 have C1:=h_ (iK A1 B1 n1 c1 d1 xs _ (h1.below HB.out) (k1.below HB.out) hn1)
 have C2:=h_ fun t=>iK A2 B2 n2 c2 d2 ys (more _ t) ((h2.below HB.out).more t) ((k2.below HB.out).more t) hn2
 clear h1 h2 k1 k2
 go_enter Tryz.func18,Tryz.ntmps18
 go_wp2_with (first|(go_at_call_of 32 A1;refine (more_first C1.out).mono ?_;rintro e w' ⟨rfl,t,rfl⟩)|(go_at_call_of 32 A2;refine (more_call (C2.out _)).mono ?_;rintro e w' ⟨rfl,t,rfl⟩))
 go_ret
 exact⟨rfl,HB.out.trans ((aa _ _).mono HB.out.size)⟩
def SBs (w:World) (A:Option Addr) (n:Nat) (bs:List (List Int×List Int)):Prop:=
 bs.length=n/\(0<n->∃b off,A=some ⟨b,off,none⟩/\b<w.heap.size/\∀i,i<n->∃A1 n1 c1 A2 n2 c2,w.cell? ⟨b,off+i*2,none⟩=some (q A1 n1 c1)/\w.cell? ⟨b,off+i*2+1,none⟩=some (q A2 n2 c2)/\
  SL w A1 n1 (bs.getD i ([],[])).1/\SL w A2 n2 (bs.getD i ([],[])).2/\n1<=maxLen/\n2<=maxLen)
theorem SBs.below {w w':World} {A:Option Addr} {n:Nat} {bs:List (List Int×List Int)} (h:SBs w A n bs) (hb:Below w.heap.size w w'):SBs w' A n bs:=by
 refine⟨h.1,fun hn=>?_⟩
 obtain⟨b,off,hA,hlt,hc⟩:=h.2 hn
 refine⟨b,off,hA,Nat.lt_of_lt_of_le hlt hb.size,fun i hi=>?_⟩
 obtain⟨A1,n1,c1,A2,n2,c2,h1,h2,h3,h4,h5,h6⟩:=hc i hi
 exact⟨A1,n1,c1,A2,n2,c2,ac h1 hb,ac h2 hb,h3.below hb,h4.below hb,h5,h6⟩
theorem SBs.more {w:World} {A:Option Addr} {n:Nat} {bs:List (List Int×List Int)} (h:SBs w A n bs) (t:World):SBs (more w t) A n bs:=h.below (aa w t)
theorem SBs.alloc {w:World} {A:Option Addr} {n:Nat} {bs:List (List Int×List Int)} (h:SBs w A n bs) (o:Obj):SBs (w.alloc o) A n bs:=h.below ((Below.refl _ _).alloc (Nat.le_refl _) o)
def RetZ (w:World) (left:Int) (tot:Nat) (en:Ending) (w':World):Prop:=∃r:Int,en = C (.int l r)/\-1<=r/\r<=left/\(0<=r->(tot:Int)<=left-r)/\Below w.heap.size w w'
theorem iB (A:Option Addr) (n c:Nat) (left:Int) (w:World) (hn:n<=9223372036854775807) (hl:0<=left) (hl2:left<=1048576):
  Calls Tryz.prog 64 #[q A n c,.int l left] w (RetZ w left n):=by
 by_cases h:left-n<0
 ·have HF:Hid (RetZ w left n (C (.int l (-1))) w):=⟨-1,rfl,by omega,by omega,by omega,Below.refl _ _⟩
  go_enter Tryz.func64,Tryz.ntmps64
  go_wp2
  go_ret
  exact HF.out
 ·have HF:Hid (RetZ w left n (C (.int l (left-n))) w):=⟨left-n,rfl,by omega,by omega,by omega,Below.refl _ _⟩
  go_enter Tryz.func64,Tryz.ntmps64
  go_wp2
  go_ret
  exact HF.out
theorem szBoard_any (A1 A2:Option Addr) (n1 c1 n2 c2:Nat) (left:Int) (w:World) (hn1:n1<=9223372036854775807) (hn2:n2<=9223372036854775807) (hl:0<=left) (hl2:left<=1048576):
  Calls Tryz.prog 11 #[B #[q A1 n1 c1,q A2 n2 c2],.int l left] w (RetZ w left (n1+n2)):=by
 have hb:Below w.heap.size w (w.alloc (E #[q A1 n1 c1,q A2 n2 c2] 26)):=(Below.refl _ _).alloc (Nat.le_refl _) _;have HB:=h_ hb;clear hb
 go_enter Tryz.func11,Tryz.ntmps11
 go_wp2_with (fail)
 refine (iB A1 n1 c1 left _ hn1 hl hl2).mono ?_
 rintro e w1 ⟨r,rfl,hr1,hr2,hr3,hb1⟩
 have d1:w1.cell? ⟨w.heap.size,1,none⟩=some (q A2 n2 c2):=ac (by simp[go_sem]) hb1
 have HB1:=h_ (HB.out.trans (hb1.mono HB.out.size));have H3:=h_ hr3;clear hb1 hr3
 by_cases h0:r<0
 ·have HF:Hid (∀W,Below w.heap.size w W->RetZ w left (n1+n2) (C (.int l (-1))) W):=fun W hW=>⟨-1,rfl,by omega,by omega,by omega,hW⟩
  go_wp2_with (fail)
  go_ret
  exact HF.out _ HB1.out
 ·go_wp2_with (fail)
  refine (iB A2 n2 c2 r _ hn2 (by omega) (by omega)).mono ?_
  rintro e w2 ⟨r2,rfl,hq1,hq2,hq3,hb2⟩
  have HB2:=h_ (HB1.out.trans (hb2.mono HB1.out.size))
  have HF:Hid (RetZ w left (n1+n2) (C (.int l r2)) w2):=⟨r2,rfl,hq1,by omega,fun h=>by have:=hq3 h;have:=H3.out (by omega);omega,HB2.out⟩
  have HF':Hid (RetZ w left (n1+n2) (C (.int l (-1))) w2):=⟨-1,rfl,by omega,by omega,by omega,HB2.out⟩
  clear hb2 hq3
  by_cases h2:r2<0
  ·go_wp2_with (fail)
   go_ret
   exact HF'.out
  ·go_wp2_with (fail)
   go_ret
   exact HF.out
theorem mixZ_step (xs:List Int) (n k:Nat) (hl:xs.length=n) (h:k<n):(xs.take k++List.replicate (n-k) (0:Int)).set k (xs.getD k 0)=xs.take (k+1)++List.replicate (n-(k+1)) 0:=by
 have hk:(xs.take k).length=k:=by rw[List.length_take];omega
 have e:n-k=(n-(k+1))+1:=by omega
 have h':k<xs.length:=by omega
 have g:xs.getD k 0=xs[k]:=by simp[List.getD,h']
 rw[List.set_append_right _ _ (by omega),hk,Nat.sub_self,e,List.replicate_succ,List.set_cons_zero,List.take_succ_eq_append_getElem h',List.append_assoc,g]
 rfl
theorem iz (A:Option Addr) (n c:Nat) (xs:List Int) (w:World) (hx:SL w A n xs) (hn:n<=2000000):
  Calls Tryz.prog 68 #[q A n c] w (RetO w 2 xs):=by
 obtain⟨i0,hi,hz0,hz1,hz2⟩:=info_parts Tryz.infoI;have HX:=h_ hx;clear hx
 go_enter Tryz.func68,Tryz.ntmps68
 go_wp2_with (at_make;refine wpList_make_full _ rfl _ _ 24 rfl w.heap.size 2 i0 (.int l 0) 1 Tryz.underlying24 hi hz0 hz1 _ _ _ _ n rfl rfl rfl rfl (by rw[hz2];omega) (by unfold maxLen;omega) (Nat.le_refl _) ?_;intro w1 hown hgrow)
 have hb:Below w.heap.size w w1:=(Below.refl _ _).grown hgrow (Nat.le_refl _) (by simp)
 have hO:OwnS w1 w.heap.size 2 (q (some ⟨w.heap.size,0,none⟩) n n) (xs.take 0++List.replicate (n-0) 0):=by
  unfold OwnS
  simp only[List.take_zero,List.nil_append,Nat.sub_zero,List.length_replicate,List.map_replicate]
  have e:(madeCells #[Value.int l 0] (n*1)).toList=List.replicate n (Value.int l 0):=by rw[Nat.mul_one];exact toList_madeCells_one _ _
  first|(rw[show (Value.int IntKind.i64 0).cells=#[Value.int l 0] from rfl,e]at hown;exact hown)|(rw[e]at hown;exact hown)|(rw[Nat.mul_one]at e;rw[e]at hown;exact hown)
 have HO:=h_ hO;have HB:=h_ hb;have hg2:w.heap.size<w1.heap.size:=(hO.lt _ rfl).2;clear hown hgrow hb hO
 go_wp2_with (fail)
 go_loopw [4] (fun i wr=>∃k:Nat,k<=n/\i = .int l k/\OwnS wr w.heap.size 2 (q (some ⟨w.heap.size,0,none⟩) n n) (xs.take k++List.replicate (n-k) 0)/\Below w.heap.size w wr) (fun i _=>n-(intOf i).toNat)
 case atStart=>exact⟨0,by omega,rfl,HO.out,HB.out⟩
 case round=>
  obtain⟨k,hk,rfl,ho,hb⟩:=hrel
  by_cases hlt:k<n
  ·obtain⟨b,off,rfl,hbl,hc⟩:=(HX.out.keep (Nat.le_refl _) hb).2 (by omega)
   have q1:=hc k hlt
   obtain⟨b',off',hA',hbl',_⟩:=HX.out.2 (by omega)
   injection hA' with hA';injection hA' with hA1 hA2;subst hA1 hA2
   obtain⟨g,hg0,_,_,hcl,hfr⟩:=ao ho (by omega)
   injection hg0 with hg0;injection hg0 with hg0 _;subst hg0;have q2:=hcl k hlt;have q3:=hfr k
   have hki:(k:Int)<(n:Int):=by omega
   have hk0:(0:Int)<=(k:Int):=by omega
   have HN:=h_ (ho.stored k (xs.getD k 0));have HM:=h_ (mixZ_step xs n k HX.out.1 hlt);have HB2:=h_ (hb.setCell (p:=⟨w.heap.size,k,none⟩) (Nat.le_refl _) (.int l (xs.getD k 0)))
   have hne:b≠w.heap.size:=by omega
   clear hc hcl hfr ho hb;generalize (xs.take k++List.replicate (n-k) 0).getD k 0=u at *;generalize xs.getD k 0=x at *
   go_wp2_with (fail)
   go_roundw
   case rel=>exact⟨k+1,by omega,by go_num,by rw[<- HM.out];exact HN.out,HB2.out⟩
   case measure=>simp[intOf];omega
  ·obtain rfl:k=n:=by omega
   have HF:Hid (RetO w 2 xs (C (q (some ⟨w.heap.size,0,none⟩) k k)) wr):=by
    have h:=ho
    rw[List.take_of_length_le (by rw[HX.out.1];exact Nat.le_refl _),Nat.sub_self,List.replicate_zero,List.append_nil]at h
    exact RetO.mk h hb
   clear ho hb
   go_wp2_with (fail)
   go_ret
   exact HF.out
def RetBd (w:World) (own other:List Int) (en:Ending) (w':World):Prop:=∃A1 c1 A2 c2,en = C (B #[q A1 own.length c1,q A2 other.length c2])/\
 OwnS w' w.heap.size 2 (q A1 own.length c1) own/\OwnS w' w.heap.size 2 (q A2 other.length c2) other/\
 ((Value.slice A1 own.length c1).ownBlock=none\/(Value.slice A1 own.length c1).ownBlock≠(Value.slice A2 other.length c2).ownBlock)/\Below w.heap.size w w'
theorem fJ (A1 A2:Option Addr) (n1 c1 n2 c2:Nat) (xs ys:List Int) (w:World) (h1:SL w A1 n1 xs) (h2:SL w A2 n2 ys) (hn1:n1<=2000000) (hn2:n2<=2000000):
  Calls Tryz.prog 14 #[B #[q A1 n1 c1,q A2 n2 c2]] w (RetBd w xs ys):=by
 have HB:Hid (Below w.heap.size w (((w.alloc (E #[q A1 n1 c1,q A2 n2 c2] 26)).alloc (E #[q none 0 0,q none 0 0] 35)).alloc (E #[q none 0 0,q none 0 0] 35))):=(((Below.refl _ _).alloc (Nat.le_refl _) _).alloc (by simp) _).alloc (by simp;omega) _
 have H1:=h_ (h1.below HB.out);have H2:=h_ h2;clear h1 h2
 go_enter Tryz.func14,Tryz.ntmps14
 go_wp2_with (fail)
 refine (iz A1 n1 c1 xs _ H1.out hn1).mono ?_
 rintro e w1 ⟨B1,k1,rfl,ho1,hb1⟩
 obtain⟨W0,hW0⟩:∃W,W=(((w.alloc (E #[q A1 n1 c1,q A2 n2 c2] 26)).alloc (E #[q none 0 0,q none 0 0] 35)).alloc (E #[q none 0 0,q none 0 0] 35)):=⟨_,rfl⟩;rw[<- hW0]at hb1 ho1
 have b1:w1.cell? ⟨w.heap.size,1,none⟩=some (q A2 n2 c2):=ac (by rw[hW0];simp[go_sem]) hb1
 have d0:w1.cell? ⟨w.heap.size+1+1,0,none⟩=some (q none 0 0):=ac (by rw[hW0];simp[go_sem]) hb1
 have d1:w1.cell? ⟨w.heap.size+1+1,1,none⟩=some (q none 0 0):=ac (by rw[hW0];simp[go_sem]) hb1
 have e0:w1.cell? ⟨w.heap.size+1,0,none⟩=some (q none 0 0):=ac (by rw[hW0];simp[go_sem]) hb1
 have e1:w1.cell? ⟨w.heap.size+1,1,none⟩=some (q none 0 0):=ac (by rw[hW0];simp[go_sem]) hb1
 have fd0:w1.frozen? ⟨w.heap.size+1+1,0,none⟩=false:=aU (w:=W0) (v:=q none 0 0) (by rw[hW0];simp[go_sem]) (by rw[hW0];simp[go_sem]) hb1
 have fd1:w1.frozen? ⟨w.heap.size+1+1,1,none⟩=false:=aU (w:=W0) (v:=q none 0 0) (by rw[hW0];simp[go_sem]) (by rw[hW0];simp[go_sem]) hb1
 have fe0:w1.frozen? ⟨w.heap.size+1,0,none⟩=false:=aU (w:=W0) (v:=q none 0 0) (by rw[hW0];simp[go_sem]) (by rw[hW0];simp[go_sem]) hb1
 have fe1:w1.frozen? ⟨w.heap.size+1,1,none⟩=false:=aU (w:=W0) (v:=q none 0 0) (by rw[hW0];simp[go_sem]) (by rw[hW0];simp[go_sem]) hb1
 have hz0:w.heap.size+2<W0.heap.size:=by rw[hW0];simp
 have HB1:=h_ ((by rw[hW0];exact HB.out:Below w.heap.size w W0).trans (hb1.mono (by omega)))
 have HO1:=h_ ho1;have hsz1:=hb1.size;clear hb1 ho1 hW0 H1 HB
 go_wp2_with (fail)
 have HBs:=h_ (HB1.out.setCell (p:=⟨w.heap.size+1+1,0,none⟩) (by simp;omega) (q B1 xs.length k1))
 have HOs:=h_ (HO1.out.setLow (a:=⟨w.heap.size+1+1,0,none⟩) (by exact hz0) (q B1 xs.length k1))
 refine (iz A2 n2 c2 ys _ (H2.out.keep (Nat.le_refl _) HBs.out) hn2).mono ?_
 rintro e w2 ⟨B2,k2,rfl,ho2,hb2⟩
 have q0:w2.cell? ⟨w.heap.size+1+1,0,none⟩=some (q B1 xs.length k1):=ac (by simp[go_sem,d0]) hb2
 have q1:w2.cell? ⟨w.heap.size+1+1,1,none⟩=some (q none 0 0):=ac (by simp[go_sem,d1]) hb2
 have r0:w2.cell? ⟨w.heap.size+1,0,none⟩=some (q none 0 0):=ac (by simp[go_sem,e0]) hb2
 have r1:w2.cell? ⟨w.heap.size+1,1,none⟩=some (q none 0 0):=ac (by simp[go_sem,e1]) hb2
 have fq1:w2.frozen? ⟨w.heap.size+1+1,1,none⟩=false:=aU (v:=q none 0 0) (by simp[go_sem,fd1]) (by simp[go_sem,d1]) hb2
 have fr0:w2.frozen? ⟨w.heap.size+1,0,none⟩=false:=aU (v:=q none 0 0) (by simp[go_sem,fe0]) (by simp[go_sem,e0]) hb2
 have fr1:w2.frozen? ⟨w.heap.size+1,1,none⟩=false:=aU (v:=q none 0 0) (by simp[go_sem,fe1]) (by simp[go_sem,e1]) hb2
 have hsz2:w1.heap.size<=w2.heap.size:=by have:=hb2.size;simpa using this
 have HF:Hid (RetBd w xs ys (C (B #[q B1 xs.length k1,q B2 ys.length k2])) (((w2.setCell ⟨w.heap.size+1+1,1,none⟩ (q B2 ys.length k2)).setCell ⟨w.heap.size+1,0,none⟩ (q B1 xs.length k1)).setCell ⟨w.heap.size+1,1,none⟩ (q B2 ys.length k2))):=by
  have hz1:w.heap.size+2<(w1.setCell ⟨w.heap.size+1+1,0,none⟩ (q B1 xs.length k1)).heap.size:=by simp;omega
  have hsA:W0.heap.size<=(w1.setCell ⟨w.heap.size+1+1,0,none⟩ (q B1 xs.length k1)).heap.size:=by simp;omega
  refine⟨B1,k1,B2,k2,rfl,?_,?_,?_,?_⟩
  ·exact ((((HOs.out.below hb2).setLow (a:=⟨w.heap.size+1+1,1,none⟩) (by exact hz0) _).setLow (a:=⟨w.heap.size+1,0,none⟩) (by show w.heap.size+1<W0.heap.size;omega) _).setLow (a:=⟨w.heap.size+1,1,none⟩) (by show w.heap.size+1<W0.heap.size;omega) _).mono (by omega)
  ·exact (((ho2.setLow (a:=⟨w.heap.size+1+1,1,none⟩) (by exact hz1) _).setLow (a:=⟨w.heap.size+1,0,none⟩) (Nat.lt_trans (by show w.heap.size+1<w.heap.size+2;omega) hz1) _).setLow (a:=⟨w.heap.size+1,1,none⟩) (Nat.lt_trans (by show w.heap.size+1<w.heap.size+2;omega) hz1) _).mono (by omega)
  ·exact own_apart HOs.out ho2 (Nat.le_refl _)
  ·exact ((((HBs.out.trans (hb2.mono (by omega))).setCell (by simp;omega) _).setCell (by simp) _).setCell (by simp) _)
 clear hb2 ho2 hsz1 hsz2
 go_wp2_with (fail)
 exact bodyPost_ret (v:=B #[q B1 xs.length k1,q B2 ys.length k2]) (by simp[results,Tryz.results14,go_sem,r0,r1]) rfl HF.out
open Go.RowKit Ps Ra Ex
theorem jM (m d:Int) (w:World):
  Calls Tryz.prog 27 #[B #[.int l m,.int l d],B #[.int l m,.int l d]] w fun e w'=>e = C (I true)/\Below w.heap.size w w':=by
 have h1:(m != m)=false:=by simp
 have h2:(d != d)=false:=by simp
 go_enter Tryz.func27,Tryz.ntmps27
 go_wp2
 go_ret
 exact⟨rfl,((Below.refl _ _).alloc (Nat.le_refl _) _).alloc (by simp) _⟩
open Go.RowKit Pl Ps Ra Ex
def CpB (xs ys:List Int):RP:=fun v W=>∃X1 k1 X2 k2,v = B #[q X1 xs.length k1,q X2 ys.length k2]/\SL W X1 xs.length xs/\xs.length<=k1/\SL W X2 ys.length ys/\ys.length<=k2
theorem stb_cpb (xs ys:List Int):Stb (CpB xs ys):=fun _ _ _ ⟨X1,k1,X2,k2,h1,h2,h3,h4,h5⟩ hb=>⟨X1,k1,X2,k2,h1,h2.below hb,h3,h4.below hb,h5⟩
theorem j9 (a b c d:Int) (w:World):
  Calls Tryz.prog 24 #[B #[.int l a,.int l b,.int l c,.int l d],B #[.int l a,.int l b,.int l c,.int l d]] w fun e w'=>e = C (I true)/\Below w.heap.size w w':=by
 have HF:Hid (Fr w ((w.alloc (E #[.int l a,.int l b,.int l c,.int l d] 47)).alloc (E #[.int l a,.int l b,.int l c,.int l d] 47)) [[.int l a,.int l b,.int l c,.int l d],[.int l a,.int l b,.int l c,.int l d]]):=((Fr.start w).allocT (by simp) _ _).allocT (by simp) _ _
 go_enter Tryz.func24,Tryz.ntmps24
 go_wp2_with (fail)
 refine (jM _ _ _).mono ?_
 rintro e w1 ⟨rfl,hb⟩
 have HF1:=h_ (HF.out.below hb);clear hb HF
 have z0:=HF1.out.l0 (by simp)
 have c00:=HF1.out.c0 0 rfl;have f00:=HF1.out.f0 0 rfl;have c01:=HF1.out.c0 1 rfl;have f01:=HF1.out.f0 1 rfl;have c02:=HF1.out.c0 2 rfl;have f02:=HF1.out.f0 2 rfl;have c03:=HF1.out.c0 3 rfl;have f03:=HF1.out.f0 3 rfl
 have z1:=HF1.out.l1 (by simp)
 have c10:=HF1.out.c1 0 rfl;have f10:=HF1.out.f1 0 rfl;have c11:=HF1.out.c1 1 rfl;have f11:=HF1.out.f1 1 rfl;have c12:=HF1.out.c1 2 rfl;have f12:=HF1.out.f1 2 rfl;have c13:=HF1.out.c1 3 rfl;have f13:=HF1.out.f1 3 rfl
 go_wp2_with (fail)
 refine (jM _ _ _).mono ?_
 rintro e w2 ⟨rfl,hb⟩
 have HF2:=h_ (HF1.out.below hb);clear hb HF1
 go_wp2_with (fail)
 go_ret
 exact⟨rfl,HF2.out.b⟩
def fD:Nat->Nat
 | 0=>19
 | 1=>20
 | 2=>21
 | 3=>22
 | 4=>23
 | 5=>24
 | 6=>18
 | 7=>25
 | 8=>26
 | 9=>8
 | _=>0
def fC:Nat->Nat
 | 0=>30
 | 1=>31
 | 2=>32
 | 3=>33
 | 4=>34
 | 5=>29
 | 6=>35
 | 7=>36
 | 8=>11
 | _=>0
def eN:Nat->Nat
 | 0=>46
 | 1=>47
 | 2=>48
 | 3=>49
 | _=>0
theorem ji (p c h s:Int) (A1 A2:Option Addr) (n1 a1 n2 a2:Nat) (xs ys:List Int) (z:Int) (w:World) (hx:SL w A1 n1 xs) (hy:SL w A2 n2 ys) (hm1:n1<=maxLen) (hm2:n2<=maxLen):
  Calls Tryz.prog 4 #[B #[.int l p,.int l c,.int l h,.int l s],B #[q A1 n1 a1,q A2 n2 a2],.int l z] w fun e w'=>e = C (I true)/\Below w.heap.size w w':=by
 have hV0:Bel w ((w.alloc (E #[.int l p,.int l c,.int l h,.int l s] 23)).alloc (E #[q A1 n1 a1,q A2 n2 a2] 26)):=(Bel.trans (Bel.alloc _ _) (Bel.alloc _ _))
 have C0:Cel ((w.alloc (E #[.int l p,.int l c,.int l h,.int l s] 23)).alloc (E #[q A1 n1 a1,q A2 n2 a2] 26)) (w.heap.size) [.int l p,.int l c,.int l h,.int l s]:=(Cel.new' _ _ _ (by simp)).alloc _
 have C1:Cel ((w.alloc (E #[.int l p,.int l c,.int l h,.int l s] 23)).alloc (E #[q A1 n1 a1,q A2 n2 a2] 26)) (w.heap.size+1) [q A1 n1 a1,q A2 n2 a2]:=Cel.new' _ _ _ (by simp)
 have Sxs:=h_ (hx.below hV0);have Sys:=h_ (hy.below hV0);have Lx:=h_ hx.1;have Ly:=h_ hy.1;clear hx hy;have HB:=h_ hV0;clear hV0;replace C0:=h_ C0;replace C1:=h_ C1;obtain⟨r,hr⟩:∃r,r=iwR p c h s xs ys z:=⟨_,rfl⟩;obtain⟨r3,⟨⟨i1,j2⟩,⟨i3,j4⟩⟩⟩:=r;obtain⟨i2,hi2⟩:∃x:Int,x=(j2:Int):=⟨_,rfl⟩;obtain⟨i4,hi4⟩:∃x:Int,x=(j4:Int):=⟨_,rfl⟩
 have CZ:=h_ fun (W:World)=>szBoard_any A1 A2 n1 a1 n2 a2 1048576 W (by unfold maxLen at hm1;omega) (by unfold maxLen at hm2;omega) (by omega) (by omega)
 go_enter Tryz.func4,Tryz.ntmps4
 go_wp2_with (fail)
 generalize ((w.alloc (E #[.int l p,.int l c,.int l h,.int l s] 23)).alloc (E #[q A1 n1 a1,q A2 n2 a2] 26))=V at *
 refine (CZ.out _).mono ?_
 rintro e V1 ⟨r,rfl,hr1,hr2,hr3,hb⟩
 clear CZ;replace C0:=h_ (C0.out.below hb);replace C1:=h_ (C1.out.below hb);replace Sxs:=h_ (Sxs.out.below hb);replace Sys:=h_ (Sys.out.below hb);replace HB:=h_ (Bel.trans HB.out hb);clear hb
 by_cases hneg:r<0
 ·go_wp2_with (fail)
  go_ret
  exact⟨rfl,HB.out⟩
 have hsz:=hr3 (by omega)
 have hn1':n1<=2000000:=by omega
 have hn2':n2<=2000000:=by omega
 have ox:xs.length<=2000000:=by rw[Lx.out];exact hn1'
 have oy:ys.length<=2000000:=by rw[Ly.out];exact hn2'
 clear hr1 hr2 hr3 hsz
 have CS:Hid (∀(W:World) (X1 X2:Option Addr) (k1 k2:Nat),SL W X1 xs.length xs->SL W X2 ys.length ys->xs.length<=k1->ys.length<=k2->Calls Tryz.prog 22 #[B #[.int l p,.int l c,.int l h,.int l s],B #[q X1 xs.length k1,q X2 ys.length k2],.int l z] W fun e w'=>e = C (F #[B #[.int l i1,.int l i2,.int l i3,.int l i4],.int l r3])/\Below W.heap.size W w'):=fun W X1 X2 k1 k2 s1 s2 l1 l2=>by
  have:=iO p c h s z X1 X2 _ k1 _ k2 xs ys W s1 s2 l1 l2 ox oy;rw[<- hr]at this;exact this.mono fun e W' h=>by rw[hi2,hi4];exact h
 have CI:Hid (∀(W:World) (X1 X2:Option Addr) (k1 k2:Nat),SL W X1 xs.length xs->SL W X2 ys.length ys->xs.length<=k1->ys.length<=k2->Calls Tryz.prog 23 #[B #[.int l p,.int l c,.int l h,.int l s],B #[q X1 xs.length k1,q X2 ys.length k2],.int l z] W fun e w'=>e = C (F #[B #[.int l i1,.int l i2,.int l i3,.int l i4],.int l r3])/\Below W.heap.size W w'):=fun W X1 X2 k1 k2 s1 s2 l1 l2=>by
  have:=jX p c h s z X1 X2 _ k1 _ k2 xs ys W s1 s2 l1 l2 ox oy;rw[<- hr]at this;exact this.mono fun e W' h=>by rw[hi2,hi4];exact h
 clear hr hi2 hi4
 go_wp2_with (fail)
 refine YtcmeoenkgmghkaaGreat.wr 10 (fun i=>i == 8) fD [Eqv (B #[.int l p,.int l c,.int l h,.int l s]),Eqv (B #[.int l p,.int l c,.int l h,.int l s]),Eqv (B #[q A1 n1 a1,q A2 n2 a2]),CpB xs ys,Eqv (.int l z),Eqv (F #[B #[.int l i1,.int l i2,.int l i3,.int l i4],.int l r3]),Eqv (F #[B #[.int l i1,.int l i2,.int l i3,.int l i4],.int l r3]),Eqv (B #[.int l i1,.int l i2,.int l i3,.int l i4]),Eqv (.int l r3),Alc V1.heap.size [.int l 0,.int l 0,.int l 0,.int l 0]] (by repeat (first|exact AllStb.nil|refine AllStb.cons (by first|exact bF _|exact stb_cpy _|exact stb_alc _ _|exact stb_cpb _ _) ?_)) ?_ ?_ ?_
 focus
  refine ?za
 rotate_left
 focus
  refine ?zd
 rotate_left
 focus
  intro v V2 hW hIW hg
  have g0:v 0=_:=gq hg 0
  have g1:v 1=_:=gq hg 1
  have g2:v 2=_:=gq hg 2
  obtain⟨_,_,_,_,g3,_,_,_,_⟩:CpB xs ys (v 3) V2:=hg 3 (by omega)
  have g4:v 4=_:=gq hg 4
  have g5:v 5=_:=gq hg 5
  have g6:v 6=_:=gq hg 6
  have g7:v 7=_:=gq hg 7
  have g8:v 8=_:=gq hg 8
  obtain⟨gs0,g9,glgs0,Ags0⟩:Alc V1.heap.size [.int l 0,.int l 0,.int l 0,.int l 0] (v 9) V2:=hg 9 (by omega)
  simp only[List.drop_succ_cons,List.drop_zero,putV,fD,g0,g1,g2,g3,g4,g5,g6,g7,g8,g9,Act.put]
  clear g0 g1 g2 g3 g4 g5 g6 g7 g8 g9 hg hIW;replace hW:=h_ hW;have ygs0_0:=Ags0.cell 0 _ rfl;have xgs0_0:=Ags0.froz 0 _ rfl;have ygs0_1:=Ags0.cell 1 _ rfl;have xgs0_1:=Ags0.froz 1 _ rfl;have ygs0_2:=Ags0.cell 2 _ rfl;have xgs0_2:=Ags0.froz 2 _ rfl;have ygs0_3:=Ags0.cell 3 _ rfl;have xgs0_3:=Ags0.froz 3 _ rfl;have ylgs0:=Ags0.lt;replace Ags0:=h_ Ags0;have qC1:=C1.out.below hW.out;have cC1_0:=qC1.cell 0 _ rfl;have cC1_1:=qC1.cell 1 _ rfl;have zC1:=qC1.lt
  have nC1gs0:w.heap.size+1<gs0:=by have:=C1.out.lt;omega
  go_wp2_with (fail)
  obtain⟨V3,hV⟩:∃V,V=((((V2.setCell ⟨gs0,0,none⟩ (.int l i1)).setCell ⟨gs0,1,none⟩ (.int l i2)).setCell ⟨gs0,2,none⟩ (.int l i3)).setCell ⟨gs0,3,none⟩ (.int l i4)):=⟨_,rfl⟩;rw[<- hV]
  have hb:Below V1.heap.size V1 V3:=by rw[hV];exact (Below.setCell (p:=⟨gs0,3,none⟩) (Below.setCell (p:=⟨gs0,2,none⟩) (Below.setCell (p:=⟨gs0,1,none⟩) (Below.setCell (p:=⟨gs0,0,none⟩) hW.out glgs0 _) glgs0 _) glgs0 _) glgs0 _)
  have Ggs0:Hid (Cel V3 gs0 [.int l i1,.int l i2,.int l i3,.int l i4]):=by rw[hV];exact ((((Ags0.out.st (by simp)).st (by simp)).st (by simp)).st (by simp))
  clear cC1_0 cC1_1 zC1 qC1 nC1gs0;clear hV hW Ags0 ylgs0 ygs0_0 xgs0_0 ygs0_1 xgs0_1 ygs0_2 xgs0_2 ygs0_3 xgs0_3;replace C0:=h_ (C0.out.below hb);replace C1:=h_ (C1.out.below hb);replace Sxs:=h_ (Sxs.out.below hb);replace Sys:=h_ (Sys.out.below hb);replace HB:=h_ (Bel.trans HB.out hb);clear hb
  refine (fJ _ _ _ _ _ _ _ _ _ Sxs.out Sys.out hn1' hn2').mono ?_
  rintro e V4 ⟨Y1,y1,Y2,y2,rfl,ho1,ho2,_,hb⟩
  have T1:=h_ (ho1.sl rfl).1;have T1k:=h_ (ho1.sl rfl).2;have T2:=h_ (ho2.sl rfl).1;have T2k:=h_ (ho2.sl rfl).2;clear ho1 ho2;replace C0:=h_ (C0.out.below hb);replace C1:=h_ (C1.out.below hb);replace Ggs0:=h_ (Ggs0.out.below hb);replace Sxs:=h_ (Sxs.out.below hb);replace Sys:=h_ (Sys.out.below hb);replace HB:=h_ (Bel.trans HB.out hb);clear hb
  go_wp2_with (fail)
  obtain⟨V5,hV⟩:∃V,V=V4.alloc (E #[q Y1 xs.length y1,q Y2 ys.length y2] 35):=⟨_,rfl⟩;rw[<- hV]
  have hb:Below V4.heap.size V4 V5:=by rw[hV];exact Bel.alloc _ _
  have CX:Hid (Cel V5 V4.heap.size [q Y1 xs.length y1,q Y2 ys.length y2]):=by rw[hV];exact Cel.new' _ _ _ rfl
  clear hV;replace C0:=h_ (C0.out.below hb);replace C1:=h_ (C1.out.below hb);replace Ggs0:=h_ (Ggs0.out.below hb);replace Sxs:=h_ (Sxs.out.below hb);replace Sys:=h_ (Sys.out.below hb);replace T1:=h_ (T1.out.below hb);replace T2:=h_ (T2.out.below hb);replace HB:=h_ (Bel.trans HB.out hb);clear hb
  have nr3:(r3 != r3)=false:=by simp
  refine YtcmeoenkgmghkaaGreat.wr 9 (fun i=>i == 7) fC [Eqv (B #[.int l p,.int l c,.int l h,.int l s]),Eqv (B #[.int l p,.int l c,.int l h,.int l s]),Eqv (B #[q Y1 xs.length y1,q Y2 ys.length y2]),Eqv (.int l z),Eqv (F #[B #[.int l i1,.int l i2,.int l i3,.int l i4],.int l r3]),Eqv (F #[B #[.int l i1,.int l i2,.int l i3,.int l i4],.int l r3]),Eqv (B #[.int l i1,.int l i2,.int l i3,.int l i4]),Eqv (.int l r3),Alc V5.heap.size [.int l 0,.int l 0,.int l 0,.int l 0]] (by repeat (first|exact AllStb.nil|refine AllStb.cons (by first|exact bF _|exact stb_cpy _|exact stb_alc _ _) ?_)) ?_ ?_ ?_
  focus
   refine ?zb
  rotate_left
  focus
   refine ?zc
  rotate_left
  focus
   intro v V6 hW hIW hg
   have g0:v 0=_:=gq hg 0
   have g1:v 1=_:=gq hg 1
   have g2:v 2=_:=gq hg 2
   have g3:v 3=_:=gq hg 3
   have g4:v 4=_:=gq hg 4
   have g5:v 5=_:=gq hg 5
   have g6:v 6=_:=gq hg 6
   have g7:v 7=_:=gq hg 7
   obtain⟨gi0,g8,glgi0,Agi0⟩:Alc V5.heap.size [.int l 0,.int l 0,.int l 0,.int l 0] (v 8) V6:=hg 8 (by omega)
   simp only[List.drop_succ_cons,List.drop_zero,putV,fC,g0,g1,g2,g3,g4,g5,g6,g7,g8,Act.put]
   clear g0 g1 g2 g3 g4 g5 g6 g7 g8 hg hIW;replace hW:=h_ hW;have ygi0_0:=Agi0.cell 0 _ rfl;have xgi0_0:=Agi0.froz 0 _ rfl;have ygi0_1:=Agi0.cell 1 _ rfl;have xgi0_1:=Agi0.froz 1 _ rfl;have ygi0_2:=Agi0.cell 2 _ rfl;have xgi0_2:=Agi0.froz 2 _ rfl;have ygi0_3:=Agi0.cell 3 _ rfl;have xgi0_3:=Agi0.froz 3 _ rfl;have ylgi0:=Agi0.lt;replace Agi0:=h_ Agi0;have qGgs0:=Ggs0.out.below hW.out;have cGgs0_0:=qGgs0.cell 0 _ rfl;have cGgs0_1:=qGgs0.cell 1 _ rfl;have cGgs0_2:=qGgs0.cell 2 _ rfl;have cGgs0_3:=qGgs0.cell 3 _ rfl;have zGgs0:=qGgs0.lt
   have nGgs0gi0:gs0<gi0:=by have:=Ggs0.out.lt;omega
   go_wp2_with (fail)
   obtain⟨V7,hV⟩:∃V,V=((((V6.setCell ⟨gi0,0,none⟩ (.int l i1)).setCell ⟨gi0,1,none⟩ (.int l i2)).setCell ⟨gi0,2,none⟩ (.int l i3)).setCell ⟨gi0,3,none⟩ (.int l i4)):=⟨_,rfl⟩;rw[<- hV]
   have hb:Below V5.heap.size V5 V7:=by rw[hV];exact (Below.setCell (p:=⟨gi0,3,none⟩) (Below.setCell (p:=⟨gi0,2,none⟩) (Below.setCell (p:=⟨gi0,1,none⟩) (Below.setCell (p:=⟨gi0,0,none⟩) hW.out glgi0 _) glgi0 _) glgi0 _) glgi0 _)
   have Ggi0:Hid (Cel V7 gi0 [.int l i1,.int l i2,.int l i3,.int l i4]):=by rw[hV];exact ((((Agi0.out.st (by simp)).st (by simp)).st (by simp)).st (by simp))
   clear cGgs0_0 cGgs0_1 cGgs0_2 cGgs0_3 zGgs0 qGgs0 nGgs0gi0;clear hV hW Agi0 ylgi0 ygi0_0 xgi0_0 ygi0_1 xgi0_1 ygi0_2 xgi0_2 ygi0_3 xgi0_3;replace C0:=h_ (C0.out.below hb);replace C1:=h_ (C1.out.below hb);replace Ggs0:=h_ (Ggs0.out.below hb);replace CX:=h_ (CX.out.below hb);replace Sxs:=h_ (Sxs.out.below hb);replace Sys:=h_ (Sys.out.below hb);replace T1:=h_ (T1.out.below hb);replace T2:=h_ (T2.out.below hb);replace HB:=h_ (Bel.trans HB.out hb);clear hb
   refine (j9 _ _ _ _ _).mono ?_
   rintro e V8 ⟨rfl,hb⟩
   replace C0:=h_ (C0.out.below hb);replace C1:=h_ (C1.out.below hb);replace Ggs0:=h_ (Ggs0.out.below hb);replace CX:=h_ (CX.out.below hb);replace Ggi0:=h_ (Ggi0.out.below hb);replace Sxs:=h_ (Sxs.out.below hb);replace Sys:=h_ (Sys.out.below hb);replace T1:=h_ (T1.out.below hb);replace T2:=h_ (T2.out.below hb);replace HB:=h_ (Bel.trans HB.out hb);clear hb;have cGgs0_0:=Ggs0.out.cell 0 _ rfl;have cGgs0_1:=Ggs0.out.cell 1 _ rfl;have cGgs0_2:=Ggs0.out.cell 2 _ rfl;have cGgs0_3:=Ggs0.out.cell 3 _ rfl;have zGgs0:=Ggs0.out.lt;have cGgi0_0:=Ggi0.out.cell 0 _ rfl;have cGgi0_1:=Ggi0.out.cell 1 _ rfl;have cGgi0_2:=Ggi0.out.cell 2 _ rfl;have cGgi0_3:=Ggi0.out.cell 3 _ rfl;have zGgi0:=Ggi0.out.lt
   go_wp2_with (fail)
   refine YtcmeoenkgmghkaaGreat.wr 4 (fun _=>false) eN [Eqv (B #[q Y1 xs.length y1,q Y2 ys.length y2]),Eqv (B #[q A1 n1 a1,q A2 n2 a2]),CpB xs ys,Eqv (I true)] (by repeat (first|exact AllStb.nil|refine AllStb.cons (by first|exact bF _|exact stb_cpb _ _) ?_)) ?_ ?_ ?_
   ·intro i o hi hX ho a' W hW hIW hfar hdep
    exact absurd hX (by simp)
   ·intro i o hi hX ho a' W hW hIW hfar hdep
    have e1:a'.tmps.getD 10 undef = D (some ⟨V4.heap.size,0,none⟩):=(fr hfar 10).trans rfl
    have e2:a'.tmps.getD 4 undef = D (some ⟨w.heap.size+1,0,none⟩):=(fr hfar 4).trans rfl
    have hi8:=i_3 hi
    clear hfar hX hi
    rcases hi8 with rfl|rfl|rfl|rfl
    all_goals (simp at ho;subst ho)
    ·have zz:=CX.out.below hW
     have z0:=zz.cell 0 _ rfl;have z1:=zz.cell 1 _ rfl
     refine il ?_;simp only[execOp,Act.eval,e1];go_simp
    ·have zz:=C1.out.below hW
     have z0:=zz.cell 0 _ rfl;have z1:=zz.cell 1 _ rfl
     refine il ?_;simp only[execOp,Act.eval,e2];go_simp
    ·have d1:a'.tmps.getD 47 undef=_:=dp hdep 1
     refine .inr ⟨14,#[B #[q A1 n1 a1,q A2 n2 a2]],by simp only[execOp,Act.eval,d1];go_simp,?_⟩
     refine (fJ _ _ _ _ _ _ _ _ _ (Sxs.out.below hW) (Sys.out.below hW) hn1' hn2').mono ?_
     rintro e W' ⟨X1,k1,X2,k2,rfl,ho1,ho2,_,hb'⟩
     exact⟨_,rfl,hb',trivial,X1,k1,X2,k2,rfl,(ho1.sl rfl).1,(ho1.sl rfl).2,(ho2.sl rfl).1,(ho2.sl rfl).2⟩
    ·have d1:a'.tmps.getD 46 undef=_:=dp hdep 0
     obtain⟨X1,k1,X2,k2,d2,s1,l1,s2,l2⟩:CpB xs ys (a'.tmps.getD 48 undef) W:=dp hdep 2
     refine .inr ⟨18,#[B #[q Y1 xs.length y1,q Y2 ys.length y2],B #[q X1 xs.length k1,q X2 ys.length k2]],by simp only[execOp,Act.eval,d1,d2];go_simp,?_⟩
     refine (eqBoard_yes _ _ _ _ _ _ _ _ _ _ _ _ _ (T1.out.below hW) (T2.out.below hW) s1 s2 ox oy).mono ?_
     rintro e W' ⟨rfl,hb'⟩
     exact⟨_,rfl,hb',trivial,rfl⟩
   intro v W hW hIW hg
   have g0:v 0=_:=gq hg 0
   have g1:v 1=_:=gq hg 1
   obtain⟨_,_,_,_,g2,_,_,_,_⟩:CpB xs ys (v 2) W:=hg 2 (by omega)
   have g3:v 3=_:=gq hg 3
   simp only[List.drop_succ_cons,List.drop_zero,putV,eN,g0,g1,g2,g3,Act.put]
   clear g0 g1 g2 g3 hg hIW;have HB2:Hid (Below w.heap.size w W):=Bel.trans HB.out hW;clear hW
   go_wp2_with (fail)
   go_ret
   exact⟨rfl,HB2.out⟩
 case' za|zb|zc|zd=>
  intro i o hi hX ho a' W hW hIW hfar hdep
  have e2:a'.tmps.getD 2 undef = .int l z:=(fr hfar 2).trans rfl
  have e3:a'.tmps.getD 3 undef = D (some ⟨w.heap.size,0,none⟩):=(fr hfar 3).trans rfl
 case' zb|zc=>
  have e10:a'.tmps.getD 10 undef = D (some ⟨V4.heap.size,0,none⟩):=(fr hfar 10).trans rfl
 case zb=>
  have hi8:i=7:=by simpa using hX
  clear hfar hX hi;subst hi8
  simp at ho
  subst ho
  ·have d1:a'.tmps.getD 29 undef=_:=dp hdep 5
   exact⟨.int l r3,fun W'=>by simp only[execOp,Act.eval,d1];go_simp,rfl⟩
 case zc=>
  have hi8:i=0\/i=1\/i=2\/i=3\/i=4\/i=5\/i=6\/i=8:=by simp at hX;omega
  clear hfar hX hi
  rcases hi8 with rfl|rfl|rfl|rfl|rfl|rfl|rfl|rfl
  all_goals (simp at ho;subst ho)
  ·have zz:=C0.out.below hW
   have z0:=zz.cell 0 _ rfl;have z1:=zz.cell 1 _ rfl;have z2:=zz.cell 2 _ rfl;have z3:=zz.cell 3 _ rfl
   refine il ?_;simp only[execOp,Act.eval,e3];go_simp
  ·have d1:a'.tmps.getD 30 undef=_:=dp hdep 0
   refine .inr ⟨13,#[B #[.int l p,.int l c,.int l h,.int l s]],by simp only[execOp,Act.eval,d1];go_simp,?_⟩
   refine (gi _ _ _ _ _).mono ?_
   rintro e W' ⟨rfl,hb'⟩
   exact⟨_,rfl,hb',trivial,rfl⟩
  ·have zz:=CX.out.below hW
   have z0:=zz.cell 0 _ rfl;have z1:=zz.cell 1 _ rfl
   refine il ?_;simp only[execOp,Act.eval,e10];go_simp
  ·refine il ?_;simp only[execOp,Act.eval,e2];go_simp
  ·have d31:a'.tmps.getD 31 undef=_:=dp hdep 1
   have d32:a'.tmps.getD 32 undef=_:=dp hdep 2
   have d33:a'.tmps.getD 33 undef=_:=dp hdep 3
   refine .inr ⟨23,#[B #[.int l p,.int l c,.int l h,.int l s],B #[q Y1 xs.length y1,q Y2 ys.length y2],.int l z],by simp only[execOp,Act.eval,d31,d32,d33];go_simp,?_⟩
   refine (CI.out W _ _ _ _ (T1.out.below hW) (T2.out.below hW) T1k.out T2k.out).mono ?_
   rintro e W' ⟨rfl,hb'⟩
   exact⟨_,rfl,hb',trivial,rfl⟩
  ·have d1:a'.tmps.getD 34 undef=_:=dp hdep 4
   refine il ?_;simp only[execOp,Act.eval,d1];go_simp
  ·have d1:a'.tmps.getD 29 undef=_:=dp hdep 5
   refine il ?_;simp only[execOp,Act.eval,d1];go_simp
  ·exact .inl ⟨D (some ⟨W.heap.size,0,none⟩),W.alloc (E #[.int l 0,.int l 0,.int l 0,.int l 0] 47),by kernel_rfl,Bel.alloc _ _,trivial,alc_new _ _ _ (Below.size hW)⟩
 case' za|zd=>
  have e4:a'.tmps.getD 4 undef = D (some ⟨w.heap.size+1,0,none⟩):=(fr hfar 4).trans rfl
 case za=>
  have hi8:i=8:=by simpa using hX
  clear hfar hX hi;subst hi8
  simp at ho
  subst ho
  ·have d1:a'.tmps.getD 18 undef=_:=dp hdep 6
   exact⟨.int l r3,fun W'=>by simp only[execOp,Act.eval,d1];go_simp,rfl⟩
 case zd=>
  have hi8:i=0\/i=1\/i=2\/i=3\/i=4\/i=5\/i=6\/i=7\/i=9:=by simp at hX;omega
  clear hfar hX hi
  rcases hi8 with rfl|rfl|rfl|rfl|rfl|rfl|rfl|rfl|rfl
  all_goals (simp at ho;subst ho)
  ·have zz:=C0.out.below hW
   have z0:=zz.cell 0 _ rfl;have z1:=zz.cell 1 _ rfl;have z2:=zz.cell 2 _ rfl;have z3:=zz.cell 3 _ rfl
   refine il ?_;simp only[execOp,Act.eval,e3];go_simp
  ·have d1:a'.tmps.getD 19 undef=_:=dp hdep 0
   refine .inr ⟨13,#[B #[.int l p,.int l c,.int l h,.int l s]],by simp only[execOp,Act.eval,d1];go_simp,?_⟩
   refine (gi _ _ _ _ _).mono ?_
   rintro e W' ⟨rfl,hb'⟩
   exact⟨_,rfl,hb',trivial,rfl⟩
  ·have zz:=C1.out.below hW
   have z0:=zz.cell 0 _ rfl;have z1:=zz.cell 1 _ rfl
   refine il ?_;simp only[execOp,Act.eval,e4];go_simp
  ·have d1:a'.tmps.getD 21 undef=_:=dp hdep 2
   refine .inr ⟨14,#[B #[q A1 n1 a1,q A2 n2 a2]],by simp only[execOp,Act.eval,d1];go_simp,?_⟩
   refine (fJ _ _ _ _ _ _ _ _ _ (Sxs.out.below hW) (Sys.out.below hW) hn1' hn2').mono ?_
   rintro e W' ⟨X1,k1,X2,k2,rfl,ho1,ho2,_,hb'⟩
   exact⟨_,rfl,hb',trivial,X1,k1,X2,k2,rfl,(ho1.sl rfl).1,(ho1.sl rfl).2,(ho2.sl rfl).1,(ho2.sl rfl).2⟩
  ·refine il ?_;simp only[execOp,Act.eval,e2];go_simp
  ·have d20:a'.tmps.getD 20 undef=_:=dp hdep 1
   obtain⟨X1,k1,X2,k2,d22,s1,l1,s2,l2⟩:CpB xs ys (a'.tmps.getD 22 undef) W:=dp hdep 3
   have d23:a'.tmps.getD 23 undef=_:=dp hdep 4
   refine .inr ⟨22,#[B #[.int l p,.int l c,.int l h,.int l s],B #[q X1 xs.length k1,q X2 ys.length k2],.int l z],by simp only[execOp,Act.eval,d20,d22,d23];go_simp,?_⟩
   refine (CS.out W X1 X2 k1 k2 s1 s2 l1 l2).mono ?_
   rintro e W' ⟨rfl,hb'⟩
   exact⟨_,rfl,hb',trivial,rfl⟩
  ·have d1:a'.tmps.getD 24 undef=_:=dp hdep 5
   refine il ?_;simp only[execOp,Act.eval,d1];go_simp
  ·have d1:a'.tmps.getD 18 undef=_:=dp hdep 6
   refine il ?_;simp only[execOp,Act.eval,d1];go_simp
  ·exact .inl ⟨D (some ⟨W.heap.size,0,none⟩),W.alloc (E #[.int l 0,.int l 0,.int l 0,.int l 0] 47),by kernel_rfl,Bel.alloc _ _,trivial,alc_new _ _ _ (Below.size hW)⟩
open Go.ChangeShapes Go.WideShapes Go.ChangeAt Go.RowKit Go.Joins Go.Deep
theorem cellsV:Tryz.prog.cellsOf 23=4:=by kernel_rfl
theorem cellsB:Tryz.prog.cellsOf 26=2:=by kernel_rfl
theorem cellsS:Tryz.prog.cellsOf 24=1:=by kernel_rfl
theorem cellsI:Tryz.prog.cellsOf 2=1:=by kernel_rfl
section
variable {H:Type} {enc:TypeId×Value->H} {w:World} {base:Nat} {spare:Nat->Bool} {held:Bool} {fuel:Nat}
theorem fld {t:TypeId} {fs:Array Field} {cs:List Value} {x:DataW H×List MemPlace} (ht:Tryz.prog.underlying t=some (.struct fs)) (h:DataW.trod enc Tryz.prog w base spare held fuel t cs=some x):
  cs.length=Tryz.prog.cellsOf t/\∃n,∀(i:Nat) (f:Field),fs[i]? = some f->∃y,DataW.trod enc Tryz.prog w base spare held n f.type ((cs.drop f.offset).take (Tryz.prog.cellsOf f.type))=some y:=by
 obtain⟨xs,n,_,_,hl,hx,hf⟩:=DataW.trod_struct ht h
 refine⟨hl,n,fun i f hi=>?_⟩
 have hlt:i<xs.length:=by rw[hx];exact (Array.getElem?_eq_some_iff.1 hi).1
 exact⟨_,(hf i f hi).trans (List.getElem?_eq_getElem hlt)⟩
theorem fldT {t:TypeId} {cs:List Value} {y0:DataW H×List MemPlace} {P:Program} {n:Nat} {t':TypeId} {cs':List Value} (h:DataW.trod enc P w base spare held n t cs=some y0) (e1:t=t') (e2:cs=cs'):DataW.trod enc P w base spare held n t' cs'=some y0:=by subst e1 e2;exact h
theorem lE {cs:List Value} {x:DataW H×List MemPlace} (h:DataW.trod enc Tryz.prog w base spare held fuel 2 cs=some x):∃n:Int,cs=[.int l n]/\(Lit.int l n).wf=true:=by
 obtain⟨n,h1,_,h2⟩:=DataW.trod_int Tryz.underlying2 h
 exact⟨n,h1,h2⟩
theorem openSL {cs:List Value} {x:DataW H×List MemPlace} (h:DataW.trod enc Tryz.prog w base spare held fuel 24 cs=some x):
  ∃A n c xs,cs=[q A n c]/\SL w A n xs/\n<=maxLen/\∀z∈xs,(Lit.int l z).wf=true:=by
 rcases open_ints Tryz.underlying24 Tryz.underlying2 cellsI h with⟨rfl,_⟩|⟨a,len,cap,zs,rfl,_,hl,hm,hz,_,hcell,hw⟩
 ·exact⟨none,0,0,[],rfl,SL.nil_ _,by simp[maxLen],by simp⟩
 ·have hle:len<=zs.length:=by rw[hz];split<;>omega
  refine⟨some a,len,cap,zs.take len,rfl,⟨by simp;omega,fun hn=>?_⟩,by omega,fun z hz'=>hw z (List.mem_of_mem_take hz')⟩
  obtain⟨b,off,spot⟩:=a
  have h0:=hcell 0 (by omega)
  have hspot:spot=none:=by simpa[Addr.add]using World.cell?_spot h0
  subst hspot
  refine⟨b,off,rfl,World.block_lt_of_cell? w _ h0,fun i hi=>?_⟩
  have h1:=hcell i (by omega)
  rw[add_plain]at h1;rw[h1]
  simp[List.getD,List.getElem?_take,hi]
theorem openBoard {cs:List Value} {x:DataW H×List MemPlace} (h:DataW.trod enc Tryz.prog w base spare held fuel 26 cs=some x):
  ∃A1 n1 c1 xs A2 n2 c2 ys,cs=[q A1 n1 c1,q A2 n2 c2]/\SL w A1 n1 xs/\n1<=maxLen/\SL w A2 n2 ys/\n2<=maxLen:=by
 obtain⟨hl,n,hf⟩:=fld Tryz.underlying26 h;obtain⟨y0,h0⟩:=hf 0 _ rfl;obtain⟨y1,h1⟩:=hf 1 _ rfl;rw[cellsB]at hl
 match cs,hl with
 | [v0,v1],_=>
  obtain⟨A1,n1,c1,xs,e1,s1,m1,_⟩:=openSL (fldT h0 (t':=24) (cs':=[v0]) rfl (by show List.take (Tryz.prog.cellsOf 24) _=_;rw[cellsS];rfl))
  obtain⟨A2,n2,c2,ys,e2,s2,m2,_⟩:=openSL (fldT h1 (t':=24) (cs':=[v1]) rfl (by show List.take (Tryz.prog.cellsOf 24) _=_;rw[cellsS];rfl))
  simp at e1 e2
  subst e1 e2
  exact⟨A1,n1,c1,xs,A2,n2,c2,ys,rfl,s1,m1,s2,m2⟩
theorem openVariant {cs:List Value} {x:DataW H×List MemPlace} (h:DataW.trod enc Tryz.prog w base spare held fuel 23 cs=some x):
  ∃p c g s:Int,cs=[.int l p,.int l c,.int l g,.int l s]/\(Lit.int l p).wf=true/\(Lit.int l c).wf=true/\(Lit.int l g).wf=true/\(Lit.int l s).wf=true:=by
 obtain⟨hl,n,hf⟩:=fld Tryz.underlying23 h;obtain⟨y0,h0⟩:=hf 0 _ rfl;obtain⟨y1,h1⟩:=hf 1 _ rfl;obtain⟨y2,h2⟩:=hf 2 _ rfl;obtain⟨y3,h3⟩:=hf 3 _ rfl;rw[cellsV]at hl
 match cs,hl with
 | [v0,v1,v2,v3],_=>
  obtain⟨p,e0,w0⟩:=lE (fldT h0 (t':=2) (cs':=[v0]) rfl (by show List.take (Tryz.prog.cellsOf 2) _=_;rw[cellsI];rfl))
  obtain⟨c,e1,w1⟩:=lE (fldT h1 (t':=2) (cs':=[v1]) rfl (by show List.take (Tryz.prog.cellsOf 2) _=_;rw[cellsI];rfl))
  obtain⟨g,e2,w2⟩:=lE (fldT h2 (t':=2) (cs':=[v2]) rfl (by show List.take (Tryz.prog.cellsOf 2) _=_;rw[cellsI];rfl))
  obtain⟨s,e3,w3⟩:=lE (fldT h3 (t':=2) (cs':=[v3]) rfl (by show List.take (Tryz.prog.cellsOf 2) _=_;rw[cellsI];rfl))
  simp at e0 e1 e2 e3
  subst e0 e1 e2 e3
  exact⟨p,c,g,s,rfl,w0,w1,w2,w3⟩
end
end Go.Proofs.YtcmeoenkgmghkaaGreat

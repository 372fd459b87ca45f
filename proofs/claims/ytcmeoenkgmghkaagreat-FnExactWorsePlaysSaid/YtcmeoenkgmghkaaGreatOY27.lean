/- Part of one proof. There are no conditions. -/
import Derived.Test.YtcmeoenkgmghkaaGreatOY26
set_option maxHeartbeats 0
set_option linter.unusedVariables false
set_option linter.unusedSimpArgs false
set_option maxRecDepth 100000
open Go.Value renaming int->l,pointer->A,slice->B,agg->C,tuple->I,bool->J
open Go.IntKind renaming i64->n
open Go.Obj renaming cells->D
open Go.Ending renaming returned->F
open Go renaming execOp->jz,undef->j0,World->j1,bodyPost_ret->j2
open Go.Act renaming eval->qa
open Nat renaming le_refl->qb
open Go.World.ownsRow renaming lt->qc
open List renaming drop_succ_cons->qd,drop_zero->qe
namespace Go.Proofs.YtcmeoenkgmghkaaGreat
open Go.RowKit Pl Ps Ra Ex
def IvM(o:Option Iv)(e:Ending):Prop:=match o with
 |some x=>e=F (I #[ivV x,J true])
 |none=>∃a b c d:Int,e=F (I #[C #[l n a,l n b,l n c,l n d],J false])
theorem IvM.two(o:Option E):IvM (o.map fun x=>(x,x)) (F (I #[C #[l n (o.getD ⟨0,0⟩).num,l n ((o.getD ⟨0,0⟩).depth:Int),l n (o.getD ⟨0,0⟩).num,l n ((o.getD ⟨0,0⟩).depth:Int)],J o.isSome])):=by
 rcases o with _|x
 ·exact⟨_,_,_,_,rfl⟩
 ·rfl
theorem k7{s P h tu:Nat}{b:Bd}(hs:solvB P h b.1 b.2=true):ivE s P h tu b=(chS s h b.1 b.2).map fun x=>(x,x):=by
 cases tu<;>(unfold ivE;rw[if_pos hs])
theorem ivE_zero{s P h:Nat}{b:Bd}(hs:solvB P h b.1 b.2=false):ivE s P h 0 b=some (aj,oneE):=by
 unfold ivE;rw[if_neg (by rw[hs];decide)]
theorem ivE_succ{s P h tu:Nat}{b:Bd}(hs:solvB P h b.1 b.2=false):ivE s P h (tu+1) b=(mapO (fun r=>(plE s P h (ivE s P h tu) b r).map (bestI (sq s))) (ah s)).bind (pairE s):=by
 rw[ivE,if_neg (by rw[hs];decide)]
def dsI1:Nat->Nat
 | 0=>23
 | 1=>24
 | 2=>25
 | 3=>26
 | 4=>27
 |_=>0
def dsI17:Nat->Nat
 | 0=>75
 | 1=>76
 | 2=>77
 | 3=>78
 | 4=>79
 | 5=>80
 | 6=>81
 | 7=>82
 | 8=>83
 |_=>0
def dsI19:Nat->Nat
 | 0=>88
 | 1=>89
 | 2=>90
 | 3=>91
 | 4=>92
 | 5=>93
 | 6=>94
 | 7=>95
 | 8=>96
 |_=>0
theorem ii (t:RT) (ht:t.Ok) (P tu:Nat) (hP:t.p=(P:Int)) (hsm:smB t.p t.c t.h t.s=true) (htu:tu<=2) (IH:∀tu',tu=tu'+1->PlC t P tu'):IvC t P tu:=by
 intro T own other A1 A2 n1 c1 n2 c2 w hT hI hA hB hsd hc1 hc2
 obtain⟨e0,he,ez0,ez1,ez2⟩:=info_parts Tryz.infoE;have hv:=aA ht.v
 have hs1:1<=t.s:=by omega
 have hs6:t.s<=6:=by omega
 obtain⟨hq1,-,_⟩:=sq_bd hs1 hs6
 have hn1:n1=P+1:=by rw[<-hA.1.1];exact hsd.len1
 have hn2:n2=P+1:=by rw[<-hB.1.1];exact hsd.len2
 have hP24:P<=24:=by omega
 obtain⟨b1,o1,rfl,_⟩:=hA.1.2 (by omega)
 obtain⟨b2,o2,rfl,_⟩:=hB.1.2 (by omega)
 have hlow:=hI.ltS;have hss1:=hsd.1.2.2;have hss2:=hsd.2.2.2
 simp only at hss1 hss2
 have HNS:Hid (∀j,¬t.S (w.heap.size+j)):=fun j h=>by have:=hlow _ h;omega
 have HLOW:=h_ hlow;have HTS:Hid (∀k,t.S k->T k):=hI.sub;have HTT:=h_ hT
 have hb0:Below w.heap.size w ((w.alloc (D #[B (some ⟨b1,o1,none⟩) n1 c1,B (some ⟨b2,o2,none⟩) n2 c2] 35)).alloc (D #[l n 0,l n 0,l n 0,l n 0] 47)):=((Below.refl _ _).alloc (qb _) _).alloc (by simp) _
 have hzV:((w.alloc (D #[B (some ⟨b1,o1,none⟩) n1 c1,B (some ⟨b2,o2,none⟩) n2 c2] 35)).alloc (D #[l n 0,l n 0,l n 0,l n 0] 47)).heap.size=w.heap.size+2:=by simp
 have HI:Hid (RaceI t (ownT T w 2) ((w.alloc (D #[B (some ⟨b1,o1,none⟩) n1 c1,B (some ⟨b2,o2,none⟩) n2 c2] 35)).alloc (D #[l n 0,l n 0,l n 0,l n 0] 47))):=(hI.wide 2).below hb0
 have HF:Hid (FrS t.S w ((w.alloc (D #[B (some ⟨b1,o1,none⟩) n1 c1,B (some ⟨b2,o2,none⟩) n2 c2] 35)).alloc (D #[l n 0,l n 0,l n 0,l n 0] 47)) [[B (some ⟨b1,o1,none⟩) n1 c1,B (some ⟨b2,o2,none⟩) n2 c2],[l n 0,l n 0,l n 0,l n 0]]):=((FrS.start w hlow).allocT (by simp) _ _).allocT (by simp) _ _
 have HA:=h_ hA;have HB:=h_ hB;have HSD:=h_ hsd
 have CSB:Hid (∀W:j1,Below w.heap.size w W->Calls Tryz.prog 84 #[(C #[l n t.p,l n (t.c:Int),l n (t.h:Int),l n (t.s:Int)]),(C #[B (some ⟨b1,o1,none⟩) n1 c1,B (some ⟨b2,o2,none⟩) n2 c2])] W fun e w'=>e=F (J (solvB t.p t.h own other))/\Below W.heap.size W w'):=fun W hw=>
  jG t.p t.c t.h t.s (some ⟨b1,o1,none⟩) (some ⟨b2,o2,none⟩) n1 c1 n2 c2 own other W (hA.1.below hw) (hB.1.below hw) hsd.1.2.1 hsd.2.2.1 (by omega) (by omega) (by omega) (by omega) hsm
 have CSC0:∀(W:j1),w.heap.size+2<=W.heap.size->RaceI t (ownT T w 2) W->SQ (ownT T w 2) W (some ⟨b1,o1,none⟩) n1 own->SQ (ownT T w 2) W (some ⟨b2,o2,none⟩) n2 other->Calls Tryz.prog 85 #[(A (some ⟨t.bt,0,none⟩)),(C #[B (some ⟨b1,o1,none⟩) n1 c1,B (some ⟨b2,o2,none⟩) n2 c2])] W (RetWn t (ownT T w 2) W (chS t.s t.h own other)):=fun W hz hI hA hB=>
  iE t ht b1 o1 n1 c1 b2 o2 n2 c2 (ownT T w 2) W (dF hT hz) hI hA hB (by omega) (by omega) hc1 hc2 (by omega) (by omega) hsd.1.2.1 hsd.2.2.1 (by omega) (by omega)
 have HRS:Hid (solvB t.p t.h own other=true->ivE t.s P t.h tu (own,other)=(chS t.s t.h own other).map fun x=>(x,x)):=fun h9=>k7 (by rw[<-hP];exact h9)
 have HR0:Hid (solvB t.p t.h own other=false->tu=0->ivE t.s P t.h tu (own,other)=some (aj,oneE)):=fun h9 h8=>by
  rw[h8]
  exact ivE_zero (by rw[<-hP];exact h9)
 have HRN:Hid (∀tu',solvB t.p t.h own other=false->tu=tu'+1->ivE t.s P t.h tu (own,other)=(mapO (fun r=>(plE t.s P t.h (ivE t.s P t.h tu') (own,other) r).map (bestI (sq t.s))) (ah t.s)).bind (pairE t.s)):=fun tu' h9 h8=>by
  rw[h8]
  exact ivE_succ (by rw[<-hP];exact h9)
 have HIH:=h_ IH
 have hTo:∀k,ownT T w 2 k->T k\/w.heap.size<=k:=fun k hk=>hk.imp id (fun h=>h.1)
 have HA0:=h_ ((hA.set hTo).below hb0);have HB0:=h_ ((hB.set hTo).below hb0);have HBV:=h_ hb0;have HPV:=h_ ht;clear hT hI hA hB hsd hlow IH hP hb0 hTo hss1 hss2 hn1 hn2;generalize ivE t.s P t.h tu (own,other)=RES at *;generalize hSB:solvB t.p t.h own other=SB at *;clear hSB
 go_enter Tryz.func74,Tryz.ntmps74
 go_wp2_with (fail)
 generalize ((w.alloc (D #[B (some ⟨b1,o1,none⟩) n1 c1,B (some ⟨b2,o2,none⟩) n2 c2] 35)).alloc (D #[l n 0,l n 0,l n 0,l n 0] 47))=V at *
 refine w_ 5 (fun _=>false) dsI1 [Eqv (A (some ⟨t.bt,0,none⟩)),Eqv (A (some ⟨t.bt,0,none⟩)),Eqv (A (some ⟨t.bt,0,none⟩)),Eqv (C #[l n t.p,l n (t.c:Int),l n (t.h:Int),l n (t.s:Int)]),Eqv (C #[B (some ⟨b1,o1,none⟩) n1 c1,B (some ⟨b2,o2,none⟩) n2 c2])] (by repeat (first|exact AllStb.nil|refine AllStb.cons (by first|exact a6 _|exact bp _ _ _) ?_)) (fun i o' _ hX=>by cases hX) ?_ ?_
 ·intro i o hi hX ho a' W hW hIW hfar hdep
  have e0:a'.tmps.getD 0 j0=(A (some ⟨t.bt,0,none⟩)):=(fr hfar 0).trans rfl
  have e4:a'.tmps.getD 4 j0=(A (some ⟨w.heap.size,0,none⟩)):=(fr hfar 4).trans rfl
  have hi8:=i_4 hi
  clear hfar hX hi
  rcases hi8 with rfl|rfl|rfl|rfl|rfl
  all_goals (simp at ho;subst ho)
  ·refine il ?_;simp only[jz,qa,e0];go_simp
  ·have d1:a'.tmps.getD 23 j0=_:=dp hdep 0
   refine il ?_;simp only[jz,qa,d1];go_simp
  ·have d1:a'.tmps.getD 24 j0=_:=dp hdep 1
   refine il ?_;simp only[jz,qa,d1];go_simp
  ·have d1:a'.tmps.getD 25 j0=_:=dp hdep 2
   have y0:=(HI.out.below hW).tb 0 _ rfl;have y1:=(HI.out.below hW).tb 1 _ rfl;have y2:=(HI.out.below hW).tb 2 _ rfl;have y3:=(HI.out.below hW).tb 3 _ rfl
   refine il ?_;simp only[jz,qa,d1];go_simp
  ·have y0:=(HF.out.below hW).c0 0 rfl
   have y1:=(HF.out.below hW).c0 1 rfl
   refine il ?_;simp only[jz,qa,e4];go_simp
 intro v w1 hW hIW hg
 have g0:v 0=_:=gq hg 0
 have g1:v 1=_:=gq hg 1
 have g2:v 2=_:=gq hg 2
 have g3:v 3=_:=gq hg 3
 have g4:v 4=_:=gq hg 4
 simp only[qd,qe,putV,dsI1,g0,g1,g2,g3,g4,Act.put]
 clear g0 g1 g2 g3 g4 hg hIW;have HB1:=h_ (HBV.out.trans (Below.mono hW HBV.out.size));have HF1:=h_ (HF.out.below hW);have HI1:=h_ (HI.out.below hW);have HA1:=h_ (HA0.out.below hW);have HBo1:=h_ (HB0.out.below hW);have hz1:=Below.size hW;clear hW HF HI HA0 HB0
 go_wp2_with (fail)
 refine(CSB.out _ HB1.out).mono ?_
 rintro e w2 ⟨rfl,hb2⟩
 have HF2:=h_ (HF1.out.below hb2);have HI2:=h_ (HI1.out.below hb2);have HA2:=h_ (HA1.out.below hb2);have HBo2:=h_ (HBo1.out.below hb2);have hz2:=hb2.size;clear hb2 HF1 HI1 HA1 HBo1 HB1 CSB
 rcases SB with _|_
 ·clear HRS CSC0
  by_cases hz:tu=0
  ·have hz0:((tu:Int)==0)=true:=by simp[hz]
   have HRE:=h_ (HR0.out rfl hz);clear HR0 HRN hz;have c10:=HF2.out.c1 0 rfl;have f10:=HF2.out.f1 0 rfl;have c11:=HF2.out.c1 1 rfl;have f11:=HF2.out.f1 1 rfl;have c12:=HF2.out.c1 2 rfl;have f12:=HF2.out.f1 2 rfl;have c13:=HF2.out.c1 3 rfl;have f13:=HF2.out.f1 3 rfl
   go_wp2_with (fail)
   refine j2 (v:=I #[C #[l n 0,l n 0,l n 1,l n 0],J true]) (by simp[results,Tryz.results74,go_sem,c10,c11,c12,c13,f10,f11,f12,f13]) rfl ⟨by rw[HRE.out];rfl,?_,?_⟩
   ·refine RaceI.less (T:=ownT T w 2) ?_ (fun j hj=>.inl hj) HTS.out
    repeat (first|with_reducible exact HI2.out|refine RaceI.alloc ?_ _|refine RaceI.stored ?_ _ (bj 1 rfl (by omega)) (HNS.out 1))
   ·repeat (first|with_reducible exact HF2.out.f|refine Frm.alloc ?_ _|refine Frm.ownSet ?_ (by omega) _)
  ·have hz0:((tu:Int)==0)=false:=by simp;omega
   obtain⟨tu',htu'⟩:∃tu',tu=tu'+1:=⟨tu-1,by omega⟩
   have htu2:(tu:Int)-1=(tu':Int):=by omega
   have HRN1:=HRN.out tu' rfl htu';have HPL:=h_ (HIH.out tu' htu')
   obtain⟨PE,hPE⟩:∃PE:Nat×Nat->Option (List Iv),PE=fun r=>plE t.s P t.h (ivE t.s P t.h tu') (own,other) r:=⟨_,rfl⟩
   have HRN2:Hid (RES=(mapO (fun r=>(PE r).map (bestI (sq t.s))) (ah t.s)).bind (pairE t.s)):=by rw[hPE];exact HRN1
   have HPE1:Hid (∀a b L,1<=a/\a<=1000->1<=b/\b<=1000->PE (a,b)=some L->(∀x∈L,VI (sq t.s) x)/\1<=L.length/\L.length<=781250):=fun a b L ha hb h9=>by
    rw[hPE]at h9;have h8:=bO h9
    refine⟨jO hq1 h9,?_,?_⟩
    ·rw[h8];exact List.length_pos_iff.2 eU
    ·rw[h8];exact dZ HSD.out hP24 ha hb
   have HLV:Hid (∀LS,mapO (fun r=>(PE r).map (bestI (sq t.s))) (ah t.s)=some LS->∀x∈LS,VI (sq t.s) x):=fun LS h9=>mf (fun r x hx=>by
    rcases hp:PE r with _|L
    ·rw[hp]at hx;cases hx
    ·rw[hp]at hx
     simp only[Option.map_some]at hx
     injection hx with hx;rw[<-hx];rw[hPE]at hp
     exact bestI_val (jO hq1 hp) (fun e=>by have:=bO hp;rw[e]at this;exact eU (List.eq_nil_of_length_eq_zero this.symm))) h9
   have CIH:Hid (∀(a b:Nat) (T2:Nat->Prop) (W:j1),1<=a/\a<=1000->1<=b/\b<=1000->(∀k,W.heap.size<=k->¬T2 k)->RaceI t T2 W->(∀k,T2 k->T k\/w.heap.size<=k)->Frm t.S w W->
     Calls Tryz.prog 72 #[(A (some ⟨t.bt,0,none⟩)),(C #[B (some ⟨b1,o1,none⟩) n1 c1,B (some ⟨b2,o2,none⟩) n2 c2]),C #[l n (a:Int),l n (b:Int)],l n ((tu:Int)-1)] W (RetPi t T2 W (PE (a,b)))):=fun a b T2 W ha hb h1 h2 h3 h4=>by
    rw[htu2,hPE];have h5:Frm T2 w W:=h4.mono h2.sub
    exact HPL.out T2 own other (some ⟨b1,o1,none⟩) (some ⟨b2,o2,none⟩) n1 c1 n2 c2 a b W h1 h2 ((HA.out.set h3).frm h5) ((HB.out.set h3).frm h5) HSD.out hc1 hc2 ha hb
   have HT2n:Hid (∀W:j1,w.heap.size+2<=W.heap.size->∀k,W.heap.size<=k->¬ownT T w 2 k):=fun W hz=>dF HTT.out hz
   have hnr21:t.nr<=21:=by rw[<-HPV.out.r];exact cN hs6
   have hnr1:0<t.nr:=by
    have h1:=bY t.s
    have h2:1*2<=t.s*(t.s+1):=Nat.mul_le_mul (by omega) (by omega)
    have:=HPV.out.r
    omega
   obtain⟨rb,ro,hA0,_,_,_⟩:=HI2.out.rl.at hnr1;have HAr:=h_ hA0
   have e5:w2.cell? ⟨t.bt,5,none⟩=some (B (some ⟨rb,ro,none⟩) t.nr t.cr):=by rw[<-hA0];exact HI2.out.tb 5 _ rfl
   clear HR0 HRN HRN1 HPL hPE htu2 htu' hA0 hz
   go_wp2_with (fail)
   go_loopw [10,11,49] (fun v10 v11 v49 wr=>∃(q:Nat) (LS:List Iv),q<=t.nr/\v49=l n q/\Hid (mapO (fun r=>(PE r).map (bestI (sq t.s))) ((ah t.s).take q)=some LS)/\(∃vx,vx=v10/\∃vy,vy=v11/\Hid (OwnE wr (w.heap.size+2) vx (LS.map (·.1)))/\Hid (OwnE wr (w.heap.size+2) vy (LS.map (·.2)))/\Hid (∀k,vx.ownBlock=some k->vy.ownBlock≠some k)/\Hid (RaceI t (wth (wth (ownT T w 2) vx) vy) wr))/\Hid (FrS t.S w wr [[B (some ⟨b1,o1,none⟩) n1 c1,B (some ⟨b2,o2,none⟩) n2 c2],[l n 0,l n 0,l n 0,l n 0]])) (fun _ _ v49 _=>t.nr-(intOf v49).toNat)
   case atStart=>exact⟨0,[],by omega,rfl,rfl,⟨_,rfl,_,rfl,World.ownsRow_nil _ _ _ _,World.ownsRow_nil _ _ _ _,fun k hk=>(by cases hk),HI2.out.set (fun k hk=>by
    rcases hk with (hk|hk)|hk
    ·exact .inl hk
    ·cases hk
    ·cases hk) (fun k hk=>.inl (.inl (.inl (HTS.out k hk))))⟩,HF2.out⟩
   case round=>
    clear e5 HI2 HF2;obtain⟨q,LS,hqn,rfl,HM,⟨vx,rfl,vy,rfl,HOX,HOY,HXY,HI⟩,HF⟩:=hrel
    have hzr:w.heap.size+2<=wr.heap.size:=by have:=HF.out.z;simpa using this
    have HVX:Hid (∀k,vx.ownBlock=some k->w.heap.size+2<=k/\k<wr.heap.size):=fun k hk=>qc HOX.out k hk
    have HVY:Hid (∀k,vy.ownBlock=some k->w.heap.size+2<=k/\k<wr.heap.size):=fun k hk=>qc HOY.out k hk
    by_cases hlt:q<t.nr
    ·have hji:(q:Int)<(t.nr:Int):=by omega
     have hqr:q<(ah t.s).length:=by rw[HPV.out.r];exact hlt
     obtain⟨rb',ro',hA9,hrb,y0,y1⟩:=HI.out.rl.at hlt;rw[HAr.out]at hA9;injection hA9 with hA9;injection hA9 with hA9 hA8;subst hA9 hA8;have hmr:=bC.1 (ak (ah t.s) (0,0) hqr)
     have HMT:Hid (mapO (fun r=>(PE r).map (bestI (sq t.s))) ((ah t.s).take (q+1))=((PE ((ah t.s).getD q (0,0))).map (bestI (sq t.s))).map fun x=>LS++[x]):=by
      unfold Hid
      rw[eW (0,0) hqr,HM.out];rfl
     have HMS:Hid ((PE ((ah t.s).getD q (0,0)))=none->RES=none):=fun h9=>by
      rw[HRN2.out,gW (0,0) hqr (by rw[h9];rfl)];rfl
     obtain⟨⟨a,b⟩,hab⟩:∃r,r=(ah t.s).getD q (0,0):=⟨_,rfl⟩;rw[<-hab]at y0 y1 hmr HMT HMS
     simp only at y0 y1 hmr
     obtain⟨hr1,hr2,hr3⟩:=hmr
     have hzW:(wr.alloc (D #[l n (a:Int),l n (b:Int)] 37)).heap.size=wr.heap.size+1:=by simp
     have HTW:Hid (∀k,wr.heap.size<=k->¬wth (wth (ownT T w 2) vx) vy k):=fun k hk h9=>by
      rcases h9 with (h9|h9)|h9
      ·exact HT2n.out wr hzr k hk h9
      ·have:=(HVX.out k h9).2;omega
      ·have:=(HVY.out k h9).2;omega
     have CPI:=h_ (CIH.out a b (wth (wth (ownT T w 2) vx) vy) (wr.alloc (D #[l n (a:Int),l n (b:Int)] 37)) (by omega) (by omega) (fun k hk=>HTW.out k (by omega)) (HI.out.alloc _) (fun k hk=>by
      rcases hk with (hk|hk)|hk
      ·exact hk.imp id (fun h=>h.1)
      ·exact .inr (by have:=(HVX.out k hk).1;omega)
      ·exact .inr (by have:=(HVY.out k hk).1;omega)) (HF.out.f.alloc _))
     have HFa:=h_ (HF.out.alloc (D #[l n (a:Int),l n (b:Int)] 37));clear hab hqr
     have z0:=HF.out.l0 (by simp)
     have c00:=HF.out.c0 0 rfl;have c01:=HF.out.c0 1 rfl
     go_wp2_with (fail)
     clear z0 c00 c01
     refine CPI.out.mono ?_
     rintro e w3 ⟨hres,hI3,hF3⟩
     have hz3:=hF3.size;rw[hzW]at hz3;have HF3:=h_ (HFa.out.frm hF3);have HI3:=h_ hI3
     have HOX3:Hid (w3.ownsRow (w.heap.size+2) 45 2 vx (LS.map (·.1)).length (exC (LS.map (·.1)))):=hF3.row (World.ownsRow.alloc HOX.out _) (fun k hk h9=>by have:=(HVX.out k hk).1;have:=HLOW.out k h9;omega)
     have HOY3:Hid (w3.ownsRow (w.heap.size+2) 45 2 vy (LS.map (·.2)).length (exC (LS.map (·.2)))):=hF3.row (World.ownsRow.alloc HOY.out _) (fun k hk h9=>by have:=(HVY.out k hk).1;have:=HLOW.out k h9;omega)
     have HIT:Hid (RaceI t (ownT T w 2) w3):=hI3.less (fun k hk=>.inl (.inl hk)) (fun k hk=>.inl (HTS.out k hk))
     clear hI3 hF3 HF HFa HI HOX HOY CPI y0 y1
     cases hpe:PE (a,b)with
     |none=>
      have HRE:=h_ (HMS.out hpe);rw[hpe]at hres;replace hres:e=F (I #[B none 0 0,J false]):=hres;subst hres;clear HMT HMS hpe HOX3 HOY3 HI3;have c10:=HF3.out.c1 0 rfl;have f10:=HF3.out.f1 0 rfl;have c11:=HF3.out.c1 1 rfl;have f11:=HF3.out.f1 1 rfl;have c12:=HF3.out.c1 2 rfl;have f12:=HF3.out.f1 2 rfl;have c13:=HF3.out.c1 3 rfl;have f13:=HF3.out.f1 3 rfl
      go_wp2_with (fail)
      refine j2 (v:=I #[C #[l n 0,l n 0,l n 0,l n 0],J false]) (by simp[results,Tryz.results74,go_sem,c10,c11,c12,c13,f10,f11,f12,f13]) rfl ⟨by rw[HRE.out];exact⟨0,0,0,0,rfl⟩,?_,?_⟩
      ·refine RaceI.less (T:=ownT T w 2) ?_ (fun j hj=>.inl hj) HTS.out
       repeat (first|with_reducible exact HIT.out|refine RaceI.alloc ?_ _|refine RaceI.stored ?_ _ (bj 1 rfl (by omega)) (HNS.out 1))
      ·repeat (first|with_reducible exact HF3.out.f|refine Frm.alloc ?_ _|refine Frm.ownSet ?_ (by omega) _)
     |some Lr=>
      obtain⟨hvl,hl1,hl6⟩:=HPE1.out a b Lr (by omega) (by omega) hpe
      rw[hpe]at hres HMT;obtain⟨v9,rfl,hrow9⟩:=hres
      obtain⟨Al,kl,hv9,hsl,hkl⟩:=aY (S:=fun k=>k<wr.heap.size) hrow9 (fun k hk h9=>by have:=(qc hrow9 k hk).1;have h9:k<wr.heap.size:=h9;omega) (by omega)
      subst hv9;clear hrow9
      have HMT2:Hid (mapO (fun r=>(PE r).map (bestI (sq t.s))) ((ah t.s).take (q+1))=some (LS++[bestI (sq t.s) Lr])):=HMT.out
      obtain⟨bl,ol,rfl,hbl,hbs,hcell⟩:=hsl.2 (by omega)
      have HCL:=h_ hcell;have HVL:=h_ hvl;obtain⟨nl,hnl⟩:∃nl,nl=Lr.length:=⟨_,rfl⟩;have HNL:=h_ hnl;rw[<-hnl]at hl1 hl6 hkl hcell ⊢
      obtain⟨i1,i2,i3,i4⟩:=cY Lr 0 (by omega)
      have x0:=hcell (0*4) (by omega)
      have x1:=hcell (0*4+1) (by omega)
      have x2:=hcell (0*4+2) (by omega)
      have x3:=hcell (0*4+3) (by omega)
      rw[i1]at x0;rw[i2]at x1;rw[i3]at x2;rw[i4]at x3
      simp only[Nat.zero_mul,Nat.add_zero,Nat.zero_add]at x0 x1 x2 x3
      obtain⟨⟨⟨ln,ld⟩,⟨hn,hd⟩⟩,hL0⟩:∃y,y=Lr.getD 0 (aj,aj):=⟨_,rfl⟩;rw[<-hL0]at x0 x1 x2 x3
      simp only at x0 x1 x2 x3
      have HL0:=h_ hL0;clear hcell hsl hvl hnl i1 i2 i3 i4 hL0 hpe HMT HMS
      go_upto_region 14 with (fail)
      obtain⟨W5,hW5⟩:∃W,W=w3.alloc (D #[l n ln,l n (ld:Int),l n hn,l n (hd:Int)] 47):=⟨_,rfl⟩;rw[<-hW5]
      go_cut [49,69,70,71]from 49 to 112 (fun v49 v69 v70 v71 wc=>v49=l n (q:Int)/\(∃Xa kc,v69=B Xa (nl-1) kc/\(1<=nl-1->Xa=some ⟨bl,ol+4,none⟩))/\v70=l n ((nl-1:Nat):Int)/\v71=l n 0/\wc=W5)
      case first=>
       by_cases hk:kl=1
       ·subst hk
        go_wp2_with (fail)
        go_meet
        have hn9:nl-1=0:=by omega
        refine⟨rfl,⟨some ⟨bl,ol,none⟩,0,by rw[hn9],fun h9=>absurd h9 (by omega)⟩,by first|rfl|(rw[hn9];rfl)|(congr 1;omega),rfl,hW5.symm⟩
       ·go_wp2_with (fail)
        go_meet
        refine⟨rfl,⟨_,_,rfl,fun h9=>?_⟩,by first|rfl|(congr 1;omega),rfl,hW5.symm⟩
        first|rfl|(exfalso;omega)
      case rest=>
       obtain⟨rfl,⟨Xa,kc,rfl,hXa⟩,rfl,rfl,hwc⟩:=hcut;replace hwc:=hwc.symm;subst hwc;have HXA:=h_ hXa
       have HCB0:Hid (Cel W5 w3.heap.size (ivC (⟨ln,ld⟩,⟨hn,hd⟩))):=by rw[hW5];exact Cel.new w3 #[l n ln,l n (ld:Int),l n hn,l n (hd:Int)] 47
       have HB35:Hid (Below w3.heap.size w3 W5):=by rw[hW5];exact(Below.refl _ _).alloc (qb _) _
       obtain⟨m,hm⟩:∃m,m=nl-1:=⟨_,rfl⟩
       have hm1:m+1=nl:=by omega
       have HMN:=h_ hm1;rw[<-hm]at HXA ⊢;clear hW5 hXa x0 x1 x2 x3 hm hm1;have HBS0:Hid ((⟨ln,ld⟩,⟨hn,hd⟩)=((Lr.drop 1).take 0).foldl (bestJ (sq t.s)) (Lr.getD 0 (aj,aj))):=HL0.out
       have HVB0:Hid (VI (sq t.s) (⟨ln,ld⟩,⟨hn,hd⟩)):=by unfold Hid;rw[HL0.out];exact HVL.out _ (ak Lr _ (by have:=HNL.out;omega))
       have hm6:m<=781250:=by have:=HMN.out;omega
       obtain⟨wo,rfl⟩:∃wo:j1,wo=wr:=⟨_,rfl⟩
       go_wp2_with (fail)
       go_loopw [71] (fun v71 wr=>∃(j:Nat) (bst:Iv),j<=m/\v71=l n j/\Hid (bst=((Lr.drop 1).take j).foldl (bestJ (sq t.s)) (Lr.getD 0 (aj,aj)))/\Hid (VI (sq t.s) bst)/\Hid (Cel wr w3.heap.size (ivC bst))/\Hid (Below w3.heap.size w3 wr)) (fun v71 _=>m-(intOf v71).toNat)
       case atStart=>exact⟨0,_,by omega,rfl,HBS0.out,HVB0.out,HCB0.out,HB35.out⟩
       case round=>
        clear HBS0 HVB0 HCB0 HB35;obtain⟨j,bst,hjm,rfl,HBS,HVB,HCB0,HB3⟩:=hrel;have hzr3:w3.heap.size<=wr.heap.size:=HB3.out.size
        by_cases hlt2:j<m
        ·have hjj:(j:Int)<(m:Int):=by omega
         have hx0:=HXA.out (by omega)
         subst hx0
         have hj1:j+1<Lr.length:=by have:=HNL.out;have:=HMN.out;omega
         obtain⟨i1,i2,i3,i4⟩:=cY Lr (j+1) hj1;have HFB:=Frm.of_below HB3.out
         have x0:=HFB.cell' (HCL.out ((j+1)*4) (by have:=HNL.out;omega)) id
         have x1:=HFB.cell' (HCL.out ((j+1)*4+1) (by have:=HNL.out;omega)) id
         have x2:=HFB.cell' (HCL.out ((j+1)*4+2) (by have:=HNL.out;omega)) id
         have x3:=HFB.cell' (HCL.out ((j+1)*4+3) (by have:=HNL.out;omega)) id
         rw[i1,show ol+(j+1)*4=ol+4+j*4 by omega]at x0
         rw[i2,show ol+((j+1)*4+1)=ol+4+j*4+1 by omega]at x1
         rw[i3,show ol+((j+1)*4+2)=ol+4+j*4+2 by omega]at x2
         rw[i4,show ol+((j+1)*4+3)=ol+4+j*4+3 by omega]at x3
         have HVX1:=h_ (HVL.out _ (ak Lr (aj,aj) hj1))
         have HBN:Hid (((Lr.drop 1).take (j+1)).foldl (bestJ (sq t.s)) (Lr.getD 0 (aj,aj))=bestJ (sq t.s) bst (Lr.getD (j+1) (aj,aj))):=by
          unfold Hid
          rw[bQ (aj,aj) (by rw[List.length_drop];omega),List.foldl_append,<-HBS.out]
          simp[List.getD,Nat.add_comm]
         obtain⟨⟨⟨xn,xd⟩,⟨xm,xe⟩⟩,hy⟩:∃y,y=Lr.getD (j+1) (aj,aj):=⟨_,rfl⟩;rw[<-hy]at x0 x1 x2 x3 HVX1 HBN
         simp only at x0 x1 x2 x3
         obtain⟨⟨yn,yd⟩,⟨ym,ye⟩⟩:=bst;have HV1:Hid (Val (sq t.s) ⟨xn,xd⟩/\Val (sq t.s) ⟨yn,yd⟩):=⟨HVX1.out.1,HVB.out.1⟩;have HV2:Hid (Val (sq t.s) ⟨xm,xe⟩/\Val (sq t.s) ⟨ym,ye⟩):=⟨HVX1.out.2,HVB.out.2⟩;have HVN:Hid (VI (sq t.s) (bestJ (sq t.s) (⟨yn,yd⟩,⟨ym,ye⟩) (⟨xn,xd⟩,⟨xm,xe⟩))):=kn HVB.out HVX1.out
         have CC10:=fun(W:j1)=>cn t.p t.c t.h xn yn t.s xd yd W hs1 hs6 HV1.out.1 HV1.out.2
         have CC20:=fun(W:j1)=>cn t.p t.c t.h xm ym t.s xe ye W hs1 hs6 HV2.out.1 HV2.out.2
         have HBJ:Hid (bestJ (sq t.s) (⟨yn,yd⟩,⟨ym,ye⟩) (⟨xn,xd⟩,⟨xm,xe⟩)=(if 0<cmpE (sq t.s) ⟨xn,xd⟩ ⟨yn,yd⟩then(⟨xn,xd⟩:E)else⟨yn,yd⟩,if 0<cmpE (sq t.s) ⟨xm,xe⟩ ⟨ym,ye⟩then(⟨xm,xe⟩:E)else⟨ym,ye⟩)):=rfl
         generalize cmpE (sq t.s) ⟨xn,xd⟩ ⟨yn,yd⟩=k1 at *;generalize cmpE (sq t.s) ⟨xm,xe⟩ ⟨ym,ye⟩=k2 at *;have CC1:=h_ CC10;have CC2:=h_ CC20;have HCBr:Hid (Cel wr w3.heap.size [l n yn,l n (yd:Int),l n ym,l n (ye:Int)]):=HCB0.out;obtain⟨wx,hwx⟩:∃wx,wx=wr.heap.size:=⟨_,rfl⟩;clear i1 i2 i3 i4 HFB hy CC10 CC20 HCB0 HVX1 HV1 HV2 hj1 HVB
         go_wp2_with (fail)
         obtain⟨V0,hV0⟩:∃W,W=wr.alloc (D #[l n xn,l n (xd:Int),l n xm,l n (xe:Int)] 47):=⟨_,rfl⟩;rw[<-hV0,<-hwx]
         have HBV0:Hid (Below w3.heap.size w3 V0):=by rw[hV0];exact HB3.out.alloc hzr3 _
         have HCX:Hid (Cel V0 wx [l n xn,l n (xd:Int),l n xm,l n (xe:Int)]):=by rw[hV0,hwx];exact Cel.new wr #[l n xn,l n (xd:Int),l n xm,l n (xe:Int)] 47
         have HCB:Hid (Cel V0 w3.heap.size [l n yn,l n (yd:Int),l n ym,l n (ye:Int)]):=by rw[hV0];exact HCBr.out.below ((Below.refl _ _).alloc (qb _) _)
         have HIV0:=h_ (HI3.out.below HBV0.out)
         have hwx3:w3.heap.size≠wx:=by have:=HCBr.out.lt;omega
         have hwx4:wx≠w3.heap.size:=fun e=>hwx3 e.symm
         clear hV0 HB3 HCBr x0 x1 x2 x3 hwx hzr3
         refine w_ 9 (fun _=>false) dsI17 [Eqv (A (some ⟨t.bt,0,none⟩)),Eqv (A (some ⟨t.bt,0,none⟩)),Eqv (A (some ⟨t.bt,0,none⟩)),Eqv (C #[l n t.p,l n (t.c:Int),l n (t.h:Int),l n (t.s:Int)]),Eqv (A (some ⟨wx,0,none⟩)),Eqv (C #[l n xn,l n (xd:Int)]),Eqv (A (some ⟨w3.heap.size,0,none⟩)),Eqv (C #[l n yn,l n (yd:Int)]),Eqv (l n k1)] (by repeat (first|exact AllStb.nil|refine AllStb.cons (by first|exact a6 _|exact bp _ _ _) ?_)) (fun i o' _ hX=>by cases hX) ?_ ?_
         ·intro i o hi hX ho a' W hW hIW hfar hdep
          have e0:a'.tmps.getD 0 j0=(A (some ⟨t.bt,0,none⟩)):=(fr hfar 0).trans rfl
          have e16:a'.tmps.getD 16 j0=(A (some ⟨w3.heap.size,0,none⟩)):=(fr hfar 16).trans rfl
          have e18:a'.tmps.getD 18 j0=(A (some ⟨wx,0,none⟩)):=(fr hfar 18).trans rfl
          have hi8:=i_8 hi
          clear hfar hX hi
          rcases hi8 with rfl|rfl|rfl|rfl|rfl|rfl|rfl|rfl|rfl
          all_goals (simp at ho;subst ho)
          ·refine il ?_;simp only[jz,qa,e0];go_simp
          ·have d1:a'.tmps.getD 75 j0=_:=dp hdep 0
           refine il ?_;simp only[jz,qa,d1];go_simp
          ·have d1:a'.tmps.getD 76 j0=_:=dp hdep 1
           refine il ?_;simp only[jz,qa,d1];go_simp
          ·have d1:a'.tmps.getD 77 j0=_:=dp hdep 2
           have y0:=(HIV0.out.below hW).tb 0 _ rfl;have y1:=(HIV0.out.below hW).tb 1 _ rfl;have y2:=(HIV0.out.below hW).tb 2 _ rfl;have y3:=(HIV0.out.below hW).tb 3 _ rfl
           refine il ?_;simp only[jz,qa,d1];go_simp
          ·refine il ?_;simp only[jz,qa,e18];go_simp
          ·have d1:a'.tmps.getD 79 j0=_:=dp hdep 4
           have y0:=(HCX.out.below hW).cell 0 _ rfl;have y1:=(HCX.out.below hW).cell 1 _ rfl
           refine il ?_;simp only[jz,qa,d1];go_simp
          ·refine il ?_;simp only[jz,qa,e16];go_simp
          ·have d1:a'.tmps.getD 81 j0=_:=dp hdep 6
           have y0:=(HCB.out.below hW).cell 0 _ rfl;have y1:=(HCB.out.below hW).cell 1 _ rfl
           refine il ?_;simp only[jz,qa,d1];go_simp
          ·have d1:a'.tmps.getD 78 j0=_:=dp hdep 3
           have d2:a'.tmps.getD 80 j0=_:=dp hdep 5
           have d3:a'.tmps.getD 82 j0=_:=dp hdep 7
           refine .inr ⟨78,#[(C #[l n t.p,l n (t.c:Int),l n (t.h:Int),l n (t.s:Int)]),(C #[l n xn,l n (xd:Int)]),(C #[l n yn,l n (yd:Int)])],by simp only[jz,qa,d1,d2,d3];go_simp,?_⟩
           refine(CC1.out W).mono ?_
           rintro e W' ⟨rfl,hb'⟩
           exact⟨_,rfl,hb',trivial,rfl⟩
         intro v w5 hW hIW hg
         have g0:v 0=_:=gq hg 0
         have g1:v 1=_:=gq hg 1
         have g2:v 2=_:=gq hg 2
         have g3:v 3=_:=gq hg 3
         have g4:v 4=_:=gq hg 4
         have g5:v 5=_:=gq hg 5
         have g6:v 6=_:=gq hg 6
         have g7:v 7=_:=gq hg 7
         have g8:v 8=_:=gq hg 8
         simp only[qd,qe,putV,dsI17,g0,g1,g2,g3,g4,g5,g6,g7,g8,Act.put]
         clear g0 g1 g2 g3 g4 g5 g6 g7 g8 hg hIW;have HBV:=h_ (HBV0.out.trans (Below.mono hW HBV0.out.size));have HCBa:=h_ (HCB.out.below hW);have HCX1:=h_ (HCX.out.below hW);clear hW HCB HCX HIV0 CC1 HBV0
         by_cases hk1:0<k1
         ·have bk1:k1>0:=hk1
          have HK1:Hid (0<k1):=hk1;have s0:=HCBa.out.cell 0 _ rfl;have s1:=HCBa.out.cell 1 _ rfl;have h0:=HCBa.out.froz 0 _ rfl;have h1:=HCBa.out.froz 1 _ rfl;have u0:=HCX1.out.cell 0 _ rfl;have u1:=HCX1.out.cell 1 _ rfl
          go_wp2_with (fail)
          obtain⟨V1,hV1⟩:∃W,W=(w5.setCell ⟨w3.heap.size,0,none⟩ (l n xn)).setCell ⟨w3.heap.size,1,none⟩ (l n (xd:Int)):=⟨_,rfl⟩;rw[<-hV1]
          have HCB1:Hid (Cel V1 w3.heap.size [l n xn,l n (xd:Int),l n ym,l n (ye:Int)]):=by rw[hV1];exact(HCBa.out.st (i:=0) (v:=l n xn) (by simp)).st (i:=1) (v:=l n (xd:Int)) (by simp)
          have HBV1:Hid (Below w3.heap.size w3 V1):=by rw[hV1];exact stw (stw HBV.out (qb _)) (qb _)
          replace HCX1:Hid (Cel V1 wx [l n xn,l n (xd:Int),l n xm,l n (xe:Int)]):=by
           rw[hV1]
           exact(HCX1.out.frmP (Frm.set w5 w3.heap.size 0 _) (fun h=>hwx4 h)).frmP (Frm.set _ w3.heap.size 1 _) (fun h=>hwx4 h)
          have HIV1:=h_ (HI3.out.below HBV1.out);clear hV1 HCBa HBV u0 u1 hk1 bk1;clear s0 s1 h0 h1
          refine w_ 9 (fun _=>false) dsI19 [Eqv (A (some ⟨t.bt,0,none⟩)),Eqv (A (some ⟨t.bt,0,none⟩)),Eqv (A (some ⟨t.bt,0,none⟩)),Eqv (C #[l n t.p,l n (t.c:Int),l n (t.h:Int),l n (t.s:Int)]),Eqv (A (some ⟨wx,2,none⟩)),Eqv (C #[l n xm,l n (xe:Int)]),Eqv (A (some ⟨w3.heap.size,2,none⟩)),Eqv (C #[l n ym,l n (ye:Int)]),Eqv (l n k2)] (by repeat (first|exact AllStb.nil|refine AllStb.cons (by first|exact a6 _|exact bp _ _ _) ?_)) (fun i o' _ hX=>by cases hX) ?_ ?_
          ·intro i o hi hX ho a' W hW hIW hfar hdep
           have e0:a'.tmps.getD 0 j0=(A (some ⟨t.bt,0,none⟩)):=(fr hfar 0).trans rfl
           have e16:a'.tmps.getD 16 j0=(A (some ⟨w3.heap.size,0,none⟩)):=(fr hfar 16).trans rfl
           have e18:a'.tmps.getD 18 j0=(A (some ⟨wx,0,none⟩)):=(fr hfar 18).trans rfl
           have hi8:=i_8 hi
           clear hfar hX hi
           rcases hi8 with rfl|rfl|rfl|rfl|rfl|rfl|rfl|rfl|rfl
           all_goals (simp at ho;subst ho)
           ·refine il ?_;simp only[jz,qa,e0];go_simp
           ·have d1:a'.tmps.getD 88 j0=_:=dp hdep 0
            refine il ?_;simp only[jz,qa,d1];go_simp
           ·have d1:a'.tmps.getD 89 j0=_:=dp hdep 1
            refine il ?_;simp only[jz,qa,d1];go_simp
           ·have d1:a'.tmps.getD 90 j0=_:=dp hdep 2
            have y0:=(HIV1.out.below hW).tb 0 _ rfl;have y1:=(HIV1.out.below hW).tb 1 _ rfl;have y2:=(HIV1.out.below hW).tb 2 _ rfl;have y3:=(HIV1.out.below hW).tb 3 _ rfl
            refine il ?_;simp only[jz,qa,d1];go_simp
           ·refine il ?_;simp only[jz,qa,e18];go_simp
           ·have d1:a'.tmps.getD 92 j0=_:=dp hdep 4
            have y0:=(HCX1.out.below hW).cell 2 _ rfl;have y1:=(HCX1.out.below hW).cell 3 _ rfl
            refine il ?_;simp only[jz,qa,d1];go_simp
           ·refine il ?_;simp only[jz,qa,e16];go_simp
           ·have d1:a'.tmps.getD 94 j0=_:=dp hdep 6
            have y0:=(HCB1.out.below hW).cell 2 _ rfl;have y1:=(HCB1.out.below hW).cell 3 _ rfl
            refine il ?_;simp only[jz,qa,d1];go_simp
           ·have d1:a'.tmps.getD 91 j0=_:=dp hdep 3
            have d2:a'.tmps.getD 93 j0=_:=dp hdep 5
            have d3:a'.tmps.getD 95 j0=_:=dp hdep 7
            refine .inr ⟨78,#[(C #[l n t.p,l n (t.c:Int),l n (t.h:Int),l n (t.s:Int)]),(C #[l n xm,l n (xe:Int)]),(C #[l n ym,l n (ye:Int)])],by simp only[jz,qa,d1,d2,d3];go_simp,?_⟩
            refine(CC2.out W).mono ?_
            rintro e W' ⟨rfl,hb'⟩
            exact⟨_,rfl,hb',trivial,rfl⟩
          intro v w6 hW hIW hg
          have g0:v 0=_:=gq hg 0
          have g1:v 1=_:=gq hg 1
          have g2:v 2=_:=gq hg 2
          have g3:v 3=_:=gq hg 3
          have g4:v 4=_:=gq hg 4
          have g5:v 5=_:=gq hg 5
          have g6:v 6=_:=gq hg 6
          have g7:v 7=_:=gq hg 7
          have g8:v 8=_:=gq hg 8
          simp only[qd,qe,putV,dsI19,g0,g1,g2,g3,g4,g5,g6,g7,g8,Act.put]
          clear g0 g1 g2 g3 g4 g5 g6 g7 g8 hg hIW;have HB2:=h_ (HBV1.out.trans (Below.mono hW HBV1.out.size));have HCB2:=h_ (HCB1.out.below hW);have HCX2:=h_ (HCX1.out.below hW);clear hW HCB1 HCX1 HIV1 CC2
          by_cases hk2:0<k2
          ·have bk2:k2>0:=hk2
           have HK2:Hid (0<k2):=hk2;have s2:=HCB2.out.cell 2 _ rfl;have s3:=HCB2.out.cell 3 _ rfl;have h2:=HCB2.out.froz 2 _ rfl;have h3:=HCB2.out.froz 3 _ rfl;have u0:=HCX2.out.cell 2 _ rfl;have u1:=HCX2.out.cell 3 _ rfl
           go_wp2_with (fail)
           have HC3:Hid (Cel ((w6.setCell ⟨w3.heap.size,2,none⟩ (l n xm)).setCell ⟨w3.heap.size,3,none⟩ (l n (xe:Int))) w3.heap.size [l n xn,l n (xd:Int),l n xm,l n (xe:Int)]):=(HCB2.out.st (i:=2) (v:=l n xm) (by simp)).st (i:=3) (v:=l n (xe:Int)) (by simp)
           have HB7:Hid (Below w3.heap.size w3 ((w6.setCell ⟨w3.heap.size,2,none⟩ (l n xm)).setCell ⟨w3.heap.size,3,none⟩ (l n (xe:Int)))):=stw (stw HB2.out (qb _)) (qb _)
           have HBJ2:Hid ((⟨xn,xd⟩,⟨xm,xe⟩)=bestJ (sq t.s) (⟨yn,yd⟩,⟨ym,ye⟩) (⟨xn,xd⟩,⟨xm,xe⟩)):=by unfold Hid;rw[HBJ.out,if_pos HK1.out,if_pos HK2.out]
           exact⟨⟨j+1,(⟨xn,xd⟩,⟨xm,xe⟩),by omega,by go_num,HBJ2.out.trans HBN.out.symm,(by have h9:=HVN.out;rw[<-HBJ2.out]at h9;exact h9),HC3.out,HB7.out⟩,by simp[intOf];omega⟩
          ·have bk2:¬k2>0:=hk2
           have HK2:Hid (¬0<k2):=hk2
           go_wp2_with (fail)
           have HBJ2:Hid ((⟨xn,xd⟩,⟨ym,ye⟩)=bestJ (sq t.s) (⟨yn,yd⟩,⟨ym,ye⟩) (⟨xn,xd⟩,⟨xm,xe⟩)):=by unfold Hid;rw[HBJ.out,if_pos HK1.out,if_neg (show ¬0<k2 by have:=HK2.out;omega)]
           exact⟨⟨j+1,(⟨xn,xd⟩,⟨ym,ye⟩),by omega,by go_num,HBJ2.out.trans HBN.out.symm,(by have h9:=HVN.out;rw[<-HBJ2.out]at h9;exact h9),HCB2.out,HB2.out⟩,by simp[intOf];omega⟩
         ·have bk1:¬k1>0:=hk1
          have HK1:Hid (¬0<k1):=hk1;have HCB1:=HCBa;have HBV1:=HBV;have HIV1:=h_ (HI3.out.below HBV1.out);obtain⟨V1,hV1⟩:∃W,W=w5:=⟨_,rfl⟩
          go_wp2_with (fail)
          rw[<-hV1]at HCB1 HBV1 HIV1 HCX1 ⊢;clear hV1 HCBa HBV hk1 bk1
          refine w_ 9 (fun _=>false) dsI19 [Eqv (A (some ⟨t.bt,0,none⟩)),Eqv (A (some ⟨t.bt,0,none⟩)),Eqv (A (some ⟨t.bt,0,none⟩)),Eqv (C #[l n t.p,l n (t.c:Int),l n (t.h:Int),l n (t.s:Int)]),Eqv (A (some ⟨wx,2,none⟩)),Eqv (C #[l n xm,l n (xe:Int)]),Eqv (A (some ⟨w3.heap.size,2,none⟩)),Eqv (C #[l n ym,l n (ye:Int)]),Eqv (l n k2)] (by repeat (first|exact AllStb.nil|refine AllStb.cons (by first|exact a6 _|exact bp _ _ _) ?_)) (fun i o' _ hX=>by cases hX) ?_ ?_
          ·intro i o hi hX ho a' W hW hIW hfar hdep
           have e0:a'.tmps.getD 0 j0=(A (some ⟨t.bt,0,none⟩)):=(fr hfar 0).trans rfl
           have e16:a'.tmps.getD 16 j0=(A (some ⟨w3.heap.size,0,none⟩)):=(fr hfar 16).trans rfl
           have e18:a'.tmps.getD 18 j0=(A (some ⟨wx,0,none⟩)):=(fr hfar 18).trans rfl
           have hi8:=i_8 hi
           clear hfar hX hi
           rcases hi8 with rfl|rfl|rfl|rfl|rfl|rfl|rfl|rfl|rfl
           all_goals (simp at ho;subst ho)
           ·refine il ?_;simp only[jz,qa,e0];go_simp
           ·have d1:a'.tmps.getD 88 j0=_:=dp hdep 0
            refine il ?_;simp only[jz,qa,d1];go_simp
           ·have d1:a'.tmps.getD 89 j0=_:=dp hdep 1
            refine il ?_;simp only[jz,qa,d1];go_simp
           ·have d1:a'.tmps.getD 90 j0=_:=dp hdep 2
            have y0:=(HIV1.out.below hW).tb 0 _ rfl;have y1:=(HIV1.out.below hW).tb 1 _ rfl;have y2:=(HIV1.out.below hW).tb 2 _ rfl;have y3:=(HIV1.out.below hW).tb 3 _ rfl
            refine il ?_;simp only[jz,qa,d1];go_simp
           ·refine il ?_;simp only[jz,qa,e18];go_simp
           ·have d1:a'.tmps.getD 92 j0=_:=dp hdep 4
            have y0:=(HCX1.out.below hW).cell 2 _ rfl;have y1:=(HCX1.out.below hW).cell 3 _ rfl
            refine il ?_;simp only[jz,qa,d1];go_simp
           ·refine il ?_;simp only[jz,qa,e16];go_simp
           ·have d1:a'.tmps.getD 94 j0=_:=dp hdep 6
            have y0:=(HCB1.out.below hW).cell 2 _ rfl;have y1:=(HCB1.out.below hW).cell 3 _ rfl
            refine il ?_;simp only[jz,qa,d1];go_simp
           ·have d1:a'.tmps.getD 91 j0=_:=dp hdep 3
            have d2:a'.tmps.getD 93 j0=_:=dp hdep 5
            have d3:a'.tmps.getD 95 j0=_:=dp hdep 7
            refine .inr ⟨78,#[(C #[l n t.p,l n (t.c:Int),l n (t.h:Int),l n (t.s:Int)]),(C #[l n xm,l n (xe:Int)]),(C #[l n ym,l n (ye:Int)])],by simp only[jz,qa,d1,d2,d3];go_simp,?_⟩
            refine(CC2.out W).mono ?_
            rintro e W' ⟨rfl,hb'⟩
            exact⟨_,rfl,hb',trivial,rfl⟩
          intro v w6 hW hIW hg
          have g0:v 0=_:=gq hg 0
          have g1:v 1=_:=gq hg 1
          have g2:v 2=_:=gq hg 2
          have g3:v 3=_:=gq hg 3
          have g4:v 4=_:=gq hg 4
          have g5:v 5=_:=gq hg 5
          have g6:v 6=_:=gq hg 6
          have g7:v 7=_:=gq hg 7
          have g8:v 8=_:=gq hg 8
          simp only[qd,qe,putV,dsI19,g0,g1,g2,g3,g4,g5,g6,g7,g8,Act.put]
          clear g0 g1 g2 g3 g4 g5 g6 g7 g8 hg hIW;have HB2:=h_ (HBV1.out.trans (Below.mono hW HBV1.out.size));have HCB2:=h_ (HCB1.out.below hW);have HCX2:=h_ (HCX1.out.below hW);clear hW HCB1 HCX1 HIV1 CC2
          by_cases hk2:0<k2
          ·have bk2:k2>0:=hk2
           have HK2:Hid (0<k2):=hk2;have s2:=HCB2.out.cell 2 _ rfl;have s3:=HCB2.out.cell 3 _ rfl;have h2:=HCB2.out.froz 2 _ rfl;have h3:=HCB2.out.froz 3 _ rfl;have u0:=HCX2.out.cell 2 _ rfl;have u1:=HCX2.out.cell 3 _ rfl
           go_wp2_with (fail)
           have HC3:Hid (Cel ((w6.setCell ⟨w3.heap.size,2,none⟩ (l n xm)).setCell ⟨w3.heap.size,3,none⟩ (l n (xe:Int))) w3.heap.size [l n yn,l n (yd:Int),l n xm,l n (xe:Int)]):=(HCB2.out.st (i:=2) (v:=l n xm) (by simp)).st (i:=3) (v:=l n (xe:Int)) (by simp)
           have HB7:Hid (Below w3.heap.size w3 ((w6.setCell ⟨w3.heap.size,2,none⟩ (l n xm)).setCell ⟨w3.heap.size,3,none⟩ (l n (xe:Int)))):=stw (stw HB2.out (qb _)) (qb _)
           have HBJ2:Hid ((⟨yn,yd⟩,⟨xm,xe⟩)=bestJ (sq t.s) (⟨yn,yd⟩,⟨ym,ye⟩) (⟨xn,xd⟩,⟨xm,xe⟩)):=by unfold Hid;rw[HBJ.out,if_neg (show ¬0<k1 by have:=HK1.out;omega),if_pos HK2.out]
           exact⟨⟨j+1,(⟨yn,yd⟩,⟨xm,xe⟩),by omega,by go_num,HBJ2.out.trans HBN.out.symm,(by have h9:=HVN.out;rw[<-HBJ2.out]at h9;exact h9),HC3.out,HB7.out⟩,by simp[intOf];omega⟩
          ·have bk2:¬k2>0:=hk2
           have HK2:Hid (¬0<k2):=hk2
           go_wp2_with (fail)
           have HBJ2:Hid ((⟨yn,yd⟩,⟨ym,ye⟩)=bestJ (sq t.s) (⟨yn,yd⟩,⟨ym,ye⟩) (⟨xn,xd⟩,⟨xm,xe⟩)):=by unfold Hid;rw[HBJ.out,if_neg (show ¬0<k1 by have:=HK1.out;omega),if_neg (show ¬0<k2 by have:=HK2.out;omega)]
           exact⟨⟨j+1,(⟨yn,yd⟩,⟨ym,ye⟩),by omega,by go_num,HBJ2.out.trans HBN.out.symm,(by have h9:=HVN.out;rw[<-HBJ2.out]at h9;exact h9),HCB2.out,HB2.out⟩,by simp[intOf];omega⟩
        ·have hjj:¬(j:Int)<(m:Int):=by omega
         have HBB:Hid (bst=bestI (sq t.s) Lr):=by
          unfold Hid bestI
          rw[HBS.out,List.take_of_length_le (by rw[List.length_drop];have:=HNL.out;have:=HMN.out;omega)]
         have HM3:Hid (mapO (fun r=>(PE r).map (bestI (sq t.s))) ((ah t.s).take (q+1))=some (LS++[bst])):=by unfold Hid;rw[HMT2.out,HBB.out]
         have HLL:Hid (LS.length<=21):=by
          have h9:=bO HM.out;rw[List.length_take]at h9
          unfold Hid;omega
         obtain⟨⟨bn,bd⟩,⟨bm,be⟩⟩:=bst;have HCb:Hid (Cel wr w3.heap.size [l n bn,l n (bd:Int),l n bm,l n (be:Int)]):=HCB0.out;have u0:=HCb.out.cell 0 _ rfl;have u1:=HCb.out.cell 1 _ rfl;have uz:=HCb.out.lt
         have HIr:Hid (RaceI t (wth (wth (ownT T w 2) vy) vx) wr):=(HI3.out.below HB3.out).less (fun k hk=>by
          rcases hk with (hk|hk)|hk
          ·exact .inl (.inl hk)
          ·exact .inr hk
          ·exact .inl (.inr hk)) (fun k hk=>.inl (.inl (.inl (HTS.out k hk))))
         have HF3r:=h_ (HF3.out.below HB3.out)
         have HROW:Hid ((wr.alloc (D #[l n bn,l n (bd:Int)] 45)).ownsRow (w.heap.size+2) 45 2 vx (LS.map (·.1)).length (exC (LS.map (·.1)))):=World.ownsRow.alloc (own_below HOX3.out HB3.out) _
         have HNW:Hid (∀j u,[Value.int n bn,l n (bd:Int)][j]? =some u->(wr.alloc (D #[l n bn,l n (bd:Int)] 45)).cell? ((⟨wr.heap.size,0,none⟩:Addr).add j)=some u):=eO wr bn (bd:Int) 45;have HOYr:=h_ (own_below HOY3.out HB3.out)
         have hzb:w.heap.size+2<=(wr.alloc (D #[l n bn,l n (bd:Int)] 45)).heap.size:=by simp;omega
         have hza:(wr.alloc (D #[l n bn,l n (bd:Int)] 45)).heap.size=wr.heap.size+1:=by simp
         have HNX:Hid (∀k,some k=vx.ownBlock->¬t.S k):=fun k hk h9=>by have:=(HVX.out k hk.symm).1;have:=HLOW.out k h9;omega
         have HNY:Hid (∀k,some k=vy.ownBlock->¬t.S k):=fun k hk h9=>by have:=(HVY.out k hk.symm).1;have:=HLOW.out k h9;omega
         clear HBS HVB HCB0 HMT2 HBB HOX3 HOY3 HI3 HF3 HIT
         go_upto_region 23 with (at_builtin;(refine wpList_append_own_at _ rfl _ _ 78 rfl (w.heap.size+2) 45 e0 (C #[l n 0,l n 0]) 2 16 Tryz.underlying78 he ez0 ez1 ez2 rfl (by decide) _ _ _ rfl HROW.out ⟨wr.heap.size,0,none⟩ 1 1 [l n bn,l n (bd:Int)] rfl rfl HNW.out (fun u hu=>by simp at hu;rcases hu with rfl|rfl<;>rfl) (by have:=HLL.out;simp only[List.length_map];unfold maxLen;omega) (by have:=HLL.out;simp only[List.length_map];omega) hzb ?_);intro vx' w8 hown hgrow _ hat)
         have hz8:=hgrow.size
         have HVX8:Hid (∀k,vx'.ownBlock=some k->w.heap.size+2<=k/\k<w8.heap.size):=fun k hk=>qc hown k hk
         have HXK:Hid (∀k,vx'.ownBlock=some k->vy.ownBlock≠some k):=fun k hk h9=>by
          rcases hat with h8|h8
          ·exact HXY.out k (h8.symm.trans hk) h9
          ·rw[h8]at hk;injection hk with hk;have:=(HVY.out k h9).2;omega
         have HOX8:Hid (OwnE w8 (w.heap.size+2) vx' ((LS++[((⟨bn,bd⟩,⟨bm,be⟩):Iv)]).map (·.1))):=by
          unfold Hid OwnE;rw[List.map_append,List.length_append,List.map_cons,List.map_nil,fF]
          exact hown
         have HOY8:Hid (w8.ownsRow (w.heap.size+2) 45 2 vy (LS.map (·.2)).length (exC (LS.map (·.2)))):=(Frm.of_grown hgrow).row (World.ownsRow.alloc HOYr.out _) (fun k hk h9=>HXY.out k h9.symm hk)
         have HI8:Hid (RaceI t (wth (wth (ownT T w 2) vx') vy) w8):=((HIr.out.alloc _).grew hgrow hat HNX.out).less (fun k hk=>by
          rcases hk with (hk|hk)|hk
          ·exact .inl (.inl hk)
          ·exact .inr hk
          ·exact .inl (.inr hk)) (fun k hk=>.inl (.inl (.inl (HTS.out k hk))))
         have HF8:Hid (FrS t.S w w8 [[B (some ⟨b1,o1,none⟩) n1 c1,B (some ⟨b2,o2,none⟩) n2 c2],[l n 0,l n 0,l n 0,l n 0]]):=(HF3r.out.alloc _).out (Frm.of_grown hgrow) (fun k hk=>by have:=(HVX.out k hk.symm).1;simp;omega)
         have HC8:Hid (Cel w8 w3.heap.size [l n bn,l n (bd:Int),l n bm,l n (be:Int)]):=(HCb.out.below ((Below.refl _ _).alloc (qb _) _)).frmP (Frm.of_grown hgrow) (fun h9=>by have:=(HVX.out _ h9.symm).2;omega)
         have q2:=HC8.out.cell 2 _ rfl;have q3:=HC8.out.cell 3 _ rfl
         have HROW2:Hid ((w8.alloc (D #[l n bm,l n (be:Int)] 45)).ownsRow (w.heap.size+2) 45 2 vy (LS.map (·.2)).length (exC (LS.map (·.2)))):=World.ownsRow.alloc HOY8.out _
         have HNW2:Hid (∀j u,[Value.int n bm,l n (be:Int)][j]? =some u->(w8.alloc (D #[l n bm,l n (be:Int)] 45)).cell? ((⟨w8.heap.size,0,none⟩:Addr).add j)=some u):=eO w8 bm (be:Int) 45
         have hzb2:w.heap.size+2<=(w8.alloc (D #[l n bm,l n (be:Int)] 45)).heap.size:=by simp;omega
         have hza2:(w8.alloc (D #[l n bm,l n (be:Int)] 45)).heap.size=w8.heap.size+1:=by simp
         clear hown hgrow hat HROW HNW HIr HF3r HOYr HB3 u0 u1 uz HCb hzb hza
         go_wp2_with (at_builtin;(refine wpList_append_own_at _ rfl _ _ 78 rfl (w.heap.size+2) 45 e0 (C #[l n 0,l n 0]) 2 16 Tryz.underlying78 he ez0 ez1 ez2 rfl (by decide) _ _ _ rfl HROW2.out ⟨w8.heap.size,0,none⟩ 1 1 [l n bm,l n (be:Int)] rfl rfl HNW2.out (fun u hu=>by simp at hu;rcases hu with rfl|rfl<;>rfl) (by have:=HLL.out;simp only[List.length_map];unfold maxLen;omega) (by have:=HLL.out;simp only[List.length_map];omega) hzb2 ?_);intro vy' w9 hown hgrow _ hat)
         have HOX9:Hid (OwnE w9 (w.heap.size+2) vx' ((LS++[((⟨bn,bd⟩,⟨bm,be⟩):Iv)]).map (·.1))):=(Frm.of_grown hgrow).row (World.ownsRow.alloc HOX8.out _) (fun k hk h9=>HXK.out k hk h9.symm)
         have HOY9:Hid (OwnE w9 (w.heap.size+2) vy' ((LS++[((⟨bn,bd⟩,⟨bm,be⟩):Iv)]).map (·.2))):=by
          unfold Hid OwnE;rw[List.map_append,List.length_append,List.map_cons,List.map_nil,fF]
          exact hown
         have HXY9:Hid (∀k,vx'.ownBlock=some k->vy'.ownBlock≠some k):=fun k hk h9=>by
          rcases hat with h8|h8
          ·exact HXK.out k hk (h8.symm.trans h9)
          ·rw[h8]at h9;injection h9 with h9;have:=(HVX8.out k hk).2;omega
         have HI9:Hid (RaceI t (wth (wth (ownT T w 2) vx') vy') w9):=(HI8.out.alloc _).grew hgrow hat HNY.out
         have HF9:Hid (FrS t.S w w9 [[B (some ⟨b1,o1,none⟩) n1 c1,B (some ⟨b2,o2,none⟩) n2 c2],[l n 0,l n 0,l n 0,l n 0]]):=(HF8.out.alloc _).out (Frm.of_grown hgrow) (fun k hk=>by have:=(HVY.out k hk.symm).1;simp;omega)
         clear hown hgrow hat HROW2 HNW2 HI8 HF8 HOX8 HOY8 hza2 hzb2
         exact⟨⟨q+1,LS++[((⟨bn,bd⟩,⟨bm,be⟩):Iv)],by omega,by go_num,HM3,⟨vx',rfl,vy',rfl,HOX9,HOY9,HXY9,HI9⟩,HF9⟩,by simp[intOf];omega⟩
    focus
     have hji:¬(q:Int)<(t.nr:Int):=by omega
     have HLS:Hid (mapO (fun r=>(PE r).map (bestI (sq t.s))) (ah t.s)=some LS):=by
      have h9:=HM.out
      rw[List.take_of_length_le (by rw[HPV.out.r];omega)]at h9
      exact h9
     have HRE0:Hid (RES=pairE t.s LS):=by unfold Hid;rw[HRN2.out,HLS.out];rfl
     have hln:LS.length=t.nr:=by rw[bO HLS.out,HPV.out.r]
     have HVS:Hid (∀x∈LS,VI (sq t.s) x):=HLV.out LS HLS.out;obtain⟨Ax,cx,hvx,hex,hcx⟩:=OwnE.el HOX.out;obtain⟨Ay,cy,hvy,hey,hcy⟩:=OwnE.el HOY.out;rw[List.length_map,hln]at hvx hex hcx hvy hey hcy
     have CMX:=fun(W:j1) (hw:Below wr.heap.size wr W)=>eD t.p (t.c:Int) (t.h:Int) t.s t.nr cx Ax (LS.map (·.1)) W HPV.out.v (hex.below hw) HPV.out.r (fun x hx=>by
      obtain⟨y,hy,rfl⟩:=List.mem_map.1 hx
      exact(HVS.out y hy).1)
     have CMY:=fun(W:j1) (hw:Below wr.heap.size wr W)=>eD t.p (t.c:Int) (t.h:Int) t.s t.nr cy Ay (LS.map (·.2)) W HPV.out.v (hey.below hw) HPV.out.r (fun x hx=>by
      obtain⟨y,hy,rfl⟩:=List.mem_map.1 hx
      exact(HVS.out y hy).2)
     have HRE1:Hid (RES=(meanE (sq t.s) (ah t.s) (LS.map (·.1))).bind fun lo=>(meanE (sq t.s) (ah t.s) (LS.map (·.2))).map fun hi=>(lo,hi)):=HRE0.out
     generalize meanE (sq t.s) (ah t.s) (LS.map (·.1))=r1 at *
     generalize meanE (sq t.s) (ah t.s) (LS.map (·.2))=r2 at *
     obtain⟨a1,ha1⟩:∃x:Int,x=(r1.getD ⟨0,0⟩).num:=⟨_,rfl⟩;obtain⟨b1',hb1'⟩:∃x:Int,x=((r1.getD ⟨0,0⟩).depth:Int):=⟨_,rfl⟩;obtain⟨ok1,hok1⟩:∃x:Bool,x=r1.isSome:=⟨_,rfl⟩;obtain⟨a2,ha2⟩:∃x:Int,x=(r2.getD ⟨0,0⟩).num:=⟨_,rfl⟩;obtain⟨b2',hb2'⟩:∃x:Int,x=((r2.getD ⟨0,0⟩).depth:Int):=⟨_,rfl⟩;obtain⟨ok2,hok2⟩:∃x:Bool,x=r2.isSome:=⟨_,rfl⟩
     have CM1:Hid (∀W:j1,Below wr.heap.size wr W->Calls Tryz.prog 111 #[(C #[l n t.p,l n (t.c:Int),l n (t.h:Int),l n (t.s:Int)]),B Ax t.nr cx] W fun e W'=>e=F (I #[C #[l n a1,l n b1'],J ok1])/\Below W.heap.size W W'):=fun W hw=>by
      rw[ha1,hb1',hok1]
      exact CMX W hw
     have CM2:Hid (∀W:j1,Below wr.heap.size wr W->Calls Tryz.prog 111 #[(C #[l n t.p,l n (t.c:Int),l n (t.h:Int),l n (t.s:Int)]),B Ay t.nr cy] W fun e W'=>e=F (I #[C #[l n a2,l n b2'],J ok2])/\Below W.heap.size W W'):=fun W hw=>by
      rw[ha2,hb2',hok2]
      exact CMY W hw
     have HE1:Hid (a1=(r1.getD ⟨0,0⟩).num/\b1'=((r1.getD ⟨0,0⟩).depth:Int)/\ok1=r1.isSome):=⟨ha1,hb1',hok1⟩;have HE2:Hid (a2=(r2.getD ⟨0,0⟩).num/\b2'=((r2.getD ⟨0,0⟩).depth:Int)/\ok2=r2.isSome):=⟨ha2,hb2',hok2⟩
     have HIT:Hid (RaceI t (ownT T w 2) wr):=HI.out.less (fun k hk=>.inl (.inl hk)) (fun k hk=>.inl (HTS.out k hk))
     have e0':=HI.out.tb 0 _ rfl;have e1':=HI.out.tb 1 _ rfl;have e2':=HI.out.tb 2 _ rfl;have e3':=HI.out.tb 3 _ rfl;subst hvx hvy;clear CMX CMY ha1 hb1' hok1 ha2 hb2' hok2 hex hey hcx hcy HI HOX HOY HLS HRE0 HM HXY HVX HVY HVS
     go_wp2_with (fail)
     refine(CM1.out _ (Below.refl _ _)).mono ?_
     rintro e w5 ⟨rfl,hb5⟩
     have HBa:Hid (Below wr.heap.size wr (w5.alloc (D #[l n a1,l n b1'] 45))):=hb5.alloc hb5.size _;have HCa:=h_ (Cel.new w5 #[l n a1,l n b1'] 45);have HTa:=h_ (HIT.out.below HBa.out);have e0':=HTa.out.tb 0 _ rfl;have e1':=HTa.out.tb 1 _ rfl;have e2':=HTa.out.tb 2 _ rfl;have e3':=HTa.out.tb 3 _ rfl;obtain⟨Wa,hWa⟩:∃W,W=w5.alloc (D #[l n a1,l n b1'] 45):=⟨_,rfl⟩;clear hb5 CM1
     go_wp2_with (fail)
     rw[<-hWa]at HBa HCa HTa e0' e1' e2' e3' ⊢
     refine(CM2.out _ HBa.out).mono ?_
     rintro e w6 ⟨rfl,hb6⟩
     have HB6:Hid (Below wr.heap.size wr w6):=HBa.out.trans (hb6.mono HBa.out.size);have HC6:=h_ (HCa.out.below hb6);have HI6:=h_ (HIT.out.below HB6.out);have HF6:=h_ (HF.out.below HB6.out);have u0:=HC6.out.cell 0 _ rfl;have u1:=HC6.out.cell 1 _ rfl;have uz:=HC6.out.lt;clear hb6 CM2 hWa HBa HCa HTa HIT HF HB6 e0' e1' e2' e3'
     rcases r1 with _|x1
     focus
      have hk:ok1=false:=HE1.out.2.2;subst hk
      refine ?za
     rotate_left
     focus
      have hk:ok1=true:=HE1.out.2.2;subst hk
      rcases r2 with _|x2
      focus
       have hk:ok2=false:=HE2.out.2.2;subst hk
       refine ?zb
      rotate_left
      focus
       have hk:ok2=true:=HE2.out.2.2;subst hk
       have HRE:Hid (IvM RES (F (I #[C #[l n a1,l n b1',l n a2,l n b2'],J true]))):=by
        have q1:a1=x1.num:=HE1.out.1;have q2:b1'=(x1.depth:Int):=HE1.out.2.1;have q3:a2=x2.num:=HE2.out.1;have q4:b2'=(x2.depth:Int):=HE2.out.2.1
        rw[HRE1.out,q1,q2,q3,q4];rfl
       refine ?zc
    rotate_left 3
    case' za|zb=>
     have HRE:Hid (IvM RES (F (I #[C #[l n a1,l n b1',l n a2,l n b2'],J false]))):=by rw[HRE1.out];exact⟨_,_,_,_,rfl⟩
    case' zc|za|zb=>
     have z1:=HF6.out.l1 (by simp)
     have c10:=HF6.out.c1 0 rfl;have f10:=HF6.out.f1 0 rfl;have c11:=HF6.out.c1 1 rfl;have f11:=HF6.out.f1 1 rfl;have c12:=HF6.out.c1 2 rfl;have f12:=HF6.out.f1 2 rfl;have c13:=HF6.out.c1 3 rfl;have f13:=HF6.out.f1 3 rfl
     go_wp2_with (fail)
    case zc=>
     refine j2 (v:=I #[C #[l n a1,l n b1',l n a2,l n b2'],J true]) (by simp[results,Tryz.results74,go_sem,c10,c11,c12,c13,z1,f10,f11,f12,f13,u0,u1]) rfl ⟨HRE.out,?_,?_⟩
     ·refine RaceI.less (T:=ownT T w 2) ?_ (fun j hj=>.inl hj) HTS.out
      repeat (first|with_reducible exact HI6.out|refine RaceI.alloc ?_ _|refine RaceI.stored ?_ _ (bj 1 rfl (by omega)) (HNS.out 1))
     ·repeat (first|with_reducible exact HF6.out.f|refine Frm.alloc ?_ _|refine Frm.ownSet ?_ (by omega) _)
    case za|zb=>
     refine j2 (v:=I #[C #[l n a1,l n b1',l n a2,l n b2'],J false]) (by simp[results,Tryz.results74,go_sem,c10,c11,c12,c13,z1,f10,f11,f12,f13,u0,u1]) rfl ⟨HRE.out,?_,?_⟩
     ·refine RaceI.less (T:=ownT T w 2) ?_ (fun j hj=>.inl hj) HTS.out
      repeat (first|with_reducible exact HI6.out|refine RaceI.alloc ?_ _|refine RaceI.stored ?_ _ (bj 1 rfl (by omega)) (HNS.out 1))
     ·repeat (first|with_reducible exact HF6.out.f|refine Frm.alloc ?_ _|refine Frm.ownSet ?_ (by omega) _)
 ·have HRE:=h_ (HRS.out rfl)
  have CSC1:=CSC0 w2 (by omega) HI2.out HA2.out HBo2.out
  have HM:=h_ (IvM.two (chS t.s t.h own other));generalize chS t.s t.h own other=R at *;obtain⟨xn,hxn⟩:∃x:Int,x=(R.getD ⟨0,0⟩).num:=⟨_,rfl⟩;obtain⟨xd,hxd⟩:∃x:Int,x=((R.getD ⟨0,0⟩).depth:Int):=⟨_,rfl⟩;obtain⟨ok,hok⟩:∃x:Bool,x=R.isSome:=⟨_,rfl⟩;rw[<-hxn,<-hxd,<-hok]at HM
  have CSC2:Hid (Calls Tryz.prog 85 #[(A (some ⟨t.bt,0,none⟩)),(C #[B (some ⟨b1,o1,none⟩) n1 c1,B (some ⟨b2,o2,none⟩) n2 c2])] w2 fun e w'=>e=F (I #[C #[l n xn,l n xd],J ok])/\RaceI t (ownT T w 2) w'/\Frm t.S w2 w'):=by
   rw[hxn,hxd,hok]
   exact CSC1
  clear CSC0 CSC1 HRS HR0 HRN hxn hxd hok;have c00:=HF2.out.c0 0 rfl;have c01:=HF2.out.c0 1 rfl
  go_wp2_with (fail)
  clear c00 c01
  refine CSC2.out.mono ?_
  rintro e w3 ⟨rfl,hI3,hF3⟩
  have HF3:=h_ (HF2.out.frm hF3);have HI3:=h_ hI3;have hz3:=hF3.size
  have HMR:Hid (IvM RES (F (I #[C #[l n xn,l n xd,l n xn,l n xd],J ok]))):=by rw[HRE.out];exact HM.out
  clear hI3 hF3 HF2 HI2 HM HRE CSC2
  have z1:=HF3.out.l1 (by simp)
  have c10:=HF3.out.c1 0 rfl;have f10:=HF3.out.f1 0 rfl;have c11:=HF3.out.c1 1 rfl;have f11:=HF3.out.f1 1 rfl;have c12:=HF3.out.c1 2 rfl;have f12:=HF3.out.f1 2 rfl;have c13:=HF3.out.c1 3 rfl;have f13:=HF3.out.f1 3 rfl
  go_wp2_with (fail)
  refine j2 (v:=I #[C #[l n xn,l n xd,l n xn,l n xd],J ok]) (by simp[results,Tryz.results74,go_sem,c10,c11,c12,c13,z1,f10,f11,f12,f13]) rfl ⟨HMR.out,?_,?_⟩
  ·refine RaceI.less (T:=ownT T w 2) ?_ (fun j hj=>.inl hj) HTS.out
   repeat (first|with_reducible exact HI3.out|refine RaceI.alloc ?_ _|refine RaceI.stored ?_ _ (bj 1 rfl (by omega)) (HNS.out 1))
  ·repeat (first|with_reducible exact HF3.out.f|refine Frm.alloc ?_ _|refine Frm.ownSet ?_ (by omega) _)
end Go.Proofs.YtcmeoenkgmghkaaGreat

/- Part of one proof. There are no conditions. -/
import Derived.Test.YtcmeoenkgmghkaaGreatPY31
set_option maxHeartbeats 0
set_option linter.unusedVariables false
set_option linter.unusedSimpArgs false
set_option maxRecDepth 100000
open Go.Value renaming int->d,pointer->n,slice->z,agg->A,tuple->C,bool->D
open Go.IntKind renaming i64->m
open Go.Obj renaming cells->B
open Go.Ending renaming returned->F
namespace Go.Proofs.YtcmeoenkgmghkaaGreat
open Go.RowKit Pl Ps Ra Ex
inductive AllVf (S:Nat->Prop):List RP->Prop
 |nil:AllVf S []
 |cons {P:RP} {l:List RP}:(∀v W W',P v W->Frm S W W'->P v W')->AllVf S l->AllVf S (P::l)
theorem GL.stabVf{S:Nat->Prop}:∀{l:List RP},AllVf S l->∀i v W W',GL l i v W->Frm S W W'->GL l i v W'
 | [],_,_,_,_,_,h,_=>h
 |_::_,.cons h _,0,v,W,W',hg,hf=>h v W W' hg hf
 |_::_,.cons _ h,i+1,v,W,W',hg,hf=>GL.stabVf h i v W W' hg hf
theorem gI{S:Nat->Prop}(u:Value):∀v W W',Eqv u v W->Frm S W W'->Eqv u v W':=fun _ _ _ h _=>h
def RoS(lo:Nat)(o:Option (List Iv)):RP:=fun v W=>RowO W lo o v
def PiS(lo:Nat)(o:Option (List Iv)):RP:=fun v W=>∃u,v=C #[u,D o.isSome]/\RowO W lo o u
theorem RowO.frmS{S:Nat->Prop}{lo:Nat}(hlo:∀k,lo<=k->¬S k){o:Option (List Iv)}{v:Value}{W W':World}(h:RowO W lo o v)(hf:Frm S W W'):RowO W' lo o v:=by
 rcases o with _|L
 ·exact h
 ·have h:W.ownsRow lo 47 4 v L.length (ivCs L):=h
  exact hf.row h (fun k hk=>hlo k (World.ownsRow.lt h k hk).1)
theorem stf_ro{S:Nat->Prop}{lo:Nat}(hlo:∀k,lo<=k->¬S k)(o:Option (List Iv)):∀v W W',RoS lo o v W->Frm S W W'->RoS lo o v W':=fun _ _ _ h hf=>RowO.frmS hlo h hf
theorem stf_pi{S:Nat->Prop}{lo:Nat}(hlo:∀k,lo<=k->¬S k)(o:Option (List Iv)):∀v W W',PiS lo o v W->Frm S W W'->PiS lo o v W':=fun _ _ _ ⟨u,h1,h2⟩ hf=>⟨u,h1,RowO.frmS hlo h2 hf⟩
def dsW1:Nat->Nat
 | 0=>22
 | 1=>23
 | 2=>24
 | 3=>25
 | 4=>26
 |_=>0
def dsW12:Nat->Nat
 | 0=>56
 | 1=>57
 | 2=>58
 | 3=>59
 | 4=>60
 | 5=>61
 | 6=>62
 | 7=>63
 | 8=>64
 | 9=>55
 | 10=>65
 | 11=>66
 |_=>0
def dsW19:Nat->Nat
 | 0=>84
 | 1=>85
 | 2=>86
 | 3=>87
 | 4=>88
 | 5=>89
 | 6=>90
 | 7=>91
 | 8=>92
 | 9=>93
 | 10=>94
 | 11=>95
 |_=>0
def dsW21:Nat->Nat
 | 0=>103
 | 1=>104
 | 2=>105
 | 3=>106
 | 4=>107
 | 5=>108
 | 6=>109
 | 7=>110
 | 8=>111
 | 9=>112
 | 10=>113
 | 11=>114
 |_=>0
theorem gZ(t:RT2)(ht:t.Ok)(P tu:Nat)(hP:t.p=(P:Int))(hsm:smB t.p t.c t.h t.s=true)(htu:tu<=2)(IH:∀tu',tu=tu'+1->PlC2 t P tu'):IvC2 t P tu:=by
 intro own other A1 A2 n1 c1 n2 c2 w hI hA hB hsd hc1 hc2
 obtain⟨e0,he,ez0,ez1,ez2⟩:=info_parts Tryz.infoE;have hv:=aA ht.v
 have hs1:1<=t.s:=by omega
 have hs6:t.s<=6:=by omega
 obtain⟨hq1,-,_⟩:=sq_bd hs1 hs6
 have hn1:n1=P+1:=by rw[<-hA.1.1];exact hsd.len1
 have hn2:n2=P+1:=by rw[<-hB.1.1];exact hsd.len2
 have hP24:P<=24:=by omega
 obtain⟨b1,o1,rfl,_⟩:=hA.1.2 (by omega)
 obtain⟨b2,o2,rfl,_⟩:=hB.1.2 (by omega)
 have hlow:=hI.ltS;have hss1:=hsd.1.2.2;have hss2:=hsd.2.2.2
 simp only at hss1 hss2
 have HNS:Hid (∀j,¬t.S (w.heap.size+j)):=fun j h=>by have:=hlow _ h;omega
 have HLOW:=h_ hlow
 have hb0:Below w.heap.size w ((w.alloc (B #[z (some ⟨b1,o1,none⟩) n1 c1,z (some ⟨b2,o2,none⟩) n2 c2] 35)).alloc (B #[d m 0,d m 0,d m 0,d m 0] 47)):=((Below.refl _ _).alloc (Nat.le_refl _) _).alloc (by simp) _
 have hzV:((w.alloc (B #[z (some ⟨b1,o1,none⟩) n1 c1,z (some ⟨b2,o2,none⟩) n2 c2] 35)).alloc (B #[d m 0,d m 0,d m 0,d m 0] 47)).heap.size=w.heap.size+2:=by simp
 have HI:Hid (TabI t ((w.alloc (B #[z (some ⟨b1,o1,none⟩) n1 c1,z (some ⟨b2,o2,none⟩) n2 c2] 35)).alloc (B #[d m 0,d m 0,d m 0,d m 0] 47))):=hI.below hb0
 have HF:Hid (FrS t.S w ((w.alloc (B #[z (some ⟨b1,o1,none⟩) n1 c1,z (some ⟨b2,o2,none⟩) n2 c2] 35)).alloc (B #[d m 0,d m 0,d m 0,d m 0] 47)) [[z (some ⟨b1,o1,none⟩) n1 c1,z (some ⟨b2,o2,none⟩) n2 c2],[d m 0,d m 0,d m 0,d m 0]]):=((FrS.start w hlow).allocT (by simp) _ _).allocT (by simp) _ _
 have HA:=h_ hA;have HB:=h_ hB;have HSD:=h_ hsd;have HBT:Hid (t.bt<w.heap.size):=hI.ltB
 have HNB:Hid (∀j,t.bt≠w.heap.size+j):=fun j=>by have:=HBT.out;omega
 have CSB:Hid (∀W:World,Below w.heap.size w W->Calls Tryz.prog 104 #[(A #[d m t.p,d m (t.c:Int),d m (t.h:Int),d m (t.s:Int)]),(A #[z (some ⟨b1,o1,none⟩) n1 c1,z (some ⟨b2,o2,none⟩) n2 c2])] W fun e w'=>e=F (D (solvB t.p t.h own other))/\Below W.heap.size W w'):=fun W hw=>
  mj t.p t.c t.h t.s (some ⟨b1,o1,none⟩) (some ⟨b2,o2,none⟩) n1 c1 n2 c2 own other W (hA.1.below hw) (hB.1.below hw) hsd.1.2.1 hsd.2.2.1 (by omega) (by omega) (by omega) (by omega) hsm
 have CSC0:∀(W:World),TabI t W->SQ t.S W (some ⟨b1,o1,none⟩) n1 own->SQ t.S W (some ⟨b2,o2,none⟩) n2 other->Calls Tryz.prog 105 #[(n (some ⟨t.bt,0,none⟩)),(A #[z (some ⟨b1,o1,none⟩) n1 c1,z (some ⟨b2,o2,none⟩) n2 c2])] W (RetTn t W (chS t.s t.h own other)):=fun W hI hA hB=>
  ml t ht b1 o1 n1 c1 b2 o2 n2 c2 W hI hA hB (by omega) (by omega) hc1 hc2 (by omega) (by omega) hsd.1.2.1 hsd.2.2.1 (by omega) (by omega)
 have HRS:Hid (solvB t.p t.h own other=true->ivE t.s P t.h tu (own,other)=(chS t.s t.h own other).map fun x=>(x,x)):=fun h9=>k8 (by rw[<-hP];exact h9)
 have HR0:Hid (solvB t.p t.h own other=false->tu=0->ivE t.s P t.h tu (own,other)=some (aj,oneE)):=fun h9 h8=>by
  rw[h8]
  exact ivE_zero (by rw[<-hP];exact h9)
 have HRN:Hid (∀tu',solvB t.p t.h own other=false->tu=tu'+1->ivE t.s P t.h tu (own,other)=(mapO (fun r=>(plE t.s P t.h (ivE t.s P t.h tu') (own,other) r).map (bestI (sq t.s))) (ah t.s)).bind (pairE t.s)):=fun tu' h9 h8=>by
  rw[h8]
  exact ivE_succ (by rw[<-hP];exact h9)
 have HIH:=h_ IH;have HA0:=h_ (hA.below hb0);have HB0:=h_ (hB.below hb0);have HBV:=h_ hb0;clear hI hA hB hsd hlow IH hP hb0 hss1 hss2 hn1 hn2;generalize ivE t.s P t.h tu (own,other)=RES at *;generalize hSB:solvB t.p t.h own other=SB at *;clear hSB
 go_enter Tryz.func73,Tryz.ntmps73
 go_wp2_with (fail)
 generalize ((w.alloc (B #[z (some ⟨b1,o1,none⟩) n1 c1,z (some ⟨b2,o2,none⟩) n2 c2] 35)).alloc (B #[d m 0,d m 0,d m 0,d m 0] 47))=V at *
 refine w_ 5 (fun _=>false) dsW1 [Eqv (n (some ⟨t.bt,0,none⟩)),Eqv (n (some ⟨t.bt,0,none⟩)),Eqv (n (some ⟨t.bt,0,none⟩)),Eqv (A #[d m t.p,d m (t.c:Int),d m (t.h:Int),d m (t.s:Int)]),Eqv (A #[z (some ⟨b1,o1,none⟩) n1 c1,z (some ⟨b2,o2,none⟩) n2 c2])] (by repeat (first|exact AllStb.nil|refine AllStb.cons (by first|exact aY _|exact bi _ _ _) ?_)) (fun i o' _ hX=>by cases hX) ?_ ?_
 ·intro i o hi hX ho a' W hW hIW hfar hdep
  have e0:a'.tmps.getD 0 undef=(n (some ⟨t.bt,0,none⟩)):=(fr hfar 0).trans rfl
  have e4:a'.tmps.getD 4 undef=(n (some ⟨w.heap.size,0,none⟩)):=(fr hfar 4).trans rfl
  have hi8:=i_4 hi
  clear hfar hX hi
  rcases hi8 with rfl|rfl|rfl|rfl|rfl
  all_goals (simp at ho;subst ho)
  ·refine il ?_;simp only[execOp,Act.eval,e0];go_simp
  ·have d1:a'.tmps.getD 22 undef=_:=dp hdep 0
   refine il ?_;simp only[execOp,Act.eval,d1];go_simp
  ·have d1:a'.tmps.getD 23 undef=_:=dp hdep 1
   refine il ?_;simp only[execOp,Act.eval,d1];go_simp
  ·have d1:a'.tmps.getD 24 undef=_:=dp hdep 2
   have y0:=(HI.out.below hW).tb 0 _ rfl;have y1:=(HI.out.below hW).tb 1 _ rfl;have y2:=(HI.out.below hW).tb 2 _ rfl;have y3:=(HI.out.below hW).tb 3 _ rfl
   refine il ?_;simp only[execOp,Act.eval,d1];go_simp
  ·have y0:=(HF.out.below hW).c0 0 rfl
   have y1:=(HF.out.below hW).c0 1 rfl
   refine il ?_;simp only[execOp,Act.eval,e4];go_simp
 intro v w1 hW hIW hg
 have g0:v 0=_:=gq hg 0
 have g1:v 1=_:=gq hg 1
 have g2:v 2=_:=gq hg 2
 have g3:v 3=_:=gq hg 3
 have g4:v 4=_:=gq hg 4
 simp only[List.drop_succ_cons,List.drop_zero,putV,dsW1,g0,g1,g2,g3,g4,Act.put]
 clear g0 g1 g2 g3 g4 hg hIW;have HB1:=h_ (HBV.out.trans (Below.mono hW HBV.out.size));have HF1:=h_ (HF.out.below hW);have HI1:=h_ (HI.out.below hW);have HA1:=h_ (HA0.out.below hW);have HBo1:=h_ (HB0.out.below hW);have hz1:=Below.size hW;clear hW HF HI HA0 HB0
 go_wp2_with (fail)
 refine(CSB.out _ HB1.out).mono ?_
 rintro e w2 ⟨rfl,hb2⟩
 have HF2:=h_ (HF1.out.below hb2);have HI2:=h_ (HI1.out.below hb2);have HA2:=h_ (HA1.out.below hb2);have HBo2:=h_ (HBo1.out.below hb2);have hz2:=hb2.size;clear hb2 HF1 HI1 HA1 HBo1 HB1 CSB
 rcases SB with _|_
 ·clear HRS CSC0
  by_cases hz:tu=0
  ·have hz0:((tu:Int) == 0)=true:=by simp[hz]
   have HRE:=h_ (HR0.out rfl hz);clear HR0 HRN hz
   go_wp2_with (fail)
   refine(cA _).mono ?_
   rintro e w3 ⟨rfl,hb3⟩
   have HF3:=h_ (HF2.out.below hb3);have HI3:=h_ (HI2.out.below hb3);clear hb3 HF2 HI2;have c10:=HF3.out.c1 0 rfl;have f10:=HF3.out.f1 0 rfl;have c11:=HF3.out.c1 1 rfl;have f11:=HF3.out.f1 1 rfl;have c12:=HF3.out.c1 2 rfl;have f12:=HF3.out.f1 2 rfl;have c13:=HF3.out.c1 3 rfl;have f13:=HF3.out.f1 3 rfl
   go_wp2_with (fail)
   refine bodyPost_ret (v:=C #[A #[d m 0,d m 0,d m 1,d m 0],D true]) (by simp[results,Tryz.results73,go_sem,c10,c11,c12,c13,f10,f11,f12,f13]) rfl ⟨by rw[HRE.out];rfl,?_,?_⟩
   ·repeat (first|with_reducible exact HI3.out|refine TabI.alloc ?_ _|refine TabI.stored ?_ _ (HNS.out 1) (HNB.out 1))
   ·repeat (first|with_reducible exact HF3.out.f|refine Frm.alloc ?_ _|refine Frm.ownSet ?_ (by omega) _)
  ·have hz0:((tu:Int) == 0)=false:=by simp;omega
   obtain⟨tu',htu'⟩:∃tu',tu=tu'+1:=⟨tu-1,by omega⟩
   have htu2:(tu:Int)-1=(tu':Int):=by omega
   have HTU:=h_ htu2;have HRN1:=HRN.out tu' rfl htu';have HPL:=h_ (HIH.out tu' htu')
   obtain⟨PE,hPE⟩:∃PE:Nat×Nat->Option (List Iv),PE=fun r=>plE t.s P t.h (ivE t.s P t.h tu') (own,other) r:=⟨_,rfl⟩
   have HRN2:Hid (RES=(mapO (fun r=>(PE r).map (bestI (sq t.s))) (ah t.s)).bind (pairE t.s)):=by rw[hPE];exact HRN1
   have HPE1:Hid (∀a b L,1<=a/\a<=1000->1<=b/\b<=1000->PE (a,b)=some L->(∀x∈L,VI (sq t.s) x)/\1<=L.length/\L.length<=781250):=fun a b L ha hb h9=>by
    rw[hPE]at h9;have h8:=bN h9
    refine⟨jR hq1 h9,?_,?_⟩
    ·rw[h8];exact List.length_pos_iff.2 eX
    ·rw[h8];exact dW HSD.out hP24 ha hb
   have HLV:Hid (∀LS,mapO (fun r=>(PE r).map (bestI (sq t.s))) (ah t.s)=some LS->∀x∈LS,VI (sq t.s) x):=fun LS h9=>mg (fun r x hx=>by
    rcases hp:PE r with _|L
    ·rw[hp]at hx;cases hx
    ·rw[hp]at hx
     simp only[Option.map_some]at hx
     injection hx with hx;rw[<-hx];rw[hPE]at hp
     exact bestI_val (jR hq1 hp) (fun e=>by have:=bN hp;rw[e]at this;exact eX (List.eq_nil_of_length_eq_zero this.symm))) h9
   have CIH:Hid (∀(a b:Nat) (W:World),1<=a/\a<=1000->1<=b/\b<=1000->TabI t W->Frm t.S w W->
     Calls Tryz.prog 66 #[(n (some ⟨t.bt,0,none⟩)),(A #[z (some ⟨b1,o1,none⟩) n1 c1,z (some ⟨b2,o2,none⟩) n2 c2]),A #[d m (a:Int),d m (b:Int)],d m (tu':Int)] W (RetPi2 t W (PE (a,b)))):=fun a b W ha hb h2 h4=>by
    rw[hPE]
    exact HPL.out own other (some ⟨b1,o1,none⟩) (some ⟨b2,o2,none⟩) n1 c1 n2 c2 a b W h2 (HA.out.frm h4) (HB.out.frm h4) HSD.out hc1 hc2 ha hb
   have e0':=HI2.out.tb 0 _ rfl;have e1':=HI2.out.tb 1 _ rfl;have e2':=HI2.out.tb 2 _ rfl;have e3':=HI2.out.tb 3 _ rfl;clear HR0 HRN HRN1 HPL hPE htu2 htu' hz HA2 HBo2
   go_wp2_with (fail)
   refine(fc t.p t.c t.h t.s _ hs6).mono ?_
   rintro e wl ⟨v9,rfl,hrow,hbl⟩
   obtain⟨Ar,cr,hv9,hRL,hcr⟩:=OwnR.read (S:=t.S) hrow (fun k hk h9=>by have:=HLOW.out k h9;omega)
   subst hv9;obtain⟨nr,hnr⟩:∃nr,nr=(ah t.s).length:=⟨_,rfl⟩;have HNR:Hid ((ah t.s).length=nr):=hnr.symm;rw[<-hnr]at hRL hcr ⊢
   have hnr21:nr<=21:=by rw[hnr];exact cL hs6
   have hnr1:0<nr:=by
    have h1:=bX t.s
    have h2:1*2<=t.s*(t.s+1):=Nat.mul_le_mul (by omega) (by omega)
    omega
   obtain⟨rb,ro,hA0,_,hrS,_⟩:=hRL.2.2 (by omega)
   subst hA0;have HRS:Hid (¬t.S rb):=hrS;have HRL:=h_ hRL;have HFl:=h_ (HF2.out.below hbl);have HIl:=h_ (HI2.out.below hbl);have hzl:=hbl.size
   have hwl:w.heap.size+2<=wl.heap.size:=by omega
   clear e0' e1' e2' e3' HI2 HF2 hbl hrow hRL hrS hnr
   go_wp2_with (fail)
   go_loopw [11,12,13] (fun v11 v12 v13 wr=>∃(q:Nat) (LS:List Iv),q<=nr/\v13=d m q/\Hid (mapO (fun r=>(PE r).map (bestI (sq t.s))) ((ah t.s).take q)=some LS)/\(∃vx,vx=v11/\∃vy,vy=v12/\Hid (OwnE wr wl.heap.size vx (LS.map (·.1)))/\Hid (OwnE wr wl.heap.size vy (LS.map (·.2)))/\Hid (∀k,vx.ownBlock=some k->vy.ownBlock≠some k))/\Hid (TabI t wr)/\Hid (Frm t.S wl wr)/\Hid (FrS t.S w wr [[z (some ⟨b1,o1,none⟩) n1 c1,z (some ⟨b2,o2,none⟩) n2 c2],[d m 0,d m 0,d m 0,d m 0]])) (fun _ _ v13 _=>nr-(intOf v13).toNat)
   case atStart=>
    have hy:=World.ownsRow_lit (wl.alloc (B #[] 45)) (base:=wl.heap.size) (e:=45) (size:=2) #[] 0 (by simp) (by decide) (by simp)
    rw[show(wl.alloc (B #[] 45)).heap.size=wl.heap.size+1 by simp]at hy
    exact⟨0,[],by omega,rfl,rfl,⟨_,rfl,_,rfl,World.ownsRow.alloc (World.ownsRow_lit wl #[] 0 (Nat.le_refl _) (by decide) (by simp)) _,hy,fun k hk h9=>by
     have hk:some wl.heap.size=some k:=hk;have h9:some (wl.heap.size+1)=some k:=h9;injection hk with hk;injection h9 with h9
     omega⟩,(HIl.out.alloc _).alloc _,((Frm.refl _ _).alloc _).alloc _,(HFl.out.alloc _).alloc _⟩
   case round=>
    clear HIl HFl;obtain⟨q,LS,hqn,rfl,HM,⟨vx,rfl,vy,rfl,HOX,HOY,HXY⟩,HI,HFX,HF⟩:=hrel;have hzr:wl.heap.size<=wr.heap.size:=HFX.out.size
    have HVX:Hid (∀k,vx.ownBlock=some k->wl.heap.size<=k/\k<wr.heap.size):=fun k hk=>World.ownsRow.lt HOX.out k hk
    have HVY:Hid (∀k,vy.ownBlock=some k->wl.heap.size<=k/\k<wr.heap.size):=fun k hk=>World.ownsRow.lt HOY.out k hk
    by_cases hlt:q<nr
    ·have hji:(q:Int)<(nr:Int):=by omega
     have hqr:q<(ah t.s).length:=by rw[HNR.out];exact hlt
     obtain⟨rb',ro',hA9,hrb,y0,y1⟩:=(HRL.out.frm HFX.out).at hlt;injection hA9 with hA9;injection hA9 with hA9 hA8;subst hA9 hA8;have hmr:=bB.1 (ak (ah t.s) (0,0) hqr)
     have HMT:Hid (mapO (fun r=>(PE r).map (bestI (sq t.s))) ((ah t.s).take (q+1))=((PE ((ah t.s).getD q (0,0))).map (bestI (sq t.s))).map fun x=>LS++[x]):=by
      unfold Hid
      rw[eZ (0,0) hqr,HM.out];rfl
     have HMS:Hid ((PE ((ah t.s).getD q (0,0)))=none->RES=none):=fun h9=>by
      rw[HRN2.out,gX (0,0) hqr (by rw[h9];rfl)];rfl
     obtain⟨⟨a,b⟩,hab⟩:∃r,r=(ah t.s).getD q (0,0):=⟨_,rfl⟩;rw[<-hab]at y0 y1 hmr HMT HMS
     simp only at y0 y1 hmr
     obtain⟨hr1,hr2,hr3⟩:=hmr
     have HAB:Hid ((1<=a/\a<=1000)/\(1<=b/\b<=1000)):=⟨⟨by omega,by omega⟩,⟨by omega,by omega⟩⟩
     have HY0:=h_ y0;have HY1:=h_ y1
     have HNBL:Hid (∀k,wr.heap.size<=k->¬t.S k):=fun k hk h9=>by have:=HLOW.out k h9;omega
     clear hab hqr y0 y1
     go_wp2_with (fail)
     refine bH 12 (fun i=>i==11) dsW12 (Frm t.S) (TabI t) (GL [Eqv (n (some ⟨t.bt,0,none⟩)),Eqv (A #[z (some ⟨b1,o1,none⟩) n1 c1,z (some ⟨b2,o2,none⟩) n2 c2]),Eqv (z (some ⟨rb,ro,none⟩) nr cr),Eqv (d m (q:Int)),Eqv (n (some ⟨rb,ro+q*2,none⟩)),Eqv (A #[d m (a:Int),d m (b:Int)]),Eqv (d m (tu:Int)),Eqv (d m (tu':Int)),PiS wr.heap.size (PE (a,b)),PiS wr.heap.size (PE (a,b)),RoS wr.heap.size (PE (a,b)),Eqv (D (PE (a,b)).isSome)]) (by kernel_rfl) (by kernel_rfl) (fun _ _ _ _ _ h=>h) (fun _ _ _ h1 h2=>h1.trans h2) (fun _=>Frm.refl _ _) (GL.stabVf (AllVf.cons (gI _) (AllVf.cons (gI _) (AllVf.cons (gI _) (AllVf.cons (gI _) (AllVf.cons (gI _) (AllVf.cons (gI _) (AllVf.cons (gI _) (AllVf.cons (gI _) (AllVf.cons (stf_pi HNBL.out _) (AllVf.cons (stf_pi HNBL.out _) (AllVf.cons (stf_ro HNBL.out _) (AllVf.cons (gI _) (AllVf.nil)))))))))))))) (Frm.refl _ _).drew HI.out.drew ?_ ?_ ?_
     ·intro i o hi hX ho a' W hW hIW hfar hdep
      have hi8:i=11:=by simpa using hX
      clear hfar hX hi;subst hi8
      simp at ho
      subst ho
      obtain⟨u9,q9,_⟩:PiS wr.heap.size (PE (a,b)) (a'.tmps.getD 55 undef) W:=dp hdep 9
      exact⟨D (PE (a,b)).isSome,fun W'=>by simp only[execOp,Act.eval,q9];go_simp,rfl⟩
     ·intro i o hi hX ho a' W hW hIW hfar hdep
      have e0:a'.tmps.getD 0 undef=(n (some ⟨t.bt,0,none⟩)):=(fr hfar 0).trans rfl
      have e2:a'.tmps.getD 2 undef=(d m (tu:Int)):=(fr hfar 2).trans rfl
      have e4:a'.tmps.getD 4 undef=(n (some ⟨w.heap.size,0,none⟩)):=(fr hfar 4).trans rfl
      have e10:a'.tmps.getD 10 undef=(z (some ⟨rb,ro,none⟩) nr cr):=(fr hfar 10).trans rfl
      have e13:a'.tmps.getD 13 undef=(d m (q:Int)):=(fr hfar 13).trans rfl
      have hi8:i=0\/i=1\/i=2\/i=3\/i=4\/i=5\/i=6\/i=7\/i=8\/i=9\/i=10:=by simp at hX;omega
      clear hfar hX hi
      rcases hi8 with rfl|rfl|rfl|rfl|rfl|rfl|rfl|rfl|rfl|rfl|rfl
      all_goals (simp at ho;subst ho)
      ·refine ilF ?_;simp only[execOp,Act.eval,e0];go_simp
      ·have y0:=(HF.out.frm hW).c0 0 rfl
       have y1:=(HF.out.frm hW).c0 1 rfl
       refine ilF ?_;simp only[execOp,Act.eval,e4];go_simp
      ·refine ilF ?_;simp only[execOp,Act.eval,e10];go_simp
      ·refine ilF ?_;simp only[execOp,Act.eval,e13];go_simp
      ·have d1:a'.tmps.getD 58 undef=_:=dp hdep 2
       have d2:a'.tmps.getD 59 undef=_:=dp hdep 3
       refine ilF ?_;simp only[execOp,Act.eval,d1,d2];go_simp;first|done|(intro hq9;exfalso;omega)
      ·have d1:a'.tmps.getD 60 undef=_:=dp hdep 4
       have y0:=hW.cell' HY0.out HRS.out;have y1:=hW.cell' HY1.out HRS.out
       refine ilF ?_;simp only[execOp,Act.eval,d1];go_simp
      ·refine ilF ?_;simp only[execOp,Act.eval,e2];go_simp
      ·have d1:a'.tmps.getD 62 undef=_:=dp hdep 6
       have hf0:=HTU.out
       refine ilF ?_;simp only[execOp,Act.eval,d1];go_simp;first|done|(rw[hf0];done)|(rw[show IntKind.i64.wrap ((tu:Int)-1)=(tu:Int)-1 from IntWalk.i64_in _ (by omega),hf0];done)|(rw[hf0,show IntKind.i64.wrap (tu':Int)=(tu':Int)from IntWalk.i64_in _ (by omega)];done)|(exact IntWalk.i64_in _ (by omega))|(trace_state;omega)
      ·have d1:a'.tmps.getD 56 undef=_:=dp hdep 0
       have d2:a'.tmps.getD 57 undef=_:=dp hdep 1
       have d3:a'.tmps.getD 61 undef=_:=dp hdep 5
       have d4:a'.tmps.getD 63 undef=_:=dp hdep 7
       refine .inr ⟨66,#[(n (some ⟨t.bt,0,none⟩)),(A #[z (some ⟨b1,o1,none⟩) n1 c1,z (some ⟨b2,o2,none⟩) n2 c2]),(A #[d m (a:Int),d m (b:Int)]),(d m (tu':Int))],by simp only[execOp,Act.eval,d1,d2,d3,d4];go_simp,?_⟩
       refine(CIH.out a b W HAB.out.1 HAB.out.2 hIW (HF.out.f.trans hW)).mono ?_
       rintro e W' ⟨hres,hI',hf'⟩
       obtain⟨u9,rfl,hro⟩:∃u,e=F (C #[u,D (PE (a,b)).isSome])/\RowO W' W.heap.size (PE (a,b)) u:=by
        cases hpe:PE (a,b)with
        |none=>rw[hpe]at hres;exact⟨_,hres,rfl⟩
        |some L9=>rw[hpe]at hres;obtain⟨u,h8,h9⟩:=hres;exact⟨u,h8,h9⟩
       exact⟨_,rfl,hf',hI',u9,rfl,RowO.low hro hW.size⟩
      ·obtain⟨u9,q8,hro⟩:PiS wr.heap.size (PE (a,b)) (a'.tmps.getD 64 undef) W:=dp hdep 8
       exact .inl ⟨C #[u9,D (PE (a,b)).isSome],W,by simp only[execOp,Act.eval,q8];go_simp,Frm.refl _ _,hIW,u9,rfl,hro⟩
      ·obtain⟨u9,q9,hro⟩:PiS wr.heap.size (PE (a,b)) (a'.tmps.getD 55 undef) W:=dp hdep 9
       exact .inl ⟨u9,W,by simp only[execOp,Act.eval,q9];go_simp,Frm.refl _ _,hIW,hro⟩
     intro v w3 hW hIW hg
     have hro:RowO w3 wr.heap.size (PE (a,b)) (v 10):=hg 10 (by omega)
     have g11:v 11=_:=gq hg 11
     obtain⟨vz,hvz⟩:∃vz,vz=v 10:=⟨_,rfl⟩
     simp only[List.drop_succ_cons,List.drop_zero,putV,dsW12,<-hvz,g11,Act.put]
     rw[<-hvz]at hro;clear hg g11 hvz;have hz3:wr.heap.size<=w3.heap.size:=Frm.size hW;have HF3:=h_ (HF.out.frm hW);have HI3:=h_ hIW;have HFX3:Hid (Frm t.S wl w3):=HFX.out.trans hW
     have HOX3:Hid (w3.ownsRow wl.heap.size 45 2 vx (LS.map (·.1)).length (exC (LS.map (·.1)))):=Frm.row hW HOX.out (fun k hk h9=>by have:=(HVX.out k hk).1;have:=HLOW.out k h9;omega)
     have HOY3:Hid (w3.ownsRow wl.heap.size 45 2 vy (LS.map (·.2)).length (exC (LS.map (·.2)))):=Frm.row hW HOY.out (fun k hk h9=>by have:=(HVY.out k hk).1;have:=HLOW.out k h9;omega)
     clear hIW hW HF HI HFX HOX HOY HY0 HY1
     cases hpe:PE (a,b)with
     |none=>
      have HRE:=h_ (HMS.out hpe);rw[hpe]at hro;replace hro:vz=z none 0 0:=hro;subst hro;clear HMT HMS hpe HOX3 HOY3;have c10:=HF3.out.c1 0 rfl;have f10:=HF3.out.f1 0 rfl;have c11:=HF3.out.c1 1 rfl;have f11:=HF3.out.f1 1 rfl;have c12:=HF3.out.c1 2 rfl;have f12:=HF3.out.f1 2 rfl;have c13:=HF3.out.c1 3 rfl;have f13:=HF3.out.f1 3 rfl
      go_wp2_with (fail)
      refine bodyPost_ret (v:=C #[A #[d m 0,d m 0,d m 0,d m 0],D false]) (by simp[results,Tryz.results73,go_sem,c10,c11,c12,c13,f10,f11,f12,f13]) rfl ⟨by rw[HRE.out];exact⟨0,0,0,0,rfl⟩,?_,?_⟩
      ·repeat (first|with_reducible exact HI3.out|refine TabI.alloc ?_ _|refine TabI.stored ?_ _ (HNS.out 1) (HNB.out 1))
      ·repeat (first|with_reducible exact HF3.out.f|refine Frm.alloc ?_ _|refine Frm.ownSet ?_ (by omega) _)
     |some Lr=>
      obtain⟨hvl,hl1,hl6⟩:=HPE1.out a b Lr HAB.out.1 HAB.out.2 hpe;rw[hpe]at hro HMT;have hrow9:w3.ownsRow wr.heap.size 47 4 vz Lr.length (ivCs Lr):=hro
      obtain⟨Al,kl,hv9,hsl,hkl⟩:=bp (S:=fun k=>k<wr.heap.size) hrow9 (fun k hk h9=>by have:=(World.ownsRow.lt hrow9 k hk).1;have h9:k<wr.heap.size:=h9;omega) (by omega)
      subst hv9;clear hrow9 hro
      have HMT2:Hid (mapO (fun r=>(PE r).map (bestI (sq t.s))) ((ah t.s).take (q+1))=some (LS++[bestI (sq t.s) Lr])):=HMT.out
      obtain⟨bl,ol,rfl,hbl,hbs,hcell⟩:=hsl.2 (by omega)
      have HCL:=h_ hcell;have HVL:=h_ hvl;have HBLN:Hid (bl≠w3.heap.size):=Nat.ne_of_lt hbl;obtain⟨nl,hnl⟩:∃nl,nl=Lr.length:=⟨_,rfl⟩;have HNL:=h_ hnl;rw[<-hnl]at hl1 hl6 hkl hcell ⊢
      obtain⟨i1,i2,i3,i4⟩:=fI Lr 0 (by omega)
      have x0:=hcell (0*4) (by omega)
      have x1:=hcell (0*4+1) (by omega)
      have x2:=hcell (0*4+2) (by omega)
      have x3:=hcell (0*4+3) (by omega)
      rw[i1]at x0;rw[i2]at x1;rw[i3]at x2;rw[i4]at x3
      simp only[Nat.zero_mul,Nat.add_zero,Nat.zero_add]at x0 x1 x2 x3
      obtain⟨⟨⟨ln,ld⟩,⟨hn,hd⟩⟩,hL0⟩:∃y,y=Lr.getD 0 (aj,aj):=⟨_,rfl⟩;rw[<-hL0]at x0 x1 x2 x3
      simp only at x0 x1 x2 x3
      have HL0:=h_ hL0
      have hl0b:((nl:Int)==0)=false:=by simp;omega
      clear hcell hsl hvl hnl i1 i2 i3 i4 hL0 hpe HMT HMS hbs
      go_wp2_with (fail)
      obtain⟨W5,hW5⟩:∃W,W=w3.alloc (B #[d m ln,d m (ld:Int),d m hn,d m (hd:Int)] 47):=⟨_,rfl⟩;rw[<-hW5]
      have HCB0:Hid (Cel W5 w3.heap.size (ivC (⟨ln,ld⟩,⟨hn,hd⟩))):=by rw[hW5];exact Cel.new w3 #[d m ln,d m (ld:Int),d m hn,d m (hd:Int)] 47
      have HB35:Hid (Below w3.heap.size w3 W5):=by rw[hW5];exact(Below.refl _ _).alloc (Nat.le_refl _) _
      clear hW5 x0 x1 x2 x3 hl0b;have HBS0:Hid ((⟨ln,ld⟩,⟨hn,hd⟩)=((Lr.drop 1).take 0).foldl (bestJ (sq t.s)) (Lr.getD 0 (aj,aj))):=HL0.out
      have HVB0:Hid (VI (sq t.s) (⟨ln,ld⟩,⟨hn,hd⟩)):=by unfold Hid;rw[HL0.out];exact HVL.out _ (ak Lr _ (by have:=HNL.out;omega))
      obtain⟨wo,rfl⟩:∃wo:World,wo=wr:=⟨_,rfl⟩
      go_loopw [17] (fun v17 wr=>∃(kq j:Nat) (bst:Iv),1<=kq/\kq<=nl/\v17=d m kq/\Hid (kq=j+1)/\Hid (bst=((Lr.drop 1).take j).foldl (bestJ (sq t.s)) (Lr.getD 0 (aj,aj)))/\Hid (VI (sq t.s) bst)/\Hid (Cel wr w3.heap.size (ivC bst))/\Hid (Below w3.heap.size w3 wr)) (fun v17 _=>nl-(intOf v17).toNat)
      case atStart=>exact⟨1,0,_,by omega,by omega,rfl,rfl,HBS0.out,HVB0.out,HCB0.out,HB35.out⟩
      case round=>
       clear HBS0 HVB0 HCB0 HB35;obtain⟨kq,j,bst,hk1,hkl,rfl,HKJ,HBS,HVB,HCB0,HB3⟩:=hrel
       by_cases hlt2:kq<nl
       ·have hjj:(kq:Int)<(nl:Int):=by omega
        have hj1:kq<Lr.length:=by have:=HNL.out;omega
        obtain⟨i1,i2,i3,i4⟩:=fI Lr kq hj1;have HFB:=Frm.of_below HB3.out
        have x0:=HFB.cell' (HCL.out (kq*4) (by have:=HNL.out;omega)) id
        have x1:=HFB.cell' (HCL.out (kq*4+1) (by have:=HNL.out;omega)) id
        have x2:=HFB.cell' (HCL.out (kq*4+2) (by have:=HNL.out;omega)) id
        have x3:=HFB.cell' (HCL.out (kq*4+3) (by have:=HNL.out;omega)) id
        rw[i1]at x0
        rw[i2,show ol+(kq*4+1)=ol+kq*4+1 by omega]at x1
        rw[i3,show ol+(kq*4+2)=ol+kq*4+2 by omega]at x2
        rw[i4,show ol+(kq*4+3)=ol+kq*4+2+1 by omega]at x3
        have HVX1:=h_ (HVL.out _ (ak Lr (aj,aj) hj1))
        have HBN:Hid (((Lr.drop 1).take (j+1)).foldl (bestJ (sq t.s)) (Lr.getD 0 (aj,aj))=bestJ (sq t.s) bst (Lr.getD kq (aj,aj))):=by
         have hkj:=HKJ.out;unfold Hid
         rw[bP (aj,aj) (by rw[List.length_drop];omega),List.foldl_append,<-HBS.out,hkj]
         simp[List.getD,Nat.add_comm]
        obtain⟨⟨⟨xn,xd⟩,⟨xm,xe⟩⟩,hy⟩:∃y,y=Lr.getD kq (aj,aj):=⟨_,rfl⟩;rw[<-hy]at x0 x1 x2 x3 HVX1 HBN
        simp only at x0 x1 x2 x3
        obtain⟨⟨yn,yd⟩,⟨ym,ye⟩⟩:=bst;have HV1:Hid (Val (sq t.s) ⟨xn,xd⟩/\Val (sq t.s) ⟨yn,yd⟩):=⟨HVX1.out.1,HVB.out.1⟩;have HV2:Hid (Val (sq t.s) ⟨xm,xe⟩/\Val (sq t.s) ⟨ym,ye⟩):=⟨HVX1.out.2,HVB.out.2⟩;have HVN:Hid (VI (sq t.s) (bestJ (sq t.s) (⟨yn,yd⟩,⟨ym,ye⟩) (⟨xn,xd⟩,⟨xm,xe⟩))):=kr HVB.out HVX1.out
        have CC10:=fun(W:World)=>dJ t.p t.c t.h xn yn t.s xd yd W hs1 hs6 HV1.out.1 HV1.out.2
        have CC20:=fun(W:World)=>dJ t.p t.c t.h xm ym t.s xe ye W hs1 hs6 HV2.out.1 HV2.out.2
        have HBJ:Hid (bestJ (sq t.s) (⟨yn,yd⟩,⟨ym,ye⟩) (⟨xn,xd⟩,⟨xm,xe⟩)=(if 0<cmpE (sq t.s) ⟨xn,xd⟩ ⟨yn,yd⟩then(⟨xn,xd⟩:E)else⟨yn,yd⟩,if 0<cmpE (sq t.s) ⟨xm,xe⟩ ⟨ym,ye⟩then(⟨xm,xe⟩:E)else⟨ym,ye⟩)):=rfl
        generalize cmpE (sq t.s) ⟨xn,xd⟩ ⟨yn,yd⟩=k1 at *;generalize cmpE (sq t.s) ⟨xm,xe⟩ ⟨ym,ye⟩=k2 at *;have CC1:=h_ CC10;have CC2:=h_ CC20;have HCB:Hid (Cel wr w3.heap.size [d m yn,d m (yd:Int),d m ym,d m (ye:Int)]):=HCB0.out;have HIr:=h_ (HI3.out.below HB3.out);have HX1:Hid (wr.cell? ⟨bl,ol+kq*4,none⟩=some (d m xn)/\wr.cell? ⟨bl,ol+kq*4+1,none⟩=some (d m (xd:Int))):=⟨x0,x1⟩;have HX20:Hid (wr.cell? ⟨bl,ol+kq*4+2,none⟩=some (d m xm)/\wr.cell? ⟨bl,ol+kq*4+2+1,none⟩=some (d m (xe:Int))):=⟨x2,x3⟩;clear i1 i2 i3 i4 HFB hy CC10 CC20 HCB0 HVX1 HV1 HV2 hj1 HVB x0 x1 x2 x3
        go_wp2_with (fail)
        refine w_ 12 (fun _=>false) dsW19 [Eqv (n (some ⟨t.bt,0,none⟩)),Eqv (n (some ⟨t.bt,0,none⟩)),Eqv (n (some ⟨t.bt,0,none⟩)),Eqv (A #[d m t.p,d m (t.c:Int),d m (t.h:Int),d m (t.s:Int)]),Eqv (z (some ⟨bl,ol,none⟩) nl kl),Eqv (d m (kq:Int)),Eqv (n (some ⟨bl,ol+kq*4,none⟩)),Eqv (n (some ⟨bl,ol+kq*4,none⟩)),Eqv (A #[d m xn,d m (xd:Int)]),Eqv (n (some ⟨w3.heap.size,0,none⟩)),Eqv (A #[d m yn,d m (yd:Int)]),Eqv (d m k1)] (by repeat (first|exact AllStb.nil|refine AllStb.cons (by first|exact aY _|exact bi _ _ _) ?_)) (fun i o' _ hX=>by cases hX) ?_ ?_
        ·intro i o hi hX ho a' W hW hIW hfar hdep
         have e0:a'.tmps.getD 0 undef=(n (some ⟨t.bt,0,none⟩)):=(fr hfar 0).trans rfl
         have e14:a'.tmps.getD 14 undef=(z (some ⟨bl,ol,none⟩) nl kl):=(fr hfar 14).trans rfl
         have e16:a'.tmps.getD 16 undef=(n (some ⟨w3.heap.size,0,none⟩)):=(fr hfar 16).trans rfl
         have e17:a'.tmps.getD 17 undef=(d m (kq:Int)):=(fr hfar 17).trans rfl
         have hi8:=i_11 hi
         clear hfar hX hi
         rcases hi8 with rfl|rfl|rfl|rfl|rfl|rfl|rfl|rfl|rfl|rfl|rfl|rfl
         all_goals (simp at ho;subst ho)
         ·refine il ?_;simp only[execOp,Act.eval,e0];go_simp
         ·have d1:a'.tmps.getD 84 undef=_:=dp hdep 0
          refine il ?_;simp only[execOp,Act.eval,d1];go_simp
         ·have d1:a'.tmps.getD 85 undef=_:=dp hdep 1
          refine il ?_;simp only[execOp,Act.eval,d1];go_simp
         ·have d1:a'.tmps.getD 86 undef=_:=dp hdep 2
          have y0:=(HIr.out.below hW).tb 0 _ rfl;have y1:=(HIr.out.below hW).tb 1 _ rfl;have y2:=(HIr.out.below hW).tb 2 _ rfl;have y3:=(HIr.out.below hW).tb 3 _ rfl
          refine il ?_;simp only[execOp,Act.eval,d1];go_simp
         ·refine il ?_;simp only[execOp,Act.eval,e14];go_simp
         ·refine il ?_;simp only[execOp,Act.eval,e17];go_simp
         ·have d1:a'.tmps.getD 88 undef=_:=dp hdep 4
          have d2:a'.tmps.getD 89 undef=_:=dp hdep 5
          refine il ?_;simp only[execOp,Act.eval,d1,d2];go_simp;first|done|(intro hq9;exfalso;omega)
         ·have d1:a'.tmps.getD 90 undef=_:=dp hdep 6
          refine il ?_;simp only[execOp,Act.eval,d1];go_simp
         ·have d1:a'.tmps.getD 91 undef=_:=dp hdep 7
          have y0:=(Frm.of_below hW).cell' (HX1.out.1) id;have y1:=(Frm.of_below hW).cell' (HX1.out.2) id
          refine il ?_;simp only[execOp,Act.eval,d1];go_simp
         ·refine il ?_;simp only[execOp,Act.eval,e16];go_simp
         ·have d1:a'.tmps.getD 93 undef=_:=dp hdep 9
          have y0:=(HCB.out.below hW).cell 0 _ rfl;have y1:=(HCB.out.below hW).cell 1 _ rfl
          refine il ?_;simp only[execOp,Act.eval,d1];go_simp
         ·have d1:a'.tmps.getD 87 undef=_:=dp hdep 3
          have d2:a'.tmps.getD 92 undef=_:=dp hdep 8
          have d3:a'.tmps.getD 94 undef=_:=dp hdep 10
          refine .inr ⟨77,#[(A #[d m t.p,d m (t.c:Int),d m (t.h:Int),d m (t.s:Int)]),(A #[d m xn,d m (xd:Int)]),(A #[d m yn,d m (yd:Int)])],by simp only[execOp,Act.eval,d1,d2,d3];go_simp,?_⟩
          refine(CC1.out W).mono ?_
          rintro e W' ⟨rfl,hb'⟩
          exact⟨_,rfl,hb',trivial,rfl⟩
        intro v w5 hW hIW hg
        have g0:v 0=_:=gq hg 0
        have g1:v 1=_:=gq hg 1
        have g2:v 2=_:=gq hg 2
        have g3:v 3=_:=gq hg 3
        have g4:v 4=_:=gq hg 4
        have g5:v 5=_:=gq hg 5
        have g6:v 6=_:=gq hg 6
        have g7:v 7=_:=gq hg 7
        have g8:v 8=_:=gq hg 8
        have g9:v 9=_:=gq hg 9
        have g10:v 10=_:=gq hg 10
        have g11:v 11=_:=gq hg 11
        simp only[List.drop_succ_cons,List.drop_zero,putV,dsW19,g0,g1,g2,g3,g4,g5,g6,g7,g8,g9,g10,g11,Act.put]
        clear g0 g1 g2 g3 g4 g5 g6 g7 g8 g9 g10 g11 hg hIW;have HBV:=h_ (HB3.out.trans (Below.mono hW HB3.out.size));have HCBa:=h_ (HCB.out.below hW);have HX1b:Hid (w5.cell? ⟨bl,ol+kq*4,none⟩=some (d m xn)/\w5.cell? ⟨bl,ol+kq*4+1,none⟩=some (d m (xd:Int))):=⟨(Frm.of_below hW).cell' HX1.out.1 id,(Frm.of_below hW).cell' HX1.out.2 id⟩;have HX2b:Hid (w5.cell? ⟨bl,ol+kq*4+2,none⟩=some (d m xm)/\w5.cell? ⟨bl,ol+kq*4+2+1,none⟩=some (d m (xe:Int))):=⟨(Frm.of_below hW).cell' HX20.out.1 id,(Frm.of_below hW).cell' HX20.out.2 id⟩;clear hW HCB HIr CC1 HX1 HX20
        by_cases hk1:0<k1
        ·have bk1:k1 > 0:=hk1
         have HK1:Hid (0<k1):=hk1;have s0:=HCBa.out.cell 0 _ rfl;have s1:=HCBa.out.cell 1 _ rfl;have h0:=HCBa.out.froz 0 _ rfl;have h1:=HCBa.out.froz 1 _ rfl;have x0:=HX1b.out.1;have x1:=HX1b.out.2
         go_upto_region 21 with (fail)
         obtain⟨V1,hV1⟩:∃W,W=(w5.setCell ⟨w3.heap.size,0,none⟩ (d m xn)).setCell ⟨w3.heap.size,1,none⟩ (d m (xd:Int)):=⟨_,rfl⟩;rw[<-hV1]
         have HCB1:Hid (Cel V1 w3.heap.size [d m xn,d m (xd:Int),d m ym,d m (ye:Int)]):=by rw[hV1];exact(HCBa.out.st (i:=0) (v:=d m xn) (by simp)).st (i:=1) (v:=d m (xd:Int)) (by simp)
         have HBV1:Hid (Below w3.heap.size w3 V1):=by rw[hV1];exact stw (stw HBV.out (Nat.le_refl _)) (Nat.le_refl _)
         have HX2:Hid (V1.cell? ⟨bl,ol+kq*4+2,none⟩=some (d m xm)/\V1.cell? ⟨bl,ol+kq*4+2+1,none⟩=some (d m (xe:Int))):=by
          rw[hV1]
          exact⟨(Frm.set _ w3.heap.size 1 _).cell' ((Frm.set w5 w3.heap.size 0 _).cell' HX2b.out.1 (fun h=>HBLN.out h)) (fun h=>HBLN.out h),(Frm.set _ w3.heap.size 1 _).cell' ((Frm.set w5 w3.heap.size 0 _).cell' HX2b.out.2 (fun h=>HBLN.out h)) (fun h=>HBLN.out h)⟩
         have HIV1:=h_ (HI3.out.below HBV1.out);clear hV1 HCBa HBV x0 x1 hk1 bk1 HX1b HX2b;clear s0 s1 h0 h1
         go_wp2_with (fail)
         refine w_ 12 (fun _=>false) dsW21 [Eqv (n (some ⟨t.bt,0,none⟩)),Eqv (n (some ⟨t.bt,0,none⟩)),Eqv (n (some ⟨t.bt,0,none⟩)),Eqv (A #[d m t.p,d m (t.c:Int),d m (t.h:Int),d m (t.s:Int)]),Eqv (z (some ⟨bl,ol,none⟩) nl kl),Eqv (d m (kq:Int)),Eqv (n (some ⟨bl,ol+kq*4,none⟩)),Eqv (n (some ⟨bl,ol+kq*4+2,none⟩)),Eqv (A #[d m xm,d m (xe:Int)]),Eqv (n (some ⟨w3.heap.size,2,none⟩)),Eqv (A #[d m ym,d m (ye:Int)]),Eqv (d m k2)] (by repeat (first|exact AllStb.nil|refine AllStb.cons (by first|exact aY _|exact bi _ _ _) ?_)) (fun i o' _ hX=>by cases hX) ?_ ?_
         ·intro i o hi hX ho a' W hW hIW hfar hdep
          have e0:a'.tmps.getD 0 undef=(n (some ⟨t.bt,0,none⟩)):=(fr hfar 0).trans rfl
          have e14:a'.tmps.getD 14 undef=(z (some ⟨bl,ol,none⟩) nl kl):=(fr hfar 14).trans rfl
          have e16:a'.tmps.getD 16 undef=(n (some ⟨w3.heap.size,0,none⟩)):=(fr hfar 16).trans rfl
          have e17:a'.tmps.getD 17 undef=(d m (kq:Int)):=(fr hfar 17).trans rfl
          have hi8:=i_11 hi
          clear hfar hX hi
          rcases hi8 with rfl|rfl|rfl|rfl|rfl|rfl|rfl|rfl|rfl|rfl|rfl|rfl
          all_goals (simp at ho;subst ho)
          ·refine il ?_;simp only[execOp,Act.eval,e0];go_simp
          ·have d1:a'.tmps.getD 103 undef=_:=dp hdep 0
           refine il ?_;simp only[execOp,Act.eval,d1];go_simp
          ·have d1:a'.tmps.getD 104 undef=_:=dp hdep 1
           refine il ?_;simp only[execOp,Act.eval,d1];go_simp
          ·have d1:a'.tmps.getD 105 undef=_:=dp hdep 2
           have y0:=(HIV1.out.below hW).tb 0 _ rfl;have y1:=(HIV1.out.below hW).tb 1 _ rfl;have y2:=(HIV1.out.below hW).tb 2 _ rfl;have y3:=(HIV1.out.below hW).tb 3 _ rfl
           refine il ?_;simp only[execOp,Act.eval,d1];go_simp
          ·refine il ?_;simp only[execOp,Act.eval,e14];go_simp
          ·refine il ?_;simp only[execOp,Act.eval,e17];go_simp
          ·have d1:a'.tmps.getD 107 undef=_:=dp hdep 4
           have d2:a'.tmps.getD 108 undef=_:=dp hdep 5
           refine il ?_;simp only[execOp,Act.eval,d1,d2];go_simp;first|done|(intro hq9;exfalso;omega)
          ·have d1:a'.tmps.getD 109 undef=_:=dp hdep 6
           refine il ?_;simp only[execOp,Act.eval,d1];go_simp
          ·have d1:a'.tmps.getD 110 undef=_:=dp hdep 7
           have y0:=(Frm.of_below hW).cell' (HX2.out.1) id;have y1:=(Frm.of_below hW).cell' (HX2.out.2) id
           refine il ?_;simp only[execOp,Act.eval,d1];go_simp
          ·refine il ?_;simp only[execOp,Act.eval,e16];go_simp
          ·have d1:a'.tmps.getD 112 undef=_:=dp hdep 9
           have y0:=(HCB1.out.below hW).cell 2 _ rfl;have y1:=(HCB1.out.below hW).cell 3 _ rfl
           refine il ?_;simp only[execOp,Act.eval,d1];go_simp
          ·have d1:a'.tmps.getD 106 undef=_:=dp hdep 3
           have d2:a'.tmps.getD 111 undef=_:=dp hdep 8
           have d3:a'.tmps.getD 113 undef=_:=dp hdep 10
           refine .inr ⟨77,#[(A #[d m t.p,d m (t.c:Int),d m (t.h:Int),d m (t.s:Int)]),(A #[d m xm,d m (xe:Int)]),(A #[d m ym,d m (ye:Int)])],by simp only[execOp,Act.eval,d1,d2,d3];go_simp,?_⟩
           refine(CC2.out W).mono ?_
           rintro e W' ⟨rfl,hb'⟩
           exact⟨_,rfl,hb',trivial,rfl⟩
         intro v w6 hW hIW hg
         have g0:v 0=_:=gq hg 0
         have g1:v 1=_:=gq hg 1
         have g2:v 2=_:=gq hg 2
         have g3:v 3=_:=gq hg 3
         have g4:v 4=_:=gq hg 4
         have g5:v 5=_:=gq hg 5
         have g6:v 6=_:=gq hg 6
         have g7:v 7=_:=gq hg 7
         have g8:v 8=_:=gq hg 8
         have g9:v 9=_:=gq hg 9
         have g10:v 10=_:=gq hg 10
         have g11:v 11=_:=gq hg 11
         simp only[List.drop_succ_cons,List.drop_zero,putV,dsW21,g0,g1,g2,g3,g4,g5,g6,g7,g8,g9,g10,g11,Act.put]
         clear g0 g1 g2 g3 g4 g5 g6 g7 g8 g9 g10 g11 hg hIW;have HB2:=h_ (HBV1.out.trans (Below.mono hW HBV1.out.size));have HCB2:=h_ (HCB1.out.below hW);have HX2b:Hid (w6.cell? ⟨bl,ol+kq*4+2,none⟩=some (d m xm)/\w6.cell? ⟨bl,ol+kq*4+2+1,none⟩=some (d m (xe:Int))):=⟨(Frm.of_below hW).cell' HX2.out.1 id,(Frm.of_below hW).cell' HX2.out.2 id⟩;clear hW HCB1 HX2 HIV1 CC2
         by_cases hk2:0<k2
         ·have bk2:k2 > 0:=hk2
          have HK2:Hid (0<k2):=hk2;have s2:=HCB2.out.cell 2 _ rfl;have s3:=HCB2.out.cell 3 _ rfl;have h2:=HCB2.out.froz 2 _ rfl;have h3:=HCB2.out.froz 3 _ rfl;have x2:=HX2b.out.1;have x3:=HX2b.out.2
          go_wp2_with (fail)
          have HC3:Hid (Cel ((w6.setCell ⟨w3.heap.size,2,none⟩ (d m xm)).setCell ⟨w3.heap.size,3,none⟩ (d m (xe:Int))) w3.heap.size [d m xn,d m (xd:Int),d m xm,d m (xe:Int)]):=(HCB2.out.st (i:=2) (v:=d m xm) (by simp)).st (i:=3) (v:=d m (xe:Int)) (by simp)
          have HB7:Hid (Below w3.heap.size w3 ((w6.setCell ⟨w3.heap.size,2,none⟩ (d m xm)).setCell ⟨w3.heap.size,3,none⟩ (d m (xe:Int)))):=stw (stw HB2.out (Nat.le_refl _)) (Nat.le_refl _)
          have HBJ2:Hid ((⟨xn,xd⟩,⟨xm,xe⟩)=bestJ (sq t.s) (⟨yn,yd⟩,⟨ym,ye⟩) (⟨xn,xd⟩,⟨xm,xe⟩)):=by unfold Hid;rw[HBJ.out,if_pos HK1.out,if_pos HK2.out]
          exact⟨⟨kq+1,j+1,(⟨xn,xd⟩,⟨xm,xe⟩),by omega,by omega,by go_num,(by have:=HKJ.out;unfold Hid;omega),HBJ2.out.trans HBN.out.symm,(by have h9:=HVN.out;rw[<-HBJ2.out]at h9;exact h9),HC3.out,HB7.out⟩,by simp[intOf];omega⟩
         ·have bk2:¬k2 > 0:=hk2
          have HK2:Hid (¬0<k2):=hk2
          go_wp2_with (fail)
          have HBJ2:Hid ((⟨xn,xd⟩,⟨ym,ye⟩)=bestJ (sq t.s) (⟨yn,yd⟩,⟨ym,ye⟩) (⟨xn,xd⟩,⟨xm,xe⟩)):=by unfold Hid;rw[HBJ.out,if_pos HK1.out,if_neg (show ¬0<k2 by have:=HK2.out;omega)]
          exact⟨⟨kq+1,j+1,(⟨xn,xd⟩,⟨ym,ye⟩),by omega,by omega,by go_num,(by have:=HKJ.out;unfold Hid;omega),HBJ2.out.trans HBN.out.symm,(by have h9:=HVN.out;rw[<-HBJ2.out]at h9;exact h9),HCB2.out,HB2.out⟩,by simp[intOf];omega⟩
        ·have bk1:¬k1 > 0:=hk1
         have HK1:Hid (¬0<k1):=hk1;have HCB1:=HCBa;have HBV1:=HBV;have HX2:=HX2b;have HIV1:=h_ (HI3.out.below HBV1.out);obtain⟨V1,hV1⟩:∃W,W=w5:=⟨_,rfl⟩
         go_wp2_with (fail)
         rw[<-hV1]at HCB1 HBV1 HIV1 HX2 ⊢;clear hV1 HCBa HBV hk1 bk1 HX1b HX2b
         refine w_ 12 (fun _=>false) dsW21 [Eqv (n (some ⟨t.bt,0,none⟩)),Eqv (n (some ⟨t.bt,0,none⟩)),Eqv (n (some ⟨t.bt,0,none⟩)),Eqv (A #[d m t.p,d m (t.c:Int),d m (t.h:Int),d m (t.s:Int)]),Eqv (z (some ⟨bl,ol,none⟩) nl kl),Eqv (d m (kq:Int)),Eqv (n (some ⟨bl,ol+kq*4,none⟩)),Eqv (n (some ⟨bl,ol+kq*4+2,none⟩)),Eqv (A #[d m xm,d m (xe:Int)]),Eqv (n (some ⟨w3.heap.size,2,none⟩)),Eqv (A #[d m ym,d m (ye:Int)]),Eqv (d m k2)] (by repeat (first|exact AllStb.nil|refine AllStb.cons (by first|exact aY _|exact bi _ _ _) ?_)) (fun i o' _ hX=>by cases hX) ?_ ?_
         ·intro i o hi hX ho a' W hW hIW hfar hdep
          have e0:a'.tmps.getD 0 undef=(n (some ⟨t.bt,0,none⟩)):=(fr hfar 0).trans rfl
          have e14:a'.tmps.getD 14 undef=(z (some ⟨bl,ol,none⟩) nl kl):=(fr hfar 14).trans rfl
          have e16:a'.tmps.getD 16 undef=(n (some ⟨w3.heap.size,0,none⟩)):=(fr hfar 16).trans rfl
          have e17:a'.tmps.getD 17 undef=(d m (kq:Int)):=(fr hfar 17).trans rfl
          have hi8:=i_11 hi
          clear hfar hX hi
          rcases hi8 with rfl|rfl|rfl|rfl|rfl|rfl|rfl|rfl|rfl|rfl|rfl|rfl
          all_goals (simp at ho;subst ho)
          ·refine il ?_;simp only[execOp,Act.eval,e0];go_simp
          ·have d1:a'.tmps.getD 103 undef=_:=dp hdep 0
           refine il ?_;simp only[execOp,Act.eval,d1];go_simp
          ·have d1:a'.tmps.getD 104 undef=_:=dp hdep 1
           refine il ?_;simp only[execOp,Act.eval,d1];go_simp
          ·have d1:a'.tmps.getD 105 undef=_:=dp hdep 2
           have y0:=(HIV1.out.below hW).tb 0 _ rfl;have y1:=(HIV1.out.below hW).tb 1 _ rfl;have y2:=(HIV1.out.below hW).tb 2 _ rfl;have y3:=(HIV1.out.below hW).tb 3 _ rfl
           refine il ?_;simp only[execOp,Act.eval,d1];go_simp
          ·refine il ?_;simp only[execOp,Act.eval,e14];go_simp
          ·refine il ?_;simp only[execOp,Act.eval,e17];go_simp
          ·have d1:a'.tmps.getD 107 undef=_:=dp hdep 4
           have d2:a'.tmps.getD 108 undef=_:=dp hdep 5
           refine il ?_;simp only[execOp,Act.eval,d1,d2];go_simp;first|done|(intro hq9;exfalso;omega)
          ·have d1:a'.tmps.getD 109 undef=_:=dp hdep 6
           refine il ?_;simp only[execOp,Act.eval,d1];go_simp
          ·have d1:a'.tmps.getD 110 undef=_:=dp hdep 7
           have y0:=(Frm.of_below hW).cell' (HX2.out.1) id;have y1:=(Frm.of_below hW).cell' (HX2.out.2) id
           refine il ?_;simp only[execOp,Act.eval,d1];go_simp
          ·refine il ?_;simp only[execOp,Act.eval,e16];go_simp
          ·have d1:a'.tmps.getD 112 undef=_:=dp hdep 9
           have y0:=(HCB1.out.below hW).cell 2 _ rfl;have y1:=(HCB1.out.below hW).cell 3 _ rfl
           refine il ?_;simp only[execOp,Act.eval,d1];go_simp
          ·have d1:a'.tmps.getD 106 undef=_:=dp hdep 3
           have d2:a'.tmps.getD 111 undef=_:=dp hdep 8
           have d3:a'.tmps.getD 113 undef=_:=dp hdep 10
           refine .inr ⟨77,#[(A #[d m t.p,d m (t.c:Int),d m (t.h:Int),d m (t.s:Int)]),(A #[d m xm,d m (xe:Int)]),(A #[d m ym,d m (ye:Int)])],by simp only[execOp,Act.eval,d1,d2,d3];go_simp,?_⟩
           refine(CC2.out W).mono ?_
           rintro e W' ⟨rfl,hb'⟩
           exact⟨_,rfl,hb',trivial,rfl⟩
         intro v w6 hW hIW hg
         have g0:v 0=_:=gq hg 0
         have g1:v 1=_:=gq hg 1
         have g2:v 2=_:=gq hg 2
         have g3:v 3=_:=gq hg 3
         have g4:v 4=_:=gq hg 4
         have g5:v 5=_:=gq hg 5
         have g6:v 6=_:=gq hg 6
         have g7:v 7=_:=gq hg 7
         have g8:v 8=_:=gq hg 8
         have g9:v 9=_:=gq hg 9
         have g10:v 10=_:=gq hg 10
         have g11:v 11=_:=gq hg 11
         simp only[List.drop_succ_cons,List.drop_zero,putV,dsW21,g0,g1,g2,g3,g4,g5,g6,g7,g8,g9,g10,g11,Act.put]
         clear g0 g1 g2 g3 g4 g5 g6 g7 g8 g9 g10 g11 hg hIW;have HB2:=h_ (HBV1.out.trans (Below.mono hW HBV1.out.size));have HCB2:=h_ (HCB1.out.below hW);have HX2b:Hid (w6.cell? ⟨bl,ol+kq*4+2,none⟩=some (d m xm)/\w6.cell? ⟨bl,ol+kq*4+2+1,none⟩=some (d m (xe:Int))):=⟨(Frm.of_below hW).cell' HX2.out.1 id,(Frm.of_below hW).cell' HX2.out.2 id⟩;clear hW HCB1 HX2 HIV1 CC2
         by_cases hk2:0<k2
         ·have bk2:k2 > 0:=hk2
          have HK2:Hid (0<k2):=hk2;have s2:=HCB2.out.cell 2 _ rfl;have s3:=HCB2.out.cell 3 _ rfl;have h2:=HCB2.out.froz 2 _ rfl;have h3:=HCB2.out.froz 3 _ rfl;have x2:=HX2b.out.1;have x3:=HX2b.out.2
          go_wp2_with (fail)
          have HC3:Hid (Cel ((w6.setCell ⟨w3.heap.size,2,none⟩ (d m xm)).setCell ⟨w3.heap.size,3,none⟩ (d m (xe:Int))) w3.heap.size [d m yn,d m (yd:Int),d m xm,d m (xe:Int)]):=(HCB2.out.st (i:=2) (v:=d m xm) (by simp)).st (i:=3) (v:=d m (xe:Int)) (by simp)
          have HB7:Hid (Below w3.heap.size w3 ((w6.setCell ⟨w3.heap.size,2,none⟩ (d m xm)).setCell ⟨w3.heap.size,3,none⟩ (d m (xe:Int)))):=stw (stw HB2.out (Nat.le_refl _)) (Nat.le_refl _)
          have HBJ2:Hid ((⟨yn,yd⟩,⟨xm,xe⟩)=bestJ (sq t.s) (⟨yn,yd⟩,⟨ym,ye⟩) (⟨xn,xd⟩,⟨xm,xe⟩)):=by unfold Hid;rw[HBJ.out,if_neg (show ¬0<k1 by have:=HK1.out;omega),if_pos HK2.out]
          exact⟨⟨kq+1,j+1,(⟨yn,yd⟩,⟨xm,xe⟩),by omega,by omega,by go_num,(by have:=HKJ.out;unfold Hid;omega),HBJ2.out.trans HBN.out.symm,(by have h9:=HVN.out;rw[<-HBJ2.out]at h9;exact h9),HC3.out,HB7.out⟩,by simp[intOf];omega⟩
         ·have bk2:¬k2 > 0:=hk2
          have HK2:Hid (¬0<k2):=hk2
          go_wp2_with (fail)
          have HBJ2:Hid ((⟨yn,yd⟩,⟨ym,ye⟩)=bestJ (sq t.s) (⟨yn,yd⟩,⟨ym,ye⟩) (⟨xn,xd⟩,⟨xm,xe⟩)):=by unfold Hid;rw[HBJ.out,if_neg (show ¬0<k1 by have:=HK1.out;omega),if_neg (show ¬0<k2 by have:=HK2.out;omega)]
          exact⟨⟨kq+1,j+1,(⟨yn,yd⟩,⟨ym,ye⟩),by omega,by omega,by go_num,(by have:=HKJ.out;unfold Hid;omega),HBJ2.out.trans HBN.out.symm,(by have h9:=HVN.out;rw[<-HBJ2.out]at h9;exact h9),HCB2.out,HB2.out⟩,by simp[intOf];omega⟩
       ·have hjj:¬(kq:Int)<(nl:Int):=by omega
        have HBB:Hid (bst=bestI (sq t.s) Lr):=by
         unfold Hid bestI
         rw[HBS.out,List.take_of_length_le (by rw[List.length_drop];have:=HNL.out;have:=HKJ.out;omega)]
        have HM3:Hid (mapO (fun r=>(PE r).map (bestI (sq t.s))) ((ah t.s).take (q+1))=some (LS++[bst])):=by unfold Hid;rw[HMT2.out,HBB.out]
        have HLL:Hid (LS.length<=21):=by
         have h9:=bN HM.out;rw[List.length_take]at h9
         unfold Hid;omega
        obtain⟨⟨bn,bd⟩,⟨bm,be⟩⟩:=bst;have HCb:Hid (Cel wr w3.heap.size [d m bn,d m (bd:Int),d m bm,d m (be:Int)]):=HCB0.out;have u0:=HCb.out.cell 0 _ rfl;have u1:=HCb.out.cell 1 _ rfl;have uz:=HCb.out.lt;have HIw:Hid (TabI t wr):=HI3.out.below HB3.out;have HFXr:Hid (Frm t.S wl wr):=HFX3.out.trans (Frm.of_below' _ HB3.out);have HF3r:=h_ (HF3.out.below HB3.out)
        have HROW:Hid ((wr.alloc (B #[d m bn,d m (bd:Int)] 45)).ownsRow wl.heap.size 45 2 vx (LS.map (·.1)).length (exC (LS.map (·.1)))):=World.ownsRow.alloc (own_below HOX3.out HB3.out) _
        have HNW:Hid (∀j u,[Value.int m bn,d m (bd:Int)][j]? =some u->(wr.alloc (B #[d m bn,d m (bd:Int)] 45)).cell? ((⟨wr.heap.size,0,none⟩:Addr).add j)=some u):=eQ wr bn (bd:Int) 45;have HOYr:=h_ (own_below HOY3.out HB3.out)
        have hzb:wl.heap.size<=(wr.alloc (B #[d m bn,d m (bd:Int)] 45)).heap.size:=by simp;omega
        have hza:(wr.alloc (B #[d m bn,d m (bd:Int)] 45)).heap.size=wr.heap.size+1:=by simp
        have HNX:Hid (∀k,some k=vx.ownBlock->¬t.S k):=fun k hk h9=>by have:=(HVX.out k hk.symm).1;have:=HLOW.out k h9;omega
        have HNY:Hid (∀k,some k=vy.ownBlock->¬t.S k):=fun k hk h9=>by have:=(HVY.out k hk.symm).1;have:=HLOW.out k h9;omega
        clear HBS HVB HCB0 HMT2 HBB HOX3 HOY3 HI3 HF3 HFX3
        go_upto_region 24 with (at_builtin;(refine wpList_append_own_at _ rfl _ _ 78 rfl wl.heap.size 45 e0 (A #[d m 0,d m 0]) 2 16 Tryz.underlying78 he ez0 ez1 ez2 rfl (by decide) _ _ _ rfl HROW.out ⟨wr.heap.size,0,none⟩ 1 1 [d m bn,d m (bd:Int)] rfl rfl HNW.out (fun u hu=>by simp at hu;rcases hu with rfl|rfl<;>rfl) (by have:=HLL.out;simp only[List.length_map];unfold maxLen;omega) (by have:=HLL.out;simp only[List.length_map];omega) hzb ?_);intro vx' w8 hown hgrow _ hat)
        have hz8:=hgrow.size
        have HVX8:Hid (∀k,vx'.ownBlock=some k->wl.heap.size<=k/\k<w8.heap.size):=fun k hk=>World.ownsRow.lt hown k hk
        have HXK:Hid (∀k,vx'.ownBlock=some k->vy.ownBlock≠some k):=fun k hk h9=>by
         rcases hat with h8|h8
         ·exact HXY.out k (h8.symm.trans hk) h9
         ·rw[h8]at hk;injection hk with hk;have:=(HVY.out k h9).2;omega
        have HOX8:Hid (OwnE w8 wl.heap.size vx' ((LS++[((⟨bn,bd⟩,⟨bm,be⟩):Iv)]).map (·.1))):=by
         unfold Hid OwnE;rw[List.map_append,List.length_append,List.map_cons,List.map_nil,fK]
         exact hown
        have HOY8:Hid (w8.ownsRow wl.heap.size 45 2 vy (LS.map (·.2)).length (exC (LS.map (·.2)))):=(Frm.of_grown hgrow).row (World.ownsRow.alloc HOYr.out _) (fun k hk h9=>HXY.out k h9.symm hk)
        have HI8:Hid (TabI t w8):=(HIw.out.alloc _).frm (Frm.of_grown hgrow) (fun k hk=>HNX.out k hk) (fun h9=>by have:=HBT.out;have:=(HVX.out _ h9.symm).1;omega)
        have HFX8:Hid (Frm t.S wl w8):=(HFXr.out.alloc _).outs' (Frm.of_grown hgrow) (fun k hk=>.inr (HVX.out k hk.symm).1)
        have HF8:Hid (FrS t.S w w8 [[z (some ⟨b1,o1,none⟩) n1 c1,z (some ⟨b2,o2,none⟩) n2 c2],[d m 0,d m 0,d m 0,d m 0]]):=(HF3r.out.alloc _).out (Frm.of_grown hgrow) (fun k hk=>by have:=(HVX.out k hk.symm).1;simp;omega)
        have HC8:Hid (Cel w8 w3.heap.size [d m bn,d m (bd:Int),d m bm,d m (be:Int)]):=(HCb.out.below ((Below.refl _ _).alloc (Nat.le_refl _) _)).frmP (Frm.of_grown hgrow) (fun h9=>by have:=(HVX.out _ h9.symm).2;omega)
        have q2:=HC8.out.cell 2 _ rfl;have q3:=HC8.out.cell 3 _ rfl
        have HROW2:Hid ((w8.alloc (B #[d m bm,d m (be:Int)] 45)).ownsRow wl.heap.size 45 2 vy (LS.map (·.2)).length (exC (LS.map (·.2)))):=World.ownsRow.alloc HOY8.out _
        have HNW2:Hid (∀j u,[Value.int m bm,d m (be:Int)][j]? =some u->(w8.alloc (B #[d m bm,d m (be:Int)] 45)).cell? ((⟨w8.heap.size,0,none⟩:Addr).add j)=some u):=eQ w8 bm (be:Int) 45
        have hzb2:wl.heap.size<=(w8.alloc (B #[d m bm,d m (be:Int)] 45)).heap.size:=by simp;omega
        have hza2:(w8.alloc (B #[d m bm,d m (be:Int)] 45)).heap.size=w8.heap.size+1:=by simp
        clear hown hgrow hat HROW HNW HIw HFXr HF3r HOYr HB3 u0 u1 uz HCb hzb hza
        go_wp2_with (at_builtin;(refine wpList_append_own_at _ rfl _ _ 78 rfl wl.heap.size 45 e0 (A #[d m 0,d m 0]) 2 16 Tryz.underlying78 he ez0 ez1 ez2 rfl (by decide) _ _ _ rfl HROW2.out ⟨w8.heap.size,0,none⟩ 1 1 [d m bm,d m (be:Int)] rfl rfl HNW2.out (fun u hu=>by simp at hu;rcases hu with rfl|rfl<;>rfl) (by have:=HLL.out;simp only[List.length_map];unfold maxLen;omega) (by have:=HLL.out;simp only[List.length_map];omega) hzb2 ?_);intro vy' w9 hown hgrow _ hat)
        have HOX9:Hid (OwnE w9 wl.heap.size vx' ((LS++[((⟨bn,bd⟩,⟨bm,be⟩):Iv)]).map (·.1))):=(Frm.of_grown hgrow).row (World.ownsRow.alloc HOX8.out _) (fun k hk h9=>HXK.out k hk h9.symm)
        have HOY9:Hid (OwnE w9 wl.heap.size vy' ((LS++[((⟨bn,bd⟩,⟨bm,be⟩):Iv)]).map (·.2))):=by
         unfold Hid OwnE;rw[List.map_append,List.length_append,List.map_cons,List.map_nil,fK]
         exact hown
        have HXY9:Hid (∀k,vx'.ownBlock=some k->vy'.ownBlock≠some k):=fun k hk h9=>by
         rcases hat with h8|h8
         ·exact HXK.out k hk (h8.symm.trans h9)
         ·rw[h8]at h9;injection h9 with h9;have:=(HVX8.out k hk).2;omega
        have HI9:Hid (TabI t w9):=(HI8.out.alloc _).frm (Frm.of_grown hgrow) (fun k hk=>HNY.out k hk) (fun h9=>by have:=HBT.out;have:=(HVY.out _ h9.symm).1;omega)
        have HFX9:Hid (Frm t.S wl w9):=(HFX8.out.alloc _).outs' (Frm.of_grown hgrow) (fun k hk=>.inr (HVY.out k hk.symm).1)
        have HF9:Hid (FrS t.S w w9 [[z (some ⟨b1,o1,none⟩) n1 c1,z (some ⟨b2,o2,none⟩) n2 c2],[d m 0,d m 0,d m 0,d m 0]]):=(HF8.out.alloc _).out (Frm.of_grown hgrow) (fun k hk=>by have:=(HVY.out k hk.symm).1;simp;omega)
        clear hown hgrow hat HROW2 HNW2 HI8 HFX8 HF8 HOX8 HOY8 hza2 hzb2
        exact⟨⟨q+1,LS++[((⟨bn,bd⟩,⟨bm,be⟩):Iv)],by omega,by go_num,HM3,⟨vx',rfl,vy',rfl,HOX9,HOY9,HXY9⟩,HI9,HFX9,HF9⟩,by simp[intOf];omega⟩
    focus
     have hji:¬(q:Int)<(nr:Int):=by omega
     have HLS:Hid (mapO (fun r=>(PE r).map (bestI (sq t.s))) (ah t.s)=some LS):=by
      have h9:=HM.out
      rw[List.take_of_length_le (by rw[HNR.out];omega)]at h9
      exact h9
     have HRE0:Hid (RES=pairE t.s LS):=by unfold Hid;rw[HRN2.out,HLS.out];rfl
     have hln:LS.length=nr:=by rw[bN HLS.out,HNR.out]
     have HVS:Hid (∀x∈LS,VI (sq t.s) x):=HLV.out LS HLS.out;obtain⟨Ax,cx,hvx,hex,hcx⟩:=OwnE.el HOX.out;obtain⟨Ay,cy,hvy,hey,hcy⟩:=OwnE.el HOY.out;rw[List.length_map,hln]at hvx hex hcx hvy hey hcy
     have CMX:=fun(W:World) (hw:Below wr.heap.size wr W)=>gi t.p (t.c:Int) (t.h:Int) t.s nr cx Ax (LS.map (·.1)) W hs1 hs6 (hex.below hw) HNR.out (fun x hx=>by
      obtain⟨y,hy,rfl⟩:=List.mem_map.1 hx
      exact(HVS.out y hy).1)
     have CMY:=fun(W:World) (hw:Below wr.heap.size wr W)=>gi t.p (t.c:Int) (t.h:Int) t.s nr cy Ay (LS.map (·.2)) W hs1 hs6 (hey.below hw) HNR.out (fun x hx=>by
      obtain⟨y,hy,rfl⟩:=List.mem_map.1 hx
      exact(HVS.out y hy).2)
     have HRE1:Hid (RES=(meanE (sq t.s) (ah t.s) (LS.map (·.1))).bind fun lo=>(meanE (sq t.s) (ah t.s) (LS.map (·.2))).map fun hi=>(lo,hi)):=HRE0.out
     generalize meanE (sq t.s) (ah t.s) (LS.map (·.1))=r1 at *
     generalize meanE (sq t.s) (ah t.s) (LS.map (·.2))=r2 at *
     obtain⟨a1,ha1⟩:∃x:Int,x=(r1.getD ⟨0,0⟩).num:=⟨_,rfl⟩;obtain⟨b1',hb1'⟩:∃x:Int,x=((r1.getD ⟨0,0⟩).depth:Int):=⟨_,rfl⟩;obtain⟨ok1,hok1⟩:∃x:Bool,x=r1.isSome:=⟨_,rfl⟩;obtain⟨a2,ha2⟩:∃x:Int,x=(r2.getD ⟨0,0⟩).num:=⟨_,rfl⟩;obtain⟨b2',hb2'⟩:∃x:Int,x=((r2.getD ⟨0,0⟩).depth:Int):=⟨_,rfl⟩;obtain⟨ok2,hok2⟩:∃x:Bool,x=r2.isSome:=⟨_,rfl⟩
     have CM1:Hid (∀W:World,Below wr.heap.size wr W->Calls Tryz.prog 144 #[(A #[d m t.p,d m (t.c:Int),d m (t.h:Int),d m (t.s:Int)]),z Ax nr cx] W fun e W'=>e=F (C #[A #[d m a1,d m b1'],D ok1])/\Below W.heap.size W W'):=fun W hw=>by
      rw[ha1,hb1',hok1]
      exact CMX W hw
     have CM2:Hid (∀W:World,Below wr.heap.size wr W->Calls Tryz.prog 144 #[(A #[d m t.p,d m (t.c:Int),d m (t.h:Int),d m (t.s:Int)]),z Ay nr cy] W fun e W'=>e=F (C #[A #[d m a2,d m b2'],D ok2])/\Below W.heap.size W W'):=fun W hw=>by
      rw[ha2,hb2',hok2]
      exact CMY W hw
     have HE1:Hid (a1=(r1.getD ⟨0,0⟩).num/\b1'=((r1.getD ⟨0,0⟩).depth:Int)/\ok1=r1.isSome):=⟨ha1,hb1',hok1⟩;have HE2:Hid (a2=(r2.getD ⟨0,0⟩).num/\b2'=((r2.getD ⟨0,0⟩).depth:Int)/\ok2=r2.isSome):=⟨ha2,hb2',hok2⟩;have HIT:=HI;have e0':=HI.out.tb 0 _ rfl;have e1':=HI.out.tb 1 _ rfl;have e2':=HI.out.tb 2 _ rfl;have e3':=HI.out.tb 3 _ rfl;subst hvx hvy;clear CMX CMY ha1 hb1' hok1 ha2 hb2' hok2 hex hey hcx hcy HI HOX HOY HLS HRE0 HM HXY HVX HVY HVS HFX
     go_wp2_with (fail)
     refine(CM1.out _ (Below.refl _ _)).mono ?_
     rintro e w5 ⟨rfl,hb5⟩
     have HBa:Hid (Below wr.heap.size wr (w5.alloc (B #[d m a1,d m b1'] 45))):=hb5.alloc hb5.size _;have HCa:=h_ (Cel.new w5 #[d m a1,d m b1'] 45);have HTa:=h_ (HIT.out.below HBa.out);have e0':=HTa.out.tb 0 _ rfl;have e1':=HTa.out.tb 1 _ rfl;have e2':=HTa.out.tb 2 _ rfl;have e3':=HTa.out.tb 3 _ rfl;obtain⟨Wa,hWa⟩:∃W,W=w5.alloc (B #[d m a1,d m b1'] 45):=⟨_,rfl⟩;clear hb5 CM1
     go_wp2_with (fail)
     rw[<-hWa]at HBa HCa HTa e0' e1' e2' e3' ⊢
     refine(CM2.out _ HBa.out).mono ?_
     rintro e w6 ⟨rfl,hb6⟩
     have HB6:Hid (Below wr.heap.size wr w6):=HBa.out.trans (hb6.mono HBa.out.size);have HC6:=h_ (HCa.out.below hb6);have HI6:=h_ (HIT.out.below HB6.out);have HF6:=h_ (HF.out.below HB6.out);have u0:=HC6.out.cell 0 _ rfl;have u1:=HC6.out.cell 1 _ rfl;have uz:=HC6.out.lt;clear hb6 CM2 hWa HBa HCa HTa HIT HF HB6 e0' e1' e2' e3'
     rcases r1 with _|x1
     focus
      have hk:ok1=false:=HE1.out.2.2;subst hk
      refine ?za
     rotate_left
     focus
      have hk:ok1=true:=HE1.out.2.2;subst hk
      rcases r2 with _|x2
      focus
       have hk:ok2=false:=HE2.out.2.2;subst hk
       refine ?zb
      rotate_left
      focus
       have hk:ok2=true:=HE2.out.2.2;subst hk
       have HRE:Hid (IvM RES (F (C #[A #[d m a1,d m b1',d m a2,d m b2'],D true]))):=by
        have q1:a1=x1.num:=HE1.out.1;have q2:b1'=(x1.depth:Int):=HE1.out.2.1;have q3:a2=x2.num:=HE2.out.1;have q4:b2'=(x2.depth:Int):=HE2.out.2.1
        rw[HRE1.out,q1,q2,q3,q4];rfl
       refine ?zc
    rotate_left 3
    case' za|zb=>
     have HRE:Hid (IvM RES (F (C #[A #[d m a1,d m b1',d m a2,d m b2'],D false]))):=by rw[HRE1.out];exact⟨_,_,_,_,rfl⟩
    case' zc|za|zb=>
     have z1:=HF6.out.l1 (by simp)
     have c10:=HF6.out.c1 0 rfl;have f10:=HF6.out.f1 0 rfl;have c11:=HF6.out.c1 1 rfl;have f11:=HF6.out.f1 1 rfl;have c12:=HF6.out.c1 2 rfl;have f12:=HF6.out.f1 2 rfl;have c13:=HF6.out.c1 3 rfl;have f13:=HF6.out.f1 3 rfl
     go_wp2_with (fail)
    case zc=>
     refine bodyPost_ret (v:=C #[A #[d m a1,d m b1',d m a2,d m b2'],D true]) (by simp[results,Tryz.results73,go_sem,c10,c11,c12,c13,z1,f10,f11,f12,f13,u0,u1]) rfl ⟨HRE.out,?_,?_⟩
     ·repeat (first|with_reducible exact HI6.out|refine TabI.alloc ?_ _|refine TabI.stored ?_ _ (HNS.out 1) (HNB.out 1))
     ·repeat (first|with_reducible exact HF6.out.f|refine Frm.alloc ?_ _|refine Frm.ownSet ?_ (by omega) _)
    case za|zb=>
     refine bodyPost_ret (v:=C #[A #[d m a1,d m b1',d m a2,d m b2'],D false]) (by simp[results,Tryz.results73,go_sem,c10,c11,c12,c13,z1,f10,f11,f12,f13,u0,u1]) rfl ⟨HRE.out,?_,?_⟩
     ·repeat (first|with_reducible exact HI6.out|refine TabI.alloc ?_ _|refine TabI.stored ?_ _ (HNS.out 1) (HNB.out 1))
     ·repeat (first|with_reducible exact HF6.out.f|refine Frm.alloc ?_ _|refine Frm.ownSet ?_ (by omega) _)
 ·have HRE:=h_ (HRS.out rfl);have CSC1:=CSC0 w2 HI2.out HA2.out HBo2.out;have HM:=h_ (IvM.two (chS t.s t.h own other));generalize chS t.s t.h own other=R at *;obtain⟨xn,hxn⟩:∃x:Int,x=(R.getD ⟨0,0⟩).num:=⟨_,rfl⟩;obtain⟨xd,hxd⟩:∃x:Int,x=((R.getD ⟨0,0⟩).depth:Int):=⟨_,rfl⟩;obtain⟨ok,hok⟩:∃x:Bool,x=R.isSome:=⟨_,rfl⟩;rw[<- hxn,<- hxd,<- hok]at HM
  have CSC2:Hid (Calls Tryz.prog 105 #[(n (some ⟨t.bt,0,none⟩)),(A #[z (some ⟨b1,o1,none⟩) n1 c1,z (some ⟨b2,o2,none⟩) n2 c2])] w2 fun e w'=>e=F (C #[A #[d m xn,d m xd],D ok])/\TabI t w'/\Frm t.S w2 w'):=by
   rw[hxn,hxd,hok]
   exact CSC1
  clear CSC0 CSC1 HRS HR0 HRN hxn hxd hok;have c00:=HF2.out.c0 0 rfl;have c01:=HF2.out.c0 1 rfl
  go_wp2_with (fail)
  clear c00 c01
  refine CSC2.out.mono ?_
  rintro e w3 ⟨rfl,hI3,hF3⟩
  have HF3:=h_ (HF2.out.frm hF3);have HI3:=h_ hI3
  have HMR:Hid (IvM RES (F (C #[A #[d m xn,d m xd,d m xn,d m xd],D ok]))):=by rw[HRE.out];exact HM.out
  clear hI3 hF3 HF2 HI2 HM HRE CSC2
  have z1:=HF3.out.l1 (by simp)
  have c10:=HF3.out.c1 0 rfl;have f10:=HF3.out.f1 0 rfl;have c11:=HF3.out.c1 1 rfl;have f11:=HF3.out.f1 1 rfl;have c12:=HF3.out.c1 2 rfl;have f12:=HF3.out.f1 2 rfl;have c13:=HF3.out.c1 3 rfl;have f13:=HF3.out.f1 3 rfl
  go_wp2_with (fail)
  refine bodyPost_ret (v:=C #[A #[d m xn,d m xd,d m xn,d m xd],D ok]) (by simp[results,Tryz.results73,go_sem,c10,c11,c12,c13,z1,f10,f11,f12,f13]) rfl ⟨HMR.out,?_,?_⟩
  ·repeat (first|with_reducible exact HI3.out|refine TabI.alloc ?_ _|refine TabI.stored ?_ _ (HNS.out 1) (HNB.out 1))
  ·repeat (first|with_reducible exact HF3.out.f|refine Frm.alloc ?_ _|refine Frm.ownSet ?_ (by omega) _)
end Go.Proofs.YtcmeoenkgmghkaaGreat

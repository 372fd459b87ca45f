/- Part of one proof. There are no conditions. -/
import Derived.Test.YtcmeoenkgmghkaaGreatPY18
set_option maxHeartbeats 0
set_option linter.unusedVariables false
set_option linter.unusedSimpArgs false
set_option maxRecDepth 100000
open Go.Value renaming int->a,slice->d,pointer->B,agg->D,bool->I
open Go.IntKind renaming i64->z
open Go.Obj renaming cells->F
namespace Go.Proofs.YtcmeoenkgmghkaaGreat
open Go.RowKit Pl Ps
def StR(lo die:Nat)(l:List Stp):RP:=fun v W=>∃A c,v=d A l.length c/\SLZ 4 (fun k=>k<lo) W A l.length (stCs die l)/\l.length<=c
theorem stb_stR(lo die:Nat)(l:List Stp):Stb (StR lo die l):=fun _ _ _ ⟨A,c,h1,h2,h3⟩ hb=>⟨A,c,h1,h2.frm (Frm.of_below' _ hb),h3⟩
theorem StR.of{lo base die:Nat}{l:List Stp}{v:Value}{W:World}(h:W.ownsRow base 242 4 v l.length (stCs die l))(hb:lo<=base):StR lo die l v W:=
 bp (S:=fun k=>k<lo) h (fun k hk h9=>by have:=(World.ownsRow.lt h k hk).1;omega) (by omega)
def dsN5:Nat->Nat
 | 0=>19
 | 1=>20
 | 2=>21
 | 3=>22
 | 4=>23
 | 5=>24
 | 6=>25
 | 7=>26
 |_=>0
def dsN9:Nat->Nat
 | 0=>33
 | 1=>34
 | 2=>35
 | 3=>36
 | 4=>37
 | 5=>38
 | 6=>39
 | 7=>40
 | 8=>41
 | 9=>42
 | 10=>43
 | 11=>11
 |_=>0
theorem l05Next_any(P h die C m:Nat)(c s:Int)(A:Option Addr)(n cp:Nat)(bs:List Bd)(w:World)(hx:PLs (fun _=>False) w m A n bs)(hsd:∀b∈bs,Sd P C b)(hC:C<=255)(hP:P<=900)(hd1:1<=die)(hd2:die<=1000)(hh:h<=1000)(hnP:n*(P+1)<=1000000)(hm:m<=1000):
  Calls Tryz.prog 212 #[(D #[a z (P:Int),a z c,a z (h:Int),a z s]),d A n cp,a z (die:Int)] w (RetPl w (m+1) (nextB P h die bs)):=by
 obtain⟨i0,hi,iz0,iz1,iz2⟩:=info_parts Tryz.infoSt;obtain⟨j0,hj,jz0,jz1,jz2⟩:=info_parts Tryz.infoPl;have hn6:n<=1000000:=Nat.le_trans (Nat.le_mul_of_pos_right n (Nat.succ_pos P)) hnP;have HX:=h_ hx;have HLN:=h_ hx.len
 have HSD:Hid (∀i,i<n->Sd P C (bs.getD i ([],[]))/\bs.getD i ([],[])∈bs):=fun i hi=>by
  have h1:=ak bs ([],[]) (k:=i) (by rw[hx.len];exact hi)
  exact⟨hsd _ h1,h1⟩
 have HSF:Hid (∀i,∀x∈nextF P h die [] (bs.take i),Sd P C x):=fun i=>lZ hd1 (fun b hb=>hsd b (List.mem_of_mem_take hb)) (fun x hx=>by cases hx)
 have HSUB:Hid (∀i,i<=n->(nextF P h die [] (bs.take i)).length<=1000000):=fun i hi=>by
  have h1:=di (p:=P) (h:=h) (die:=die) (k:=P+1) (bs:=bs.take i) (out:=[]) (fun _ _=>cO)
  have h2:(bs.take i).length<=n:=by rw[List.length_take,hx.len];omega
  have h3:=Nat.mul_le_mul_right (P+1) h2
  simp only[List.length_nil,Nat.zero_add]at h1
  omega
 have HF:Hid (Fr w ((w.alloc (F #[a z (P:Int),a z c,a z (h:Int),a z s] 33)).alloc (F #[] 85)) [[a z (P:Int),a z c,a z (h:Int),a z s]]):=((Fr.start w).allocT (by simp) _ _).alloc _
 have HO0:Hid (OPl (fun k=>k<w.heap.size+1) ((w.alloc (F #[a z (P:Int),a z c,a z (h:Int),a z s] 33)).alloc (F #[] 85)) (m+1) (w.heap.size+1) 85 (d (some ⟨w.heap.size+1,0,none⟩) 0 0) (nextF P h die [] (bs.take 0))):=by
  have h9:=OPl.made (S:=fun k=>k<w.heap.size+1) (m:=m+1) (base:=w.heap.size+1) (e:=85) (cs:=[]) (bs:=[]) (w.alloc (F #[a z (P:Int),a z c,a z (h:Int),a z s] 33)) (by simp) (fun k hk h9=>by have h9:k<w.heap.size+1:=h9;omega) (PEs.nil_ _ _ _) (by simp[maxLen])
  rw[show(w.alloc (F #[a z (P:Int),a z c,a z (h:Int),a z s] 33)).heap.size=w.heap.size+1 by simp]at h9
  exact h9
 have HZ0:Hid (w.heap.size+2<=((w.alloc (F #[a z (P:Int),a z c,a z (h:Int),a z s] 33)).alloc (F #[] 85)).heap.size):=by unfold Hid;simp
 clear hx hsd
 go_enter Tryz.func212,Tryz.ntmps212
 go_wp2_with (fail)
 go_loopw [7,8] (fun v7 v8 wr=>∃(q:Nat),q<=n/\v8=a z q/\(∃vx,vx=v7/\Hid (OPl (fun k=>k<w.heap.size+1) wr (m+1) (w.heap.size+1) 85 vx (nextF P h die [] (bs.take q))))/\Hid (w.heap.size+2<=wr.heap.size)/\Hid (Fr w wr [[a z (P:Int),a z c,a z (h:Int),a z s]])) (fun _ v8 _=>n-(intOf v8).toNat)
 case atStart=>exact⟨0,by omega,rfl,⟨_,rfl,HO0.out⟩,HZ0.out,HF.out⟩
 case round=>
  clear HF HO0 HZ0;obtain⟨q,hin,rfl,⟨vx,rfl,HO⟩,HZ,HF⟩:=hrel
  by_cases hlt:q<n
  ·have hki:(q:Int)<(n:Int):=by omega
   obtain⟨b,off,A0,n0,c0,A1,n1,c1,A2,n2,c2,hA,-,_,y0,y1,y2,⟨vs,q0,-,q2,q3⟩,p1,-,p2,-⟩:=HX.out.at hlt;have HFB:=Frm.of_below HF.out.b;have HY1:=h_ (HFB.cell' y1 id);have HY2:=h_ (HFB.cell' y2 id);have HYY:Hid (w.cell? ⟨b,off+q*3,none⟩=some (d A0 n0 c0)/\w.cell? ⟨b,off+q*3+1,none⟩=some (d A1 n1 c1)/\w.cell? ⟨b,off+q*3+2,none⟩=some (d A2 n2 c2)):=⟨y0,y1,y2⟩
   have HNF:Hid (nextF P h die [] (bs.take (q+1))=nextI P (bs.getD q ([],[])) (nextF P h die [] (bs.take q)) (legal P h (bs.getD q ([],[])) die)):=kU (by rw[HLN.out];exact hlt)
   have HSDi:=h_ (HSD.out q hlt).1;obtain⟨⟨own,other⟩,hbb⟩:∃bb,bb=bs.getD q ([],[]):=⟨_,rfl⟩;rw[<-hbb]at p1 p2 HNF HSDi;clear hbb y0 y1 y2 HFB;subst hA
   have HQS:Hid (SLZ 4 (fun _=>False) w A0 n0 vs/\n0<=m/\∀x∈vs,x.oneCell'=true):=⟨q0,q2,q3⟩
   have HL1:Hid (n1=P+1):=by have:=p1.1.1;have:=HSDi.out.len1;unfold Hid;simp at *;omega
   have HL2:Hid (n2=P+1):=by have:=p2.1.1;have:=HSDi.out.len2;unfold Hid;simp at *;omega
   have HP1:Hid (∀W:World,Below w.heap.size w W->SL W A1 n1 own):=fun W hw=>p1.1.below hw
   have HP2:Hid (∀W:World,Below w.heap.size w W->SL W A2 n2 other):=fun W hw=>p2.1.below hw
   have hn0:n0<=1000:=by omega
   have CLS:Hid (∀W:World,Below w.heap.size w W->Calls Tryz.prog 226 #[(D #[a z (P:Int),a z c,a z (h:Int),a z s]),(D #[d A1 n1 c1,d A2 n2 c2]),a z (die:Int)] W (RetSt W die (legal P h (own,other) die))):=fun W hw=>by
    have hsd:=HSDi.out
    exact l04Legal_any P h die c s A1 A2 n1 c1 n2 c2 own other W (HP1.out W hw) (HP2.out W hw) HL1.out HL2.out (by omega) hd1 hd2 hh hsd.1.2.1 hsd.2.2.1 (by have:=hsd.1.2.2;simp at this;omega) (by have:=hsd.2.2.2;simp at this;omega)
   have hgz:w.heap.size+2<=wr.heap.size:=HZ.out;clear q0 q2 q3 p1 p2 HZ
   go_wp2_with (fail)
   refine w_ 8 (fun _=>false) dsN5 [Eqv (D #[a z (P:Int),a z c,a z (h:Int),a z s]),Eqv (d (some ⟨b,off,none⟩) n cp),Eqv (a z (q:Int)),Eqv (B (some ⟨b,off+q*3,none⟩)),Eqv (B (some ⟨b,off+q*3+1,none⟩)),Eqv (D #[d A1 n1 c1,d A2 n2 c2]),Eqv (a z (die:Int)),StR wr.heap.size die (legal P h (own,other) die)] (by repeat (first|exact AllStb.nil|refine AllStb.cons (by first|exact aY _|exact stb_stR _ _ _) ?_)) (fun i o' _ hX=>by cases hX) ?_ ?_
   ·intro i o hi hX ho a' W hW hIW hfar hdep
    have e1:a'.tmps.getD 1 undef=(d (some ⟨b,off,none⟩) n cp):=(fr hfar 1).trans rfl
    have e2:a'.tmps.getD 2 undef=(a z (die:Int)):=(fr hfar 2).trans rfl
    have e3:a'.tmps.getD 3 undef=(B (some ⟨w.heap.size,0,none⟩)):=(fr hfar 3).trans rfl
    have e8:a'.tmps.getD 8 undef=(a z (q:Int)):=(fr hfar 8).trans rfl
    have hi8:=i_7 hi
    clear hfar hX hi
    rcases hi8 with rfl|rfl|rfl|rfl|rfl|rfl|rfl|rfl
    all_goals (simp at ho;subst ho)
    ·have y0:=(HF.out.below hW).c0 0 rfl
     have y1:=(HF.out.below hW).c0 1 rfl;have y2:=(HF.out.below hW).c0 2 rfl;have y3:=(HF.out.below hW).c0 3 rfl
     refine il ?_;simp only[execOp,Act.eval,e3];go_simp
    ·refine il ?_;simp only[execOp,Act.eval,e1];go_simp
    ·refine il ?_;simp only[execOp,Act.eval,e8];go_simp
    ·have d1:a'.tmps.getD 20 undef=_:=dp hdep 1
     have d2:a'.tmps.getD 21 undef=_:=dp hdep 2
     refine il ?_;simp only[execOp,Act.eval,d1,d2];go_simp;first|done|(intro hq9;exfalso;omega)
    ·have d1:a'.tmps.getD 22 undef=_:=dp hdep 3
     refine il ?_;simp only[execOp,Act.eval,d1];go_simp
    ·have d1:a'.tmps.getD 23 undef=_:=dp hdep 4
     have y0:=(Frm.of_below hW).cell' HY1.out id;have y1:=(Frm.of_below hW).cell' HY2.out id
     refine il ?_;simp only[execOp,Act.eval,d1];go_simp
    ·refine il ?_;simp only[execOp,Act.eval,e2];go_simp
    ·have d1:a'.tmps.getD 19 undef=_:=dp hdep 0
     have d2:a'.tmps.getD 24 undef=_:=dp hdep 5
     have d3:a'.tmps.getD 25 undef=_:=dp hdep 6
     refine .inr ⟨226,#[(D #[a z (P:Int),a z c,a z (h:Int),a z s]),(D #[d A1 n1 c1,d A2 n2 c2]),(a z (die:Int))],by simp only[execOp,Act.eval,d1,d2,d3];go_simp,?_⟩
     refine(CLS.out W (HF.out.below hW).b).mono ?_
     rintro e W' ⟨v9,rfl,hst9,hb'⟩
     exact⟨_,rfl,hb',trivial,StR.of hst9 (Below.size hW)⟩
   intro v w2 hW hIW hg
   have g0:v 0=_:=gq hg 0
   have g1:v 1=_:=gq hg 1
   have g2:v 2=_:=gq hg 2
   have g3:v 3=_:=gq hg 3
   have g4:v 4=_:=gq hg 4
   have g5:v 5=_:=gq hg 5
   have g6:v 6=_:=gq hg 6
   obtain⟨A9,c9,g7,hr9,hc9⟩:StR wr.heap.size die (legal P h (own,other) die) (v 7) w2:=hg 7 (by omega)
   simp only[List.drop_succ_cons,List.drop_zero,putV,dsN5,g0,g1,g2,g3,g4,g5,g6,g7,Act.put]
   clear g0 g1 g2 g3 g4 g5 g6 g7 hg hIW;have hz2:wr.heap.size<=w2.heap.size:=hW.size;have HF2:=h_ (HF.out.below hW);have HBw2:=h_ hW
   have HO2:Hid (OPl (fun k=>k<w.heap.size+1\/(wr.heap.size<=k/\k<w2.heap.size)) w2 (m+1) (w.heap.size+1) 85 vx (nextF P h die [] (bs.take q))):=(HO.out.wide (fun k hk=>hk.imp id (fun h=>h.1))).below hW
   have HR9:Hid (SLZ 4 (fun k=>w.heap.size+1<=k/\k<wr.heap.size) w2 A9 (legal P h (own,other) die).length (stCs die (legal P h (own,other) die))):=hr9.set fun k hk=>.inl hk.2
   clear hr9 HO CLS HF hW HY1 HY2;generalize hL:legal P h (own,other) die=L at *;have HL:=h_ hL;have HOL:=h_ (HSUB.out q hin);have HOS:=h_ (HSF.out q);generalize hOUT:nextF P h die [] (bs.take q)=OUT at *
   have hLl:L.length<=P+1:=by rw[<-hL];exact cO
   clear hL hOUT;obtain⟨wo,rfl⟩:∃wo:World,wo=wr:=⟨_,rfl⟩
   go_wp2_with (fail)
   go_loopw [7,10] (fun v7 v10 wr=>∃(t:Nat),t<=L.length/\v10=a z t/\(∃vy,vy=v7/\Hid (OPl (fun k=>k<w.heap.size+1\/(wo.heap.size<=k/\k<w2.heap.size)) wr (m+1) (w.heap.size+1) 85 vy (nextI P (own,other) OUT (L.take t))))/\Hid (Frm (fun k=>w.heap.size+1<=k/\k<wo.heap.size) w2 wr)) (fun _ v10 _=>L.length-(intOf v10).toNat)
   case atStart=>exact⟨0,by omega,rfl,⟨_,rfl,HO2.out⟩,Frm.refl _ _⟩
   case round=>
    clear HO2;obtain⟨t,hkL,rfl,⟨vy,rfl,HO⟩,HFX⟩:=hrel
    have HBi:Hid (Below w.heap.size w wr):=HF2.out.b.trans (HFX.out.below HF2.out.b.size (fun k hk=>by omega))
    have hzi:w2.heap.size<=wr.heap.size:=HFX.out.size
    have HF:Hid (Fr w wr [[a z (P:Int),a z c,a z (h:Int),a z s]]):=HF2.out.frm HFX.out (fun k hk=>by omega) (fun k hk=>by simp;omega)
    by_cases hlt2:t<L.length
    ·have hkj:(t:Int)<(L.length:Int):=by omega
     obtain⟨src,hsrc,hst,_⟩:=jZ (p:=P) (h:=h) (b:=(own,other)) (die:=die) (s:=L.getD t ⟨0,0,false⟩) (by rw[HL.out];exact ak L _ hlt2)
     have HNI:Hid (nextI P (own,other) OUT (L.take (t+1))=addN (nextI P (own,other) OUT (L.take t)) (aT P (own,other) (L.getD t ⟨0,0,false⟩))):=kT hlt2;have HAS:Hid (Sd P C (aT P (own,other) (L.getD t ⟨0,0,false⟩))):=mF HSDi.out hst hsrc hd1
     have HNS:Hid (∀x∈nextI P (own,other) OUT (L.take t),Sd P C x):=lY HSDi.out hd1 (fun s hs=>by rw[HL.out];exact List.mem_of_mem_take hs) HOS.out
     obtain⟨e1,e2,e3,e4⟩:=lM die L t hlt2
     obtain⟨b9,o9,hA9,-,hs9,hcell⟩:=HR9.out.2 (by omega)
     have x0:=HFX.out.cell' (hcell (t*4) (by omega)) hs9
     have x1:=HFX.out.cell' (hcell (t*4+1) (by omega)) hs9
     have x2:=HFX.out.cell' (hcell (t*4+2) (by omega)) hs9
     have x3:=HFX.out.cell' (hcell (t*4+3) (by omega)) hs9
     rw[e1]at x0;rw[e2]at x1;rw[e3]at x2;rw[e4]at x3;rw[<-Nat.add_assoc]at x1 x2 x3;obtain⟨st,hst9⟩:∃st,st=L.getD t ⟨0,0,false⟩:=⟨_,rfl⟩;rw[<-hst9]at hst HNI HAS x0 x1 x3
     have CAS:Hid (∀W:World,Below w.heap.size w W->Calls Tryz.prog 227 #[(D #[a z (P:Int),a z c,a z (h:Int),a z s]),(D #[d A1 n1 c1,d A2 n2 c2]),stVal st die] W (RetBq W (aT P (own,other) st).1 (aT P (own,other) st).2)):=fun W hw=>
      l04Apply_any P src die h st c h s C A1 A2 n1 c1 n2 c2 own other W (HP1.out W hw) (HP2.out W hw) HSDi.out (by omega) hP hsrc hd1 hst
     obtain⟨nx,hnx⟩:∃nx,nx=aT P (own,other) st:=⟨_,rfl⟩;rw[<-hnx]at CAS HNI HAS;obtain⟨ss,sd,sh⟩:=st;have CAS2:Hid (∀W:World,Below w.heap.size w W->Calls Tryz.prog 227 #[(D #[a z (P:Int),a z c,a z (h:Int),a z s]),(D #[d A1 n1 c1,d A2 n2 c2]),(D #[a z (ss:Int),a z sd,a z (die:Int),I sh])] W (RetBq W nx.1 nx.2)):=CAS.out
     simp only at x0 x1 x2 x3
     have HX0:=h_ x0;have HX1:=h_ x1;have HX2:=h_ x2;have HX3:=h_ x3;have HFi:=Frm.of_below HBi.out;have HY1:=h_ (HFi.cell' HYY.out.2.1 id);have HY2:=h_ (HFi.cell' HYY.out.2.2 id);subst hA9;clear e1 e2 e3 e4 hcell hst hst9 hnx CAS HL x0 x1 x2 x3 HFi
     go_wp2_with (fail)
     refine w_ 12 (fun _=>false) dsN9 [Eqv (D #[a z (P:Int),a z c,a z (h:Int),a z s]),Eqv (d (some ⟨b,off,none⟩) n cp),Eqv (a z (q:Int)),Eqv (B (some ⟨b,off+q*3,none⟩)),Eqv (B (some ⟨b,off+q*3+1,none⟩)),Eqv (D #[d A1 n1 c1,d A2 n2 c2]),Eqv (d (some ⟨b9,o9,none⟩) L.length c9),Eqv (a z (t:Int)),Eqv (B (some ⟨b9,o9+t*4,none⟩)),Eqv (D #[a z (ss:Int),a z sd,a z (die:Int),I sh]),BdQ wr.heap.size nx,AlcD wr.heap.size 35 [d none 0 0,d none 0 0]] (by repeat (first|exact AllStb.nil|refine AllStb.cons (by first|exact aY _|exact stb_bdQ _ _|exact bi _ _ _) ?_)) (fun i o' _ hX=>by cases hX) ?_ ?_
     ·intro i o hi hX ho a' W hW hIW hfar hdep
      have e1:a'.tmps.getD 1 undef=(d (some ⟨b,off,none⟩) n cp):=(fr hfar 1).trans rfl
      have e3:a'.tmps.getD 3 undef=(B (some ⟨w.heap.size,0,none⟩)):=(fr hfar 3).trans rfl
      have e8:a'.tmps.getD 8 undef=(a z (q:Int)):=(fr hfar 8).trans rfl
      have e9:a'.tmps.getD 9 undef=(d (some ⟨b9,o9,none⟩) L.length c9):=(fr hfar 9).trans rfl
      have e10:a'.tmps.getD 10 undef=(a z (t:Int)):=(fr hfar 10).trans rfl
      have hi8:=i_11 hi
      clear hfar hX hi
      rcases hi8 with rfl|rfl|rfl|rfl|rfl|rfl|rfl|rfl|rfl|rfl|rfl|rfl
      all_goals (simp at ho;subst ho)
      ·have y0:=(HF.out.below hW).c0 0 rfl
       have y1:=(HF.out.below hW).c0 1 rfl;have y2:=(HF.out.below hW).c0 2 rfl;have y3:=(HF.out.below hW).c0 3 rfl
       refine il ?_;simp only[execOp,Act.eval,e3];go_simp
      ·refine il ?_;simp only[execOp,Act.eval,e1];go_simp
      ·refine il ?_;simp only[execOp,Act.eval,e8];go_simp
      ·have d1:a'.tmps.getD 34 undef=_:=dp hdep 1
       have d2:a'.tmps.getD 35 undef=_:=dp hdep 2
       refine il ?_;simp only[execOp,Act.eval,d1,d2];go_simp;first|done|(intro hq9;exfalso;omega)
      ·have d1:a'.tmps.getD 36 undef=_:=dp hdep 3
       refine il ?_;simp only[execOp,Act.eval,d1];go_simp
      ·have d1:a'.tmps.getD 37 undef=_:=dp hdep 4
       have y0:=(Frm.of_below hW).cell' HY1.out id;have y1:=(Frm.of_below hW).cell' HY2.out id
       refine il ?_;simp only[execOp,Act.eval,d1];go_simp
      ·refine il ?_;simp only[execOp,Act.eval,e9];go_simp
      ·refine il ?_;simp only[execOp,Act.eval,e10];go_simp
      ·have d1:a'.tmps.getD 39 undef=_:=dp hdep 6
       have d2:a'.tmps.getD 40 undef=_:=dp hdep 7
       refine il ?_;simp only[execOp,Act.eval,d1,d2];go_simp;first|done|(intro hq9;exfalso;omega)
      ·have d1:a'.tmps.getD 41 undef=_:=dp hdep 8
       have y0:=(Frm.of_below hW).cell' HX0.out id;have y1:=(Frm.of_below hW).cell' HX1.out id;have y2:=(Frm.of_below hW).cell' HX2.out id;have y3:=(Frm.of_below hW).cell' HX3.out id
       refine il ?_;simp only[execOp,Act.eval,d1];go_simp
      ·have d1:a'.tmps.getD 33 undef=_:=dp hdep 0
       have d2:a'.tmps.getD 38 undef=_:=dp hdep 5
       have d3:a'.tmps.getD 42 undef=_:=dp hdep 9
       refine .inr ⟨227,#[(D #[a z (P:Int),a z c,a z (h:Int),a z s]),(D #[d A1 n1 c1,d A2 n2 c2]),(D #[a z (ss:Int),a z sd,a z (die:Int),I sh])],by simp only[execOp,Act.eval,d1,d2,d3];go_simp,?_⟩
       refine(CAS2.out W (HF.out.below hW).b).mono ?_
       rintro e W' ⟨ga,k1,gb,k2,rfl,hg1,hg2,_,hb'⟩
       exact⟨_,rfl,hb',trivial,ga,k1,gb,k2,rfl,aH hg1 (Below.size hW),aH hg2 (Below.size hW)⟩
      ·exact .inl ⟨B (some ⟨W.heap.size,0,none⟩),W.alloc (F #[d none 0 0,d none 0 0] 35),by kernel_rfl,Bel.alloc _ _,trivial,jv _ _ _ (Below.size hW)⟩
     intro v w3 hW hIW hg
     have g0:v 0=_:=gq hg 0
     have g1:v 1=_:=gq hg 1
     have g2:v 2=_:=gq hg 2
     have g3:v 3=_:=gq hg 3
     have g4:v 4=_:=gq hg 4
     have g5:v 5=_:=gq hg 5
     have g6:v 6=_:=gq hg 6
     have g7:v 7=_:=gq hg 7
     have g8:v 8=_:=gq hg 8
     have g9:v 9=_:=gq hg 9
     obtain⟨ga,k1,gb,k2,g10,hg1,hg2⟩:BdQ wr.heap.size nx (v 10) w3:=hg 10 (by omega)
     obtain⟨gx,g11,glgx,hAx,htyx⟩:AlcD wr.heap.size 35 [d none 0 0,d none 0 0] (v 11) w3:=hg 11 (by omega)
     simp only[List.drop_succ_cons,List.drop_zero,putV,dsN9,g0,g1,g2,g3,g4,g5,g6,g7,g8,g9,g10,g11,Act.put]
     clear g0 g1 g2 g3 g4 g5 g6 g7 g8 g9 g10 g11 hg hIW;have HB3:=h_ hW
     have N1:=own_ne hg1 htyx (by decide)
     have N2:=own_ne hg2 htyx (by decide)
     have a0:=hAx.cell 0 _ rfl;have a1:=hAx.cell 1 _ rfl;have f0:=hAx.froz 0 _ rfl;have f1:=hAx.froz 1 _ rfl;have hgx9:ga≠gx/\gb≠gx:=⟨N1 ga rfl,N2 gb rfl⟩;have HG1:=h_ hg1;have HG2:=h_ hg2;have HVY:=h_ HO.out.lt;have HAX:=h_ hAx;clear hg1 hg2 hAx htyx N1 N2 hW HY1 HY2 CAS2 HF
     go_wp2_with (fail)
     obtain⟨V,hV⟩:∃V,V=(w3.setCell ⟨gx,0,none⟩ (d (some ⟨ga,0,none⟩) nx.1.length k1)).setCell ⟨gx,1,none⟩ (d (some ⟨gb,0,none⟩) nx.2.length k2):=⟨_,rfl⟩;rw[<-hV]
     have HBV:Hid (Below wr.heap.size wr V):=by rw[hV];exact stw (stw HB3.out (by omega)) (by omega)
     have HCV:Hid (Cel V gx [(d (some ⟨ga,0,none⟩) nx.1.length k1),(d (some ⟨gb,0,none⟩) nx.2.length k2)]):=by rw[hV];exact(HAX.out.st (i:=0) (v:=(d (some ⟨ga,0,none⟩) nx.1.length k1)) (by simp)).st (i:=1) (v:=(d (some ⟨gb,0,none⟩) nx.2.length k2)) (by simp)
     have HGV1:Hid (OwnS V wr.heap.size 2 (d (some ⟨ga,0,none⟩) nx.1.length k1) nx.1):=by rw[hV];exact OwnS.apart (OwnS.apart HG1.out (ob_ne hgx9.1) _) (ob_ne hgx9.1) _
     have HGV2:Hid (OwnS V wr.heap.size 2 (d (some ⟨gb,0,none⟩) nx.2.length k2) nx.2):=by rw[hV];exact OwnS.apart (OwnS.apart HG2.out (ob_ne hgx9.2) _) (ob_ne hgx9.2) _
     have hzV:wr.heap.size<=V.heap.size:=HBV.out.size;clear hV HAX HG1 HG2 a0 a1 f0 f1 HB3 hgx9
     have HKL:Hid ((nextI P (own,other) OUT (L.take t)).length<=1001000):=by
      have h1:=gV (p:=P) (b:=(own,other)) (l:=L.take t) (out:=OUT)
      have h2:(L.take t).length<=L.length:=by rw[List.length_take];omega
      have:=HOL.out
      unfold Hid;omega
     have CF:Hid (Calls Tryz.prog 191 #[vy,D #[(d (some ⟨ga,0,none⟩) nx.1.length k1),(d (some ⟨gb,0,none⟩) nx.2.length k2)]] V (RetFi V (nextI P (own,other) OUT (L.take t)) nx)):=by
      obtain⟨Ay,cy,hvy,hpy,-⟩:=(HO.out.below HBV.out).read;rw[hvy]
      exact j6 _ (m+1) Ay (some ⟨ga,0,none⟩) (some ⟨gb,0,none⟩) _ cy nx.1.length k1 nx.2.length k2 _ nx.1 nx.2 V hpy (HGV1.out.sl rfl).1 (HGV2.out.sl rfl).1 (fun x hx=>⟨by rw[(HNS.out x hx).len1,HAS.out.len1],by rw[(HNS.out x hx).len2,HAS.out.len2]⟩) (by rw[HAS.out.len1];omega) (by rw[HAS.out.len2];omega) (by have:=HKL.out;omega)
     refine CF.out.mono ?_
     rintro e w4 ⟨r,rfl,hr1,hr2,hr3,hb4⟩
     have HB4:Hid (Below wr.heap.size wr w4):=HBV.out.trans (hb4.mono hzV);have HO4:=h_ (HO.out.below HB4.out)
     have HFX4:Hid (Frm (fun k=>w.heap.size+1<=k/\k<wo.heap.size) w2 w4):=HFX.out.trans (Frm.of_below' _ HB4.out)
     by_cases hin2:nx∈nextI P (own,other) OUT (L.take t)
     ·have HE:Hid (nextI P (own,other) OUT (L.take (t+1))=nextI P (own,other) OUT (L.take t)):=by unfold Hid;rw[HNI.out,mK hin2]
      have hr:¬r<0:=fun h=>hr3.1 h hin2
      clear hin2 hr3 CF hb4 HBV HCV HGV1 HGV2 HO HFX HNI
      go_wp2_with (fail)
      exact⟨⟨t+1,by omega,by go_num,⟨vy,rfl,by rw[HE.out];exact HO4.out⟩,HFX4.out⟩,by simp[intOf];omega⟩
     ·have HE:Hid (nextI P (own,other) OUT (L.take (t+1))=nextI P (own,other) OUT (L.take t)++[nx]):=by unfold Hid;rw[HNI.out,jw hin2]
      have hr:r<0:=hr3.2 hin2;have HBw4:Hid (Below w.heap.size w w4):=HBi.out.trans (HB4.out.mono HBi.out.size);have HY0w:=h_ ((Frm.of_below HBw4.out).cell' HYY.out.1 id);have HX0w:=h_ ((Frm.of_below HB4.out).cell' HX0.out id);have HX1w:=h_ ((Frm.of_below HB4.out).cell' HX1.out id);have HX2w:=h_ ((Frm.of_below HB4.out).cell' HX2.out id);have HX3w:=h_ ((Frm.of_below HB4.out).cell' HX3.out id);have HCw:=h_ (HCV.out.below hb4);have HG1:Hid (OwnS w4 wr.heap.size 2 (d (some ⟨ga,0,none⟩) nx.1.length k1) nx.1):=own_below HGV1.out hb4;have HG2:Hid (OwnS w4 wr.heap.size 2 (d (some ⟨gb,0,none⟩) nx.2.length k2) nx.2):=own_below HGV2.out hb4;have hz4:V.heap.size<=w4.heap.size:=hb4.size;clear hin2 hr3 CF hb4 HBV HCV HGV1 HGV2 HO HFX HNI HX0 HX1 HX2 HX3 HB4
      go_wp2_with (fail)
      clear hr
      refine gC 17 (fun _=>false) (fun i=>i+48) (JK w4 242 (appH vy (d (some ⟨b,off,none⟩) n cp) (a z (q:Int)) (B (some ⟨b,off+q*3,none⟩)) (B (some ⟨b,off+q*3,none⟩)) (d A0 n0 c0) (d (some ⟨b9,o9,none⟩) L.length c9) (a z (t:Int)) (B (some ⟨b9,o9+t*4,none⟩)) (D #[a z (ss:Int),a z sd,a z (die:Int),I sh]) (D #[d (some ⟨ga,0,none⟩) nx.1.length k1,d (some ⟨gb,0,none⟩) nx.2.length k2])) vs [a z (ss:Int),a z sd,a z (die:Int),I sh] n0 (d (some ⟨ga,0,none⟩) nx.1.length k1) (d (some ⟨gb,0,none⟩) nx.2.length k2)) (by kernel_rfl) (by kernel_rfl) (fun _ _ _ _ _ h=>h) (fun vs'=>JK.start _ _ _ _ _ _ _ _ _) (fun i o' _ hX=>by cases hX) ?_ ?_
      ·intro i o hi9 _ ho L9 a' W HJ hLi hfar hdep
       have e1:a'.tmps.getD 1 undef=(d (some ⟨b,off,none⟩) n cp):=(hfar 1 (fun j _=>by omega)).trans rfl
       have e7:a'.tmps.getD 7 undef=vy:=(hfar 7 (fun j _=>by omega)).trans rfl
       have e8:a'.tmps.getD 8 undef=(a z (q:Int)):=(hfar 8 (fun j _=>by omega)).trans rfl
       have e9:a'.tmps.getD 9 undef=(d (some ⟨b9,o9,none⟩) L.length c9):=(hfar 9 (fun j _=>by omega)).trans rfl
       have e10:a'.tmps.getD 10 undef=(a z (t:Int)):=(hfar 10 (fun j _=>by omega)).trans rfl
       have e11:a'.tmps.getD 11 undef=(B (some ⟨gx,0,none⟩)):=(hfar 11 (fun j _=>by omega)).trans rfl
       have hi8:=i_16 hi9
       clear hfar
       rcases hi8 with rfl|rfl|rfl|rfl|rfl|rfl|rfl|rfl|rfl|rfl|rfl|rfl|rfl|rfl|rfl|rfl|rfl
       all_goals (simp at ho;subst ho)
       ·exact .inl ⟨vy,W,by simp only[execOp,Act.eval,e7];go_simp,fun L2 v2 hu=>HJ.pure hu (by omega) (fun y hy=>by simp only[appH]at hy;injection hy)⟩
       ·have hq9:=World.ownsRow_lit W #[] 0 (base:=w4.heap.size) (e:=242) (size:=4) HJ.h.b.size (by decide) (by simp)
        exact .inl ⟨d (some ⟨W.heap.size,0,none⟩) 0 0,W.alloc (F #[] 242),by simp only[execOp,Act.eval];go_simp,fun L2 v2 hu=>HJ.low hu (by omega) (HJ.h.no10 (.inl (HJ.h.no7 hLi))) (HJ.h.make hu hLi rfl hq9 (World.grownBy_alloc W _ none) rfl)⟩
       ·exact .inl ⟨(d (some ⟨b,off,none⟩) n cp),W,by simp only[execOp,Act.eval,e1];go_simp,fun L2 v2 hu=>HJ.pure hu (by omega) (fun y hy=>by simp only[appH]at hy;injection hy)⟩
       ·exact .inl ⟨(a z (q:Int)),W,by simp only[execOp,Act.eval,e8];go_simp,fun L2 v2 hu=>HJ.pure hu (by omega) (fun y hy=>by simp only[appH]at hy;injection hy)⟩
       ·have l2:L9 2=true:=dp hdep 2
        have l3:L9 3=true:=dp hdep 3
        have d2:a'.tmps.getD 50 undef=(d (some ⟨b,off,none⟩) n cp):=HJ.h.k 2 (by omega) l2 _ rfl
        have d3:a'.tmps.getD 51 undef=(a z (q:Int)):=HJ.h.k 3 (by omega) l3 _ rfl
        exact .inl ⟨(B (some ⟨b,off+q*3,none⟩)),W,by simp only[execOp,Act.eval,d2,d3];go_simp;first|done|(intro hq9;exfalso;omega),fun L2 v2 hu=>HJ.pure hu (by omega) (fun y hy=>by simp only[appH]at hy;injection hy)⟩
       ·have l4:L9 4=true:=dp hdep 4
        have d4:a'.tmps.getD 52 undef=(B (some ⟨b,off+q*3,none⟩)):=HJ.h.k 4 (by omega) l4 _ rfl
        exact .inl ⟨(B (some ⟨b,off+q*3,none⟩)),W,by simp only[execOp,Act.eval,d4];go_simp,fun L2 v2 hu=>HJ.pure hu (by omega) (fun y hy=>by simp only[appH]at hy;injection hy)⟩
       ·have l5:L9 5=true:=dp hdep 5
        have d5:a'.tmps.getD 53 undef=(B (some ⟨b,off+q*3,none⟩)):=HJ.h.k 5 (by omega) l5 _ rfl
        have y0:=(Frm.of_below HJ.h.b).cell' HY0w.out id
        exact .inl ⟨(d A0 n0 c0),W,by simp only[execOp,Act.eval,d5];go_simp,fun L2 v2 hu=>HJ.pure hu (by omega) (fun y hy=>by simp only[appH]at hy;injection hy)⟩
       ·have l1:L9 1=true:=dp hdep 1
        have l6:L9 6=true:=dp hdep 6
        have d6:a'.tmps.getD 54 undef=(d A0 n0 c0):=HJ.h.k 6 (by omega) l6 _ rfl
        have h7:L9 7=false:=hLi;have hr4:W.ownsRow w4.heap.size 242 4 (a'.tmps.getD 49 undef) 0 []:=HJ.h.r4 l1 h7
        obtain⟨v',W',hrun,hown,hgr,hat⟩:=cU (P:=Tryz.prog) W w4.heap.size 83 83 242 i0 (D #[a z 0,a z 0,a z 0,I false]) 4 32 Tryz.underlying83 hi iz0 iz1 iz2 rfl (by decide) _ 0 [] hr4 (fun _=>False) A0 n0 c0 vs ((HQS.out.1.frm (Frm.of_below (HBw4.out.trans (HJ.h.b.mono HBw4.out.size))))) HQS.out.2.2 (by unfold maxLen;omega) (by omega) HJ.h.b.size
        rw[Nat.zero_add,List.nil_append]at hown
        exact .inl ⟨v',W',by simp only[execOp,Act.eval,d6,resolve,invoke,builtin,Sem.run_bind,Sem.run_pure,Result.andThen_ok,List.map_toArray,List.map_cons,List.map_nil,hrun],fun L2 v2 hu=>HJ.low hu (by omega) (HJ.h.no10 (.inl h7)) (HJ.h.app1 hu h7 l1 rfl hown hgr hat)⟩
       ·exact .inl ⟨(d (some ⟨b9,o9,none⟩) L.length c9),W,by simp only[execOp,Act.eval,e9];go_simp,fun L2 v2 hu=>HJ.pure hu (by omega) (fun y hy=>by simp only[appH]at hy;injection hy)⟩
       ·exact .inl ⟨(a z (t:Int)),W,by simp only[execOp,Act.eval,e10];go_simp,fun L2 v2 hu=>HJ.pure hu (by omega) (fun y hy=>by simp only[appH]at hy;injection hy)⟩
       ·have l8:L9 8=true:=dp hdep 8
        have l9:L9 9=true:=dp hdep 9
        have d8:a'.tmps.getD 56 undef=(d (some ⟨b9,o9,none⟩) L.length c9):=HJ.h.k 8 (by omega) l8 _ rfl
        have d9:a'.tmps.getD 57 undef=(a z (t:Int)):=HJ.h.k 9 (by omega) l9 _ rfl
        exact .inl ⟨(B (some ⟨b9,o9+t*4,none⟩)),W,by simp only[execOp,Act.eval,d8,d9];go_simp;first|done|(intro hq9;exfalso;omega),fun L2 v2 hu=>HJ.pure hu (by omega) (fun y hy=>by simp only[appH]at hy;injection hy)⟩
       ·have l10:L9 10=true:=dp hdep 10
        have d10:a'.tmps.getD 58 undef=(B (some ⟨b9,o9+t*4,none⟩)):=HJ.h.k 10 (by omega) l10 _ rfl
        have y0:=(Frm.of_below HJ.h.b).cell' HX0w.out id;have y1:=(Frm.of_below HJ.h.b).cell' HX1w.out id;have y2:=(Frm.of_below HJ.h.b).cell' HX2w.out id;have y3:=(Frm.of_below HJ.h.b).cell' HX3w.out id
        exact .inl ⟨(D #[a z (ss:Int),a z sd,a z (die:Int),I sh]),W,by simp only[execOp,Act.eval,d10];go_simp,fun L2 v2 hu=>HJ.pure hu (by omega) (fun y hy=>by simp only[appH]at hy;injection hy)⟩
       ·have l11:L9 11=true:=dp hdep 11
        have d11:a'.tmps.getD 59 undef=(D #[a z (ss:Int),a z sd,a z (die:Int),I sh]):=HJ.h.k 11 (by omega) l11 _ rfl
        have d11':=d11;rw[Array.getD_eq_getD_getElem?]at d11'
        exact .inl ⟨d (some ⟨W.heap.size,0,none⟩) 1 1,W.alloc (F #[a z (ss:Int),a z sd,a z (die:Int),I sh] 242),by simp only[execOp,Act.eval,d11];go_simp,fun L2 v2 hu=>HJ.low hu (by omega) (HJ.h.no10 (.inr hLi)) (HJ.h.bsl hu hLi rfl _)⟩
       ·have l7:L9 7=true:=dp hdep 7
        have l12:L9 12=true:=dp hdep 12
        have h10:L9 13=false:=hLi;have hr7:W.ownsRow w4.heap.size 242 4 (a'.tmps.getD 55 undef) n0 vs:=HJ.h.r7 l7 h10;obtain⟨g,d12,-,hg2',hg3',_,_⟩:=HJ.h.s9 l12 h10;replace d12:a'.tmps.getD 60 undef=d (some ⟨g,0,none⟩) 1 1:=d12
        obtain⟨v',W',hrun,hown,hgr,-⟩:=cU (P:=Tryz.prog) W w4.heap.size 83 83 242 i0 (D #[a z 0,a z 0,a z 0,I false]) 4 32 Tryz.underlying83 hi iz0 iz1 iz2 rfl (by decide) _ n0 vs hr7 (fun _=>False) (some ⟨g,0,none⟩) 1 1 [a z (ss:Int),a z sd,a z (die:Int),I sh] ⟨rfl,fun _=>⟨g,0,rfl,hg2',id,hg3'⟩⟩ (fun u hu=>by simp at hu;rcases hu with rfl|rfl|rfl|rfl<;>rfl) (by unfold maxLen;omega) (by omega) HJ.h.b.size
        exact .inl ⟨v',W',by simp only[execOp,Act.eval,d12,resolve,invoke,builtin,Sem.run_bind,Sem.run_pure,Result.andThen_ok,List.map_toArray,List.map_cons,List.map_nil,hrun],fun L2 v2 hu=>HJ.low hu (by omega) h10 (HJ.h.app2 hu h10 l7 l12 rfl hown hgr)⟩
       ·have y0:=(HCw.out.below HJ.h.b).cell 0 _ rfl
        have y1:=(HCw.out.below HJ.h.b).cell 1 _ rfl
        exact .inl ⟨(D #[d (some ⟨ga,0,none⟩) nx.1.length k1,d (some ⟨gb,0,none⟩) nx.2.length k2]),W,by simp only[execOp,Act.eval,e11];go_simp,fun L2 v2 hu=>HJ.pure hu (by omega) (fun y hy=>by simp only[appH]at hy;injection hy)⟩
       ·have l13:L9 13=true:=dp hdep 13
        have l14:L9 14=true:=dp hdep 14
        have d14:a'.tmps.getD 62 undef=(D #[d (some ⟨ga,0,none⟩) nx.1.length k1,d (some ⟨gb,0,none⟩) nx.2.length k2]):=HJ.h.k 14 (by omega) l14 _ rfl
        have hr10:W.ownsRow w4.heap.size 242 4 (a'.tmps.getD 61 undef) (n0+1) _:=HJ.h.r10 l13
        obtain⟨Az,cz,d13,_,_⟩:=bp (S:=fun _=>False) hr10 (fun _ _ h=>h) (by omega)
        have d13':=d13;rw[Array.getD_eq_getD_getElem?]at d13';have d14':=d14;rw[Array.getD_eq_getD_getElem?]at d14'
        exact .inl ⟨D #[d Az (n0+1) cz,(d (some ⟨ga,0,none⟩) nx.1.length k1),(d (some ⟨gb,0,none⟩) nx.2.length k2)],W,by simp only[execOp,Act.eval,d13,d14];go_simp,fun L2 v2 hu=>HJ.b15 hu rfl (by show _=Value.agg #[a'.tmps.getD 61 undef,_,_];rw[d13]) l13 hLi⟩
       ·have l15:L9 15=true:=dp hdep 15
        have l13:L9 13=true:=HJ.w15 l15;have hr10:W.ownsRow w4.heap.size 242 4 (a'.tmps.getD 61 undef) (n0+1) _:=HJ.h.r10 l13
        obtain⟨Az,cz,d13,_,_⟩:=bp (S:=fun _=>False) hr10 (fun _ _ h=>h) (by omega)
        have d15:a'.tmps.getD 63 undef=D #[a'.tmps.getD 61 undef,(d (some ⟨ga,0,none⟩) nx.1.length k1),(d (some ⟨gb,0,none⟩) nx.2.length k2)]:=HJ.e15 l15;rw[d13]at d15;have d15':=d15;rw[Array.getD_eq_getD_getElem?]at d15'
        exact .inl ⟨d (some ⟨W.heap.size,0,none⟩) 1 1,W.alloc (F #[d Az (n0+1) cz,(d (some ⟨ga,0,none⟩) nx.1.length k1),(d (some ⟨gb,0,none⟩) nx.2.length k2)] 85),by simp only[execOp,Act.eval,d15];go_simp,fun L2 v2 hu=>(by have h9:JK _ _ _ _ _ _ _ _ L2 v2 (W.alloc (F #[a'.tmps.getD 61 undef,(d (some ⟨ga,0,none⟩) nx.1.length k1),(d (some ⟨gb,0,none⟩) nx.2.length k2)] 85)):=HJ.b16 hu rfl l15 85;rw[d13]at h9;exact h9)⟩
      ·intro L9 v W hall HJ
       have hr:=HJ.h.r10 (hall 13 (by omega))
       have hv0:v 0=vy:=HJ.h.k 0 (by omega) (hall 0 (by omega)) _ rfl
       obtain⟨gp,hv16,-,hCp⟩:=HJ.s16 (hall 16 (by omega))
       have HBJ:=h_ HJ.h.b;have hzW:w4.heap.size<=W.heap.size:=HBJ.out.size
       have hfar:∀k,w2.heap.size<=k->wr.heap.size<=k->¬wth (fun k=>k<w.heap.size+1\/(wo.heap.size<=k/\k<w2.heap.size)) vy k:=fun k h1 h2 h3=>by
        rcases h3 with h3|h3
        ·rcases h3 with h3|h3<;>omega
        ·have:=(HVY.out k h3).2.1;omega
       obtain⟨Az,cz,hvz,hrz,hcz⟩:=bp (S:=wth (fun k=>k<w.heap.size+1\/(wo.heap.size<=k/\k<w2.heap.size)) vy) hr (fun k hk=>by have:=(World.ownsRow.lt hr k hk).1;exact hfar k (by omega) (by omega)) (by omega)
       rw[hvz]at hCp hr
       simp only[List.drop_succ_cons,List.drop_zero,putV,hv0,hv16,Act.put,List.setIfInBounds_toArray,List.set_cons_zero,List.set_cons_succ]
       clear hvz hv0 hv16 hall HJ;obtain⟨cs,hrow,hpe,hnb⟩:=HO4.out.below HBJ.out;have HROW:=h_ hrow;have HPV:=h_ hpe
       have HPE:Hid (PEs (wth (fun k=>k<w.heap.size+1\/(wo.heap.size<=k/\k<w2.heap.size)) vy) W (m+1) [d Az (n0+1) cz,(d (some ⟨ga,0,none⟩) nx.1.length k1),(d (some ⟨gb,0,none⟩) nx.2.length k2)] [nx]):=by
        refine PEs.one ⟨⟨Az,n0+1,cz,_,rfl,hrz,hcz,by have:=HQS.out.2.1;omega,fun x hx=>?_⟩,PV.own (own_below HG1.out HBJ.out) (fun k hk=>hfar k (by omega) (by omega)),PV.own (own_below HG2.out HBJ.out) (fun k hk=>hfar k (by omega) (by omega))⟩
        rcases List.mem_append.1 hx with h9|h9
        ·exact HQS.out.2.2 x h9
        ·simp at h9;rcases h9 with rfl|rfl|rfl|rfl<;>rfl
       have HNB:=h_ hnb
       have HNW:Hid (∀j u,[d Az (n0+1) cz,(d (some ⟨ga,0,none⟩) nx.1.length k1),(d (some ⟨gb,0,none⟩) nx.2.length k2)][j]? =some u->W.cell? ((⟨gp,0,none⟩:Addr).add j)=some u):=fun j u hj=>by
        have h9:=hCp.cell j u hj;unfold Addr.add
        split
        ·rename_i h0;rw[h0]at h9;exact h9
        ·rw[Nat.zero_add];exact h9
       have HFXW:Hid (Frm (fun k=>w.heap.size+1<=k/\k<wo.heap.size) w2 W):=HFX4.out.trans (Frm.of_below' _ HBJ.out)
       have hzb:w.heap.size+1<=W.heap.size:=by omega
       clear hr hrz hrow hpe hnb hfar hCp HO4 HFX4 hcz
       go_wp2_with (at_builtin;(refine wpList_append_own_at _ rfl _ _ 79 rfl (w.heap.size+1) 85 j0 (D #[d none 0 0,d none 0 0,d none 0 0]) 3 72 Tryz.underlying79 hj jz0 jz1 jz2 rfl (by decide) _ _ _ rfl HROW.out ⟨gp,0,none⟩ 1 1 [d Az (n0+1) cz,(d (some ⟨ga,0,none⟩) nx.1.length k1),(d (some ⟨gb,0,none⟩) nx.2.length k2)] rfl rfl HNW.out (fun u hu=>by simp at hu;rcases hu with rfl|rfl|rfl<;>rfl) (by have:=HKL.out;unfold maxLen;omega) (by have:=HKL.out;omega) hzb ?_);intro v' w6 hown hgrow _ hat)
       have HO6:Hid (OPl (fun k=>k<w.heap.size+1\/(wo.heap.size<=k/\k<w2.heap.size)) w6 (m+1) (w.heap.size+1) 85 v' (nextI P (own,other) OUT (L.take (t+1)))):=by
        unfold Hid;rw[HE.out]
        refine OPl.grew2 HPV.out HPE.out hown rfl hgrow hat HNB.out (fun h9=>?_)
        rcases h9 with h9|h9<;>omega
       have HFX6:Hid (Frm (fun k=>w.heap.size+1<=k/\k<wo.heap.size) w2 w6):=HFXW.out.outs' (Frm.of_grown hgrow) (fun k hk=>by
        obtain⟨q1,q2,q3⟩:=HVY.out k hk.symm
        have q4:¬(wo.heap.size<=k/\k<w2.heap.size):=fun h9=>q3 (.inr h9)
        omega)
       clear hown hgrow hat HNW HNB HPE HPV HROW HFXW
       exact⟨⟨t+1,by omega,by go_num,⟨v',rfl,HO6⟩,HFX6⟩,by simp[intOf];omega⟩
    ·have hge:¬(t:Int)<(L.length:Int):=by omega
     have HEK:Hid (nextI P (own,other) OUT (L.take t)=nextF P h die [] (bs.take (q+1))):=by
      unfold Hid
      rw[HNF.out,List.take_of_length_le (by omega)]
     have HO7:Hid (OPl (fun k=>k<w.heap.size+1) wr (m+1) (w.heap.size+1) 85 vy (nextF P h die [] (bs.take (q+1)))):=by
      unfold Hid;rw[<-HEK.out]
      exact HO.out.set fun k hk=>.inl hk
     have HZ7:Hid (w.heap.size+2<=wr.heap.size):=by unfold Hid;omega
     clear HO HEK HNF
     go_wp2_with (fail)
     exact⟨⟨q+1,by omega,by go_num,⟨vy,rfl,HO7⟩,HZ7,HF⟩,by simp[intOf];omega⟩
  ·have hge:¬(q:Int)<(n:Int):=by omega
   have HE:Hid (nextF P h die [] (bs.take q)=nextB P h die bs):=by
    unfold Hid
    rw[List.take_of_length_le (by rw[HLN.out];omega)];rfl
   have HR:Hid (RetPl w (m+1) (nextB P h die bs) (.returned vx) wr):=by
    rw[<-HE.out]
    obtain⟨A9,c9,hv9,hp9,hc9⟩:=(HO.out.set (S':=fun k=>k<w.heap.size) (fun k hk=>by show k<_;have:k<w.heap.size:=hk;omega)).read
    exact⟨A9,c9,by rw[hv9],hp9,hc9,HF.out.b⟩
   clear HE HO
   go_wp2_with (fail)
   go_ret
   exact HR.out
end Go.Proofs.YtcmeoenkgmghkaaGreat

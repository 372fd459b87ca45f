/- Part of one proof. There are no conditions. -/
import Derived.Test.YtcmeoenkgmghkaaGreatPY19
import Derived.Deep.CutRange
set_option maxHeartbeats 0
set_option linter.unusedVariables false
set_option linter.unusedSimpArgs false
set_option maxRecDepth 100000
open Go.Value renaming int->n,slice->D,agg->J,pointer->K,bool->O,tuple->U
open Go.IntKind renaming i64->F
open Go.Obj renaming cells->I
open Go.Ending renaming returned->R
namespace Go.Proofs.YtcmeoenkgmghkaaGreat
open Go.RowKit Pl Ps
def SlE:RP:=fun v _=>∃g,v=D (some ⟨g,0,none⟩) 0 0
theorem stb_slE:Stb SlE:=fun _ _ _ h _=>h
def BdR(lo:Nat)(b:Bd):RP:=fun v W=>∃A k B q,v=J #[D A b.1.length k,D B b.2.length q]/\OwnS W lo 2 (D A b.1.length k) b.1/\OwnS W lo 2 (D B b.2.length q) b.2
theorem stb_bdR(lo:Nat)(b:Bd):Stb (BdR lo b):=fun _ _ _ ⟨A,k,B,q,h1,h2,h3⟩ hb=>⟨A,k,B,q,h1,own_below h2 hb,own_below h3 hb⟩
def PyR(lo:Nat)(b:Bd):RP:=fun v W=>∃g A k B q,v=J #[D (some ⟨g,0,none⟩) 0 0,D A b.1.length k,D B b.2.length q]/\OwnS W lo 2 (D A b.1.length k) b.1/\OwnS W lo 2 (D B b.2.length q) b.2
theorem stb_pyR(lo:Nat)(b:Bd):Stb (PyR lo b):=fun _ _ _ ⟨g,A,k,B,q,h1,h2,h3⟩ hb=>⟨g,A,k,B,q,h1,own_below h2 hb,own_below h3 hb⟩
theorem PyR.made{lo:Nat}{own other:List Int}{A3 A6:Option Addr}{k3 k6:Nat}(ge:Nat)(W:World)(h3:OwnS W lo 2 (D A3 own.length k3) own)(h6:OwnS W lo 2 (D A6 other.length k6) other)(hlo:lo<=W.heap.size):
  PlQ lo 0 [(own,other)] (D (some ⟨W.heap.size,0,none⟩) 1 1) (W.alloc (I #[D (some ⟨ge,0,none⟩) 0 0,D A3 own.length k3,D A6 other.length k6] 85)):=by
 have q1:=OPl.made (S:=fun k=>k<lo) (m:=0) (base:=lo) (e:=85) (cs:=[D (some ⟨ge,0,none⟩) 0 0,D A3 own.length k3,D A6 other.length k6]) (bs:=[(own,other)]) W hlo (fun k hk h9=>by have h9:k<lo:=h9;omega)
  (PEs.one ⟨⟨some ⟨ge,0,none⟩,0,0,[],rfl,⟨rfl,fun h=>absurd h (by omega)⟩,Nat.le_refl _,Nat.le_refl _,fun _ h=>by cases h⟩,PV.own h3 (fun k hk h9=>by have h9:k<lo:=h9;omega),PV.own h6 (fun k hk h9=>by have h9:k<lo:=h9;omega)⟩) (by simp[maxLen])
 obtain⟨A8,c8,hv8,hp8,hc8⟩:=q1.read
 exact⟨A8,c8,hv8,hp8,hc8⟩
def RetLg(w:World)(m:Nat)(row:List Bd)(k:Nat)(fl:Bool)(e:Ending)(w':World):Prop:=∃A c,e=R (U #[D A row.length c,n F (k:Int),O fl])/\PLs (fun k=>k<w.heap.size) w' m A row.length row/\row.length<=c/\Below w.heap.size w w'
def dsL1:Nat->Nat
 | 0=>13
 | 1=>14
 | 2=>15
 | 3=>16
 | 4=>17
 | 5=>18
 | 6=>19
 | 7=>20
 | 8=>21
 | 9=>22
 |_=>0
def dsL6:Nat->Nat
 | 0=>29
 | 1=>30
 | 2=>31
 | 3=>32
 | 4=>33
 | 5=>34
 | 6=>35
 |_=>0
theorem fU(P h C:Nat)(c s:Int)(A1 A2 Ao:Option Addr)(n1 c1 n2 c2 no co:Nat)(own other:List Int)(ds:List Nat)(w:World)(h1:SL w A1 n1 own)(h2:SL w A2 n2 other)(hb:Sd P C (own,other))(hC:C<=255)(hP:P<=24)(hh:h<=1000)
  (ho:SL w Ao no (ds.map (Nat.cast:Nat->Int))) (hd:∀d∈ds,1<=d/\d<=1000) (hl4:ds.length<=4):
  Calls Tryz.prog 190 #[(J #[n F (P:Int),n F c,n F (h:Int),n F s]),J #[D A1 n1 c1,D A2 n2 c2],D Ao no co] w (RetLg w 4 (longP P h [(own,other)] ds).1 (longP P h [(own,other)] ds).2 (fineP P h [(own,other)] ds)):=by
 have hno:ds.length=no:=by have:=ho.1;simpa using this
 have HDS:Hid (∀j,j<no->1<=ds.getD j 0/\ds.getD j 0<=1000):=fun j hj=>hd _ (ak ds 0 (by omega))
 have HDC:Hid (∀j,(ds.map (Nat.cast:Nat->Int)).getD j 0=((ds.getD j 0:Nat):Int)):=fun j=>by
  simp only[List.getD_eq_getElem?_getD,List.getElem?_map]
  cases ds[j]?<;>rfl
 have HDR:Hid (∀j,j<no->ds.drop j=ds.getD j 0::ds.drop (j+1)):=fun j hj=>dK 0 (by omega)
 have HOD:=h_ fun(W:World) (hw:Below w.heap.size w W)=>ho.below hw
 have e1:n1=P+1:=by rw[<-h1.1];exact hb.len1
 have e2:n2=P+1:=by rw[<-h2.1];exact hb.len2
 have HH1:=h_ fun(W:World) (hw:Below w.heap.size w W)=>h1.below hw
 have HH2:=h_ fun(W:World) (hw:Below w.heap.size w W)=>h2.below hw
 have hn1:0<n1/\n1<=1000:=by omega
 have hn2:0<n2/\n2<=1000:=by omega
 have HSB:=h_ hb
 have hno4:no<=4:=by omega
 have HEND:Hid (ds.drop no=[]):=by unfold Hid;rw[<-hno,List.drop_length]
 have HF:Hid (Fr w ((w.alloc (I #[n F (P:Int),n F c,n F (h:Int),n F s] 33)).alloc (I #[D A1 n1 c1,D A2 n2 c2] 35)) [[n F (P:Int),n F c,n F (h:Int),n F s],[D A1 n1 c1,D A2 n2 c2]]):=((Fr.start w).allocT (by simp) _ _).allocT (by simp) _ _
 have HSD0:Hid (∀b∈[(own,other)],Sd P C b):=fun b hb=>by rw[List.mem_singleton.1 hb];exact HSB.out
 have HGL:Hid ((longP P h [(own,other)] ds).1=(longP P h [(own,other)] (ds.drop 0)).1/\(longP P h [(own,other)] ds).2=(longP P h [(own,other)] (ds.drop 0)).2+0):=⟨rfl,rfl⟩;have HGF:Hid (fineP P h [(own,other)] ds=(true&&fineP P h [(own,other)] (ds.drop 0))):=rfl
 have hzs:((w.alloc (I #[n F (P:Int),n F c,n F (h:Int),n F s] 33)).alloc (I #[D A1 n1 c1,D A2 n2 c2] 35)).heap.size=w.heap.size+2:=by simp
 clear h1 h2 hb ho hd e1 e2 hno hl4;generalize (longP P h [(own,other)] ds).1=R1 at *;generalize (longP P h [(own,other)] ds).2=R2 at *;generalize fineP P h [(own,other)] ds=R3 at *
 go_enter Tryz.func190,Tryz.ntmps190
 go_wp2_with (fail)
 generalize ((w.alloc (I #[n F (P:Int),n F c,n F (h:Int),n F s] 33)).alloc (I #[D A1 n1 c1,D A2 n2 c2] 35))=V at *
 refine w_ 10 (fun _=>false) dsL1 [SlE,Eqv (K (some ⟨w.heap.size+1,0,none⟩)),Eqv (D A1 n1 c1),OwnQ V.heap.size own,Eqv (K (some ⟨w.heap.size+1,1,none⟩)),Eqv (D A2 n2 c2),OwnQ V.heap.size other,BdR V.heap.size (own,other),PyR V.heap.size (own,other),PlQ V.heap.size 0 [(own,other)]] (by repeat (first|exact AllStb.nil|refine AllStb.cons (by first|exact aY _|exact lL _ _|exact stb_slE|exact stb_bdR _ _|exact stb_pyR _ _|exact f9 _ _ _) ?_)) (fun i o' _ hX=>by cases hX) ?_ ?_
 ·intro i o hi hX ho a' W hW hIW hfar hdep
  have e4:a'.tmps.getD 4 undef=(K (some ⟨w.heap.size+1,0,none⟩)):=(fr hfar 4).trans rfl
  have hi8:=i_9 hi
  clear hfar hX hi
  rcases hi8 with rfl|rfl|rfl|rfl|rfl|rfl|rfl|rfl|rfl|rfl
  all_goals (simp at ho;subst ho)
  ·exact .inl ⟨D (some ⟨W.heap.size,0,none⟩) 0 0,W.alloc (I #[] 242),by simp only[execOp,Act.eval];go_simp,Bel.alloc _ _,trivial,_,rfl⟩
  ·refine il ?_;simp only[execOp,Act.eval,e4];go_simp
  ·have d1:a'.tmps.getD 14 undef=_:=dp hdep 1
   have y0:=(HF.out.below hW).c1 0 rfl
   refine il ?_;simp only[execOp,Act.eval,d1];go_simp
  ·have d1:a'.tmps.getD 15 undef=_:=dp hdep 2
   refine .inr ⟨173,#[(D A1 n1 c1)],by simp only[execOp,Act.eval,d1];go_simp,?_⟩
   refine(bS A1 n1 c1 own W (HH1.out W (HF.out.below hW).b) (by omega) (by omega)).mono ?_
   rintro e W' ⟨Aq,cq,rfl,hoq,hb'⟩
   exact⟨_,rfl,hb',trivial,Aq,cq,rfl,aH hoq (Below.size hW)⟩
  ·refine il ?_;simp only[execOp,Act.eval,e4];go_simp
  ·have d1:a'.tmps.getD 17 undef=_:=dp hdep 4
   have y0:=(HF.out.below hW).c1 1 rfl
   refine il ?_;simp only[execOp,Act.eval,d1];go_simp
  ·have d1:a'.tmps.getD 18 undef=_:=dp hdep 5
   refine .inr ⟨173,#[(D A2 n2 c2)],by simp only[execOp,Act.eval,d1];go_simp,?_⟩
   refine(bS A2 n2 c2 other W (HH2.out W (HF.out.below hW).b) (by omega) (by omega)).mono ?_
   rintro e W' ⟨Aq,cq,rfl,hoq,hb'⟩
   exact⟨_,rfl,hb',trivial,Aq,cq,rfl,aH hoq (Below.size hW)⟩
  ·obtain⟨A3,k3,q3,ho3⟩:OwnQ V.heap.size own (a'.tmps.getD 16 undef) W:=dp hdep 3
   have q3':=q3;rw[Array.getD_eq_getD_getElem?]at q3'
   obtain⟨A6,k6,q6,ho6⟩:OwnQ V.heap.size other (a'.tmps.getD 19 undef) W:=dp hdep 6
   have q6':=q6;rw[Array.getD_eq_getD_getElem?]at q6'
   exact .inl ⟨J #[D A3 own.length k3,D A6 other.length k6],W,by simp only[execOp,Act.eval,q3,q6];go_simp,Bel.rfl' _,trivial,A3,k3,A6,k6,rfl,ho3,ho6⟩
  ·obtain⟨ge,q0⟩:SlE (a'.tmps.getD 13 undef) W:=dp hdep 0
   have q0':=q0;rw[Array.getD_eq_getD_getElem?]at q0'
   obtain⟨A3,k3,A6,k6,q7,ho3,ho6⟩:BdR V.heap.size (own,other) (a'.tmps.getD 20 undef) W:=dp hdep 7
   have q7':=q7;rw[Array.getD_eq_getD_getElem?]at q7'
   simp only at q7 q7'
   exact .inl ⟨J #[D (some ⟨ge,0,none⟩) 0 0,D A3 own.length k3,D A6 other.length k6],W,by simp only[execOp,Act.eval,q0,q7];go_simp,Bel.rfl' _,trivial,ge,A3,k3,A6,k6,rfl,ho3,ho6⟩
  ·obtain⟨ge,A3,k3,A6,k6,q8,ho3,ho6⟩:PyR V.heap.size (own,other) (a'.tmps.getD 21 undef) W:=dp hdep 8
   have q8':=q8;rw[Array.getD_eq_getD_getElem?]at q8'
   simp only at q8 q8' ho3 ho6
   have hpy:=PyR.made ge W ho3 ho6 (Below.size hW)
   exact .inl ⟨D (some ⟨W.heap.size,0,none⟩) 1 1,W.alloc (I #[D (some ⟨ge,0,none⟩) 0 0,D A3 own.length k3,D A6 other.length k6] 85),by simp only[execOp,Act.eval,q8];go_simp,Bel.alloc _ _,trivial,hpy⟩
 intro v W2 hW hIW hg
 have g1:v 1=_:=gq hg 1
 have g2:v 2=_:=gq hg 2
 obtain⟨_,_,g3,_⟩:OwnQ V.heap.size own (v 3) W2:=hg 3 (by omega)
 have g4:v 4=_:=gq hg 4
 have g5:v 5=_:=gq hg 5
 obtain⟨_,_,g6,_⟩:OwnQ V.heap.size other (v 6) W2:=hg 6 (by omega)
 obtain⟨A9,k9,g9,hp9,hk9⟩:PlQ V.heap.size 0 [(own,other)] (v 9) W2:=hg 9 (by omega)
 simp only[List.drop_succ_cons,List.drop_zero,putV,dsL1,g1,g2,g3,g4,g5,g6,g9,Act.put]
 clear g1 g2 g3 g4 g5 g6 g9 hg hIW;have HFA:=h_ (HF.out.below hW)
 have HPX:Hid (∃A k,Value.slice A9 ([(own,other)]:List Bd).length k9=D A ([(own,other)]:List Bd).length k/\PLs (fun k=>k<w.heap.size) W2 0 A ([(own,other)]:List Bd).length [(own,other)]/\([(own,other)]:List Bd).length<=k):=⟨A9,k9,rfl,hp9.set (fun k hk=>.inl (by have hk:k<w.heap.size:=hk;show k<V.heap.size;omega)),hk9⟩
 clear hp9 hk9 HF hW
 go_wp2_with (fail)
 go_loopw [9,10,11] (fun v9 v10 v11 wr=>∃(q:Nat) (row:List Bd) (fl:Bool),q<=no/\v11=n F q/\v10=O fl/\(∃vx,vx=v9/\Hid (∃A k,vx=D A row.length k/\PLs (fun k=>k<w.heap.size) wr q A row.length row/\row.length<=k))/\Hid (∀b∈row,Sd P C b)/\Hid (row.length<=25^q)/\Hid (R1=(longP P h row (ds.drop q)).1/\R2=(longP P h row (ds.drop q)).2+q)/\Hid (R3=(fl&&fineP P h row (ds.drop q)))/\Hid (Fr w wr [[n F (P:Int),n F c,n F (h:Int),n F s],[D A1 n1 c1,D A2 n2 c2]])) (fun _ _ v11 _=>no-(intOf v11).toNat)
 case atStart=>exact⟨0,[(own,other)],true,by omega,rfl,rfl,⟨_,rfl,HPX.out⟩,HSD0.out,Nat.le_refl 1,HGL.out,HGF.out,HFA.out⟩
 case round=>
  clear HPX HSD0 HGL HGF HFA;obtain⟨q,row,fl,hjn,rfl,rfl,⟨vx,rfl,HR⟩,HS,HL,HLP,HFP,HF⟩:=hrel;obtain⟨A,ca,hvx,hpa,hca⟩:=HR.out;have HPA:=h_ hpa;have HCA:=h_ hca;subst hvx;obtain⟨nr,hnr⟩:∃nr,nr=row.length:=⟨_,rfl⟩;have HNR:=h_ hnr;rw[<-hnr];clear HR hpa hca hnr
  by_cases hlt:q<no
  ·have hji:(q:Int)<(no:Int):=by omega
   obtain⟨d,hdd⟩:∃d,d=ds.getD q 0:=⟨_,rfl⟩;obtain⟨hd1,hd2⟩:=HDS.out q hlt;rw[<-hdd]at hd1 hd2
   obtain⟨bo,oo,rfl,hbo,hco⟩:=(HOD.out wr HF.out.b).2 (by omega)
   have y0:=hco q hlt;rw[HDC.out,<-hdd]at y0;have HY0:=h_ y0
   have HRL:Hid (row.length<=15625):=Nat.le_trans HL.out (Nat.le_trans (Nat.pow_le_pow_right (by omega) (show q<=3 by omega)) (by decide))
   have CG:Hid (∀W:World,Below wr.heap.size wr W->Calls Tryz.prog 212 #[(J #[n F (P:Int),n F c,n F (h:Int),n F s]),D A nr ca,n F (d:Int)] W (RetPl W (q+1) (nextB P h d row))):=fun W hw=>by
    rw[HNR.out]
    exact l05Next_any P h d C q c s A row.length ca row W ((HPA.out.set fun k hk=>hk.elim).below hw) HS.out hC (by omega) hd1 hd2 hh (by
     have h9:=Nat.mul_le_mul HRL.out (show P+1<=25 by omega)
     omega) (by omega)
   have HDL:Hid (ds.drop q=d::ds.drop (q+1)):=by rw[hdd];exact HDR.out q hlt
   clear hco hdd y0
   go_wp2_with (fail)
   refine w_ 7 (fun _=>false) dsL6 [Eqv (J #[n F (P:Int),n F c,n F (h:Int),n F s]),Eqv (D A nr ca),Eqv (D (some ⟨bo,oo,none⟩) no co),Eqv (n F (q:Int)),Eqv (K (some ⟨bo,oo+q,none⟩)),Eqv (n F (d:Int)),PlQ wr.heap.size (q+1) (nextB P h d row)] (by repeat (first|exact AllStb.nil|refine AllStb.cons (by first|exact aY _|exact f9 _ _ _) ?_)) (fun i o' _ hX=>by cases hX) ?_ ?_
   ·intro i o hi hX ho a' W hW hIW hfar hdep
    have e2:a'.tmps.getD 2 undef=(D (some ⟨bo,oo,none⟩) no co):=(fr hfar 2).trans rfl
    have e3:a'.tmps.getD 3 undef=(K (some ⟨w.heap.size,0,none⟩)):=(fr hfar 3).trans rfl
    have e9:a'.tmps.getD 9 undef=(D A nr ca):=(fr hfar 9).trans rfl
    have e11:a'.tmps.getD 11 undef=(n F (q:Int)):=(fr hfar 11).trans rfl
    have hi8:=i_6 hi
    clear hfar hX hi
    rcases hi8 with rfl|rfl|rfl|rfl|rfl|rfl|rfl
    all_goals (simp at ho;subst ho)
    ·have y0:=(HF.out.below hW).c0 0 rfl
     have y1:=(HF.out.below hW).c0 1 rfl;have y2:=(HF.out.below hW).c0 2 rfl;have y3:=(HF.out.below hW).c0 3 rfl
     refine il ?_;simp only[execOp,Act.eval,e3];go_simp
    ·refine il ?_;simp only[execOp,Act.eval,e9];go_simp
    ·refine il ?_;simp only[execOp,Act.eval,e2];go_simp
    ·refine il ?_;simp only[execOp,Act.eval,e11];go_simp
    ·have d1:a'.tmps.getD 31 undef=_:=dp hdep 2
     have d2:a'.tmps.getD 32 undef=_:=dp hdep 3
     refine il ?_;simp only[execOp,Act.eval,d1,d2];go_simp;first|done|(intro hq9;exfalso;omega)
    ·have d1:a'.tmps.getD 33 undef=_:=dp hdep 4
     have y0:=(Frm.of_below hW).cell' HY0.out id
     refine il ?_;simp only[execOp,Act.eval,d1];go_simp
    ·have d1:a'.tmps.getD 29 undef=_:=dp hdep 0
     have d2:a'.tmps.getD 30 undef=_:=dp hdep 1
     have d3:a'.tmps.getD 34 undef=_:=dp hdep 5
     refine .inr ⟨212,#[(J #[n F (P:Int),n F c,n F (h:Int),n F s]),(D A nr ca),(n F (d:Int))],by simp only[execOp,Act.eval,d1,d2,d3];go_simp,?_⟩
     refine(CG.out W hW).mono ?_
     rintro e W' ⟨A9,k9,rfl,hp9,hk9,hb'⟩
     exact⟨_,rfl,hb',trivial,A9,k9,rfl,hp9.set (fun k hk=>.inl (Nat.lt_of_lt_of_le hk (Below.size hW))),hk9⟩
   intro v W2 hW hIW hg
   have g0:v 0=_:=gq hg 0
   have g1:v 1=_:=gq hg 1
   have g2:v 2=_:=gq hg 2
   have g3:v 3=_:=gq hg 3
   have g4:v 4=_:=gq hg 4
   have g5:v 5=_:=gq hg 5
   obtain⟨A9,k9,g6,hp9,hk9⟩:PlQ wr.heap.size (q+1) (nextB P h d row) (v 6) W2:=hg 6 (by omega)
   simp only[List.drop_succ_cons,List.drop_zero,putV,dsL6,g0,g1,g2,g3,g4,g5,g6,Act.put]
   clear g0 g1 g2 g3 g4 g5 g6 hg hIW;have HB2:=h_ hW;have HF2:=h_ (HF.out.below hW);have hzr:=HF.out.b.size;clear hW HF CG
   have HLQ:Hid ((nextB P h d row).length<=25^(q+1)):=by
    have q1:=di (p:=P) (h:=h) (die:=d) (k:=P+1) (bs:=row) (out:=[]) (fun _ _=>cO)
    rw[List.length_nil,Nat.zero_add]at q1
    have q2:=Nat.mul_le_mul HL.out (show P+1<=25 by omega)
    unfold Hid;rw[Nat.pow_succ]
    exact Nat.le_trans q1 q2
   have HLQ2:Hid ((nextB P h d row).length<=390625):=Nat.le_trans HLQ.out (Nat.le_trans (Nat.pow_le_pow_right (by omega) (show q+1<=4 by omega)) (by decide))
   have HS2:Hid (∀b∈nextB P h d row,Sd P C b):=jo hd1 HS.out;have HLP9:=HLP.out;rw[HDL.out]at HLP9;have HFP9:=HFP.out;rw[HDL.out]at HFP9;have HPA2:=h_ (HPA.out.below HB2.out);obtain⟨nl,hnl⟩:∃nl,nl=(nextB P h d row).length:=⟨_,rfl⟩
   have hnl6:nl<=390625:=by rw[hnl];exact HLQ2.out
   have HPX:Hid (∃A k,Value.slice A9 nl k9=D A (nextB P h d row).length k/\PLs (fun k=>k<w.heap.size) W2 (q+1) A (nextB P h d row).length (nextB P h d row)/\(nextB P h d row).length<=k):=⟨A9,k9,by rw[hnl],hp9.set (fun k hk=>.inl (by have hk:k<w.heap.size:=hk;show k<wr.heap.size;omega)),hk9⟩
   rw[<-hnl];clear hp9 hk9 HPA
   by_cases hE:nextB P h d row=[]
   ·have hn0:nl=0:=by rw[hnl,hE];rfl
    have HRE:Hid (RetLg w 4 R1 R2 R3 (R (U #[D A nr ca,n F (q:Int),O fl])) W2):=by
     unfold longP at HLP9;rw[if_pos hE]at HLP9;unfold fineP at HFP9;rw[if_pos hE,hE]at HFP9
     have q1:R2=q:=by have:=HLP9.2;simp at this;omega
     have q2:R3=fl:=by simpa using HFP9
     rw[HLP9.1,q1,q2,HNR.out]
     exact⟨A,ca,rfl,HPA2.out.up (by omega),HCA.out,HF2.out.b⟩
    have hli:(nl:Int)<=3000:=by omega
    have b0:((nl:Int)==0)=true:=by simp[hn0]
    clear hn0 hnl HLP9 HFP9 hE HLQ HLQ2 HPX HPA2
    rcases fl with _|_
    ·go_wp2_with (fail)
     go_ret3
     exact HRE.out
    ·go_wp2_with (fail)
     go_ret3
     exact HRE.out
   ·have hn0:¬nl=0:=by rw[hnl];intro h9;exact hE (List.eq_nil_of_length_eq_zero h9)
    have b0:((nl:Int)==0)=false:=by simp;omega
    unfold longP at HLP9;rw[if_neg hE]at HLP9;unfold fineP at HFP9;rw[if_neg hE,<-hnl]at HFP9
    have HLP2:Hid (R1=(longP P h (nextB P h d row) (ds.drop (q+1))).1/\R2=(longP P h (nextB P h d row) (ds.drop (q+1))).2+(q+1)):=⟨HLP9.1,by rw[HLP9.2];simp only;omega⟩
    have HFP2:Hid (R3=(fl&&(decide (nl<=3000)&&fineP P h (nextB P h d row) (ds.drop (q+1))))):=HFP9;have HL2:Hid ((nextB P h d row).length<=25^(q+1)):=HLQ.out;clear hnl HLP9 HFP9 hE hn0 HLQ HLQ2 HLP HFP HL HS HDL HPA2
    by_cases hle:nl<=3000
    ·have hli:(nl:Int)<=3000:=by omega
     rcases fl with _|_
     ·go_wp2_with (fail)
      exact⟨⟨q+1,nextB P h d row,false,by omega,by go_num,rfl,⟨_,rfl,HPX⟩,HS2,HL2,HLP2,(by have h9:=HFP2.out;simp only[Bool.false_and]at h9;exact h9),HF2⟩,by simp[intOf];omega⟩
     ·go_wp2_with (fail)
      exact⟨⟨q+1,nextB P h d row,true,by omega,by go_num,rfl,⟨_,rfl,HPX⟩,HS2,HL2,HLP2,(by have h9:=HFP2.out;simp only[Bool.true_and,decide_eq_true hle,Bool.and_true]at h9;exact h9),HF2⟩,by simp[intOf];omega⟩
    ·have hli:¬(nl:Int)<=3000:=by omega
     rcases fl with _|_
     ·go_wp2_with (fail)
      exact⟨⟨q+1,nextB P h d row,false,by omega,by go_num,rfl,⟨_,rfl,HPX⟩,HS2,HL2,HLP2,(by have h9:=HFP2.out;simp only[Bool.false_and]at h9;exact h9),HF2⟩,by simp[intOf];omega⟩
     ·go_wp2_with (fail)
      exact⟨⟨q+1,nextB P h d row,false,by omega,by go_num,rfl,⟨_,rfl,HPX⟩,HS2,HL2,HLP2,(by have h9:=HFP2.out;simp only[Bool.true_and,decide_eq_false hle,Bool.and_false,Bool.false_and]at h9;exact h9),HF2⟩,by simp[intOf];omega⟩
  ·have hji:¬(q:Int)<(no:Int):=by omega
   have HRE:Hid (RetLg w 4 R1 R2 R3 (R (U #[D A nr ca,n F (no:Int),O fl])) wr):=by
    have HLP9:=HLP.out;have HFP9:=HFP.out
    rw[show ds.drop q=[] by rw[show q=no by omega];exact HEND.out]at HLP9 HFP9
    have q1:R2=no:=by have:=HLP9.2;unfold longP at this;simp at this;omega
    have q2:R3=fl:=by unfold fineP at HFP9;simpa using HFP9
    have q3:R1=row:=HLP9.1;rw[q3,q1,q2,HNR.out]
    exact⟨A,ca,rfl,HPA.out.up (by omega),HCA.out,HF.out.b⟩
   clear HPA HLP HFP HL HS
   go_wp2_with (fail)
   go_ret3
   exact HRE.out
def LgQ(lo m:Nat)(row:List Bd)(k:Nat)(fl:Bool):RP:=fun v W=>∃A c,v=U #[D A row.length c,n F (k:Int),O fl]/\PLs (fun k=>k<lo) W m A row.length row/\row.length<=c
theorem stb_lgQ(lo m:Nat)(row:List Bd)(k:Nat)(fl:Bool):Stb (LgQ lo m row k fl):=fun _ _ _ ⟨A,c,h1,h2,h3⟩ hb=>⟨A,c,h1,h2.below hb,h3⟩
def refQ(N:Nat):Nat->List (List Bd×Nat)->List Bd->List Bd
 |_,[],acc=>acc
 |i,(row,k)::Q,acc=>if k≠N\/(N=1/\i=1/\acc≠[])then refQ N (i+1) Q acc else refQ N (i+1) Q (joinP acc row)
theorem refQ_two(L1 L2:List Bd×Nat):bothP L1 L2=refQ (max L1.2 L2.2) 0 [L1,L2] []:=by
 obtain⟨a,x⟩:=L1;obtain⟨b,y⟩:=L2
 have q1:refQ (max x y) 0 [(a,x),(b,y)] []=if x≠max x y\/(max x y=1/\0=1/\([]:List Bd)≠[])then refQ (max x y) 1 [(b,y)] []else refQ (max x y) 1 [(b,y)] (joinP [] a):=rfl
 have q2:∀acc,refQ (max x y) 1 [(b,y)] acc=if y≠max x y\/(max x y=1/\1=1/\acc≠[])then acc else joinP acc b:=fun _=>rfl
 have q3:∀acc:List Bd,(if y=max x y/\¬(max x y=1/\acc≠[])then joinP acc b else acc)=if y≠max x y\/(max x y=1/\1=1/\acc≠[])then acc else joinP acc b:=fun acc=>by
  by_cases hy:y=max x y
  ·by_cases h1:max x y=1/\acc≠[]
   ·rw[if_neg (fun h=>h.2 h1),if_pos (.inr ⟨h1.1,rfl,h1.2⟩)]
   ·rw[if_pos ⟨hy,h1⟩,if_neg (fun h=>h.elim (fun h=>h hy) (fun h=>h1 ⟨h.1,h.2.2⟩))]
  ·rw[if_neg (fun h=>hy h.1),if_pos (.inl hy)]
 rw[q1,q2,q2]
 show(if y=max x y/\¬(max x y=1/\ci (a,x) (b,y)≠[])then joinP (ci (a,x) (b,y)) b else ci (a,x) (b,y))=_
 rw[q3];unfold ci
 simp only
 by_cases hx:x=max x y
 ·have r:¬(x≠max x y\/(max x y=1/\0=1/\([]:List Bd)≠[])):=fun h=>h.elim (fun h=>h hx) (fun h=>absurd h.2.1 (by decide))
  rw[if_neg r];rw[if_pos hx]
 ·have r:x≠max x y\/(max x y=1/\0=1/\([]:List Bd)≠[]):=.inl hx
  rw[if_pos r];rw[if_neg hx]
theorem playsP_refQ{P h ra rb:Nat}{b:Bd}:playsP P h b ra rb=refQ (maxQ (Qs P h b (dice ra rb))) 0 (Qs P h b (dice ra rb)) []:=by
 unfold playsP
 by_cases e:ra=rb
 ·subst e
  rw[if_pos rfl,gt];have q1:Qs P h b [[ra,ra,ra,ra]]=[longP P h [b] [ra,ra,ra,ra]]:=rfl;rw[q1];generalize longP P h [b] [ra,ra,ra,ra]=L;obtain⟨a,x⟩:=L
  have q2:maxQ [(a,x)]=x:=by unfold maxQ;simp
  rw[q2];unfold refQ
  rw[if_neg (fun h=>h.elim (fun h=>h rfl) (fun h=>absurd h.2.1 (by decide)))]
  rfl
 ·rw[if_neg e,fg e]
  have e2:maxQ (Qs P h b [[ra,rb],[rb,ra]])=max (longP P h [b] [ra,rb]).2 (longP P h [b] [rb,ra]).2:=by
   unfold Qs maxQ
   simp only[List.map_cons,List.map_nil,List.foldl_cons,List.foldl_nil,Nat.zero_max]
  rw[e2]
  exact refQ_two _ _
def dsU6:Nat->Nat
 | 0=>22
 | 1=>23
 | 2=>24
 | 3=>25
 | 4=>26
 | 5=>27
 | 6=>28
 | 7=>21
 | 8=>29
 | 9=>30
 | 10=>31
 |_=>0
theorem l05Used_any(P h C ra rb:Nat)(c s:Int)(A1 A2:Option Addr)(n1 c1 n2 c2:Nat)(own other:List Int)(w:World)(h1:SL w A1 n1 own)(h2:SL w A2 n2 other)(hb:Sd P C (own,other))(hC:C<=255)(hP:P<=24)(hh:h<=1000)(ha:1<=ra/\ra<=1000)(hbb:1<=rb/\rb<=1000):
  Calls Tryz.prog 188 #[(J #[n F (P:Int),n F c,n F (h:Int),n F s]),(J #[D A1 n1 c1,D A2 n2 c2]),(J #[n F (ra:Int),n F (rb:Int)])] w fun e w'=>e=R (n F (maxQ (Qs P h (own,other) (dice ra rb)):Int))/\Below w.heap.size w w':=by
 have HDB:=h_ (kg ha hbb);have HDL:=h_ (iq ra rb)
 have CO:=h_ fun(W:World)=>ig (fun _=>False) ra rb W (fun _ _ h=>h)
 have CS:Hid (∀(ds:List Nat) (B:Option Addr) (nb cb:Nat) (W:World),Below w.heap.size w W->SL W B nb (ds.map (Nat.cast:Nat->Int))->ds∈dice ra rb->Calls Tryz.prog 190 #[(J #[n F (P:Int),n F c,n F (h:Int),n F s]),(J #[D A1 n1 c1,D A2 n2 c2]),D B nb cb] W (RetLg W 4 (longP P h [(own,other)] ds).1 (longP P h [(own,other)] ds).2 (fineP P h [(own,other)] ds))):=fun ds B nb cb W hw hs hm=>
  fU P h C c s A1 A2 B n1 c1 n2 c2 nb cb own other ds W (h1.below hw) (h2.below hw) hb hC hP hh hs (HDB.out ds hm).2 (HDB.out ds hm).1
 have HF0:Hid (Fr w (((w.alloc (I #[n F (P:Int),n F c,n F (h:Int),n F s] 33)).alloc (I #[D A1 n1 c1,D A2 n2 c2] 35)).alloc (I #[n F (ra:Int),n F (rb:Int)] 37)) [[n F (P:Int),n F c,n F (h:Int),n F s],[D A1 n1 c1,D A2 n2 c2],[n F (ra:Int),n F (rb:Int)]]):=(((Fr.start w).allocT (by simp) _ _).allocT (by simp) _ _).allocT (by simp) _ _
 clear h1 h2 hb ha hbb;generalize hDS:dice ra rb=DS at *;clear hDS
 go_enter Tryz.func188,Tryz.ntmps188
 go_wp2_with (fail)
 refine(CO.out _).mono ?_
 rintro e w3 ⟨bo,oo,no,co,rfl,hpl,hco,hb3⟩
 have HF3:=h_ (HF0.out.below hb3);have HPL:=h_ hpl
 have hno:DS.length=no:=by have:=hpl.len;simp only[castD,List.length_map]at this;exact this
 have hno2:no<=2:=by have:=HDL.out;omega
 have HQL:Hid ((Qs P h (own,other) DS).length=no):=by unfold Hid Qs;rw[List.length_map];exact hno
 clear hpl hb3 HF0 CO
 go_wp2_with (fail)
 go_loopw [7,9] (fun v7 v9 wr=>∃(q t:Nat),q<=no/\t<=1000/\v9=n F q/\v7=n F t/\Hid (t=maxQ ((Qs P h (own,other) DS).take q))/\Hid (Below w3.heap.size w3 wr)/\Hid (Fr w wr [[n F (P:Int),n F c,n F (h:Int),n F s],[D A1 n1 c1,D A2 n2 c2],[n F (ra:Int),n F (rb:Int)]])) (fun _ v9 _=>no-(intOf v9).toNat)
 case atStart=>exact⟨0,0,by omega,by omega,rfl,rfl,rfl,Below.refl _ _,HF3.out⟩
 case round=>
  clear HF3;obtain⟨q,t,hin,ht,rfl,rfl,HT,HB,HF⟩:=hrel
  by_cases hlt:q<no
  ·have hji:(q:Int)<(no:Int):=by omega
   obtain⟨b9,o9,B,mB,cB,hA9,hbl,y0,hsq,_⟩:=HPL.out.at hlt;injection hA9 with hA9;injection hA9 with hA9 hA8;subst hA9 hA8;obtain⟨ds,hds⟩:∃ds,ds=DS.getD q []:=⟨_,rfl⟩
   have hcd:(castD DS).getD q []=ds.map (Nat.cast:Nat->Int):=by
    rw[hds]
    simp only[castD,List.getD_eq_getElem?_getD,List.getElem?_map]
    cases DS[q]?<;>rfl
   rw[hcd]at hsq
   have HDM:Hid (ds∈DS):=by unfold Hid;rw[hds];exact ak DS [] (by omega)
   have HY0:=h_ ((Frm.of_below HB.out).cell' y0 id)
   have HT2:Hid (max t (longP P h [(own,other)] ds).2=maxQ ((Qs P h (own,other) DS).take (q+1))):=by
    unfold Hid
    rw[maxQ_take (by rw[HQL.out];exact hlt),HT.out]
    congr 1
    unfold Qs;rw[hds]
    simp[List.getD,show q<DS.length by omega]
   have hk4:(longP P h [(own,other)] ds).2<=4:=Nat.le_trans (fa ds _) (HDB.out ds HDM.out).1;have hz3:w3.heap.size<=wr.heap.size:=HB.out.size
   have CQ0:=fun(W:World) (hw:Below wr.heap.size wr W)=>CS.out ds B mB cB W (HF.out.below hw).b (hsq.1.below (HB.out.trans (hw.mono hz3))) HDM.out
   clear y0 hsq hcd hds;generalize hLP:longP P h [(own,other)] ds=LP at *;generalize fineP P h [(own,other)] ds=ok at *;obtain⟨row,kk⟩:=LP;have CQ:=h_ CQ0;clear hLP CQ0
   simp only at hk4
   go_wp2_with (fail)
   refine w_ 11 (fun i=>i==9||i==10) dsU6 [Eqv (J #[n F (P:Int),n F c,n F (h:Int),n F s]),Eqv (J #[D A1 n1 c1,D A2 n2 c2]),Eqv (D (some ⟨bo,oo,none⟩) no co),Eqv (n F (q:Int)),Eqv (K (some ⟨bo,oo+q,none⟩)),Eqv (D B mB cB),LgQ wr.heap.size 4 row kk ok,LgQ wr.heap.size 4 row kk ok,PlQ wr.heap.size 4 row,Eqv (n F (kk:Int)),Eqv (O ok)] (by repeat (first|exact AllStb.nil|refine AllStb.cons (by first|exact aY _|exact stb_lgQ _ _ _ _ _|exact f9 _ _ _) ?_)) ?_ ?_ ?_
   ·intro i o hi hX ho a' W hW hIW hfar hdep
    have hi8:i=9\/i=10:=by simpa[or_assoc]using hX
    clear hfar hX hi
    rcases hi8 with rfl|rfl
    all_goals (simp at ho;subst ho)
    ·obtain⟨Ae,ce,q7,-⟩:LgQ wr.heap.size 4 row kk ok (a'.tmps.getD 21 undef) W:=dp hdep 7
     exact⟨(n F (kk:Int)),fun W'=>by simp only[execOp,Act.eval,q7];go_simp,rfl⟩
    ·obtain⟨Ae,ce,q7,-⟩:LgQ wr.heap.size 4 row kk ok (a'.tmps.getD 21 undef) W:=dp hdep 7
     exact⟨(O ok),fun W'=>by simp only[execOp,Act.eval,q7];go_simp,rfl⟩
   ·intro i o hi hX ho a' W hW hIW hfar hdep
    have e3:a'.tmps.getD 3 undef=(K (some ⟨w.heap.size,0,none⟩)):=(fr hfar 3).trans rfl
    have e4:a'.tmps.getD 4 undef=(K (some ⟨w.heap.size+1,0,none⟩)):=(fr hfar 4).trans rfl
    have e8:a'.tmps.getD 8 undef=(D (some ⟨bo,oo,none⟩) no co):=(fr hfar 8).trans rfl
    have e9:a'.tmps.getD 9 undef=(n F (q:Int)):=(fr hfar 9).trans rfl
    have hi8:i=0\/i=1\/i=2\/i=3\/i=4\/i=5\/i=6\/i=7\/i=8:=by simp at hX;omega
    clear hfar hX hi
    rcases hi8 with rfl|rfl|rfl|rfl|rfl|rfl|rfl|rfl|rfl
    all_goals (simp at ho;subst ho)
    ·have y0:=(HF.out.below hW).c0 0 rfl
     have y1:=(HF.out.below hW).c0 1 rfl;have y2:=(HF.out.below hW).c0 2 rfl;have y3:=(HF.out.below hW).c0 3 rfl
     refine il ?_;simp only[execOp,Act.eval,e3];go_simp
    ·have y0:=(HF.out.below hW).c1 0 rfl
     have y1:=(HF.out.below hW).c1 1 rfl
     refine il ?_;simp only[execOp,Act.eval,e4];go_simp
    ·refine il ?_;simp only[execOp,Act.eval,e8];go_simp
    ·refine il ?_;simp only[execOp,Act.eval,e9];go_simp
    ·have d1:a'.tmps.getD 24 undef=_:=dp hdep 2
     have d2:a'.tmps.getD 25 undef=_:=dp hdep 3
     refine il ?_;simp only[execOp,Act.eval,d1,d2];go_simp;first|done|(intro hq9;exfalso;omega)
    ·have d1:a'.tmps.getD 26 undef=_:=dp hdep 4
     have y0:=(Frm.of_below hW).cell' HY0.out id
     refine il ?_;simp only[execOp,Act.eval,d1];go_simp
    ·have d1:a'.tmps.getD 22 undef=_:=dp hdep 0
     have d2:a'.tmps.getD 23 undef=_:=dp hdep 1
     have d3:a'.tmps.getD 27 undef=_:=dp hdep 5
     refine .inr ⟨190,#[(J #[n F (P:Int),n F c,n F (h:Int),n F s]),(J #[D A1 n1 c1,D A2 n2 c2]),(D B mB cB)],by simp only[execOp,Act.eval,d1,d2,d3];go_simp,?_⟩
     refine(CQ.out W hW).mono ?_
     rintro e W' ⟨Ae,ce,rfl,hpe,hce,hb'⟩
     exact⟨_,rfl,hb',trivial,Ae,ce,rfl,hpe.set (fun k hk=>.inl (Nat.lt_of_lt_of_le hk (Below.size hW))),hce⟩
    ·obtain⟨Ae,ce,q6,hpe,hce⟩:LgQ wr.heap.size 4 row kk ok (a'.tmps.getD 28 undef) W:=dp hdep 6
     have q6':=q6;rw[Array.getD_eq_getD_getElem?]at q6'
     exact .inl ⟨U #[D Ae row.length ce,n F (kk:Int),O ok],W,by simp only[execOp,Act.eval,q6];go_simp,Bel.rfl' _,trivial,Ae,ce,rfl,hpe,hce⟩
    ·obtain⟨Ae,ce,q7,hpe,hce⟩:LgQ wr.heap.size 4 row kk ok (a'.tmps.getD 21 undef) W:=dp hdep 7
     have q7':=q7;rw[Array.getD_eq_getD_getElem?]at q7'
     exact .inl ⟨D Ae row.length ce,W,by simp only[execOp,Act.eval,q7];go_simp,Bel.rfl' _,trivial,Ae,ce,rfl,hpe,hce⟩
   intro v w2 hW hIW hg
   have g0:v 0=_:=gq hg 0
   have g1:v 1=_:=gq hg 1
   have g2:v 2=_:=gq hg 2
   have g3:v 3=_:=gq hg 3
   have g4:v 4=_:=gq hg 4
   have g5:v 5=_:=gq hg 5
   obtain⟨_,_,g6,_,_⟩:LgQ wr.heap.size 4 row kk ok (v 6) w2:=hg 6 (by omega)
   obtain⟨_,_,g7,_,_⟩:LgQ wr.heap.size 4 row kk ok (v 7) w2:=hg 7 (by omega)
   obtain⟨A9,k9,g8,-⟩:PlQ wr.heap.size 4 row (v 8) w2:=hg 8 (by omega)
   have g9:v 9=_:=gq hg 9
   have g10:v 10=_:=gq hg 10
   simp only[List.drop_succ_cons,List.drop_zero,putV,dsU6,g0,g1,g2,g3,g4,g5,g6,g7,g8,g9,g10,Act.put]
   clear g0 g1 g2 g3 g4 g5 g6 g7 g8 g9 g10 hg hIW;have HF2:=h_ (HF.out.below hW);have HB2:=h_ (HB.out.trans (hW.mono hz3));clear hW HF HB CQ
   go_wp2_with (fail)
   refine⟨⟨q+1,max t kk,by omega,by omega,by go_num,?_,HT2,HB2,HF2⟩,by simp[intOf];omega⟩
   congr 1
   split<;>omega
  ·have hji:¬(q:Int)<(no:Int):=by omega
   have HR:Hid (t=maxQ (Qs P h (own,other) DS)):=by
    unfold Hid
    rw[HT.out,List.take_of_length_le (by rw[HQL.out];omega)]
   go_wp2_with (fail)
   go_ret
   exact⟨by rw[<-HR.out];rfl,HF.out.b⟩
def RetAl(w:World)(m:Nat)(l:List Bd)(fl:Bool)(e:Ending)(w':World):Prop:=∃A k,e=R (U #[D A l.length k,O fl])/\PLs (fun k=>k<w.heap.size) w' m A l.length l/\l.length<=k/\Below w.heap.size w w'
def dsA8:Nat->Nat
 | 0=>31
 | 1=>32
 | 2=>33
 | 3=>34
 | 4=>35
 | 5=>36
 | 6=>37
 | 7=>30
 | 8=>38
 | 9=>39
 | 10=>40
 |_=>0
theorem l05All_any(P h C ra rb:Nat)(c s:Int)(A1 A2:Option Addr)(n1 c1 n2 c2:Nat)(own other:List Int)(w:World)(h1:SL w A1 n1 own)(h2:SL w A2 n2 other)(hb:Sd P C (own,other))(hC:C<=255)(hP:P<=24)(hh:h<=1000)(ha:1<=ra/\ra<=1000)(hbb:1<=rb/\rb<=1000):
  Calls Tryz.prog 136 #[(J #[n F (P:Int),n F c,n F (h:Int),n F s]),(J #[D A1 n1 c1,D A2 n2 c2]),(J #[n F (ra:Int),n F (rb:Int)])] w (RetAl w 4 (playsP P h (own,other) ra rb) (fineR P h (own,other) ra rb)):=by
 obtain⟨j0,hj,jz0,jz1,jz2⟩:=info_parts Tryz.infoPl
 have CU:=h_ fun(W:World) (hw:Below w.heap.size w W)=>l05Used_any P h C ra rb c s A1 A2 n1 c1 n2 c2 own other W (h1.below hw) (h2.below hw) hb hC hP hh ha hbb
 have HDB:=h_ (kg ha hbb);have HDL:=h_ (iq ra rb)
 have CO:=h_ fun(W:World)=>ig (fun k=>k<W.heap.size) ra rb W (fun k hk h=>by have h:k<W.heap.size:=h;omega)
 have CS:Hid (∀(ds:List Nat) (B:Option Addr) (nb cb:Nat) (W:World),Below w.heap.size w W->SL W B nb (ds.map (Nat.cast:Nat->Int))->ds∈dice ra rb->Calls Tryz.prog 190 #[(J #[n F (P:Int),n F c,n F (h:Int),n F s]),(J #[D A1 n1 c1,D A2 n2 c2]),D B nb cb] W (RetLg W 4 (longP P h [(own,other)] ds).1 (longP P h [(own,other)] ds).2 (fineP P h [(own,other)] ds))):=fun ds B nb cb W hw hs hm=>
  fU P h C c s A1 A2 B n1 c1 n2 c2 nb cb own other ds W (h1.below hw) (h2.below hw) hb hC hP hh hs (HDB.out ds hm).2 (HDB.out ds hm).1
 have HF0:Hid (Fr w (((w.alloc (I #[n F (P:Int),n F c,n F (h:Int),n F s] 33)).alloc (I #[D A1 n1 c1,D A2 n2 c2] 35)).alloc (I #[n F (ra:Int),n F (rb:Int)] 37)) [[n F (P:Int),n F c,n F (h:Int),n F s],[D A1 n1 c1,D A2 n2 c2],[n F (ra:Int),n F (rb:Int)]]):=(((Fr.start w).allocT (by simp) _ _).allocT (by simp) _ _).allocT (by simp) _ _
 have HQX:Hid (∀ds∈dice ra rb,(longP P h [(own,other)] ds).1.length<=390625/\∀y∈(longP P h [(own,other)] ds).1,Sd P C y):=fun ds hds=>by
  obtain⟨q1,q2⟩:=HDB.out ds hds
  refine⟨?_,jr (fun d hd=>(q2 d hd).1) (fun y hy=>by rw[List.mem_singleton.1 hy];exact hb)⟩
  refine Nat.le_trans (gY hP ds _) ?_
  rw[List.length_singleton,Nat.one_mul]
  exact Nat.le_trans (Nat.pow_le_pow_right (by omega) q1) (by decide)
 have HGP:Hid (playsP P h (own,other) ra rb=refQ (maxQ (Qs P h (own,other) (dice ra rb))) 0 ((Qs P h (own,other) (dice ra rb)).drop 0) []):=playsP_refQ;have HGF:Hid (fineR P h (own,other) ra rb=allF P h (own,other) (dice ra rb)):=(allF_dice _ _ _ _ _).symm
 have hN4:maxQ (Qs P h (own,other) (dice ra rb))<=4:=by
  have q1:∀(Q:List (List Bd×Nat)) (a:Nat),a<=4->(∀x∈Q,x.2<=4)->Q.foldl (fun m x=>max m x.2) a<=4:=fun Q=>by
   induction Q with
   |nil=>exact fun a h _=>h
   |cons y Q ih=>exact fun a h hq=>ih _ (by have:=hq y List.mem_cons_self;show max a y.2<=4;omega) (fun x hx=>hq x (List.mem_cons_of_mem _ hx))
  exact q1 _ 0 (by omega) (fun x hx=>by
   obtain⟨ds,hds,rfl⟩:=List.mem_map.1 hx
   exact Nat.le_trans (fa ds _) (HDB.out ds hds).1)
 clear h1 h2 hb ha hbb;generalize playsP P h (own,other) ra rb=PL at *;generalize fineR P h (own,other) ra rb=R3 at *;generalize hDS:dice ra rb=DS at *;clear hDS;obtain⟨Q,hQ⟩:∃Q,Q=Qs P h (own,other) DS:=⟨_,rfl⟩;have HQ:=h_ hQ;rw[<-hQ]at HGP CU hN4;generalize maxQ Q=N at *;clear hQ
 go_enter Tryz.func136,Tryz.ntmps136
 go_wp2_with (fail)
 refine(CU.out _ HF0.out.b).mono ?_
 rintro e w1 ⟨rfl,hb1⟩
 have HF1:=h_ (HF0.out.below hb1);have hzf:w.heap.size+3<=w1.heap.size:=HF1.out.z;clear hb1 HF0 CU;have HFa:Hid (Fr w (w1.alloc (I #[] 85)) [[n F (P:Int),n F c,n F (h:Int),n F s],[D A1 n1 c1,D A2 n2 c2],[n F (ra:Int),n F (rb:Int)]]):=HF1.out.alloc _
 have HOa:Hid (OPl (fun k=>k<w.heap.size) (w1.alloc (I #[] 85)) 4 w1.heap.size 85 (D (some ⟨w1.heap.size,0,none⟩) 0 0) []):=OPl.made (S:=fun k=>k<w.heap.size) (m:=4) (base:=w1.heap.size) (e:=85) (cs:=[]) (bs:=[]) w1 (Nat.le_refl _) (fun k hk h9=>by have h9:k<w.heap.size:=h9;omega) (PEs.nil_ _ _ _) (by simp[maxLen])
 have hza:(w1.alloc (I #[] 85)).heap.size=w1.heap.size+1:=by simp
 have z2:=HF1.out.l2 (by simp)
 have c20:=HF1.out.c2 0 rfl;have c21:=HF1.out.c2 1 rfl
 go_wp2_with (fail)
 clear z2 c20 c21
 refine(CO.out _).mono ?_
 rintro e w3 ⟨bo,oo,no,co,rfl,hpl,hco,hb3⟩
 have HF3:=h_ (HFa.out.below hb3);have HO3:=h_ (HOa.out.below hb3);have HPL:=h_ hpl
 have hz3:w1.heap.size+1<=w3.heap.size:=by have:=hb3.size;omega
 have hno:DS.length=no:=by have:=hpl.len;simp only[castD,List.length_map]at this;exact this
 have hno2:no<=2:=by have:=HDL.out;omega
 have HQL:Hid (Q.length=no):=by unfold Hid;rw[HQ.out];unfold Qs;rw[List.length_map];exact hno
 clear hpl hb3 HFa HOa CO HF1
 go_wp2_with (fail)
 go_loopw [9,10,12] (fun v9 v10 v12 wr=>∃(q:Nat) (acc:List Bd) (fl:Bool),q<=no/\v12=n F q/\v10=O fl/\(∃vx,vx=v9/\Hid (OPl (fun k=>k<w.heap.size) wr 4 w1.heap.size 85 vx acc)/\Hid (∀k,vx.ownBlock=some k->k=w1.heap.size\/w3.heap.size<=k))/\Hid (∀x∈acc,Sd P C x)/\Hid (acc.length<=q*390625)/\Hid (PL=refQ N q (Q.drop q) acc)/\Hid (fl=allF P h (own,other) (DS.take q))/\Hid (Frm (fun k=>k=w1.heap.size) w3 wr)/\Hid (Fr w wr [[n F (P:Int),n F c,n F (h:Int),n F s],[D A1 n1 c1,D A2 n2 c2],[n F (ra:Int),n F (rb:Int)]])) (fun _ _ v12 _=>no-(intOf v12).toNat)
 case atStart=>exact⟨0,[],true,by omega,rfl,rfl,⟨_,rfl,HO3.out,fun k hk=>.inl (by have h9:some w1.heap.size=some k:=hk;injection h9 with h9;exact h9.symm)⟩,fun x hx=>(by cases hx),Nat.zero_le _,HGP.out,rfl,Frm.refl _ _,HF3.out⟩
 case round=>
  clear HF3 HO3 HGP;obtain⟨q,acc,fl,hin,rfl,rfl,⟨vx,rfl,HO,HVB⟩,HAS,HAL,HPR,HFL,HFX,HF⟩:=hrel
  by_cases hlt:q<no
  ·have hji:(q:Int)<(no:Int):=by omega
   obtain⟨b9,o9,B,mB,cB,hA9,hbl,y0,hsq,_⟩:=(HPL.out.frm (HFX.out.mono fun k hk=>by show k<(w1.alloc (I #[] 85)).heap.size;omega)).at hlt
   injection hA9 with hA9;injection hA9 with hA9 hA8;subst hA9 hA8;obtain⟨ds,hds⟩:∃ds,ds=DS.getD q []:=⟨_,rfl⟩
   have hcd:(castD DS).getD q []=ds.map (Nat.cast:Nat->Int):=by
    rw[hds]
    simp only[castD,List.getD_eq_getElem?_getD,List.getElem?_map]
    cases DS[q]?<;>rfl
   rw[hcd]at hsq
   have HDM:Hid (ds∈DS):=by unfold Hid;rw[hds];exact ak DS [] (by omega)
   have HY0:=h_ y0
   have HDRQ:Hid (Q.drop q=longP P h [(own,other)] ds::Q.drop (q+1)):=by
    unfold Hid
    rw[dK ([],0) (by rw[HQL.out];exact hlt)]
    congr 1
    rw[HQ.out,hds];unfold Qs
    simp[List.getD,show q<DS.length by omega]
   have HALF:Hid (allF P h (own,other) (DS.take (q+1))=(allF P h (own,other) (DS.take q)&&fineP P h [(own,other)] ds)):=by
    unfold Hid allF
    rw[bP [] (by omega),List.all_append,hds];simp
   obtain⟨hrl1,hrs1⟩:=HQX.out ds HDM.out;have hz33:w3.heap.size<=wr.heap.size:=HFX.out.size;have hk4:(longP P h [(own,other)] ds).2<=4:=Nat.le_trans (fa ds _) (HDB.out ds HDM.out).1
   have CQ0:=fun(W:World) (hw:Below wr.heap.size wr W)=>CS.out ds B mB cB W (HF.out.below hw).b (hsq.1.below hw) HDM.out
   clear y0 hsq hcd hds;generalize hLP:longP P h [(own,other)] ds=LP at *;generalize fineP P h [(own,other)] ds=ok at *;obtain⟨row,kk⟩:=LP;have CQ:=h_ CQ0;have HRL:=h_ hrl1;have HRS:=h_ hrs1;clear hLP CQ0 hrl1 hrs1
   simp only at hk4
   obtain⟨Ay,cy,hvy,_,_⟩:=HO.out.read;subst hvy;obtain⟨na,hna⟩:∃na,na=acc.length:=⟨_,rfl⟩;have HNA:=h_ hna;rw[<-hna]at HO HVB ⊢
   have hna6:na<=781250:=by
    have h3:=Nat.le_trans HAL.out (Nat.mul_le_mul_right 390625 (show q<=2 by omega))
    have h4:2*390625=781250:=by decide
    rw[h4]at h3
    omega
   clear hna
   go_wp2_with (fail)
   refine w_ 11 (fun i=>i==9||i==10) dsA8 [Eqv (J #[n F (P:Int),n F c,n F (h:Int),n F s]),Eqv (J #[D A1 n1 c1,D A2 n2 c2]),Eqv (D (some ⟨bo,oo,none⟩) no co),Eqv (n F (q:Int)),Eqv (K (some ⟨bo,oo+q,none⟩)),Eqv (D B mB cB),LgQ wr.heap.size 4 row kk ok,LgQ wr.heap.size 4 row kk ok,PlQ wr.heap.size 4 row,Eqv (n F (kk:Int)),Eqv (O ok)] (by repeat (first|exact AllStb.nil|refine AllStb.cons (by first|exact aY _|exact stb_lgQ _ _ _ _ _|exact f9 _ _ _) ?_)) ?_ ?_ ?_
   ·intro i o hi hX ho a' W hW hIW hfar hdep
    have hi8:i=9\/i=10:=by simpa[or_assoc]using hX
    clear hfar hX hi
    rcases hi8 with rfl|rfl
    all_goals (simp at ho;subst ho)
    ·obtain⟨Ae,ce,q7,-⟩:LgQ wr.heap.size 4 row kk ok (a'.tmps.getD 30 undef) W:=dp hdep 7
     exact⟨(n F (kk:Int)),fun W'=>by simp only[execOp,Act.eval,q7];go_simp,rfl⟩
    ·obtain⟨Ae,ce,q7,-⟩:LgQ wr.heap.size 4 row kk ok (a'.tmps.getD 30 undef) W:=dp hdep 7
     exact⟨(O ok),fun W'=>by simp only[execOp,Act.eval,q7];go_simp,rfl⟩
   ·intro i o hi hX ho a' W hW hIW hfar hdep
    have e3:a'.tmps.getD 3 undef=(K (some ⟨w.heap.size,0,none⟩)):=(fr hfar 3).trans rfl
    have e4:a'.tmps.getD 4 undef=(K (some ⟨w.heap.size+1,0,none⟩)):=(fr hfar 4).trans rfl
    have e11:a'.tmps.getD 11 undef=(D (some ⟨bo,oo,none⟩) no co):=(fr hfar 11).trans rfl
    have e12:a'.tmps.getD 12 undef=(n F (q:Int)):=(fr hfar 12).trans rfl
    have hi8:i=0\/i=1\/i=2\/i=3\/i=4\/i=5\/i=6\/i=7\/i=8:=by simp at hX;omega
    clear hfar hX hi
    rcases hi8 with rfl|rfl|rfl|rfl|rfl|rfl|rfl|rfl|rfl
    all_goals (simp at ho;subst ho)
    ·have y0:=(HF.out.below hW).c0 0 rfl
     have y1:=(HF.out.below hW).c0 1 rfl;have y2:=(HF.out.below hW).c0 2 rfl;have y3:=(HF.out.below hW).c0 3 rfl
     refine il ?_;simp only[execOp,Act.eval,e3];go_simp
    ·have y0:=(HF.out.below hW).c1 0 rfl
     have y1:=(HF.out.below hW).c1 1 rfl
     refine il ?_;simp only[execOp,Act.eval,e4];go_simp
    ·refine il ?_;simp only[execOp,Act.eval,e11];go_simp
    ·refine il ?_;simp only[execOp,Act.eval,e12];go_simp
    ·have d1:a'.tmps.getD 33 undef=_:=dp hdep 2
     have d2:a'.tmps.getD 34 undef=_:=dp hdep 3
     refine il ?_;simp only[execOp,Act.eval,d1,d2];go_simp;first|done|(intro hq9;exfalso;omega)
    ·have d1:a'.tmps.getD 35 undef=_:=dp hdep 4
     have y0:=(Frm.of_below hW).cell' HY0.out id
     refine il ?_;simp only[execOp,Act.eval,d1];go_simp
    ·have d1:a'.tmps.getD 31 undef=_:=dp hdep 0
     have d2:a'.tmps.getD 32 undef=_:=dp hdep 1
     have d3:a'.tmps.getD 36 undef=_:=dp hdep 5
     refine .inr ⟨190,#[(J #[n F (P:Int),n F c,n F (h:Int),n F s]),(J #[D A1 n1 c1,D A2 n2 c2]),(D B mB cB)],by simp only[execOp,Act.eval,d1,d2,d3];go_simp,?_⟩
     refine(CQ.out W hW).mono ?_
     rintro e W' ⟨Ae,ce,rfl,hpe,hce,hb'⟩
     exact⟨_,rfl,hb',trivial,Ae,ce,rfl,hpe.set (fun k hk=>.inl (Nat.lt_of_lt_of_le hk (Below.size hW))),hce⟩
    ·obtain⟨Ae,ce,q6,hpe,hce⟩:LgQ wr.heap.size 4 row kk ok (a'.tmps.getD 37 undef) W:=dp hdep 6
     have q6':=q6;rw[Array.getD_eq_getD_getElem?]at q6'
     exact .inl ⟨U #[D Ae row.length ce,n F (kk:Int),O ok],W,by simp only[execOp,Act.eval,q6];go_simp,Bel.rfl' _,trivial,Ae,ce,rfl,hpe,hce⟩
    ·obtain⟨Ae,ce,q7,hpe,hce⟩:LgQ wr.heap.size 4 row kk ok (a'.tmps.getD 30 undef) W:=dp hdep 7
     have q7':=q7;rw[Array.getD_eq_getD_getElem?]at q7'
     exact .inl ⟨D Ae row.length ce,W,by simp only[execOp,Act.eval,q7];go_simp,Bel.rfl' _,trivial,Ae,ce,rfl,hpe,hce⟩
   intro v w2 hW hIW hg
   have g0:v 0=_:=gq hg 0
   have g1:v 1=_:=gq hg 1
   have g2:v 2=_:=gq hg 2
   have g3:v 3=_:=gq hg 3
   have g4:v 4=_:=gq hg 4
   have g5:v 5=_:=gq hg 5
   obtain⟨_,_,g6,_,_⟩:LgQ wr.heap.size 4 row kk ok (v 6) w2:=hg 6 (by omega)
   obtain⟨_,_,g7,_,_⟩:LgQ wr.heap.size 4 row kk ok (v 7) w2:=hg 7 (by omega)
   obtain⟨A9,k9,g8,hp9,-⟩:PlQ wr.heap.size 4 row (v 8) w2:=hg 8 (by omega)
   have g9:v 9=_:=gq hg 9
   have g10:v 10=_:=gq hg 10
   simp only[List.drop_succ_cons,List.drop_zero,putV,dsA8,g0,g1,g2,g3,g4,g5,g6,g7,g8,g9,g10,Act.put]
   clear g0 g1 g2 g3 g4 g5 g6 g7 g8 g9 g10 hg hIW;have HF2:=h_ (HF.out.below hW)
   have HFX2:Hid (Frm (fun k=>k=w1.heap.size) w3 w2):=HFX.out.trans (Frm.of_below' _ hW)
   have HO2:=h_ (HO.out.below hW)
   have HVL:Hid (∀k,(Value.slice Ay na cy).ownBlock=some k->k<wr.heap.size):=fun k hk=>(HO.out.lt k hk).2.1
   have hz2:=Below.size hW;obtain⟨rl,hrl2⟩:∃rl,rl=row.length:=⟨_,rfl⟩;rw[<-hrl2]at hp9
   have HP2:Hid (PLs (fun k=>k<wr.heap.size) w2 4 A9 rl row):=hp9
   have HRLN:=h_ hrl2
   have hrl6:rl<=390625:=by rw[hrl2];exact HRL.out
   rw[<-hrl2];clear hp9 hW HF CQ HO HFX hrl2;obtain⟨fl2,hfl2⟩:∃fl2,fl2=(fl&&ok):=⟨_,rfl⟩
   have HFL2:Hid (fl2=allF P h (own,other) (DS.take (q+1))):=by unfold Hid;rw[HALF.out,<-HFL.out,hfl2]
   go_upto_region 9 with (fail)
   go_cut [10]from 24 to 81 (fun v10 wc=>v10=O fl2/\wc=w2)
   case first=>
    rcases ok with _|_
    ·rcases fl with _|_
     ·go_wp2_with (fail)
      go_meet
      exact⟨by rw[hfl2];rfl,rfl⟩
     ·go_wp2_with (fail)
      go_meet
      exact⟨by rw[hfl2];rfl,rfl⟩
    ·rcases fl with _|_
     ·go_wp2_with (fail)
      go_meet
      exact⟨by rw[hfl2];rfl,rfl⟩
     ·go_wp2_with (fail)
      go_meet
      exact⟨by rw[hfl2];rfl,rfl⟩
   case rest=>
    obtain⟨rfl,hc2⟩:=hcut;replace hc2:=hc2.symm;subst hc2;clear hfl2 HFL HALF
    go_upto_region 10 with (fail)
    go_cut [60]from 24 to 81 (fun v60 wc=>v60=O (decide (kk≠N\/(N=1/\q=1/\0<na)))/\wc=w2)
    case first=>
     by_cases hk:kk=N
     ·have bk:((kk:Int) != (N:Int))=false:=by simp;omega
      by_cases h1:N=1
      ·have b1:((N:Int) == 1)=true:=by simp[h1]
       by_cases hq1:q=1
       ·have b2:((q:Int) == 1)=true:=by simp[hq1]
        have HKK:=h_ (And.intro hk (And.intro h1 hq1));clear hk h1 hq1
        go_wp2_with (fail)
        go_meet
        exact⟨congrArg Value.bool (decide_eq_decide.2 ⟨fun h9=>.inr ⟨HKK.out.2.1,HKK.out.2.2,by omega⟩,fun h9=>h9.elim (fun h9=>absurd HKK.out.1 h9) (fun h9=>by have:=h9.2.2;omega)⟩),rfl⟩
       ·have b2:((q:Int) == 1)=false:=by simp;omega
        have HKK:=h_ (And.intro hk hq1);clear hk h1 hq1
        go_wp2_with (fail)
        go_meet
        exact⟨congrArg Value.bool (decide_eq_false (p:=kk≠N\/(N=1/\q=1/\0<na)) (fun h9=>h9.elim (fun h9=>h9 HKK.out.1) (fun h9=>HKK.out.2 h9.2.1))).symm,rfl⟩
      ·have b1:((N:Int) == 1)=false:=by simp;omega
       have HKK:=h_ (And.intro hk h1);clear hk h1
       go_wp2_with (fail)
       go_meet
       exact⟨congrArg Value.bool (decide_eq_false (p:=kk≠N\/(N=1/\q=1/\0<na)) (fun h9=>h9.elim (fun h9=>h9 HKK.out.1) (fun h9=>HKK.out.2 h9.1))).symm,rfl⟩
     ·have bk:((kk:Int) != (N:Int))=true:=by simp;omega
      have HKK:=h_ hk;clear hk
      go_wp2_with (fail)
      go_meet
      exact⟨congrArg Value.bool (decide_eq_true (p:=kk≠N\/(N=1/\q=1/\0<na)) (.inl HKK.out)).symm,rfl⟩
    case rest=>
     obtain⟨rfl,hc2⟩:=hcut;replace hc2:=hc2.symm;subst hc2
     by_cases hcd0:kk≠N\/(N=1/\q=1/\0<na)
     ·have hcd:kk≠N\/(N=1/\q=1/\acc≠[]):=hcd0.imp id (fun h9=>⟨h9.1,h9.2.1,fun h8=>by have:=HNA.out;rw[h8]at this;simp at this;omega⟩)
      rw[decide_eq_true hcd0];clear hcd0
      have HPRS:Hid (PL=refQ N (q+1) (Q.drop (q+1)) acc):=by
       unfold Hid;rw[HPR.out,HDRQ.out]
       show(if kk≠N\/(N=1/\q=1/\acc≠[])then _ else _)=_
       rw[if_pos hcd]
      have HAL2:Hid (acc.length<=(q+1)*390625):=Nat.le_trans HAL.out (Nat.mul_le_mul_right _ (Nat.le_succ q));clear HPR HDRQ HAL hcd
      go_wp2_with (fail)
      exact⟨⟨q+1,acc,fl2,by omega,by go_num,rfl,⟨_,rfl,HO2,HVB⟩,HAS,HAL2,HPRS,HFL2,HFX2,HF2⟩,by simp[intOf];omega⟩
     ·have hcd:¬(kk≠N\/(N=1/\q=1/\acc≠[])):=fun h9=>hcd0 (h9.imp id (fun h9=>⟨h9.1,h9.2.1,by have:=HNA.out;have:=List.length_pos_iff.2 h9.2.2;omega⟩))
      rw[decide_eq_false hcd0];clear hcd0
      have HPRJ:Hid (PL=refQ N (q+1) (Q.drop (q+1)) (joinP acc row)):=by
       unfold Hid;rw[HPR.out,HDRQ.out]
       show(if kk≠N\/(N=1/\q=1/\acc≠[])then _ else _)=_
       rw[if_neg hcd]
      clear HPR HDRQ hcd;obtain⟨wo,rfl⟩:∃wo:World,wo=wr:=⟨_,rfl⟩
      go_wp2_with (fail)
      go_loopw [9,16] (fun v9 v16 wr=>∃(t:Nat),t<=rl/\v16=n F t/\(∃vy,vy=v9/\Hid (OPl (fun k=>k<w.heap.size) wr 4 w1.heap.size 85 vy (joinP acc (row.take t)))/\Hid (∀k,vy.ownBlock=some k->k=w1.heap.size\/(w3.heap.size<=k/\k<wo.heap.size)\/w2.heap.size<=k))/\Hid (∀x∈joinP acc (row.take t),Sd P C x)/\Hid (Frm (fun k=>k=w1.heap.size\/(w3.heap.size<=k/\k<wo.heap.size)) w2 wr)) (fun _ v16 _=>rl-(intOf v16).toNat)
      case atStart=>exact⟨0,by omega,rfl,⟨_,rfl,HO2.out,fun k hk=>(HVB.out k hk).elim .inl (fun h9=>.inr (.inl ⟨h9,HVL.out k hk⟩))⟩,HAS.out,Frm.refl _ _⟩
      case round=>
       clear HO2 HAS;obtain⟨t,htr,rfl,⟨vy,rfl,HO,HVY⟩,HS,HFX⟩:=hrel;have hzi:w2.heap.size<=wr.heap.size:=HFX.out.size
       by_cases hlt3:t<rl
       ·have hkj:(t:Int)<(rl:Int):=by omega
        obtain⟨bl,ol,A0,n0,c0,E1,m1,kE1,E2,m2,kE2,hAg,-,hbs,y0,y1,y2,⟨vs,q0,q1,q2,q3⟩,p1,r1,p2,r2⟩:=HP2.out.at hlt3
        have hbs2:¬(fun k=>k=w1.heap.size\/(w3.heap.size<=k/\k<wo.heap.size)) bl:=fun h9=>by rcases h9 with h9|h9<;>exact hbs (by show bl<wo.heap.size;omega)
        have x0:=HFX.out.cell' y0 hbs2;have x1:=HFX.out.cell' y1 hbs2;have x2:=HFX.out.cell' y2 hbs2
        have hkrow:t<row.length:=by have:=HRLN.out;omega
        have HTJ:Hid (joinP acc (row.take (t+1))=addN (joinP acc (row.take t)) (row.getD t ([],[]))):=k7 hkrow;have HNS:=h_ (HRS.out _ (ak row ([],[]) hkrow));obtain⟨nx,hnx⟩:∃nx,nx=row.getD t ([],[]):=⟨_,rfl⟩;rw[<-hnx]at p1 p2 HTJ HNS
        have HPE:Hid (∀W:World,Frm (fun k=>k=w1.heap.size\/(w3.heap.size<=k/\k<wo.heap.size)) w2 W->PEs (wth (fun k=>k<w.heap.size) vy) W 4 [D A0 n0 c0,D E1 m1 kE1,D E2 m2 kE2] [nx]):=fun W hw=>by
         have hS2:∀k,(wth (fun k=>k<w.heap.size) vy k\/k<wo.heap.size)->k<wo.heap.size\/w2.heap.size<=k:=fun k hk=>by
          rcases hk with (hk|hk)|hk
          ·exact .inl (by have hk:k<w.heap.size:=hk;omega)
          ·rcases HVY.out k hk with h9|h9|h9
           ·exact .inl (by omega)
           ·exact .inl h9.2
           ·exact .inr h9
          ·exact .inl hk
         have h1:=PEs.one (PE.frm (S:=fun k=>wth (fun k=>k<w.heap.size) vy k\/k<wo.heap.size) (m:=4) (b:=nx) (s:=D A0 n0 c0) (u:=D E1 m1 kE1) (v:=D E2 m2 kE2) ⟨⟨A0,n0,c0,vs,rfl,q0.set hS2,q1,q2,q3⟩,⟨E1,m1,kE1,rfl,p1.set hS2,r1⟩,⟨E2,m2,kE2,rfl,p2.set hS2,r2⟩⟩ (hw.mono fun k hk=>.inr (by rcases hk with hk|hk<;>omega)))
         exact h1.set fun k hk=>.inl (.inl hk)
        have hm1:m1=nx.1.length:=p1.1.1.symm;have hm2:m2=nx.2.length:=p2.1.1.symm
        have HQ1:Hid (SL wr E1 m1 nx.1):=(p1.frm (HFX.out.mono fun k hk=>by show k<wo.heap.size;rcases hk with hk|hk<;>omega)).1
        have HQ2:Hid (SL wr E2 m2 nx.2):=(p2.frm (HFX.out.mono fun k hk=>by show k<wo.heap.size;rcases hk with hk|hk<;>omega)).1
        have HKL:Hid ((joinP acc (row.take t)).length<=1200000):=by
         have h1:=cP (row.take t) acc
         have h2:(row.take t).length<=rl:=by rw[List.length_take];omega
         have h3:=Nat.le_trans HAL.out (Nat.mul_le_mul_right 390625 (show q<=2 by omega))
         have h4:2*390625=781250:=by decide
         rw[h4]at h3
         show(joinP acc (row.take t)).length<=1200000
         omega
        have CF:Hid (Calls Tryz.prog 191 #[vy,J #[D E1 m1 kE1,D E2 m2 kE2]] wr (RetFi wr (joinP acc (row.take t)) nx)):=by
         obtain⟨Ay,cy,hvy,hpy,-⟩:=HO.out.read;rw[hvy]
         exact j6 _ 4 Ay E1 E2 _ cy m1 kE1 m2 kE2 _ nx.1 nx.2 wr hpy HQ1.out HQ2.out (fun x hx=>⟨by rw[(HS.out x hx).len1,hm1,HNS.out.len1],by rw[(HS.out x hx).len2,hm2,HNS.out.len2]⟩) (by rw[hm1,HNS.out.len1];omega) (by rw[hm2,HNS.out.len2];omega) (by have:=HKL.out;omega)
        subst hAg;clear y0 y1 y2 q0 q1 q2 q3 p1 p2 r1 r2 hnx HQ1 HQ2 hm1 hm2
        go_wp2_with (fail)
        refine CF.out.mono ?_
        rintro e w4 ⟨r,rfl,hr1,hr2,hr3,hb4⟩
        have HO4:=h_ (HO.out.below hb4)
        have HFX4:Hid (Frm (fun k=>k=w1.heap.size\/(w3.heap.size<=k/\k<wo.heap.size)) w2 w4):=HFX.out.trans (Frm.of_below' _ hb4)
        have hz4:wr.heap.size<=w4.heap.size:=hb4.size;have x0':=(Frm.of_below hb4).cell' x0 id;have x1':=(Frm.of_below hb4).cell' x1 id;have x2':=(Frm.of_below hb4).cell' x2 id;clear x0 x1 x2 hb4
        by_cases hin2:nx∈joinP acc (row.take t)
        ·have HE:Hid (joinP acc (row.take (t+1))=joinP acc (row.take t)):=by unfold Hid;rw[HTJ.out,mK hin2]
         have hr:¬r<0:=fun h=>hr3.1 h hin2
         clear hin2 hr3 CF HO HFX HTJ
         go_wp2_with (fail)
         exact⟨⟨t+1,by omega,by go_num,⟨vy,rfl,by rw[HE.out];exact HO4.out,HVY⟩,by rw[HE.out];exact HS.out,HFX4⟩,by simp[intOf];omega⟩
        ·have HE:Hid (joinP acc (row.take (t+1))=joinP acc (row.take t)++[nx]):=by unfold Hid;rw[HTJ.out,jw hin2]
         have hr:r<0:=hr3.2 hin2
         have HS2:Hid (∀x∈joinP acc (row.take (t+1)),Sd P C x):=fun x hx=>by
          rw[HE.out]at hx
          rcases List.mem_append.1 hx with h9|h9
          ·exact HS.out x h9
          ·rw[List.mem_singleton.1 h9];exact HNS.out
         obtain⟨cs,hrow,hpe,hnb⟩:=HO4.out;have HROW:Hid ((w4.alloc (I #[D A0 n0 c0,D E1 m1 kE1,D E2 m2 kE2] 85)).ownsRow w1.heap.size 85 3 vy (joinP acc (row.take t)).length cs):=World.ownsRow.alloc hrow _
         have HPV:Hid (PEs (wth (fun k=>k<w.heap.size) vy) (w4.alloc (I #[D A0 n0 c0,D E1 m1 kE1,D E2 m2 kE2] 85)) 4 cs (joinP acc (row.take t))):=hpe.frm ((Frm.refl _ _).alloc _)
         have HPN:Hid (PEs (wth (fun k=>k<w.heap.size) vy) (w4.alloc (I #[D A0 n0 c0,D E1 m1 kE1,D E2 m2 kE2] 85)) 4 [D A0 n0 c0,D E1 m1 kE1,D E2 m2 kE2] [nx]):=HPE.out _ (HFX4.out.alloc _)
         have HNB:=h_ hnb
         have HNW:Hid (∀j u,[D A0 n0 c0,D E1 m1 kE1,D E2 m2 kE2][j]? =some u->(w4.alloc (I #[D A0 n0 c0,D E1 m1 kE1,D E2 m2 kE2] 85)).cell? ((⟨w4.heap.size,0,none⟩:Addr).add j)=some u):=fun j u hj=>by
          have h9:=(Cel.new w4 #[D A0 n0 c0,D E1 m1 kE1,D E2 m2 kE2] 85).cell j u hj;unfold Addr.add
          split
          ·rename_i h0;rw[h0]at h9;exact h9
          ·rw[Nat.zero_add];exact h9
         have hzb:w1.heap.size<=(w4.alloc (I #[D A0 n0 c0,D E1 m1 kE1,D E2 m2 kE2] 85)).heap.size:=by simp;omega
         clear hin2 hr3 CF hrow hpe hnb HPE HO HFX HO4 HTJ
         go_wp2_with (at_builtin;(refine wpList_append_own_at _ rfl _ _ 79 rfl w1.heap.size 85 j0 (J #[D none 0 0,D none 0 0,D none 0 0]) 3 72 Tryz.underlying79 hj jz0 jz1 jz2 rfl (by decide) _ _ _ rfl HROW.out ⟨w4.heap.size,0,none⟩ 1 1 [D A0 n0 c0,D E1 m1 kE1,D E2 m2 kE2] rfl rfl HNW.out (fun u hu=>by simp at hu;rcases hu with rfl|rfl|rfl<;>rfl) (by have:=HKL.out;unfold maxLen;omega) (by have:=HKL.out;omega) hzb ?_);intro v' w6 hown hgrow _ hat)
         have hzA:(w4.alloc (I #[D A0 n0 c0,D E1 m1 kE1,D E2 m2 kE2] 85)).heap.size=w4.heap.size+1:=by simp
         have HO6:Hid (OPl (fun k=>k<w.heap.size) w6 4 w1.heap.size 85 v' (joinP acc (row.take (t+1)))):=by
          unfold Hid;rw[HE.out]
          refine OPl.grew2 HPV.out HPN.out hown rfl hgrow hat HNB.out (fun h9=>?_)
          have h9:(w4.alloc (I #[D A0 n0 c0,D E1 m1 kE1,D E2 m2 kE2] 85)).heap.size<w.heap.size:=h9
          omega
         have HFX6:Hid (Frm (fun k=>k=w1.heap.size\/(w3.heap.size<=k/\k<wo.heap.size)) w2 w6):=(HFX4.out.alloc _).outs' (Frm.of_grown hgrow) (fun k hk=>by
          rcases HVY.out k hk.symm with h9|h9|h9
          ·exact .inl (.inl h9)
          ·exact .inl (.inr h9)
          ·exact .inr h9)
         have HVY6:Hid (∀k,v'.ownBlock=some k->k=w1.heap.size\/(w3.heap.size<=k/\k<wo.heap.size)\/w2.heap.size<=k):=fun k hk=>by
          rcases hat with h9|h9
          ·exact HVY.out k (h9.symm.trans hk)
          ·rw[h9]at hk;injection hk with hk;exact .inr (.inr (by omega))
         clear hown hgrow hat HNW HNB HPN HPV HROW hzA
         exact⟨⟨t+1,by omega,by go_num,⟨v',rfl,HO6,HVY6⟩,HS2,HFX6⟩,by simp[intOf];omega⟩
       ·have hkj:¬(t:Int)<(rl:Int):=by omega
        have HTE:Hid (joinP acc (row.take t)=joinP acc row):=by
         unfold Hid
         rw[List.take_of_length_le (by have:=HRLN.out;omega)]
        have HAL2:Hid ((joinP acc row).length<=(q+1)*390625):=by
         refine Nat.le_trans (cP row acc) ?_
         rw[Nat.add_mul,Nat.one_mul]
         exact Nat.add_le_add HAL.out HRL.out
        have HO7:=HO;rw[HTE.out]at HO7;have HS7:=HS;rw[HTE.out]at HS7
        have HVB7:Hid (∀k,vy.ownBlock=some k->k=w1.heap.size\/w3.heap.size<=k):=fun k hk=>by
         rcases HVY.out k hk with h9|h9|h9
         ·exact .inl h9
         ·exact .inr h9.1
         ·exact .inr (by omega)
        have HFX7:Hid (Frm (fun k=>k=w1.heap.size) w3 wr):=HFX2.out.outs' HFX.out (fun k hk=>by
         rcases hk with h9|h9
         ·exact .inl h9
         ·exact .inr h9.1)
        have HF7:Hid (Fr w wr [[n F (P:Int),n F c,n F (h:Int),n F s],[D A1 n1 c1,D A2 n2 c2],[n F (ra:Int),n F (rb:Int)]]):=HF2.out.frm HFX.out (fun k hk=>by rcases hk with h9|h9<;>omega) (fun k hk=>by simp;rcases hk with h9|h9<;>omega)
        clear HO HS HTE HFX HVY
        go_wp2_with (fail)
        exact⟨⟨q+1,joinP acc row,fl2,by omega,by go_num,rfl,⟨vy,rfl,HO7,HVB7⟩,HS7,HAL2,HPRJ,HFL2,HFX7,HF7⟩,by simp[intOf];omega⟩
  ·have hji:¬(q:Int)<(no:Int):=by omega
   have HRE:Hid (RetAl w 4 PL R3 (R (U #[vx,O fl])) wr):=by
    have h9:=HPR.out
    rw[List.drop_of_length_le (by rw[HQL.out];omega)]at h9
    obtain⟨A8,c8,hv8,hp8,hc8⟩:=HO.out.read
    rw[h9,HGF.out,HFL.out,List.take_of_length_le (by omega)]
    exact⟨A8,c8,by rw[hv8];rfl,hp8,hc8,HF.out.b⟩
   clear HO HPR HFL
   go_wp2_with (fail)
   go_ret2
   exact HRE.out
end Go.Proofs.YtcmeoenkgmghkaaGreat

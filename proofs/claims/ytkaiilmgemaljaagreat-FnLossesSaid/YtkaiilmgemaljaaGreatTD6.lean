/- Part of one proof. There are no conditions. -/
import Derived.Test.YtkaiilmgemaljaaGreatTD5
set_option maxHeartbeats 0
set_option linter.unusedVariables false
set_option linter.unusedSimpArgs false
set_option maxRecDepth 100000
namespace Go.Proofs.YtkaiilmgemaljaaGreat
open Go.RowKit
def dsD12:Nat->Nat
 | 0=>11
 | 1=>12
 | 2=>13
 | 3=>14
 | 4=>15
 | 5=>16
 | 6=>17
 | _=>0
theorem l12Draw_any (g:Nat) (C:Option Addr) (n cc:Nat) (bs:List Int) (q:Int×Nat) (W:World) (hs:SrcG W g C n cc bs q):
  Calls Tryz.prog 71 #[.pointer (some ⟨g,0,none⟩)] W (RetD12 g C n cc bs W (d12F bs q)):=by
 have hg:=hs.lt
 have HF0:Hid (FrS (fun j=>j=g) W (W.alloc (.cells #[.int .i64 0,.int .i64 0,.int .i64 0,.int .i64 0] 25)) [[.int .i64 0,.int .i64 0,.int .i64 0,.int .i64 0]]):=(FrS.start W (fun k hk=>by rw[hk];exact hg)).allocT (by simp) _ _
 have HS0:=h_ (hs.alloc (.cells #[.int .i64 0,.int .i64 0,.int .i64 0,.int .i64 0] 25));have hbd:=dvF_bd bs q
 dsimp only at hbd
 have HD:Hid (d12F bs q=(((dvF bs q).1.1,(dvF bs q).1.2.1,(dvF bs q).1.2.2.1,minS bs (dvF bs q).2 (dvF bs q).1.2.2.2),
  lpF bs 2 (drF bs (ns bs (dvF bs q).2 2) (dvF bs q).1.2.1 (dvF bs q).1.2.2.1.toNat).1
   (drF bs (drF bs (ns bs (dvF bs q).2 2) (dvF bs q).1.2.1 (dvF bs q).1.2.2.1.toNat).2 (dvF bs q).1.2.1 (dvF bs q).1.2.2.1.toNat).1
   (drF bs (drF bs (ns bs (dvF bs q).2 2) (dvF bs q).1.2.1 (dvF bs q).1.2.2.1.toNat).2 (dvF bs q).1.2.1 (dvF bs q).1.2.2.1.toNat).2)):=rfl
 clear hs
 go_enter Tryz.func71,Tryz.ntmps71
 go_wp2_with (fail)
 refine (fI g C n cc bs q _ HS0.out).mono ?_
 rintro e w1 ⟨rfl,hs1,hf1⟩
 have HS1:=h_ hs1;have HF1:=h_ (HF0.out.frm hf1);clear hs1 hf1 HS0 HF0;generalize (dvF bs q).1.1=p at *;generalize (dvF bs q).1.2.1=c at *;generalize (dvF bs q).1.2.2.1=h at *;generalize (dvF bs q).1.2.2.2=s at *;generalize (dvF bs q).2=q1 at *;obtain⟨hp0,hp1,hc0,hc1,hh0,hh1,hs0,hs1⟩:=hbd
 obtain⟨h',rfl⟩:∃h':Nat,h=h':=⟨h.toNat,by omega⟩
 rw[Int.toNat_natCast]at HD
 go_wp2_with (fail)
 have HSV:=h_ (HS1.out.alloc (.cells #[.int .i64 p,.int .i64 c,.int .i64 (h':Int),.int .i64 s] 25));have HFV:=h_ (HF1.out.alloc (.cells #[.int .i64 p,.int .i64 c,.int .i64 (h':Int),.int .i64 s] 25));have HCV:Hid (Cel (w1.alloc (.cells #[.int .i64 p,.int .i64 c,.int .i64 (h':Int),.int .i64 s] 25)) w1.heap.size [.int .i64 p,.int .i64 c,.int .i64 (h':Int),.int .i64 s]):=Cel.new w1 #[.int .i64 p,.int .i64 c,.int .i64 (h':Int),.int .i64 s] _;have hgv:g<w1.heap.size:=HS1.out.lt
 have hwv:W.heap.size+1<=w1.heap.size:=by have:=HF1.out.z;simpa using this
 clear HS1 HF1;generalize w1.alloc (.cells #[.int .i64 p,.int .i64 c,.int .i64 (h':Int),.int .i64 s] 25)=V at *;generalize w1.heap.size=gv at *;have hx2:=nx_bd bs q1 2;have HMS:Hid (minS bs q1 s=min s (2+nx bs q1 2)):=rfl;generalize minS bs q1 s=ms at *;have hms:=HMS.out
 have hms0:0<=ms/\ms<=7:=by omega
 have HJ:Hid (∀vs,JD V g C n cc bs q1 (ns bs q1 2) (evD (.pointer (some ⟨gv,3,none⟩)) (.int .i64 s) (.pointer (some ⟨g,0,none⟩)) (.int .i64 (nx bs q1 2)) (.int .i64 (2+nx bs q1 2)) (.int .i64 ms)) (fun _=>false) vs { V with drawn:=V.drawn+1 }):=
  fun vs=>⟨(Frm.refl _ _).drew,fun _=>HSV.out.below (Bel.drew V),fun h=>(by cases h),fun _ _ _ h=>(by cases h)⟩
 refine fn 7 (fun _=>false) dsD12 (JD V g C n cc bs q1 (ns bs q1 2) (evD (.pointer (some ⟨gv,3,none⟩)) (.int .i64 s) (.pointer (some ⟨g,0,none⟩)) (.int .i64 (nx bs q1 2)) (.int .i64 (2+nx bs q1 2)) (.int .i64 ms))) (by kernel_rfl) (by kernel_rfl) (fun _ _ _ _ _ h=>h) HJ.out ?_ ?_ ?_
 ·intro i op hi hX ho Ls a' W3 H hun hfar hdep
  exact absurd hX (by simp)
 ·intro i op hi hX ho Ls a' W3 H hun hfar hdep
  have e0:a'.tmps.getD 0 undef = .pointer (some ⟨g,0,none⟩):=(hfar 0 (by decide)).trans rfl
  have e5:a'.tmps.getD 5 undef = .pointer (some ⟨gv,0,none⟩):=(hfar 5 (by decide)).trans rfl
  have hi8:i=0\/i=1\/i=2\/i=3\/i=4\/i=5\/i=6:=by omega
  clear hX hi hfar
  rcases hi8 with rfl|rfl|rfl|rfl|rfl|rfl|rfl
  all_goals (simp at ho;subst ho)
  ·exact .inl ⟨.pointer (some ⟨gv,3,none⟩),W3,by simp only[execOp,Act.eval,e5];go_simp,fun L' vs' hu=>H.pure hu (by decide) (fun y hy=>by injection hy)⟩
  ·have d1:a'.tmps.getD 11 undef = .pointer (some ⟨gv,3,none⟩):=H.eq 0 _ (by omega) (hdep 0 (by omega) (by kernel_rfl)) rfl
   have z0:W3.cell? ⟨gv,3,none⟩=some (.int .i64 s):=H.f.cell' (HCV.out.cell 3 _ rfl) (by omega)
   exact .inl ⟨.int .i64 s,W3,by simp only[execOp,Act.eval,d1];go_simp,fun L' vs' hu=>H.pure hu (by decide) (fun y hy=>by injection hy)⟩
  ·exact .inl ⟨.pointer (some ⟨g,0,none⟩),W3,by simp only[execOp,Act.eval,e0];go_simp,fun L' vs' hu=>H.pure hu (by decide) (fun y hy=>by injection hy)⟩
  ·have d1:a'.tmps.getD 13 undef = .pointer (some ⟨g,0,none⟩):=H.eq 2 _ (by omega) (hdep 2 (by omega) (by kernel_rfl)) rfl
   refine .inr ⟨154,#[.pointer (some ⟨g,0,none⟩),.int .i64 2],by simp only[execOp,Act.eval,d1];go_simp,?_⟩
   refine (bB (H.s0 hun) (k:=2) (by omega)).mono ?_
   rintro e W' ⟨rfl,hs',hf'⟩
   exact⟨_,rfl,fun L' vs' hu=>H.call hu hf' hs' (fun y hy=>by injection hy)⟩
  ·have d1:a'.tmps.getD 14 undef = .int .i64 (nx bs q1 2):=H.eq 3 _ (by omega) (hdep 3 (by omega) (by kernel_rfl)) rfl
   exact .inl ⟨.int .i64 (2+nx bs q1 2),W3,by simp only[execOp,Act.eval,d1];go_simp;exact IntWalk.i64_in _ (by omega),fun L' vs' hu=>H.pure hu (by decide) (fun y hy=>by injection hy)⟩
  ·have d1:a'.tmps.getD 12 undef = .int .i64 s:=H.eq 1 _ (by omega) (hdep 1 (by omega) (by kernel_rfl)) rfl
   have d2:a'.tmps.getD 15 undef = .int .i64 (2+nx bs q1 2):=H.eq 4 _ (by omega) (hdep 4 (by omega) (by kernel_rfl)) rfl
   exact .inl ⟨.int .i64 ms,W3,by simp only[execOp,Act.eval,d1,d2];rw[hms];go_simp,fun L' vs' hu=>H.pure hu (by decide) (fun y hy=>by injection hy)⟩
  ·exact .inl ⟨.pointer (some ⟨gv,3,none⟩),W3,by simp only[execOp,Act.eval,e5];go_simp,fun L' vs' hu=>H.pure hu (by decide) (fun y hy=>by injection hy)⟩
 intro Ls v W2 hall H
 have g0:v 0 = .pointer (some ⟨gv,3,none⟩):=H.eq 0 _ (by omega) (hall 0 (by omega)) rfl
 have g1:v 1 = .int .i64 s:=H.eq 1 _ (by omega) (hall 1 (by omega)) rfl
 have g2:v 2 = .pointer (some ⟨g,0,none⟩):=H.eq 2 _ (by omega) (hall 2 (by omega)) rfl
 have g3:v 3 = .int .i64 (nx bs q1 2):=H.eq 3 _ (by omega) (hall 3 (by omega)) rfl
 have g4:v 4 = .int .i64 (2+nx bs q1 2):=H.eq 4 _ (by omega) (hall 4 (by omega)) rfl
 have g5:v 5 = .int .i64 ms:=H.eq 5 _ (by omega) (hall 5 (by omega)) rfl
 have g6:v 6 = .pointer (some ⟨gv,3,none⟩):=H.eq 6 _ (by omega) (hall 6 (by omega)) rfl
 have HS2:=h_ (H.s1 (hall 3 (by omega)))
 have HF2:=h_ (HFV.out.frm H.f)
 have HC2:=h_ (HCV.out.frmN H.f (by omega))
 simp only[List.drop_succ_cons,List.drop_zero,putV,dsD12,g0,g1,g2,g3,g4,g5,g6,Act.put]
 clear g0 g1 g2 g3 g4 g5 g6 H hall HSV HFV HCV hms HMS;generalize nx bs q1 2=x2 at *;generalize ns bs q1 2=q2 at *;have HS3:=h_ (HS2.out.set (b:=gv) (i:=3) hgv (.int .i64 ms))
 have HF3:=h_ (HF2.out.out (Frm.set W2 gv 3 (.int .i64 ms)) (fun j hj=>by rw[hj];simpa using hwv))
 have HC3:Hid (Cel (W2.setCell ⟨gv,3,none⟩ (.int .i64 ms)) gv [.int .i64 p,.int .i64 c,.int .i64 (h':Int),.int .i64 ms]):=HC2.out.st (i:=3) (by simp)
 have y3:=HC2.out.cell 3 _ rfl;have yf3:=HC2.out.froz 3 _ rfl;have y0:=HC2.out.cell 0 _ rfl;have y1:=HC2.out.cell 1 _ rfl;have y2:=HC2.out.cell 2 _ rfl;have yz:=HC2.out.lt
 go_wp2_with (fail)
 clear y0 y1 y2 y3 yf3 yz HS2 HF2 HC2;generalize W2.setCell ⟨gv,3,none⟩ (.int .i64 ms)=U3 at *
 refine (ii g C n cc bs q2 p c ms h' (by omega) (by omega) (by omega) (by omega) U3 HS3.out).mono ?_
 rintro e U4 ⟨vo,rfl,ho,hs4,hf4⟩
 have HS4:=h_ hs4;have HF4:=h_ (HF3.out.frm hf4)
 have HC4:=h_ (HC3.out.frmN hf4 (by omega))
 have HO4:=h_ ho;have hz3:gv<U3.heap.size:=HC3.out.lt;clear hs4 hf4 ho HS3 HF3 HC3
 have hel1:=h_ (drF_el bs q2 (c:=c) (by omega) (by omega) h')
 have hln1:=drF_len bs q2 (c:=c) (by omega) h'
 generalize (drF bs q2 c h').1=o0 at *;generalize (drF bs q2 c h').2=q3 at *;have y0:=HC4.out.cell 0 _ rfl;have y1:=HC4.out.cell 1 _ rfl;have y2:=HC4.out.cell 2 _ rfl;have y3:=HC4.out.cell 3 _ rfl;have yz:=HC4.out.lt
 go_wp2_with (fail)
 clear y0 y1 y2 y3 yz
 refine (ii g C n cc bs q3 p c ms h' (by omega) (by omega) (by omega) (by omega) U4 HS4.out).mono ?_
 rintro e U5 ⟨vt,rfl,ht,hs5,hf5⟩
 have HS5:=h_ hs5;have HF5:=h_ (HF4.out.frm hf5)
 have HC5:=h_ (HC4.out.frmN hf5 (by omega))
 have HO5:Hid (OwnS U5 U3.heap.size 2 vo o0):=hf5.own HO4.out fun j hj hjg=>by have:=(HO4.out.lt j hj).1;omega
 have HT5:=h_ ht;have hlo:∀j,vo.ownBlock=some j->U3.heap.size<=j/\j<U4.heap.size:=HO4.out.lt;clear hs5 hf5 ht HS4 HF4 HC4 HO4
 have hel2:=h_ (drF_el bs q3 (c:=c) (by omega) (by omega) h')
 have hln2:=drF_len bs q3 (c:=c) (by omega) h'
 generalize (drF bs q3 c h').1=t0 at *;generalize (drF bs q3 c h').2=q4 at *;obtain⟨Ax,cx,hvx,_,hcx⟩:=HO5.out.read;subst hvx
 obtain⟨g1,rfl,hg10,hg11,_,_⟩:=cX HO5.out (by omega)
 obtain⟨At,ct,hvt,_,hct⟩:=HT5.out.read;subst hvt
 obtain⟨g2,rfl,hg20,hg21,_,_⟩:=cX HT5.out (by omega)
 have hlo1:=(hlo g1 rfl).2;clear hlo
 have hgv:gv<g1:=by omega
 have hg12:g1<g2:=by omega
 have hgg:g<gv:=by omega
 have hlo2:0<o0.length/\o0.length<=25:=by omega
 have hlt2:0<t0.length/\t0.length<=25:=by omega
 have HE1:Hid (∀x∈o0,-1<=x/\x<=30):=hel1.out;have HE2:Hid (∀x∈t0,-1<=x/\x<=30):=hel2.out;clear hel1 hel2 hln1 hln2;generalize hno:o0.length=no at *;generalize hnt:t0.length=nt at *;have HNO:=h_ hno;have HNT:=h_ hnt;clear hno hnt
 have hnoi:(0:Int)<(no:Int):=by omega
 have hnti:(0:Int)<(nt:Int):=by omega
 generalize d12F bs q=R at *;generalize U3.heap.size=z3 at *;generalize U4.heap.size=z4 at *
 have hg1g:¬g=g1:=by omega
 have hg2g:¬g=g2:=by omega
 have hg12n:¬g1=g2:=by omega
 have hgvg1:¬gv=g1:=by omega
 go_wp2_with (fail)
 go_loopw [8] (fun v8 wr=>∃(k f:Nat) (xo xt:List Int) (q5:Int×Nat),k+f=2/\v8 = .int .i64 k/\Hid (lpF bs f xo xt q5=lpF bs 2 o0 t0 q4)/\Hid (xo.length=no/\xt.length=nt)/\Hid ((∀x∈xo,-1<=x/\x<=30)/\(∀x∈xt,-1<=x/\x<=30))/\Hid (OwnS wr z3 2 (.slice (some ⟨g1,0,none⟩) no cx) xo)/\Hid (OwnS wr z4 2 (.slice (some ⟨g2,0,none⟩) nt ct) xt)/\Hid (SrcG wr g C n cc bs q5)/\Hid (FrS (fun j=>j=g) W wr [[.int .i64 0,.int .i64 0,.int .i64 0,.int .i64 0]])/\Hid (Cel wr gv [.int .i64 p,.int .i64 c,.int .i64 (h':Int),.int .i64 ms])) (fun v8 _=>2-(intOf v8).toNat)
 case atStart=>exact⟨0,2,o0,t0,q4,rfl,rfl,rfl,⟨HNO.out,HNT.out⟩,⟨HE1.out,HE2.out⟩,HO5.out,HT5.out,HS5.out,HF5.out,HC5.out⟩
 case round=>
  clear HO5 HT5 HS5 HF5 HC5 HE1 HE2 HNO HNT;obtain⟨k,f,xo,xt,q5,hkf,rfl,HL,HN,HE,HO,HT,HS,HF,HC⟩:=hrel
  by_cases hk2:k<2
  focus
   have hki:(k:Int)<2:=by omega
   obtain⟨f',rfl⟩:∃f',f=f'+1:=⟨f-1,by omega⟩
   have HL2:Hid ((if 0<nx bs q5 8 then lpF bs f' (fixL xo) (fixL xt) (ns bs q5 8) else (xo,xt,ns bs q5 8))=lpF bs 2 o0 t0 q4):=HL.out
   clear HL
   go_wp2_with (fail)
   refine (bB HS.out (k:=8) (by omega)).mono ?_
   rintro e w6 ⟨rfl,hs6,hf6⟩
   have HS6:=h_ hs6;have HF6:=h_ (HF.out.frm hf6)
   have HC6:=h_ (HC.out.frmN hf6 (by omega))
   have HO6:Hid (OwnS w6 z3 2 (.slice (some ⟨g1,0,none⟩) no cx) xo):=hf6.own HO.out fun j hj hjg=>by cases hj;exact hg1g hjg.symm
   have HT6:Hid (OwnS w6 z4 2 (.slice (some ⟨g2,0,none⟩) nt ct) xt):=hf6.own HT.out fun j hj hjg=>by cases hj;exact hg2g hjg.symm
   clear hs6 hf6 HS HF HC HO HT;generalize nx bs q5 8=x8 at *;generalize ns bs q5 8=q6 at *
   by_cases h8:0<x8
   focus
    have HL3:Hid (lpF bs f' (fixL xo) (fixL xt) q6=lpF bs 2 o0 t0 q4):=by have:=HL2.out;rw[if_pos h8]at this;exact this
    clear HL2
    go_wp2_with (fail)
    refine (fc (some ⟨g1,0,none⟩) no cx xo _ (HO6.out.sl rfl).1 HE.out.1 (by omega)).mono ?_
    rintro e w7 ⟨rfl,rfl⟩
    by_cases hso:xo.sum=0
    focus
     have b1:(xo.sum == 0)=true:=by simp[hso]
     have HX:Hid (fixL xo=xo.set 0 1):=by unfold Hid fixL;rw[if_pos hso]
     have HO7:Hid (OwnS (w6.setCell ⟨g1,0,none⟩ (.int .i64 1)) z3 2 (.slice (some ⟨g1,0,none⟩) no cx) (fixL xo)):=by rw[HX.out];exact HO6.out.stored 0 1
     have HT7:=h_ (HT6.out.far (b:=g1) (i:=0) (by omega) (.int .i64 1))
     have HS7:=h_ (HS6.out.set (b:=g1) (i:=0) (by omega) (.int .i64 1))
     have HF7:=h_ (HF6.out.out (Frm.set w6 g1 0 (.int .i64 1)) (fun j hj=>by rw[hj];simp;omega))
     have HC7:=h_ (HC6.out.far (b:=g1) (i:=0) (v:=.int .i64 1) hgvg1)
     obtain⟨ga,ea,_,_,hcl,hfr⟩:=cX HO6.out (by omega)
     cases ea
     have y0:=hcl 0 (by omega)
     have yf:=hfr 0;clear hcl hfr HX HT6 HO6 HS6 HF6 HC6 hso;generalize xo.sum=so at *;generalize xo.getD 0 0=yo at *
     go_wp2_with (fail)
     clear y0 yf;generalize w6.setCell ⟨g1,0,none⟩ (.int .i64 1)=Y at *
     refine ?zg
    rotate_left
    focus
     have b1:(xo.sum == 0)=false:=by simp[hso]
     have HO7:Hid (OwnS w6 z3 2 (.slice (some ⟨g1,0,none⟩) no cx) (fixL xo)):=by unfold fixL;rw[if_neg hso];exact HO6.out
     have HT7:=HT6;have HS7:=HS6;have HF7:=HF6;have HC7:=HC6;clear HT6 HO6 HS6 HF6 HC6 hso;generalize xo.sum=so at *
     refine ?zh
   rotate_left 2
   focus
    have HL3:Hid ((xo,xt,q6)=lpF bs 2 o0 t0 q4):=by have:=HL2.out;rw[if_neg h8]at this;exact this
    have HC9:=HC6;have HF9:=HF6;have HO9:=HO6;have HT9:=HT6;have HS9:=HS6;have y0:=HC9.out.cell 0 _ rfl;have y1:=HC9.out.cell 1 _ rfl;have y2:=HC9.out.cell 2 _ rfl;have y3:=HC9.out.cell 3 _ rfl;have yz:=HC9.out.lt;have x0:=HF9.out.c0 0 rfl;have x1:=HF9.out.c0 1 rfl;have x2:=HF9.out.c0 2 rfl;have x3:=HF9.out.c0 3 rfl;have f0:=HF9.out.f0 0 rfl;have f1:=HF9.out.f0 1 rfl;have f2:=HF9.out.f0 2 rfl;have f3:=HF9.out.f0 3 rfl
    have xz:=HF9.out.l0 (by simp)
    have HR:Hid (R=((p,c,(h':Int),ms),(xo,xt,q6))):=by unfold Hid;rw[HD.out,<- HL3.out]
    refine ?za
  rotate_left 3
  focus
   have HL3:Hid ((xo,xt,q5)=lpF bs 2 o0 t0 q4):=by have:=HL.out;rw[show f=0 by omega]at this;exact this
   have HC9:=HC;have HF9:=HF;have HO9:=HO;have HT9:=HT;have HS9:=HS;have y0:=HC9.out.cell 0 _ rfl;have y1:=HC9.out.cell 1 _ rfl;have y2:=HC9.out.cell 2 _ rfl;have y3:=HC9.out.cell 3 _ rfl;have yz:=HC9.out.lt;have x0:=HF9.out.c0 0 rfl;have x1:=HF9.out.c0 1 rfl;have x2:=HF9.out.c0 2 rfl;have x3:=HF9.out.c0 3 rfl;have f0:=HF9.out.f0 0 rfl;have f1:=HF9.out.f0 1 rfl;have f2:=HF9.out.f0 2 rfl;have f3:=HF9.out.f0 3 rfl
   have xz:=HF9.out.l0 (by simp)
   have HR:Hid (R=((p,c,(h':Int),ms),(xo,xt,q5))):=by unfold Hid;rw[HD.out,<- HL3.out]
   refine ?zb
  rotate_left
  case za|zb=>
   have H3:Hid (W.heap.size<z3/\W.heap.size<z4/\g<W.heap.size):=by unfold Hid;omega
   go_wp2_with (fail)
   have hR:=HR.out;have hN:=HN.out;obtain⟨h31,h32,h33⟩:=H3.out
   refine bodyPost_ret (v:=.tuple #[.agg #[.int .i64 p,.int .i64 c,.int .i64 (h':Int),.int .i64 ms],.slice (some ⟨g1,0,none⟩) no cx,.slice (some ⟨g2,0,none⟩) nt ct]) (by simp[results,Tryz.results71,go_sem,x0,x1,x2,x3]) rfl ?_
   rw[hR]
   refine⟨_,_,rfl,?_,?_,?_,?_⟩
   ·have hq:=((((HO9.out.far h31 (.int .i64 p) (i:=0)).far h31 (.int .i64 c) (i:=1)).far h31 (.int .i64 (h':Int)) (i:=2)).far h31 (.int .i64 ms) (i:=3)).base (b':=W.heap.size) (by omega)
    exact hq
   ·have hq:=((((HT9.out.far h32 (.int .i64 p) (i:=0)).far h32 (.int .i64 c) (i:=1)).far h32 (.int .i64 (h':Int)) (i:=2)).far h32 (.int .i64 ms) (i:=3)).base (b':=W.heap.size) (by omega)
    exact hq
   ·exact (((HS9.out.set h33 _).set h33 _).set h33 _).set h33 _
   ·exact (((HF9.out.f.ownSet (Nat.le_refl _) _).ownSet (Nat.le_refl _) _).ownSet (Nat.le_refl _) _).ownSet (Nat.le_refl _) _
  case' zg|zh=>
   go_wp2_with (fail)
   refine (fc (some ⟨g2,0,none⟩) nt ct xt _ (HT7.out.sl rfl).1 HE.out.2 (by omega)).mono ?_
   rintro e w8 ⟨rfl,rfl⟩
  case' zg=>
   by_cases hst:xt.sum=0
   focus
    refine ?zi
   rotate_left
   focus
    have b2:(xt.sum == 0)=false:=by simp[hst]
    have HT8:Hid (OwnS Y z4 2 (.slice (some ⟨g2,0,none⟩) nt ct) (fixL xt)):=by unfold fixL;rw[if_neg hst];exact HT7.out
    refine ?ze
  case' zh=>
   by_cases hst:xt.sum=0
   focus
    refine ?zj
   rotate_left
   focus
    have b2:(xt.sum == 0)=false:=by simp[hst]
    have HT8:Hid (OwnS w6 z4 2 (.slice (some ⟨g2,0,none⟩) nt ct) (fixL xt)):=by unfold fixL;rw[if_neg hst];exact HT7.out
    refine ?zf
  case' zi|zj=>
   have b2:(xt.sum == 0)=true:=by simp[hst]
   have HY:Hid (fixL xt=xt.set 0 1):=by unfold Hid fixL;rw[if_pos hst]
  case' zi=>
   have HT8:Hid (OwnS (Y.setCell ⟨g2,0,none⟩ (.int .i64 1)) z4 2 (.slice (some ⟨g2,0,none⟩) nt ct) (fixL xt)):=by rw[HY.out];exact HT7.out.stored 0 1
   have HO8:Hid (OwnS (Y.setCell ⟨g2,0,none⟩ (.int .i64 1)) z3 2 (.slice (some ⟨g1,0,none⟩) no cx) (fixL xo)):=(Frm.set Y g2 0 (.int .i64 1)).own HO7.out fun j hj hjg=>by cases hj;exact hg12n hjg
   have HS8:=h_ (HS7.out.set (b:=g2) (i:=0) (by omega) (.int .i64 1))
   have HF8:=h_ (HF7.out.out (Frm.set Y g2 0 (.int .i64 1)) (fun j hj=>by rw[hj];simp;omega))
  case' zj=>
   have HT8:Hid (OwnS (w6.setCell ⟨g2,0,none⟩ (.int .i64 1)) z4 2 (.slice (some ⟨g2,0,none⟩) nt ct) (fixL xt)):=by rw[HY.out];exact HT7.out.stored 0 1
   have HO8:Hid (OwnS (w6.setCell ⟨g2,0,none⟩ (.int .i64 1)) z3 2 (.slice (some ⟨g1,0,none⟩) no cx) (fixL xo)):=(Frm.set w6 g2 0 (.int .i64 1)).own HO7.out fun j hj hjg=>by cases hj;exact hg12n hjg
   have HS8:=h_ (HS7.out.set (b:=g2) (i:=0) (by omega) (.int .i64 1))
   have HF8:=h_ (HF7.out.out (Frm.set w6 g2 0 (.int .i64 1)) (fun j hj=>by rw[hj];simp;omega))
  case' zi|zj=>
   have HC8:=h_ (HC7.out.far (b:=g2) (i:=0) (v:=.int .i64 1) (by omega))
   obtain⟨ga,ea,_,_,hcl,hfr⟩:=cX HT7.out (by omega)
   cases ea
   have y0:=hcl 0 (by omega)
   have yf:=hfr 0;clear hcl hfr HY HT7 HO7 HS7 HF7 HC7 hst;generalize xt.sum=st at *;generalize xt.getD 0 0=yt at *
  case' ze|zf=>
   have HO8:=HO7;have HS8:=HS7;have HF8:=HF7;have HC8:=HC7;clear HT7 HO7 HS7 HF7 HC7 hst;generalize xt.sum=st at *
  case zi|zj|ze|zf=>
   go_wp2_with (fail)
   go_roundw
   case rel=>exact⟨k+1,f',fixL xo,fixL xt,q6,by omega,by go_num,HL3.out,⟨by rw[db];exact HN.out.1,by rw[db];exact HN.out.2⟩,⟨ei HE.out.1,ei HE.out.2⟩,HO8.out,HT8.out,HS8.out,HF8.out,HC8.out⟩
   case measure=>(simp[intOf])<;>omega
end Go.Proofs.YtkaiilmgemaljaaGreat

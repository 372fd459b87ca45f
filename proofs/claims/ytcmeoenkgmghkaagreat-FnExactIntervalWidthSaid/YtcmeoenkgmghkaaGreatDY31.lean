/- Part of one proof. There are no conditions. -/
import Derived.Test.YtcmeoenkgmghkaaGreatDY27
set_option linter.unusedVariables false
set_option linter.unusedSimpArgs false
set_option maxHeartbeats 0
set_option maxRecDepth 100000
open Go.Value renaming int->d,slice->C,agg->F,pointer->I,tuple->J,bool->O
open Go.IntKind renaming i64->r
open Go.Obj renaming cells->D
open Go.Ending renaming returned->K
namespace Go.Proofs.YtcmeoenkgmghkaaGreat
open Go.RowKit Pl Ps Ra Ex
theorem iv_all(t:RT)(ht:t.Ok)(P:Nat)(hP:t.p=(P:Int))(hsm:smB t.p t.c t.h t.s=true):∀tu,tu<=2->IvC t P tu
 | 0,_=>gN t ht P 0 hP hsm (by omega) fun tu' h=>by omega
 |tu+1,h=>gN t ht P (tu+1) hP hsm h fun tu' e=>by
   have e:tu'=tu:=by omega
   subst e
   exact gC t ht P tu' hP (by have:=(fM hsm).2.2.1;omega) (by omega) (iv_all t ht P hP hsm tu' (by omega))
def RowO(W:World)(lo:Nat)(o:Option (List Iv))(v:Value):Prop:=match o with
 |some L=>W.ownsRow lo 47 4 v L.length (ivCs L)
 |none=>v=C none 0 0
theorem RowO.low{W:World}{lo lo':Nat}{o:Option (List Iv)}{v:Value}(h:RowO W lo o v)(hl:lo'<=lo):RowO W lo' o v:=by
 rcases o with _|L
 ·exact h
 ·exact aG h hl
theorem RowO.below{W W':World}{lo:Nat}{o:Option (List Iv)}{v:Value}(h:RowO W lo o v)(hb:Below W.heap.size W W'):RowO W' lo o v:=by
 rcases o with _|L
 ·exact h
 ·exact own_below h hb
theorem cdT_yes{p c h s:Int}{own other:List Int}{tu:Int}{mo:Bool}(h0:cdT p c h s own other tu mo=0):cd p c h s own other=true/\inB tu 0 2=true/\mo=true/\smB p c h s=true:=by
 unfold cdT at h0
 by_cases h1:cd p c h s own other=true
 ·rw[if_pos h1]at h0
  by_cases h2:(inB tu 0 2&&mo)=true
  ·rw[if_pos h2]at h0
   by_cases h3:smB p c h s=true
   ·rw[Bool.and_eq_true]at h2
    exact⟨h1,h2.1,h2.2,h3⟩
   ·rw[if_neg h3]at h0;exact absurd h0 (by decide)
  ·rw[if_neg h2]at h0;exact absurd h0 (by decide)
 ·rw[if_neg h1]at h0;exact absurd h0 (by decide)
theorem cdT_bd{p c h s:Int}{own other:List Int}{tu:Int}{mo:Bool}:0<=cdT p c h s own other tu mo/\cdT p c h s own other tu mo<=3:=by
 unfold cdT
 repeat (first|split|decide)
theorem sq_of{S:Nat->Prop}{w:World}{A:Option Addr}{n:Nat}{xs:List Int}(h:SL w A n xs)(hS:∀k,k<w.heap.size->¬S k):SQ S w A n xs:=by
 refine⟨h,fun hn b off s hA h9=>?_⟩
 obtain⟨b',o',hA',hlt,_⟩:=h.2 hn;rw[hA']at hA;injection hA with hA;injection hA with hA
 exact hS b (by omega) h9
def flA(B:Int)(x:Iv):Iv:=((oneM B x.2).getD ⟨0,0⟩,(oneM B x.1).getD ⟨0,0⟩)
theorem flA_some{B:Int}{x y:Iv}(h:flipE B x=some y):flA B x=y:=by
 unfold flipE at h;unfold flA
 rcases h1:oneM B x.2 with _|a
 ·rw[h1]at h;cases h
 ·rcases h2:oneM B x.1 with _|b
  ·rw[h1,h2]at h;cases h
  ·rw[h1,h2]at h;injection h
theorem l15Flip_any(p c h ln hn:Int)(s ld hd:Nat)(w:World)(hs1:1<=s)(hs6:s<=6)(hv:VI (sq s) (⟨ln,ld⟩,⟨hn,hd⟩)):
  Calls Tryz.prog 137 #[(F #[d r p,d r c,d r h,d r (s:Int)]),(F #[d r ln,d r (ld:Int),d r hn,d r (hd:Int)])] w fun e w'=>e=K (J #[ivV (flA (sq s) (⟨ln,ld⟩,⟨hn,hd⟩)),O (flipE (sq s) (⟨ln,ld⟩,⟨hn,hd⟩)).isSome])/\Below w.heap.size w w':=by
 have CMA:=fun(W:World)=>eL p c h hn s hd W hs1 hs6 hv.2
 have CMB:=fun(W:World)=>eL p c h ln s ld W hs1 hs6 hv.1
 have HFL:Hid (flipE (sq s) (⟨ln,ld⟩,⟨hn,hd⟩)=(oneM (sq s) ⟨hn,hd⟩).bind fun lo=>(oneM (sq s) ⟨ln,ld⟩).map fun hi=>(lo,hi)):=rfl
 have HFA:Hid (flA (sq s) (⟨ln,ld⟩,⟨hn,hd⟩)=((oneM (sq s) ⟨hn,hd⟩).getD ⟨0,0⟩,(oneM (sq s) ⟨ln,ld⟩).getD ⟨0,0⟩)):=rfl;generalize flA (sq s) (⟨ln,ld⟩,⟨hn,hd⟩)=FA at *;generalize flipE (sq s) (⟨ln,ld⟩,⟨hn,hd⟩)=RES at *;generalize oneM (sq s) ⟨hn,hd⟩=r1 at *;generalize oneM (sq s) ⟨ln,ld⟩=r2 at *;obtain⟨a1,ha1⟩:∃x:Int,x=(r1.getD ⟨0,0⟩).num:=⟨_,rfl⟩;obtain⟨b1,hb1⟩:∃x:Int,x=((r1.getD ⟨0,0⟩).depth:Int):=⟨_,rfl⟩;obtain⟨ok1,hok1⟩:∃x:Bool,x=r1.isSome:=⟨_,rfl⟩;obtain⟨a2,ha2⟩:∃x:Int,x=(r2.getD ⟨0,0⟩).num:=⟨_,rfl⟩;obtain⟨b2,hb2⟩:∃x:Int,x=((r2.getD ⟨0,0⟩).depth:Int):=⟨_,rfl⟩;obtain⟨ok2,hok2⟩:∃x:Bool,x=r2.isSome:=⟨_,rfl⟩
 have CM1:Hid (∀W:World,Calls Tryz.prog 192 #[(F #[d r p,d r c,d r h,d r (s:Int)]),F #[d r hn,d r (hd:Int)]] W fun e W'=>e=K (J #[F #[d r a1,d r b1],O ok1])/\Below W.heap.size W W'):=fun W=>by
  rw[ha1,hb1,hok1]
  exact CMA W
 have CM2:Hid (∀W:World,Calls Tryz.prog 192 #[(F #[d r p,d r c,d r h,d r (s:Int)]),F #[d r ln,d r (ld:Int)]] W fun e W'=>e=K (J #[F #[d r a2,d r b2],O ok2])/\Below W.heap.size W W'):=fun W=>by
  rw[ha2,hb2,hok2]
  exact CMB W
 have HE1:Hid (a1=(r1.getD ⟨0,0⟩).num/\b1=((r1.getD ⟨0,0⟩).depth:Int)/\ok1=r1.isSome):=⟨ha1,hb1,hok1⟩;have HE2:Hid (a2=(r2.getD ⟨0,0⟩).num/\b2=((r2.getD ⟨0,0⟩).depth:Int)/\ok2=r2.isSome):=⟨ha2,hb2,hok2⟩
 have HF:Hid (Fr w (((w.alloc (D #[d r p,d r c,d r h,d r (s:Int)] 33)).alloc (D #[d r ln,d r (ld:Int),d r hn,d r (hd:Int)] 47)).alloc (D #[d r 0,d r 0,d r 0,d r 0] 47)) [[d r p,d r c,d r h,d r (s:Int)],[d r ln,d r (ld:Int),d r hn,d r (hd:Int)],[d r 0,d r 0,d r 0,d r 0]]):=(((Fr.start w).allocT (by simp) _ _).allocT (by simp) _ _).allocT (by simp) _ _
 have hzV:(((w.alloc (D #[d r p,d r c,d r h,d r (s:Int)] 33)).alloc (D #[d r ln,d r (ld:Int),d r hn,d r (hd:Int)] 47)).alloc (D #[d r 0,d r 0,d r 0,d r 0] 47)).heap.size=w.heap.size+3:=by simp
 clear CMA CMB ha1 hb1 hok1 ha2 hb2 hok2 hv
 go_enter Tryz.func137,Tryz.ntmps137
 go_wp2_with (fail)
 refine(CM1.out _).mono ?_
 rintro e w5 ⟨rfl,hb5⟩
 have hz5:=hb5.size;rw[hzV]at hz5;have HF5:=h_ (HF.out.below hb5);have HFa:=h_ (HF5.out.alloc (D #[d r a1,d r b1] 45));have HCa:=h_ (Cel.new w5 #[d r a1,d r b1] 45);clear hb5 HF CM1 hzV;obtain⟨z0,c00,f00,c01,f01,c02,f02,c03,f03,z1,c10,f10,c11,f11,c12,f12,c13,f13,z2,c20,f20,c21,f21,c22,f22,c23,f23⟩:=HF5.out.xf1
 go_wp2_with (fail)
 clear z0 c00 f00 c01 f01 c02 f02 c03 f03 z1 c10 f10 c11 f11 c12 f12 c13 f13 z2 c20 f20 c21 f21 c22 f22 c23 f23
 refine(CM2.out _).mono ?_
 rintro e w6 ⟨rfl,hb6⟩
 have HF6:=h_ (HFa.out.below hb6);have HC6:=h_ (HCa.out.below hb6)
 have hz6:w5.heap.size+1<=w6.heap.size:=by have:=hb6.size;simpa using this
 have u0:=HC6.out.cell 0 _ rfl;have u1:=HC6.out.cell 1 _ rfl;have uz:=HC6.out.lt
 have hn1:w.heap.size+1+1≠w5.heap.size:=by omega
 have hn2:w5.heap.size≠w.heap.size+1+1:=by omega
 have hww:w.heap.size<=w6.heap.size:=by omega
 clear hb6 CM2 HFa HCa HF5
 rcases r1 with _|x1
 focus
  have hk:ok1=false:=HE1.out.2.2;subst hk
  refine ?za
 rotate_left
 focus
  have hk:ok1=true:=HE1.out.2.2;subst hk
  rcases r2 with _|x2
  focus
   have hk:ok2=false:=HE2.out.2.2;subst hk
   refine ?zb
  rotate_left
  focus
   have hk:ok2=true:=HE2.out.2.2;subst hk
   have HRE:Hid (Ending.returned (J #[F #[d r a1,d r b1,d r a2,d r b2],O true])=K (J #[ivV FA,O RES.isSome])):=by rw[HFA.out,HFL.out,HE1.out.1,HE1.out.2.1,HE2.out.1,HE2.out.2.1];rfl
   refine ?zc
 rotate_left 2
 case' za|zb=>
  have HRE:Hid (Ending.returned (J #[F #[d r a1,d r b1,d r a2,d r b2],O false])=K (J #[ivV FA,O RES.isSome])):=by rw[HFA.out,HFL.out,HE1.out.1,HE1.out.2.1,HE2.out.1,HE2.out.2.1];rfl
 case' zc|za|zb=>
  obtain⟨z0,c00,f00,c01,f01,c02,f02,c03,f03,z1,c10,f10,c11,f11,c12,f12,c13,f13,z2,c20,f20,c21,f21,c22,f22,c23,f23⟩:=HF6.out.xf1
  go_wp2_with (fail)
 case' zc=>
  refine bodyPost_ret (v:=J #[F #[d r a1,d r b1,d r a2,d r b2],O true]) (by simp[results,Tryz.results137,go_sem,c20,c21,c22,c23,z2,f20,f21,f22,f23,u0,u1]) rfl ⟨HRE.out,?_⟩
 case' za|zb=>
  refine bodyPost_ret (v:=J #[F #[d r a1,d r b1,d r a2,d r b2],O false]) (by simp[results,Tryz.results137,go_sem,c20,c21,c22,c23,z2,f20,f21,f22,f23,u0,u1]) rfl ⟨HRE.out,?_⟩
 case zc|za|zb=>
  repeat (first|with_reducible exact HF6.out.b|refine alw ?_ (by omega)|refine stw ?_ (by omega))
def RetIv2(t:RT2)(w:World)(o:Option Iv)(e:Ending)(w':World):Prop:=IvM o e/\TabI t w'/\Frm t.S w w'
def RetPi2(t:RT2)(w:World)(o:Option (List Iv))(e:Ending)(w':World):Prop:=(match o with
 |some L=>∃v,e=K (J #[v,O true])/\w'.ownsRow w.heap.size 47 4 v L.length (ivCs L)
 |none=>e=K (J #[C none 0 0,O false]))/\TabI t w'/\Frm t.S w w'
def IvC2(t:RT2)(P tu:Nat):Prop:=∀(own other:List Int) (A1 A2:Option Addr) (n1 c1 n2 c2:Nat) (w:World),TabI t w->SQ t.S w A1 n1 own->SQ t.S w A2 n2 other->Sd P t.c (own,other)->n1<=c1->n2<=c2->
 Calls Tryz.prog 73 #[I (some ⟨t.bt,0,none⟩),F #[C A1 n1 c1,C A2 n2 c2],d r (tu:Int)] w (RetIv2 t w (ivE t.s P t.h tu (own,other)))
def PlC2(t:RT2)(P tu:Nat):Prop:=∀(own other:List Int) (A1 A2:Option Addr) (n1 c1 n2 c2 ra rb:Nat) (w:World),TabI t w->SQ t.S w A1 n1 own->SQ t.S w A2 n2 other->Sd P t.c (own,other)->n1<=c1->n2<=c2->(1<=ra/\ra<=1000)->(1<=rb/\rb<=1000)->
 Calls Tryz.prog 66 #[I (some ⟨t.bt,0,none⟩),F #[C A1 n1 c1,C A2 n2 c2],F #[d r (ra:Int),d r (rb:Int)],d r (tu:Int)] w (RetPi2 t w (plE t.s P t.h (ivE t.s P t.h tu) (own,other) (ra,rb)))
def AlQ(lo m:Nat)(l:List Bd)(fl:Bool):RP:=fun v W=>∃A c,v=J #[C A l.length c,O fl]/\PLs (fun k=>k<lo) W m A l.length l/\l.length<=c
theorem stb_alQ(lo m:Nat)(l:List Bd)(fl:Bool):Stb (AlQ lo m l fl):=fun _ _ _ ⟨A,c,h1,h2,h3⟩ hb=>⟨A,c,h1,h2.below hb,h3⟩
def dsU1:Nat->Nat
 | 0=>19
 | 1=>20
 | 2=>21
 | 3=>22
 | 4=>23
 | 5=>24
 | 6=>25
 | 7=>18
 | 8=>26
 | 9=>27
 |_=>0
def dsU9:Nat->Nat
 | 0=>50
 | 1=>51
 | 2=>52
 | 3=>53
 | 4=>54
 | 5=>55
 | 6=>49
 | 7=>56
 | 8=>57
 | 9=>16
 |_=>0
theorem lO(t:RT2)(ht:t.Ok)(P tu:Nat)(hP:t.p=(P:Int))(hc3:t.c<=3)(IH:IvC2 t P tu):PlC2 t P tu:=by
 intro own other A1 A2 n1 c1 n2 c2 ra rb w hI hA hB hsd hc1 hc2 hra hrb
 obtain⟨j0,hj,jz0,jz1,jz2⟩:=info_parts Tryz.infoIv;have hv:=aA ht.v
 have hP24:P<=24:=by omega
 have hs1:1<=t.s:=by omega
 have hs6:t.s<=6:=by omega
 have hh9:t.h<=1000:=by omega
 obtain⟨hq1,-,_⟩:=sq_bd hs1 hs6;have hlow:=hI.ltS;have HLOW:=h_ hlow;have HBT:Hid (t.bt<w.heap.size):=hI.ltB;have HIH:=h_ IH
 have HVX:=fun(y:Iv) (tu':Nat) (b:Bd) (h:ivE t.s P t.h tu' b=some y)=>lR (P:=P) (h:=t.h) hq1 h
 have HVV:=h_ HVX
 have CAP0:∀W:World,Below w.heap.size w W->Calls Tryz.prog 136 #[(F #[d r t.p,d r (t.c:Int),d r (t.h:Int),d r (t.s:Int)]),(F #[C A1 n1 c1,C A2 n2 c2]),(F #[d r (ra:Int),d r (rb:Int)])] W (RetAl W 4 (playsP P t.h (own,other) ra rb) (fineR P t.h (own,other) ra rb)):=fun W hw=>by
  have h9:=l05All_any P t.h t.c ra rb (t.c:Int) (t.s:Int) A1 A2 n1 c1 n2 c2 own other W (hA.1.below hw) (hB.1.below hw) hsd (by omega) hP24 hh9 hra hrb
  rw[<-hP]at h9
  exact h9
 have HF0:Hid (FrS t.S w ((w.alloc (D #[C A1 n1 c1,C A2 n2 c2] 35)).alloc (D #[d r (ra:Int),d r (rb:Int)] 37)) [[C A1 n1 c1,C A2 n2 c2],[d r (ra:Int),d r (rb:Int)]]):=((FrS.start w hlow).allocT (by simp) _ _).allocT (by simp) _ _
 have HBV:Hid (Below w.heap.size w ((w.alloc (D #[C A1 n1 c1,C A2 n2 c2] 35)).alloc (D #[d r (ra:Int),d r (rb:Int)] 37))):=((Below.refl _ _).alloc (Nat.le_refl _) _).alloc (by simp) _
 have HI0:=h_ (hI.below HBV.out)
 have hzV:((w.alloc (D #[C A1 n1 c1,C A2 n2 c2] 35)).alloc (D #[d r (ra:Int),d r (rb:Int)] 37)).heap.size=w.heap.size+2:=by simp
 have HSX:Hid (∀x∈playsP P t.h (own,other) ra rb,Sd P t.c x):=jw hsd hra.1 hrb.1;have HPLL:Hid ((playsP P t.h (own,other) ra rb).length<=781250):=ff hsd hP24 hra hrb
 have CAP:=h_ fun(W:World) (hW:Below ((w.alloc (D #[C A1 n1 c1,C A2 n2 c2] 35)).alloc (D #[d r (ra:Int),d r (rb:Int)] 37)).heap.size ((w.alloc (D #[C A1 n1 c1,C A2 n2 c2] 35)).alloc (D #[d r (ra:Int),d r (rb:Int)] 37)) W)=>CAP0 W (HBV.out.trans (hW.mono HBV.out.size))
 have HRES:Hid (plE t.s P t.h (ivE t.s P t.h tu) (own,other) (ra,rb)=mapO (fun x=>(ivE t.s P t.h tu (x.2,x.1)).bind (flipE (sq t.s))) (playsP P t.h (own,other) ra rb)):=rfl
 generalize plE t.s P t.h (ivE t.s P t.h tu) (own,other) (ra,rb)=RES at *;generalize playsP P t.h (own,other) ra rb=PL at *;generalize fineR P t.h (own,other) ra rb=fl at *;clear hI hA hB hsd hlow HVX CAP0 IH hra hrb hP;have HF:=HF0;have HI:=HI0;clear HF0 HI0
 go_enter Tryz.func66,Tryz.ntmps66
 go_wp2_with (fail)
 generalize ((w.alloc (D #[C A1 n1 c1,C A2 n2 c2] 35)).alloc (D #[d r (ra:Int),d r (rb:Int)] 37))=V at *
 refine w_ 10 (fun i=>i==9) dsU1 [Eqv (I (some ⟨t.bt,0,none⟩)),Eqv (I (some ⟨t.bt,0,none⟩)),Eqv (I (some ⟨t.bt,0,none⟩)),Eqv (F #[d r t.p,d r (t.c:Int),d r (t.h:Int),d r (t.s:Int)]),Eqv (F #[C A1 n1 c1,C A2 n2 c2]),Eqv (F #[d r (ra:Int),d r (rb:Int)]),AlQ V.heap.size 4 PL fl,AlQ V.heap.size 4 PL fl,PlQ V.heap.size 4 PL,Eqv (O fl)] (by repeat (first|exact AllStb.nil|refine AllStb.cons (by first|exact bC _|exact stb_alQ _ _ _ _|exact fK _ _ _) ?_)) ?_ ?_ ?_
 ·intro i o hi hX ho a' W hW hIW hfar hdep
  have hi8:i=9:=by simpa[or_assoc]using hX
  clear hfar hX hi;subst hi8
  simp at ho
  subst ho
  ·obtain⟨Ae,ce,q7,-⟩:AlQ V.heap.size 4 PL fl (a'.tmps.getD 18 undef) W:=dp hdep 7
   exact⟨(O fl),fun W'=>by simp only[execOp,Act.eval,q7];go_simp,rfl⟩
 ·intro i o hi hX ho a' W hW hIW hfar hdep
  have e0:a'.tmps.getD 0 undef=(I (some ⟨t.bt,0,none⟩)):=(fr hfar 0).trans rfl
  have e5:a'.tmps.getD 5 undef=(I (some ⟨w.heap.size,0,none⟩)):=(fr hfar 5).trans rfl
  have e6:a'.tmps.getD 6 undef=(I (some ⟨w.heap.size+1,0,none⟩)):=(fr hfar 6).trans rfl
  have hi8:i=0\/i=1\/i=2\/i=3\/i=4\/i=5\/i=6\/i=7\/i=8:=by simp at hX;omega
  clear hfar hX hi
  rcases hi8 with rfl|rfl|rfl|rfl|rfl|rfl|rfl|rfl|rfl
  all_goals (simp at ho;subst ho)
  ·refine il ?_;simp only[execOp,Act.eval,e0];go_simp
  ·have d1:a'.tmps.getD 19 undef=_:=dp hdep 0
   refine il ?_;simp only[execOp,Act.eval,d1];go_simp
  ·have d1:a'.tmps.getD 20 undef=_:=dp hdep 1
   refine il ?_;simp only[execOp,Act.eval,d1];go_simp
  ·have d1:a'.tmps.getD 21 undef=_:=dp hdep 2
   have y0:=(HI.out.below hW).tb 0 _ rfl;have y1:=(HI.out.below hW).tb 1 _ rfl;have y2:=(HI.out.below hW).tb 2 _ rfl;have y3:=(HI.out.below hW).tb 3 _ rfl
   refine il ?_;simp only[execOp,Act.eval,d1];go_simp
  ·have y0:=(HF.out.below hW).c0 0 rfl
   have y1:=(HF.out.below hW).c0 1 rfl
   refine il ?_;simp only[execOp,Act.eval,e5];go_simp
  ·have y0:=(HF.out.below hW).c1 0 rfl
   have y1:=(HF.out.below hW).c1 1 rfl
   refine il ?_;simp only[execOp,Act.eval,e6];go_simp
  ·have d1:a'.tmps.getD 22 undef=_:=dp hdep 3
   have d2:a'.tmps.getD 23 undef=_:=dp hdep 4
   have d3:a'.tmps.getD 24 undef=_:=dp hdep 5
   refine .inr ⟨136,#[(F #[d r t.p,d r (t.c:Int),d r (t.h:Int),d r (t.s:Int)]),(F #[C A1 n1 c1,C A2 n2 c2]),(F #[d r (ra:Int),d r (rb:Int)])],by simp only[execOp,Act.eval,d1,d2,d3];go_simp,?_⟩
   refine(CAP.out W hW).mono ?_
   rintro e W' ⟨Ae,ce,rfl,hpe,hce,hb'⟩
   exact⟨_,rfl,hb',trivial,Ae,ce,rfl,hpe.set (fun k hk=>.inl (Nat.lt_of_lt_of_le hk (Below.size hW))),hce⟩
  ·obtain⟨Ae,ce,q6,hpe,hce⟩:AlQ V.heap.size 4 PL fl (a'.tmps.getD 25 undef) W:=dp hdep 6
   have q6':=q6;rw[Array.getD_eq_getD_getElem?]at q6'
   exact .inl ⟨J #[C Ae PL.length ce,O fl],W,by simp only[execOp,Act.eval,q6];go_simp,Bel.rfl' _,trivial,Ae,ce,rfl,hpe,hce⟩
  ·obtain⟨Ae,ce,q7,hpe,hce⟩:AlQ V.heap.size 4 PL fl (a'.tmps.getD 18 undef) W:=dp hdep 7
   have q7':=q7;rw[Array.getD_eq_getD_getElem?]at q7'
   exact .inl ⟨C Ae PL.length ce,W,by simp only[execOp,Act.eval,q7];go_simp,Bel.rfl' _,trivial,Ae,ce,rfl,hpe,hce⟩
 intro v w1 hW hIW hg
 have g0:v 0=_:=gq hg 0
 have g1:v 1=_:=gq hg 1
 have g2:v 2=_:=gq hg 2
 have g3:v 3=_:=gq hg 3
 have g4:v 4=_:=gq hg 4
 have g5:v 5=_:=gq hg 5
 obtain⟨_,_,g6,_,_⟩:AlQ V.heap.size 4 PL fl (v 6) w1:=hg 6 (by omega)
 obtain⟨_,_,g7,_,_⟩:AlQ V.heap.size 4 PL fl (v 7) w1:=hg 7 (by omega)
 obtain⟨A9,k9,g8,hp9,-⟩:PlQ V.heap.size 4 PL (v 8) w1:=hg 8 (by omega)
 have g9:v 9=_:=gq hg 9
 simp only[List.drop_succ_cons,List.drop_zero,putV,dsU1,g0,g1,g2,g3,g4,g5,g6,g7,g8,g9,Act.put]
 clear g0 g1 g2 g3 g4 g5 g6 g7 g8 g9 hg hIW;have HF1:=h_ (HF.out.below hW);have HI1:=h_ (HI.out.below hW);have HP1:=h_ hp9;have hz1:=Below.size hW;clear hp9 hW HF HI CAP;obtain⟨n,hn⟩:∃n,n=PL.length:=⟨_,rfl⟩;have HN:=h_ hn
 have hn6:n<=781250:=by rw[hn];exact HPLL.out
 rw[<-hn]at HP1 ⊢;clear hn
 go_wp2_with (fail)
 go_loopw [12,13] (fun v12 v13 wr=>∃(q:Nat) (L:List Iv),q<=n/\v13=d r q/\(∃vx,vx=v12/\Hid (wr.ownsRow w1.heap.size 47 4 vx L.length (ivCs L)))/\Hid (mapO (fun x=>(ivE t.s P t.h tu (x.2,x.1)).bind (flipE (sq t.s))) (PL.take q)=some L)/\Hid (TabI t wr)/\Hid (Frm t.S w1 wr)/\Hid (FrS t.S w wr [[C A1 n1 c1,C A2 n2 c2],[d r (ra:Int),d r (rb:Int)]])) (fun _ v13 _=>n-(intOf v13).toNat)
 case atStart=>exact⟨0,[],by omega,rfl,⟨_,rfl,World.ownsRow_lit w1 #[] 0 (Nat.le_refl _) (by decide) (by simp)⟩,rfl,HI1.out.alloc _,(Frm.refl _ _).alloc _,HF1.out.alloc _⟩
 case round=>
  clear HF1 HI1;obtain⟨q,L,hqn,rfl,⟨vx,rfl,HO⟩,HM,HI,HFX,HF⟩:=hrel;have hz1r:w1.heap.size<=wr.heap.size:=HFX.out.size
  by_cases hlt:q<n
  ·have hji:(q:Int)<(n:Int):=by omega
   have hqPL:q<PL.length:=by have:=HN.out;omega
   obtain⟨b,off,A0,n0,c0,E1,m1,kE1,E2,m2,kE2,rfl,hbl,hbs,y0,y1,y2,_,p1,r1,p2,r2⟩:=HP1.out.at hlt
   have hsub:∀k,t.S k->k<V.heap.size:=fun k hk=>by have:=HLOW.out k hk;omega
   have hnb:¬t.S b:=fun h9=>hbs (hsub b h9)
   have z1:=HFX.out.cell' y1 hnb;have z2:=HFX.out.cell' y2 hnb;have HSn:=h_ (HSX.out _ (aj PL ([],[]) hqPL))
   have HMT:Hid (mapO (fun x=>(ivE t.s P t.h tu (x.2,x.1)).bind (flipE (sq t.s))) (PL.take (q+1))=(some L).bind fun xs=>((ivE t.s P t.h tu ((PL.getD q ([],[])).2,(PL.getD q ([],[])).1)).bind (flipE (sq t.s))).map fun x=>xs++[x]):=by
    unfold Hid;rw[eJ ([],[]) hqPL,HM.out]
   have HMS:Hid ((ivE t.s P t.h tu ((PL.getD q ([],[])).2,(PL.getD q ([],[])).1)).bind (flipE (sq t.s))=none->RES=none):=fun h9=>by
    rw[HRES.out]
    exact gF ([],[]) hqPL h9
   obtain⟨⟨o2,t2⟩,hbb⟩:∃bb,bb=PL.getD q ([],[]):=⟨_,rfl⟩;rw[<-hbb]at p1 p2 HSn HMT HMS
   simp only at p1 p2 HMT HMS
   have e1:m1=P+1:=by rw[<-p1.1.1];exact HSn.out.len1
   have e2:m2=P+1:=by rw[<-p2.1.1];exact HSn.out.len2
   have HQ1:=h_ (p1.frm (HFX.out.mono hsub)).1;have HQ2:=h_ (p2.frm (HFX.out.mono hsub)).1
   have CSW:Hid (∀W:World,Below wr.heap.size wr W->Calls Tryz.prog 106 #[F #[C E1 m1 kE1,C E2 m2 kE2]] W (RetBq W t2 o2)):=fun W hw=>l02Swap_any E1 E2 m1 kE1 m2 kE2 o2 t2 W (HQ1.out.below hw) (HQ2.out.below hw) (by omega) (by omega) (by omega) (by omega)
   have HVO:Hid (∀k,vx.ownBlock=some k->w1.heap.size<=k/\k<wr.heap.size):=fun k hk=>World.ownsRow.lt HO.out k hk
   clear y0 y1 y2 p1 p2 r1 r2 hbb e1 e2 HQ1 HQ2 hnb
   go_wp2_with (fail)
   refine(CSW.out _ (Below.refl _ _)).mono ?_
   rintro e w3 ⟨ga,k1,gb,k2,rfl,ho1,ho2,_,hb3⟩
   have HB3:=h_ hb3;have hz3:wr.heap.size<=w3.heap.size:=hb3.size;have HI3:=h_ (HI.out.below HB3.out);have HF3:=h_ (HF.out.below HB3.out);have HO3:=h_ (own_below HO.out HB3.out);have HFX3:Hid (Frm t.S w1 w3):=HFX.out.trans (Frm.of_below' _ HB3.out)
   have hTw:∀k,wr.heap.size<=k->¬t.S k:=fun k hk h9=>by have:=HLOW.out k h9;omega
   obtain⟨qs1,qc1⟩:=sq_own (S:=t.S) ho1 (fun k hk=>hTw k (by omega))
   obtain⟨qs2,qc2⟩:=sq_own (S:=t.S) ho2 (fun k hk=>hTw k (by omega))
   have CIV:Hid (Calls Tryz.prog 73 #[(I (some ⟨t.bt,0,none⟩)),F #[C (some ⟨ga,0,none⟩) t2.length k1,C (some ⟨gb,0,none⟩) o2.length k2],d r (tu:Int)] w3 (RetIv2 t w3 (ivE t.s P t.h tu (t2,o2)))):=
    HIH.out t2 o2 (some ⟨ga,0,none⟩) (some ⟨gb,0,none⟩) t2.length k1 o2.length k2 w3 HI3.out qs1 qs2 ⟨HSn.out.2,HSn.out.1⟩ qc1 qc2
   clear ho1 ho2 hb3 qs1 qs2 qc1 qc2 HI HF HO HFX hTw CSW HI3
   go_wp2_with (fail)
   refine CIV.out.mono ?_
   rintro e w4 ⟨hres,hI4,hF4⟩
   have hz4:w3.heap.size<=w4.heap.size:=hF4.size;have HF4:=h_ (HF3.out.frm hF4);have HI4:=h_ hI4
   have HO4:Hid (w4.ownsRow w1.heap.size 47 4 vx L.length (ivCs L)):=hF4.row HO3.out (fun k hk h9=>by have:=(HVO.out k hk).1;have:=HLOW.out k h9;omega)
   have HFX4:Hid (Frm t.S w1 w4):=HFX3.out.trans hF4;clear hI4 hF4 HF3 HO3 HFX3 CIV HB3
   cases hiv:ivE t.s P t.h tu (t2,o2)with
   |none=>
    rw[hiv]at hres HMS;obtain⟨x1,x2,x3,x4,rfl⟩:=hres
    have HRE:Hid (RetPi2 t w RES (K (J #[C none 0 0,O false])) (w4.alloc (D #[d r x1,d r x2,d r x3,d r x4] 47))):=by
     rw[HMS.out rfl]
     exact⟨rfl,HI4.out.alloc _,HF4.out.f.alloc _⟩
    clear HMT HMS hiv HI4 HF4 HO4 HFX4
    go_wp2_with (fail)
    go_ret2
    exact HRE.out
   |some y=>
    have HVY:=h_ (HVV.out y tu _ hiv);rw[hiv]at hres HMT HMS;obtain⟨⟨ln,ld⟩,⟨hn,hd⟩⟩:=y;replace hres:e=K (J #[F #[d r ln,d r (ld:Int),d r hn,d r (hd:Int)],O true]):=hres;subst hres
    have HMT2:Hid (mapO (fun x=>(ivE t.s P t.h tu (x.2,x.1)).bind (flipE (sq t.s))) (PL.take (q+1))=(flipE (sq t.s) (⟨ln,ld⟩,⟨hn,hd⟩)).map fun x=>L++[x]):=HMT.out
    have HMS2:Hid (flipE (sq t.s) (⟨ln,ld⟩,⟨hn,hd⟩)=none->RES=none):=HMS.out
    have CF0:=fun(W:World)=>l15Flip_any t.p (t.c:Int) (t.h:Int) ln hn t.s ld hd W hs1 hs6 HVY.out
    have HFS:Hid (∀z,flipE (sq t.s) (⟨ln,ld⟩,⟨hn,hd⟩)=some z->flA (sq t.s) (⟨ln,ld⟩,⟨hn,hd⟩)=z):=fun z h9=>flA_some h9
    generalize flA (sq t.s) (⟨ln,ld⟩,⟨hn,hd⟩)=FA at *;generalize flipE (sq t.s) (⟨ln,ld⟩,⟨hn,hd⟩)=FE at *;obtain⟨⟨a1,b1⟩,⟨a2,b2⟩⟩:=FA;obtain⟨okf,hokf⟩:∃x:Bool,x=FE.isSome:=⟨_,rfl⟩
    have CFL:Hid (∀W:World,Calls Tryz.prog 137 #[(F #[d r t.p,d r (t.c:Int),d r (t.h:Int),d r (t.s:Int)]),(F #[d r ln,d r (ld:Int),d r hn,d r (hd:Int)])] W fun e W'=>e=K (J #[(F #[d r a1,d r (b1:Int),d r a2,d r (b2:Int)]),O okf])/\Below W.heap.size W W'):=fun W=>by
     rw[hokf]
     exact CF0 W
    have HOK:=h_ hokf;clear hiv HMT HMS HVY CF0 hokf
    go_upto_region 9 with (fail)
    obtain⟨V5,hV5⟩:∃W,W=w4.alloc (D #[d r ln,d r (ld:Int),d r hn,d r (hd:Int)] 47):=⟨_,rfl⟩;rw[<-hV5]
    have HB5:Hid (Below w4.heap.size w4 V5):=by rw[hV5];exact(Below.refl _ _).alloc (Nat.le_refl _) _
    have HCV5:Hid (Cel V5 w4.heap.size [d r ln,d r (ld:Int),d r hn,d r (hd:Int)]):=by rw[hV5];exact Cel.new w4 #[d r ln,d r (ld:Int),d r hn,d r (hd:Int)] 47
    have HIV5:=h_ (HI4.out.below HB5.out);clear hV5
    go_wp2_with (fail)
    refine w_ 10 (fun i=>i==8) dsU9 [Eqv (I (some ⟨t.bt,0,none⟩)),Eqv (I (some ⟨t.bt,0,none⟩)),Eqv (I (some ⟨t.bt,0,none⟩)),Eqv (F #[d r t.p,d r (t.c:Int),d r (t.h:Int),d r (t.s:Int)]),Eqv (F #[d r ln,d r (ld:Int),d r hn,d r (hd:Int)]),Eqv ((J #[(F #[d r a1,d r (b1:Int),d r a2,d r (b2:Int)]),O okf])),Eqv ((J #[(F #[d r a1,d r (b1:Int),d r a2,d r (b2:Int)]),O okf])),Eqv (F #[d r a1,d r (b1:Int),d r a2,d r (b2:Int)]),Eqv (O okf),AlcD V5.heap.size 47 [d r 0,d r 0,d r 0,d r 0]] (by repeat (first|exact AllStb.nil|refine AllStb.cons (by first|exact bC _|exact bp _ _ _) ?_)) ?_ ?_ ?_
    ·intro i o hi hX ho a' W hW hIW hfar hdep
     have hi8:i=8:=by simpa[or_assoc]using hX
     clear hfar hX hi;subst hi8
     simp at ho
     subst ho
     ·have d1:a'.tmps.getD 49 undef=_:=dp hdep 6
      exact⟨(O okf),fun W'=>by simp only[execOp,Act.eval,d1];go_simp,rfl⟩
    ·intro i o hi hX ho a' W hW hIW hfar hdep
     have e0:a'.tmps.getD 0 undef=(I (some ⟨t.bt,0,none⟩)):=(fr hfar 0).trans rfl
     have e14:a'.tmps.getD 14 undef=(I (some ⟨w4.heap.size,0,none⟩)):=(fr hfar 14).trans rfl
     have hi8:i=0\/i=1\/i=2\/i=3\/i=4\/i=5\/i=6\/i=7\/i=9:=by simp at hX;omega
     clear hfar hX hi
     rcases hi8 with rfl|rfl|rfl|rfl|rfl|rfl|rfl|rfl|rfl
     all_goals (simp at ho;subst ho)
     ·refine il ?_;simp only[execOp,Act.eval,e0];go_simp
     ·have d1:a'.tmps.getD 50 undef=_:=dp hdep 0
      refine il ?_;simp only[execOp,Act.eval,d1];go_simp
     ·have d1:a'.tmps.getD 51 undef=_:=dp hdep 1
      refine il ?_;simp only[execOp,Act.eval,d1];go_simp
     ·have d1:a'.tmps.getD 52 undef=_:=dp hdep 2
      have y0:=(HIV5.out.below hW).tb 0 _ rfl;have y1:=(HIV5.out.below hW).tb 1 _ rfl;have y2:=(HIV5.out.below hW).tb 2 _ rfl;have y3:=(HIV5.out.below hW).tb 3 _ rfl
      refine il ?_;simp only[execOp,Act.eval,d1];go_simp
     ·have y0:=(HCV5.out.below hW).cell 0 _ rfl
      have y1:=(HCV5.out.below hW).cell 1 _ rfl;have y2:=(HCV5.out.below hW).cell 2 _ rfl;have y3:=(HCV5.out.below hW).cell 3 _ rfl
      refine il ?_;simp only[execOp,Act.eval,e14];go_simp
     ·have d1:a'.tmps.getD 53 undef=_:=dp hdep 3
      have d2:a'.tmps.getD 54 undef=_:=dp hdep 4
      refine .inr ⟨137,#[(F #[d r t.p,d r (t.c:Int),d r (t.h:Int),d r (t.s:Int)]),(F #[d r ln,d r (ld:Int),d r hn,d r (hd:Int)])],by simp only[execOp,Act.eval,d1,d2];go_simp,?_⟩
      refine(CFL.out W).mono ?_
      rintro e W' ⟨rfl,hb'⟩
      exact⟨_,rfl,hb',trivial,rfl⟩
     ·have d1:a'.tmps.getD 55 undef=_:=dp hdep 5
      refine il ?_;simp only[execOp,Act.eval,d1];go_simp
     ·have d1:a'.tmps.getD 49 undef=_:=dp hdep 6
      refine il ?_;simp only[execOp,Act.eval,d1];go_simp
     ·exact .inl ⟨I (some ⟨W.heap.size,0,none⟩),W.alloc (D #[d r 0,d r 0,d r 0,d r 0] 47),by kernel_rfl,Bel.alloc _ _,trivial,je _ _ _ (Below.size hW)⟩
    intro v w6 hW hIW hg
    have g0:v 0=_:=gq hg 0
    have g1:v 1=_:=gq hg 1
    have g2:v 2=_:=gq hg 2
    have g3:v 3=_:=gq hg 3
    have g4:v 4=_:=gq hg 4
    have g5:v 5=_:=gq hg 5
    have g6:v 6=_:=gq hg 6
    have g7:v 7=_:=gq hg 7
    have g8:v 8=_:=gq hg 8
    obtain⟨gx,g9,glgx,hAx,_⟩:AlcD V5.heap.size 47 [d r 0,d r 0,d r 0,d r 0] (v 9) w6:=hg 9 (by omega)
    simp only[List.drop_succ_cons,List.drop_zero,putV,dsU9,g0,g1,g2,g3,g4,g5,g6,g7,g8,g9,Act.put]
    clear g0 g1 g2 g3 g4 g5 g6 g7 g8 g9 hg hIW;have c0x:=hAx.cell 0 _ rfl;have f0x:=hAx.froz 0 _ rfl;have c1x:=hAx.cell 1 _ rfl;have f1x:=hAx.froz 1 _ rfl;have c2x:=hAx.cell 2 _ rfl;have f2x:=hAx.froz 2 _ rfl;have c3x:=hAx.cell 3 _ rfl;have f3x:=hAx.froz 3 _ rfl;have HAX:=h_ hAx;have HBW:=h_ hW;have HGL:=h_ glgx;clear hAx hW glgx
    go_upto_region 10 with (fail)
    obtain⟨V7,hVn⟩:∃W,W=((((w6.setCell ⟨gx,0,none⟩ (d r a1)).setCell ⟨gx,1,none⟩ (d r (b1:Int))).setCell ⟨gx,2,none⟩ (d r a2)).setCell ⟨gx,3,none⟩ (d r (b2:Int))):=⟨_,rfl⟩;rw[<-hVn]
    have HBn:Hid (Below V5.heap.size V5 V7):=by rw[hVn];exact stw (stw (stw (stw HBW.out HGL.out) HGL.out) HGL.out) HGL.out
    have HXV7:Hid (Cel V7 gx [d r a1,d r (b1:Int),d r a2,d r (b2:Int)]):=by rw[hVn];exact(((HAX.out.st (i:=0) (v:=d r a1) (by simp)).st (i:=1) (v:=d r (b1:Int)) (by simp)).st (i:=2) (v:=d r a2) (by simp)).st (i:=3) (v:=d r (b2:Int)) (by simp)
    have HIV7:=h_ (HIV5.out.below HBn.out);clear hVn HAX HBW HGL c0x c1x c2x c3x f0x f1x f2x f3x HIV5 HCV5;have HB47:Hid (Below w4.heap.size w4 V7):=HB5.out.trans (HBn.out.mono HB5.out.size);have HF7:=h_ (HF4.out.below HB47.out);have HFX7:Hid (Frm t.S w1 V7):=HFX4.out.trans (Frm.of_below' _ HB47.out);have HO7:=h_ (own_below HO4.out HB47.out);have hz7:w4.heap.size<=V7.heap.size:=HB47.out.size
    have HNO:Hid (∀k,some k=vx.ownBlock->¬t.S k):=fun k hk h9=>by have:=(HVO.out k hk.symm).1;have:=HLOW.out k h9;omega
    clear HB5 HBn HF4 HFX4 HO4 HI4 CFL
    rcases FE with _|z
    ·have hk:okf=false:=HOK.out;subst hk
     have HRE:Hid (RetPi2 t w RES (K (J #[C none 0 0,O false])) V7):=by
      rw[HMS2.out rfl]
      exact⟨rfl,HIV7.out,HF7.out.f⟩
     clear HMS2 HMT2 HFS
     go_wp2_with (fail)
     go_ret2
     exact HRE.out
    ·have hk:okf=true:=HOK.out;subst hk;have hz9:((⟨a1,b1⟩,⟨a2,b2⟩):Iv)=z:=HFS.out z rfl;subst hz9
     have HM2:Hid (mapO (fun x=>(ivE t.s P t.h tu (x.2,x.1)).bind (flipE (sq t.s))) (PL.take (q+1))=some (L++[((⟨a1,b1⟩,⟨a2,b2⟩):Iv)])):=HMT2.out
     have HEC:Hid (ivCs (L++[((⟨a1,b1⟩,⟨a2,b2⟩):Iv)])=ivCs L++[d r a1,d r (b1:Int),d r a2,d r (b2:Int)]):=by
      unfold Hid
      rw[ivCs_snoc];rfl
     have HLL:Hid (L.length<=781250):=by
      have h9:=bQ HM.out;rw[List.length_take]at h9
      unfold Hid;omega
     have HROW:Hid ((V7.alloc (D #[d r a1,d r (b1:Int),d r a2,d r (b2:Int)] 47)).ownsRow w1.heap.size 47 4 vx L.length (ivCs L)):=World.ownsRow.alloc HO7.out _
     have HNW:Hid (∀j u,[d r a1,d r (b1:Int),d r a2,d r (b2:Int)][j]? =some u->(V7.alloc (D #[d r a1,d r (b1:Int),d r a2,d r (b2:Int)] 47)).cell? ((⟨V7.heap.size,0,none⟩:Addr).add j)=some u):=fun j u hj=>by
      have h9:=(Cel.new V7 #[d r a1,d r (b1:Int),d r a2,d r (b2:Int)] 47).cell j u hj;unfold Addr.add
      split
      ·rename_i h0;rw[h0]at h9;exact h9
      ·rw[Nat.zero_add];exact h9
     have x0:=HXV7.out.cell 0 _ rfl;have x1:=HXV7.out.cell 1 _ rfl;have x2:=HXV7.out.cell 2 _ rfl;have x3:=HXV7.out.cell 3 _ rfl
     have hzb:w1.heap.size<=(V7.alloc (D #[d r a1,d r (b1:Int),d r a2,d r (b2:Int)] 47)).heap.size:=by simp;omega
     clear HMT2 HMS2 HFS HM
     go_wp2_with (at_builtin;(refine wpList_append_own_at _ rfl _ _ 30 rfl w1.heap.size 47 j0 (F #[d r 0,d r 0,d r 0,d r 0]) 4 32 Tryz.underlying30 hj jz0 jz1 jz2 rfl (by decide) _ _ _ rfl HROW.out ⟨V7.heap.size,0,none⟩ 1 1 [d r a1,d r (b1:Int),d r a2,d r (b2:Int)] rfl rfl HNW.out (fun u hu=>by simp at hu;rcases hu with rfl|rfl|rfl|rfl<;>rfl) (by have:=HLL.out;unfold maxLen;omega) (by have:=HLL.out;omega) hzb ?_);intro v' w8 hown hgrow _ hat)
     have hba:Below V7.heap.size V7 (V7.alloc (D #[d r a1,d r (b1:Int),d r a2,d r (b2:Int)] 47)):=(Below.refl _ _).alloc (Nat.le_refl _) _
     have HO8:Hid (w8.ownsRow w1.heap.size 47 4 v' (L++[((⟨a1,b1⟩,⟨a2,b2⟩):Iv)]).length (ivCs (L++[((⟨a1,b1⟩,⟨a2,b2⟩):Iv)]))):=by
      unfold Hid;rw[HEC.out,List.length_append]
      exact hown
     have hbt9:t.bt<w.heap.size:=HBT.out
     have HI8:Hid (TabI t w8):=(HIV7.out.below hba).frm (Frm.of_grown hgrow) (fun k hk=>HNO.out k hk) (fun h9=>by have:=(HVO.out _ h9.symm).1;omega)
     have HFX8:Hid (Frm t.S w1 w8):=(HFX7.out.trans (Frm.of_below' _ hba)).outs' (Frm.of_grown hgrow) (fun k hk=>.inr (HVO.out k hk.symm).1)
     have HF8:Hid (FrS t.S w w8 [[C A1 n1 c1,C A2 n2 c2],[d r (ra:Int),d r (rb:Int)]]):=(HF7.out.below hba).out (Frm.of_grown hgrow) (fun k hk=>by have:=(HVO.out k hk.symm).1;simp;omega)
     clear hown hgrow hat hba HROW HNW HIV7 HFX7 HF7 HO7 hbt9
     exact⟨⟨q+1,L++[((⟨a1,b1⟩,⟨a2,b2⟩):Iv)],by omega,by go_num,⟨v',rfl,HO8⟩,HM2,HI8,HFX8,HF8⟩,by simp[intOf];omega⟩
  ·have hji:¬(q:Int)<(n:Int):=by omega
   have HRE:Hid (RetPi2 t w RES (K (J #[vx,O true])) wr):=by
    have h9:=HM.out
    rw[List.take_of_length_le (by have:=HN.out;omega)]at h9
    rw[HRES.out,h9]
    exact⟨⟨vx,rfl,aG HO.out (by omega)⟩,HI.out,HF.out.f⟩
   clear HO HI HM HFX HF
   go_wp2_with (fail)
   go_ret2
   exact HRE.out
end Go.Proofs.YtcmeoenkgmghkaaGreat

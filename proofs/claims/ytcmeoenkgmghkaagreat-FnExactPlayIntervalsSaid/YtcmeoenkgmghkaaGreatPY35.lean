/- Part of one proof. There are no conditions. -/
import Derived.Test.YtcmeoenkgmghkaaGreatPY32
set_option maxHeartbeats 0
set_option linter.unusedVariables false
set_option linter.unusedSimpArgs false
set_option maxRecDepth 100000
open Go.Value renaming int->A,slice->F,agg->I,pointer->J
open Go.IntKind renaming i64->C
open Go.Ending renaming returned->O
namespace Go.Proofs.YtcmeoenkgmghkaaGreat
open Go.RowKit Pl Ps Ra Ex
theorem iv2_all(t:RT2)(ht:t.Ok)(P:Nat)(hP:t.p=(P:Int))(hsm:smB t.p t.c t.h t.s=true):∀tu,tu<=2->IvC2 t P tu
 | 0,_=>gZ t ht P 0 hP hsm (by omega) fun tu' h=>by omega
 |tu+1,h=>gZ t ht P (tu+1) hP hsm h fun tu' e=>by
   have e:tu'=tu:=by omega
   subst e
   exact hJ t ht P tu' hP (by have:=(ew hsm).2.2.1;omega) (iv2_all t ht P hP hsm tu' (by omega))
theorem pl2_all(t:RT2)(ht:t.Ok)(P:Nat)(hP:t.p=(P:Int))(hsm:smB t.p t.c t.h t.s=true)(tu:Nat)(htu:tu<=2):PlC2 t P tu:=
 hJ t ht P tu hP (by have:=(ew hsm).2.2.1;omega) (iv2_all t ht P hP hsm tu htu)
def RdQ(lo:Nat)(p:Int)(c h s:Nat):RP:=fun v W=>∃t:RT2,v=J (some ⟨t.bt,0,none⟩)/\t.p=p/\t.c=c/\t.h=h/\t.s=s/\t.Ok/\TabI t W/\(∀k,t.S k->lo<=k)/\lo<=t.bt
theorem stb_rdQ(lo:Nat)(p:Int)(c h s:Nat):Stb (RdQ lo p c h s):=fun _ _ _ ⟨t,h1,h2,h3,h4,h5,h6,h7,h8⟩ hb=>⟨t,h1,h2,h3,h4,h5,h6,h7.below hb,h8⟩
def dsX4:Nat->Nat
 | 0=>22
 | 1=>23
 | 2=>24
 | 3=>25
 | 4=>26
 | 5=>27
 | 6=>21
 | 7=>28
 | 8=>29
 |_=>0
theorem gM(p c h s tu ra rb:Int)(A1 A2:Option Addr)(n1 c1 n2 c2:Nat)(own other:List Int)(w:World)(h1:SL w A1 n1 own)(h2:SL w A2 n2 other)(hc1:n1<=c1)(hc2:n2<=c2)(hm1:n1<=2000000)(hm2:n2<=2000000):
  Calls Tryz.prog 12 #[(I #[A C p,A C c,A C h,A C s]),(I #[F A1 n1 c1,F A2 n2 c2]),(I #[A C ra,A C rb]),A C tu] w (RetPX w (piR p c h s own other tu ra rb)):=by
 obtain⟨Z,hZ⟩:∃Z,Z=cdT p c h s own other tu (!true||rollB s ra rb):=⟨_,rfl⟩
 have CC:Hid (∀W:World,Below w.heap.size w W->Calls Tryz.prog 65 #[(I #[A C p,A C c,A C h,A C s]),(I #[F A1 n1 c1,F A2 n2 c2]),A C tu,(I #[A C ra,A C rb]),.bool true] W fun e w'=>e=O (A C Z)/\Below W.heap.size W w'):=fun W hw=>by rw[hZ];exact l15CodeT_any p c h s tu ra rb true A1 A2 n1 c1 n2 c2 own other W (h1.below hw) (h2.below hw) hm1 hm2
 have HF:Hid (Fr w (((w.alloc (.cells #[A C p,A C c,A C h,A C s] 33)).alloc (.cells #[F A1 n1 c1,F A2 n2 c2] 35)).alloc (.cells #[A C ra,A C rb] 37)) [[A C p,A C c,A C h,A C s],[F A1 n1 c1,F A2 n2 c2],[A C ra,A C rb]]):=(((Fr.start w).allocT (by simp) _ _).allocT (by simp) _ _).allocT (by simp) _ _
 have hZ2:Z=cdT p c h s own other tu (rollB s ra rb):=by rw[hZ];rfl
 have hZb:=cdT_bd (p:=p) (c:=c) (h:=h) (s:=s) (own:=own) (other:=other) (tu:=tu) (mo:=rollB s ra rb);rw[<-hZ2]at hZb
 have HPR:Hid (piR p c h s own other tu ra rb=if Z=0 then(match plE s.toNat p.toNat h.toNat (ivE s.toNat p.toNat h.toNat tu.toNat) (own,other) (ra.toNat,rb.toNat)with
  |some L=>(0,some L)
  |none=>(3,none))else(Z,none)):=by unfold Hid piR;rw[hZ2];rfl
 have HZ:=h_ hZ2;have H1:=h_ h1;have H2:=h_ h2;generalize piR p c h s own other tu ra rb=RR at *;clear hZ hZ2 h1 h2
 go_enter Tryz.func12,Tryz.ntmps12
 go_wp2_with (fail)
 refine(CC.out _ HF.out.b).mono ?_
 rintro e w2 ⟨rfl,hW⟩
 have HF2:=h_ (HF.out.below hW);have hzz:=HF2.out.b.size;clear hW HF CC
 by_cases h0:Z=0
 ·obtain⟨hbd,hin,hro,hsm⟩:=cdT_yes (by rw[<- HZ.out];exact h0)
  have b0:(Z !=0)=false:=by simp[h0]
  rw[if_pos h0]at HPR;obtain⟨hvv,hsd1,hsd2,_,_⟩:=is hbd;obtain⟨hl1,hq1,hms1⟩:=bQ hsd1;obtain⟨hl2,hq2,hms2⟩:=bQ hsd2;have hv8:=aA hvv;obtain⟨_,hp6,hc3,hs3⟩:=ew hsm;have hro2:1<=ra/\ra<=s/\1<=rb/\rb<=ra:=of_decide_eq_true hro;have hin2:0<=tu/\tu<=2:=of_decide_eq_true hin
  obtain⟨P,rfl⟩:∃P:Nat,p=P:=⟨p.toNat,by omega⟩
  obtain⟨c',rfl⟩:∃c':Nat,c=c':=⟨c.toNat,by omega⟩
  obtain⟨h',rfl⟩:∃h':Nat,h=h':=⟨h.toNat,by omega⟩
  obtain⟨s',rfl⟩:∃s':Nat,s=s':=⟨s.toNat,by omega⟩
  obtain⟨da,rfl⟩:∃da:Nat,ra=da:=⟨ra.toNat,by omega⟩
  obtain⟨db,rfl⟩:∃db:Nat,rb=db:=⟨rb.toNat,by omega⟩
  obtain⟨tu',rfl⟩:∃tu':Nat,tu=tu':=⟨tu.toNat,by omega⟩
  simp only[Int.toNat_natCast]at HPR
  have hsd:Sd P c' (own,other):=⟨⟨hl1,hq1,hms1⟩,⟨hl2,hq2,hms2⟩⟩
  have CN:=h_ fun(W:World)=>l12New_any (P:Int) c' h' s' W hvv (gw (by omega) (by omega))
  have CP0:∀(t:RT2) (W:World),t.p=(P:Int)->t.c=c'->t.h=h'->t.s=s'->t.Ok->TabI t W->(∀k,t.S k->w2.heap.size<=k)->Below w2.heap.size w2 W->
    Calls Tryz.prog 66 #[J (some ⟨t.bt,0,none⟩),(I #[F A1 n1 c1,F A2 n2 c2]),I #[A C (da:Int),A C (db:Int)],A C (tu':Int)] W fun e W'=>∃u,e=O (.tuple #[u,.bool (plE s' P h' (ivE s' P h' tu') (own,other) (da,db)).isSome])/\RowO W' W.heap.size (plE s' P h' (ivE s' P h' tu') (own,other) (da,db)) u/\Frm t.S W W':=fun t W t1 t2 t3 t4 tOk tI tS hw=>by
   subst t2 t3 t4;have hw2:Below w.heap.size w W:=HF2.out.b.trans (hw.mono hzz)
   have hlow:∀k,k<w.heap.size->¬t.S k:=fun k hk h9=>by have:=tS k h9;omega
   have h9:=pl2_all t tOk P t1 (by rw[t1];exact hsm) tu' (by omega) own other A1 A2 n1 c1 n2 c2 da db W tI ((sq_of H1.out hlow).frm (Frm.of_below' _ hw2)) ((sq_of H2.out hlow).frm (Frm.of_below' _ hw2)) hsd hc1 hc2 (by omega) (by omega)
   refine h9.mono ?_
   rintro e W' ⟨hr,_,hf⟩
   generalize plE t.s P t.h (ivE t.s P t.h tu') (own,other) (da,db)=o at *
   rcases o with _|L
   ·exact⟨_,hr,rfl,hf⟩
   ·obtain⟨v,hv,hrow⟩:=hr
    exact⟨v,hv,hrow,hf⟩
  have CP:=h_ CP0;generalize plE s' P h' (ivE s' P h' tu') (own,other) (da,db)=o at *
  have gp_stab:∀i v W W',GL [Eqv (I #[A C (P:Int),A C (c':Int),A C (h':Int),A C (s':Int)]),RdQ w2.heap.size (P:Int) c' h' s',Eqv (I #[F A1 n1 c1,F A2 n2 c2]),Eqv (I #[A C (da:Int),A C (db:Int)]),Eqv (A C (tu':Int)),PiQ w2.heap.size o,PiQ w2.heap.size o,ExQ w2.heap.size o,Eqv (.bool o.isSome)] i v W->Below W.heap.size W W'->GL [Eqv (I #[A C (P:Int),A C (c':Int),A C (h':Int),A C (s':Int)]),RdQ w2.heap.size (P:Int) c' h' s',Eqv (I #[F A1 n1 c1,F A2 n2 c2]),Eqv (I #[A C (da:Int),A C (db:Int)]),Eqv (A C (tu':Int)),PiQ w2.heap.size o,PiQ w2.heap.size o,ExQ w2.heap.size o,Eqv (.bool o.isSome)] i v W':=GL.stab (by repeat (first|exact AllStb.nil|refine AllStb.cons (by first|exact aY _|exact stb_rdQ _ _ _ _ _|exact stb_piQ _ _|exact stb_exQ _ _) ?_))
  have gp_run:∀(j:Nat) (u:Value) (W W':World),GL [Eqv (I #[A C (P:Int),A C (c':Int),A C (h':Int),A C (s':Int)]),RdQ w2.heap.size (P:Int) c' h' s',Eqv (I #[F A1 n1 c1,F A2 n2 c2]),Eqv (I #[A C (da:Int),A C (db:Int)]),Eqv (A C (tu':Int)),PiQ w2.heap.size o,PiQ w2.heap.size o,ExQ w2.heap.size o,Eqv (.bool o.isSome)] j u W->(5==5&&j==1)=false->(5==5&&(j==6||j==7||j==8))=false->j≠5->j<9->GL [Eqv (I #[A C (P:Int),A C (c':Int),A C (h':Int),A C (s':Int)]),RdQ w2.heap.size (P:Int) c' h' s',Eqv (I #[F A1 n1 c1,F A2 n2 c2]),Eqv (I #[A C (da:Int),A C (db:Int)]),Eqv (A C (tu':Int)),PiQ w2.heap.size o,PiQ w2.heap.size o,ExQ w2.heap.size o,Eqv (.bool o.isSome)] j u W':=fun j u W W' hg hD hF9 hne hj=>by
   simp at hD hF9
   have hj4:j=0\/j=2\/j=3\/j=4:=by omega
   rcases hj4 with rfl|rfl|rfl|rfl<;>exact hg
  clear CP0 hbd hin hro hsm hvv hsd1 hsd2 hl1 hl2 hq1 hq2 hms1 hms2 hsd H1 H2 HZ h0
  go_wp2_with (fail)
  refine fP 9 (fun i=>i==8) (fun k j=>k==5&&j==1) (fun i j=>i==5&&(j==6||j==7||j==8)) dsX4 (Below w2.heap.size) (fun _=>True) (GL [Eqv (I #[A C (P:Int),A C (c':Int),A C (h':Int),A C (s':Int)]),RdQ w2.heap.size (P:Int) c' h' s',Eqv (I #[F A1 n1 c1,F A2 n2 c2]),Eqv (I #[A C (da:Int),A C (db:Int)]),Eqv (A C (tu':Int)),PiQ w2.heap.size o,PiQ w2.heap.size o,ExQ w2.heap.size o,Eqv (.bool o.isSome)]) (by kernel_rfl) (by kernel_rfl) (by kernel_rfl) (fun _ _ _ _ _ h=>h) (fun _ _ _ h1 h2=>Below.trans h1 h2) (fun _=>Below.refl _ _) (Below.drew (Below.refl _ _)) trivial ?_ ?_ ?_
  ·intro i op hi hX ho a' W hW _ hfar hdep
   have hi8:i=8:=by simpa using hX
   clear hfar hX hi;subst hi8
   simp at ho
   subst ho
   obtain⟨u9,q6,_⟩:PiQ w2.heap.size o (a'.tmps.getD 21 undef) W:=dp hdep 6
   exact⟨.bool o.isSome,fun W'=>by simp only[execOp,Act.eval,q6];go_simp,rfl⟩
  ·intro i op hi hX ho a' W hW _ hfar hdep
   have e3:a'.tmps.getD 3 undef=(A C (tu':Int)):=(fr hfar 3).trans rfl
   have e4:a'.tmps.getD 4 undef=(J (some ⟨w.heap.size,0,none⟩)):=(fr hfar 4).trans rfl
   have e5:a'.tmps.getD 5 undef=(J (some ⟨w.heap.size+1,0,none⟩)):=(fr hfar 5).trans rfl
   have e6:a'.tmps.getD 6 undef=(J (some ⟨w.heap.size+1+1,0,none⟩)):=(fr hfar 6).trans rfl
   have hi8:i=0\/i=1\/i=2\/i=3\/i=4\/i=5\/i=6\/i=7:=by simp at hX;omega
   clear hfar hX hi
   rcases hi8 with rfl|rfl|rfl|rfl|rfl|rfl|rfl|rfl
   all_goals (simp at ho;subst ho)
   ·have y0:=(HF2.out.below hW).c0 0 rfl
    have y1:=(HF2.out.below hW).c0 1 rfl;have y2:=(HF2.out.below hW).c0 2 rfl;have y3:=(HF2.out.below hW).c0 3 rfl
    exact .inl ⟨(I #[A C (P:Int),A C (c':Int),A C (h':Int),A C (s':Int)]),W,by simp only[execOp,Act.eval,e4];go_simp,Below.refl _ _,trivial,rfl,fun _ _ _ _ _ _ h=>h⟩
   ·have d0:a'.tmps.getD 22 undef=_:=dp hdep 0
    refine .inr ⟨67,#[(I #[A C (P:Int),A C (c':Int),A C (h':Int),A C (s':Int)])],by simp only[execOp,Act.eval,d0];go_simp,?_⟩
    refine(CN.out W).mono ?_
    rintro e W' ⟨t,t1,t2,t3,t4,rfl,tOk,tI,tS,tB,hb'⟩
    exact⟨_,rfl,hb'.mono (Below.size hW),trivial,⟨t,rfl,t1,t2,t3,t4,tOk,tI,fun k hk=>Nat.le_trans (Below.size hW) (tS k hk),Nat.le_trans (Below.size hW) tB⟩,fun j u hj _ _ _ hg=>gp_stab j u W W' hg hb'⟩
   ·have y0:=(HF2.out.below hW).c1 0 rfl
    have y1:=(HF2.out.below hW).c1 1 rfl
    exact .inl ⟨(I #[F A1 n1 c1,F A2 n2 c2]),W,by simp only[execOp,Act.eval,e5];go_simp,Below.refl _ _,trivial,rfl,fun _ _ _ _ _ _ h=>h⟩
   ·have y0:=(HF2.out.below hW).c2 0 rfl
    have y1:=(HF2.out.below hW).c2 1 rfl
    exact .inl ⟨(I #[A C (da:Int),A C (db:Int)]),W,by simp only[execOp,Act.eval,e6];go_simp,Below.refl _ _,trivial,rfl,fun _ _ _ _ _ _ h=>h⟩
   ·exact .inl ⟨(A C (tu':Int)),W,by simp only[execOp,Act.eval,e3];go_simp,Below.refl _ _,trivial,rfl,fun _ _ _ _ _ _ h=>h⟩
   ·obtain⟨t,d1,t1,t2,t3,t4,tOk,tI,tS,-⟩:RdQ w2.heap.size (P:Int) c' h' s' (a'.tmps.getD 23 undef) W:=dp hdep 1
    have d2:a'.tmps.getD 24 undef=_:=dp hdep 2
    have d3:a'.tmps.getD 25 undef=_:=dp hdep 3
    have d4:a'.tmps.getD 26 undef=_:=dp hdep 4
    refine .inr ⟨66,#[J (some ⟨t.bt,0,none⟩),(I #[F A1 n1 c1,F A2 n2 c2]),(I #[A C (da:Int),A C (db:Int)]),(A C (tu':Int))],by simp only[execOp,Act.eval,d1,d2,d3,d4];go_simp,?_⟩
    refine(CP.out t W t1 t2 t3 t4 tOk tI (fun k hk=>tS k hk) hW).mono ?_
    rintro e W' ⟨u9,rfl,hres,hF'⟩
    exact⟨_,rfl,hF'.below (Below.size hW) tS,trivial,⟨u9,rfl,hres.low (Below.size hW)⟩,fun j u hj hne hD hF9 hg=>gp_run j u W W' hg hD hF9 hne hj⟩
   ·obtain⟨u9,q5,hres⟩:PiQ w2.heap.size o (a'.tmps.getD 27 undef) W:=dp hdep 5
    exact .inl ⟨.tuple #[u9,.bool o.isSome],W,by simp only[execOp,Act.eval,q5];go_simp,Below.refl _ _,trivial,⟨u9,rfl,hres⟩,fun _ _ _ _ _ _ h=>h⟩
   ·obtain⟨u9,q6,hres⟩:PiQ w2.heap.size o (a'.tmps.getD 21 undef) W:=dp hdep 6
    exact .inl ⟨u9,W,by simp only[execOp,Act.eval,q6];go_simp,Below.refl _ _,trivial,hres,fun _ _ _ _ _ _ h=>h⟩
  intro v w3 hW _ hg
  have hx7:ExQ w2.heap.size o (v 7) w3:=hg 7 (by omega) (by decide)
  have g8:v 8=.bool o.isSome:=hg 8 (by omega) (by decide)
  obtain⟨vz,hvz⟩:∃vz,vz=v 7:=⟨_,rfl⟩
  simp only[List.drop_succ_cons,List.drop_zero,putV,dsX4,<-hvz,g8,Act.put]
  rw[<-hvz]at hx7;clear hg g8 hvz;have hzw:w.heap.size<=w2.heap.size:=hzz;have HBx:Hid (Below w.heap.size w w3):=HF2.out.b.trans (hW.mono hzw);have HX:=h_ hx7;clear hx7 hW gp_stab gp_run CN CP
  rcases o with _|L
  ·have HRE:Hid (RetPX w RR (O (.tuple #[F none 0 0,A C 3])) w3):=by
    rw[HPR.out]
    exact⟨_,rfl,rfl,HBx.out⟩
   go_wp2_with (fail)
   go_ret2
   exact HRE.out
  ·have HRE:Hid (RetPX w RR (O (.tuple #[vz,A C 0])) w3):=by
    rw[HPR.out]
    exact⟨vz,rfl,RowO.low HX.out hzw,HBx.out⟩
   go_wp2_with (fail)
   go_ret2
   exact HRE.out
 ·have b0:(Z != 0)=true:=by simp[h0]
  rw[if_neg h0]at HPR
  have HRE:Hid (RetPX w RR (O (.tuple #[F none 0 0,A C Z])) w2):=by
   rw[HPR.out]
   exact⟨_,rfl,rfl,HF2.out.b⟩
  clear h0
  go_wp2_with (fail)
  go_ret2
  exact HRE.out
end Go.Proofs.YtcmeoenkgmghkaaGreat
namespace Go.Proofs.YtcmeoenkgmghkaaGreat.Ra
open Go.Proofs.YtcmeoenkgmghkaaGreat.Ex Go.Proofs.YtcmeoenkgmghkaaGreat.Ps
def av(B:Int)(M:Nat)(e:E):Int:=e.num*pw B (M-e.depth)
theorem kS(B:Int){M d:Nat}(h:d<=M):pw B M=pw B (M-d)*pw B d:=by rw[<-gR];congr 1;omega
theorem av_self(B:Int)(e:E):av B e.depth e=e.num:=by unfold av;rw[Nat.sub_self,bM,Int.mul_one]
theorem av_up{B:Int}{M N:Nat}{e:E}(h:e.depth<=M)(hM:M<=N):av B N e=av B M e*pw B (N-M):=by
 unfold av
 rw[Int.mul_assoc,<-gR];congr 2;omega
theorem same_av{B:Int}(hB:1<=B){x y:E}{M:Nat}(hx:x.depth<=M)(hy:y.depth<=M):Same B x y↔av B M x=av B M y:=by
 have p:=az hB (M-x.depth);have q:=az hB (M-y.depth);have px:=az hB x.depth;have py:=az hB y.depth;have e1:=kS B hx;have e2:=kS B hy;unfold Same av;generalize pw B (M-x.depth)=a at *;generalize pw B (M-y.depth)=b at *;generalize pw B x.depth=P at *;generalize pw B y.depth=Q at *;generalize x.num=u at *;generalize y.num=v at *;have e3:a*P=b*Q:=e1.symm.trans e2
 constructor
 ·intro h
  have hPQ:P*Q≠0:=Int.mul_ne_zero (by omega) (by omega)
  refine Int.eq_of_mul_eq_mul_right hPQ ?_
  have t1:u*a*(P*Q)=(u*Q)*(a*P):=by ac_rfl
  have t2:v*b*(P*Q)=(v*P)*(b*Q):=by ac_rfl
  rw[t1,t2,h,e3]
 ·intro h
  have hab:a*b≠0:=Int.mul_ne_zero (by omega) (by omega)
  refine Int.eq_of_mul_eq_mul_right hab ?_
  have t1:u*Q*(a*b)=(u*a)*(b*Q):=by ac_rfl
  have t2:v*P*(a*b)=(v*b)*(a*P):=by ac_rfl
  rw[t1,t2,h,e3]
theorem mk_strip'{B:Int}{n:Int}{d:Nat}{x:E}(h:mk B n d=some x):x=strip B d n:=by
 unfold mk at h
 split at h
 ·injection h with h;exact h.symm
 ·cases h
theorem av_mk{B:Int}(hB:1<=B){n:Int}{d M:Nat}{x:E}(h:mk B n d=some x)(hd:d<=M):x.depth<=d/\av B M x=n*pw B (M-d):=by
 have h1:x.depth<=d:=by rw[mk_strip' h];exact f7 d n
 have h2:=(same_av hB (Nat.le_trans h1 hd) (y:=⟨n,d⟩) hd).1 (mk_val hB h).2
 exact⟨h1,h2⟩
theorem strip_abs{B:Int}(hB:1<=B):∀(d:Nat) (n:Int),(strip B d n).num.natAbs<=n.natAbs
 | 0,n=>Nat.le_refl _
 |d+1,n=>by
   unfold strip
   split
   · refine Nat.le_trans (strip_abs hB d (n / B)) ?_
     rename_i h
     obtain⟨k,rfl⟩:=h
     rw [Int.mul_ediv_cancel_left _ (by omega),Int.natAbs_mul]
     exact Nat.le_mul_of_pos_left _ (by omega)
   ·exact Nat.le_refl _
theorem mk_ok{B:Int}(hB:1<=B){n:Int}{d:Nat}(h1: -ax<=n)(h2:n<=ax)(h3:pw B d<=aw):∃x,mk B n d=some x:=by
 refine⟨strip B d n,?_⟩
 unfold mk;have ha:=strip_abs hB d n;have hp:=bU hB (f7 (B:=B) d n);rw[if_pos]
 refine⟨by unfold ax at *;omega,by unfold ax at *;omega,by omega,jH d n,fun h=>?_⟩
 subst h;rw[gH]
theorem add_av{B:Int}(hB:1<=B){x y z:E}{M:Nat}(h:addE B x y=some z)(hx:x.depth<=M)(hy:y.depth<=M):z.depth<=max x.depth y.depth/\av B M z=av B M x+av B M y:=by
 obtain⟨h1,h2⟩:=av_mk (M:=M) hB h (by omega)
 refine⟨h1,?_⟩
 rw[h2]
 rw[av_up (e:=x) (M:=max x.depth y.depth) (N:=M) (by omega) (by omega),av_up (e:=y) (M:=max x.depth y.depth) (N:=M) (by omega) (by omega),<-Int.add_mul]
 rfl
theorem add_ok{B:Int}(hB:1<=B){x y:E}(hx:Val B x)(hy:Val B y)(h1: -ax<=av B (max x.depth y.depth) x+av B (max x.depth y.depth) y)(h2:av B (max x.depth y.depth) x+av B (max x.depth y.depth) y<=ax):∃z,addE B x y=some z:=by
 refine mk_ok hB h1 h2 ?_
 rcases Nat.le_total x.depth y.depth with h|h
 ·rw[Nat.max_eq_right h];exact hy.2.2.1
 ·rw[Nat.max_eq_left h];exact hx.2.2.1
theorem scl_av{B:Int}(hB:1<=B){x z:E}{k:Int}{M:Nat}(h:sclE B x k=some z)(hx:x.depth<=M):z.depth<=x.depth/\av B M z=av B M x*k:=by
 obtain⟨h1,h2⟩:=av_mk (M:=M) hB h hx
 refine⟨h1,?_⟩
 rw[h2];unfold av;rw[Int.mul_right_comm]
theorem neg_av(B:Int)(x:E)(M:Nat):av B M (negE x)= -av B M x:=by
 unfold av negE;rw[Int.neg_mul]
theorem one_av(B:Int)(M:Nat):av B M oneE=pw B M:=by unfold av oneE;rw[Nat.sub_zero,Int.one_mul]
theorem zero_av(B:Int)(M:Nat):av B M aj=0:=by unfold av aj;rw[Int.zero_mul]
theorem iH{B:Int}(hB:1<=B){x z:E}{M:Nat}(h:oneM B x=some z)(hx:x.depth<=M):z.depth<=x.depth/\av B M z=pw B M-av B M x:=by
 obtain⟨h1,h2⟩:=add_av (M:=M) hB (x:=oneE) (y:=negE x) h (Nat.zero_le _) hx;rw[one_av,neg_av]at h2
 exact⟨Nat.le_trans h1 (by show max 0 x.depth<=_;omega),by omega⟩
def Uni1(B:Int)(e:E):Prop:=0<=e.num/\e.num<=pw B e.depth
theorem kK{B:Int}(hB:1<=B){e:E}{M:Nat}(h:e.depth<=M):Uni1 B e↔0<=av B M e/\av B M e<=pw B M:=by
 have p:=az hB (M-e.depth);have e1:=kS B h;unfold Uni1 av;rw[e1]
 constructor
 ·rintro⟨h1,h2⟩
  exact⟨Int.mul_nonneg h1 (by omega),by rw[Int.mul_comm];exact Int.mul_le_mul_of_nonneg_left h2 (by omega)⟩
 ·rintro⟨h1,h2⟩
  refine⟨Int.nonneg_of_mul_nonneg_left h1 (by omega),?_⟩
  rw[Int.mul_comm]at h2
  exact Int.le_of_mul_le_mul_left h2 (by omega)
theorem uni_one{B:Int}:Uni1 B oneE:=⟨by decide,by show(1:Int)<=1;omega⟩
theorem dL{B:Int}:Uni1 B aj:=⟨by decide,by show(0:Int)<=1;omega⟩
theorem ji{B:Int}(hB:1<=B){x z:E}(h:oneM B x=some z)(hx:Uni1 B x):Uni1 B z:=by
 obtain⟨h1,h2⟩:=iH (M:=x.depth) hB h (Nat.le_refl _);rw[kK hB h1,h2];have:=(kK hB (Nat.le_refl x.depth)).1 hx
 omega
theorem oneM_ok{B:Int}(hB:1<=B){x:E}(hv:Val B x)(hx:Uni1 B x):∃z,oneM B x=some z:=by
 refine add_ok hB eA (jT hv) ?_ ?_
 all_goals
  have h0:max oneE.depth (negE x).depth=x.depth:=by show max 0 x.depth=_;omega
  rw[h0,one_av,neg_av,av_self];have:=hx.1;have:=hx.2;have:=hv.2.2.1;unfold ax aw at *
  omega
def wgtL(l:List ((Nat×Nat)×E)):Int:=(l.map fun rx=>aL rx.1).sum
theorem jD(l:List ((Nat×Nat)×E))(r:Nat×Nat)(x:E):wgtL (l++[(r,x)])=wgtL l+aL r:=by unfold wgtL;simp
theorem fo(r:Nat×Nat):1<=aL r:=by unfold aL;split<;>omega
theorem wgtL_nn:∀l,0<=wgtL l:=by
 intro l
 induction l with
 |nil=>simp[wgtL]
 |cons a l ih=>
  have:=fo a.1
  simp only[wgtL,List.map_cons,List.sum_cons]at ih ⊢
  omega
def avS(B:Int)(M:Nat)(l:List ((Nat×Nat)×E)):Int:=(l.map fun rx=>av B M rx.2*aL rx.1).sum
theorem avS_snoc(B:Int)(M:Nat)(l:List ((Nat×Nat)×E))(r:Nat×Nat)(x:E):avS B M (l++[(r,x)])=avS B M l+av B M x*aL r:=by unfold avS;simp
theorem sum_av{B:Int}(hB:1<=B){M:Nat}:∀{l:List ((Nat×Nat)×E)} {t:E},sumE B l=some t->(∀rx∈l,rx.2.depth<=M)->t.depth<=M/\av B M t=avS B M l:=by
 intro l
 induction l using bj with
 |nil=>
  intro t h _
  unfold sumE at h
  simp at h
  subst h
  exact⟨Nat.zero_le _,zero_av B M⟩
 |snoc l rx ih=>
  obtain⟨r,x⟩:=rx
  intro t h hm
  rw[gG]at h
  rcases hs:sumE B l with _|u
  ·rw[hs]at h;cases h
  ·obtain⟨i1,i2⟩:=ih hs fun p hp=>hm p (by simp[hp])
   have hx:x.depth<=M:=hm (r,x) (by simp)
   rw[hs]at h
   simp only[Option.bind_some]at h
   rcases hz:sclE B x (aL r)with _|y
   ·rw[hz]at h;cases h
   ·rw[hz]at h
    simp only[Option.bind_some]at h
    obtain⟨j1,j2⟩:=scl_av (M:=M) hB hz hx
    obtain⟨k1,k2⟩:=add_av (M:=M) hB h i1 (by omega)
    exact⟨by omega,by rw[k2,i2,j2,avS_snoc]⟩
theorem sum_ok{B:Int}(hB:1<=B){M:Nat}(hM:pw B M<=aw):∀{l:List ((Nat×Nat)×E)},(∀rx∈l,rx.2.depth<=M/\-(pw B M)<=av B M rx.2/\av B M rx.2<=pw B M)->wgtL l<=100->∃t,sumE B l=some t/\t.depth<=M/\-(wgtL l*pw B M)<=av B M t/\av B M t<=wgtL l*pw B M:=by
 intro l
 induction l using bj with
 |nil=>
  intro _ _
  refine⟨aj,rfl,Nat.zero_le _,?_,?_⟩<;>rw[zero_av]<;>simp[wgtL]
 |snoc l rx ih=>
  obtain⟨r,x⟩:=rx
  intro hm hw
  have hp:=az hB M;have hwr:=fo r
  have hwr2:aL r<=2:=by unfold aL;split<;>omega
  have hwl:=wgtL_nn l;rw[jD]at hw
  obtain⟨u,hu,u1,u2,u3⟩:=ih (fun p hq=>hm p (by simp[hq])) (by omega)
  obtain⟨x1,x2,x3⟩:=hm (r,x) (by simp)
  have x1':x.depth<=M:=x1
  have hmx:∀{e:E} {b:Int},e.depth<=M->0<=b->-(b*pw B M)<=av B M e->av B M e<=b*pw B M->∀{d:Nat},e.depth<=d->d<=M->-(b*pw B d)<=av B d e/\av B d e<=b*pw B d:=by
   intro e b he hb h1 h2 d hd hdM
   have hq:=az hB (M-d);have hud:=av_up (B:=B) hd hdM;rw[hud,kS B hdM]at h1 h2
   rw[show b*(pw B (M-d)*pw B d)=(b*pw B d)*pw B (M-d) by ac_rfl]at h1 h2
   rw[<-Int.neg_mul]at h1
   exact⟨Int.le_of_mul_le_mul_right h1 (by omega),Int.le_of_mul_le_mul_right h2 (by omega)⟩
  have hpm:∀{d:Nat},d<=M->pw B d<=aw:=fun hd=>Int.le_trans (bU hB hd) hM
  obtain⟨y,hy⟩:∃y,sclE B x (aL r)=some y:=by
   have h1:=hmx x1' (by omega:(0:Int)<=1) (by rw[Int.one_mul];exact x2) (by rw[Int.one_mul];exact x3) (Nat.le_refl _) x1'
   rw[av_self,Int.one_mul]at h1;have hs:=hpm x1'
   rcases show aL r=1\/aL r=2 by omega with e|e
   ·exact mk_ok hB (by rw[e];unfold ax aw at *;omega) (by rw[e];unfold ax aw at *;omega) hs
   ·exact mk_ok hB (by rw[e];unfold ax aw at *;omega) (by rw[e];unfold ax aw at *;omega) hs
  obtain⟨j1,j2⟩:=scl_av (M:=M) hB hy x1'
  have hyb: -(aL r*pw B M)<=av B M y/\av B M y<=aL r*pw B M:=by
   rw[j2,Int.mul_comm (av B M x)]
   exact⟨by rw[<-Int.mul_neg];exact Int.mul_le_mul_of_nonneg_left x2 (by omega),Int.mul_le_mul_of_nonneg_left x3 (by omega)⟩
  have vu:=lH hB hu;have vy:=jm hB hy
  have hD:max u.depth y.depth<=M:=by omega
  have b1:=hmx u1 hwl u2 u3 (show u.depth<=max u.depth y.depth by omega) hD
  have b2:=hmx (show y.depth<=M by omega) (show 0<=aL r by omega) hyb.1 hyb.2 (show y.depth<=max u.depth y.depth by omega) hD
  have hsc:=hpm hD
  have w1:wgtL l*pw B (max u.depth y.depth)<=100*aw:=by
   refine Int.le_trans (Int.mul_le_mul_of_nonneg_left hsc hwl) ?_
   exact Int.mul_le_mul_of_nonneg_right (by omega) (by unfold aw;omega)
  have w2:aL r*pw B (max u.depth y.depth)<=2*aw:=by
   refine Int.le_trans (Int.mul_le_mul_of_nonneg_left hsc (by omega)) ?_
   exact Int.mul_le_mul_of_nonneg_right (by omega) (by unfold aw;omega)
  obtain⟨t,ht⟩:=add_ok hB vu vy (by unfold ax aw at *;omega) (by unfold ax aw at *;omega)
  obtain⟨k1,k2⟩:=add_av (M:=M) hB ht u1 (by omega)
  refine⟨t,by rw[gG,hu,Option.bind_some,hy,Option.bind_some,ht],by omega,?_,?_⟩
  ·rw[k2,jD,Int.add_mul];omega
  ·rw[k2,jD,Int.add_mul];omega
theorem bestS_mem{B:Int}{f:List Int->Option E}{l:List (List Int)}{t:Nat×Nat×E}(h:bestS B f l=some t):t.2.2=aj\/∃q∈l,f q=some t.2.2:=by
 induction l using bj generalizing t with
 |nil=>rw[fm]at h;injection h with h;subst h;exact .inl rfl
 |snoc l q ih=>
  rw[bY]at h
  rcases hs:bestS B f l with _|u
  ·rw[hs]at h;cases h
  ·rw[hs]at h
   rcases hf:f q with _|x
   ·rw[hf]at h;cases h
   ·rw[hf]at h
    simp only[Option.bind_some,Option.map_some,Option.some.injEq]at h
    subst h
    split
    ·exact .inr ⟨q,by simp,hf⟩
    ·rcases ih hs with i|⟨p,hp,i⟩
     ·exact .inl i
     ·exact .inr ⟨p,by simp[hp],i⟩
theorem bestS_ok{B:Int}{f:List Int->Option E}{l:List (List Int)}(h:∀q∈l,∃x,f q=some x):∃t,bestS B f l=some t:=by
 induction l using bj with
 |nil=>exact⟨_,fm B f⟩
 |snoc l q ih=>
  obtain⟨u,hu⟩:=ih fun p hp=>h p (by simp[hp])
  obtain⟨x,hx⟩:=h q (by simp)
  rw[bY,hu,Option.bind_some,hx,Option.map_some]
  exact⟨_,rfl⟩
theorem allS_mem{g:Nat×Nat->Option E}{l:List (Nat×Nat)}{t:List E}(h:allS g l=some t):∀x∈t,∃r∈l,g r=some x:=by
 induction l using bj generalizing t with
 |nil=>unfold allS at h;simp at h;subst h;intro x hx;cases hx
 |snoc l q ih=>
  rw[cQ]at h
  rcases hs:allS g l with _|u
  ·rw[hs]at h;cases h
  ·rw[hs]at h
   rcases hf:g q with _|x
   ·rw[hf]at h;cases h
   ·rw[hf]at h
    simp only[Option.bind_some,Option.map_some,Option.some.injEq]at h
    subst h
    intro y hy
    rcases List.mem_append.1 hy with hy|hy
    ·obtain⟨r,hr,e⟩:=ih hs y hy;exact⟨r,by simp[hr],e⟩
    ·rw[List.mem_singleton]at hy;subst hy;exact⟨q,by simp,hf⟩
theorem allS_ok{g:Nat×Nat->Option E}{l:List (Nat×Nat)}(h:∀r∈l,∃x,g r=some x):∃t,allS g l=some t:=by
 induction l using bj with
 |nil=>exact⟨[],rfl⟩
 |snoc l q ih=>
  obtain⟨u,hu⟩:=ih fun p hp=>h p (by simp[hp])
  obtain⟨x,hx⟩:=h q (by simp)
  rw[cQ,hu,Option.bind_some,hx,Option.map_some]
  exact⟨_,rfl⟩
theorem sum_rowN(a:Nat):∀k,k<a->((rowN a k).map aL).sum=2*(k:Int)
 | 0,_=>by simp[rowN]
 |k+1,h=>by
   rw [rowN,List.map_append,List.sum_append,sum_rowN a k (by omega)]
   simp [aL,show a≠k+1 by omega]
   omega
theorem kN:∀s:Nat,((ah s).map aL).sum=(s:Int)*s
 | 0=>by simp[ah]
 |a+1=>by
   rw [ah,rowN,List.map_append,List.sum_append,List.map_append,List.sum_append,kN a,sum_rowN (a+1) a (by omega)]
   simp [aL]
   rw [Int.add_mul,Int.mul_add]
   omega
theorem wgtL_zip:∀(l:List (Nat×Nat)) (xs:List E),l.length=xs.length->wgtL (l.zip xs)=(l.map aL).sum
 | [],[],_=>rfl
 | [],_::_,h=>by simp at h
 |_::_,[],h=>by simp at h
 |r::l,x::xs,h=>by
   have:=wgtL_zip l xs (by simpa using h)
   unfold wgtL at this ⊢
   simp [this]
theorem kI{s:Nat}{xs:List E}(h:xs.length=(ah s).length):wgtL ((ah s).zip xs)=sq s:=by
 rw[wgtL_zip _ _ h.symm,kN];rfl
theorem zip_mem{l:List (Nat×Nat)}{xs:List E}{P:E->Prop}(h:∀x∈xs,P x):∀rx∈l.zip xs,P rx.2:=fun _ hq=>h _ (List.of_mem_zip hq).2
theorem ir:∀xs:List E,∃M,∀x∈xs,x.depth<=M
 | []=>⟨0,fun x h=>by cases h⟩
 |a::l=>by
   obtain⟨M,h⟩:=ir l
   refine⟨max M a.depth,fun x hx=>?_⟩
   rcases List.mem_cons.1 hx with rfl |hx
   ·omega
   ·have:=h x hx;omega
theorem avS_bd{B:Int}{M:Nat}{a b:Int}:∀{l:List ((Nat×Nat)×E)},(∀rx∈l,a<=av B M rx.2/\av B M rx.2<=b)->a*wgtL l<=avS B M l/\avS B M l<=b*wgtL l:=by
 intro l
 induction l with
 |nil=>intro _;simp[avS,wgtL]
 |cons rx l ih=>
  intro h
  obtain⟨i1,i2⟩:=ih fun p hp=>h p (by simp[hp])
  obtain⟨h1,h2⟩:=h rx (by simp)
  have hw:=fo rx.1
  have e1:avS B M (rx::l)=av B M rx.2*aL rx.1+avS B M l:=by simp[avS]
  have e2:wgtL (rx::l)=aL rx.1+wgtL l:=by simp[wgtL]
  have k1:=Int.mul_le_mul_of_nonneg_right h1 (show 0<=aL rx.1 by omega)
  have k2:=Int.mul_le_mul_of_nonneg_right h2 (show 0<=aL rx.1 by omega)
  rw[e1,e2,Int.mul_add,Int.mul_add]
  omega
theorem mean_av{B:Int}(hB:1<=B){rs:List (Nat×Nat)}{xs:List E}{x:E}{M:Nat}(h:meanE B rs xs=some x)(hm:∀y∈xs,y.depth<=M):x.depth<=M+1/\av B (M+1) x=avS B M (rs.zip xs):=by
 unfold meanE at h
 rcases hs:sumE B (rs.zip xs)with _|t
 ·rw[hs]at h;cases h
 ·rw[hs,Option.bind_some]at h;obtain⟨h1,h2⟩:=sum_av (M:=M) hB hs (zip_mem hm)
  obtain⟨k1,k2⟩:=av_mk (M:=M+1) hB h (by omega)
  refine⟨by omega,?_⟩
  rw[k2,<-h2,show M+1-(t.depth+1)=M-t.depth by omega]
  rfl
theorem mc{s:Nat}(hB:1<=sq s){xs:List E}{x:E}(h:meanE (sq s) (ah s) xs=some x)(hl:xs.length=(ah s).length)(hu:∀y∈xs,Uni1 (sq s) y):Uni1 (sq s) x:=by
 obtain⟨M,hM⟩:=ir xs;obtain⟨h1,h2⟩:=mean_av hB h hM;rw[kK hB h1,h2]
 have hb:=avS_bd (B:=sq s) (M:=M) (a:=0) (b:=pw (sq s) M) (l:=(ah s).zip xs) fun rx hr=>by
  have hx:=(List.of_mem_zip hr).2
  exact(kK hB (hM _ hx)).1 (hu _ hx)
 rw[kI hl,Int.zero_mul]at hb
 exact⟨hb.1,by rw[bJ];exact hb.2⟩
theorem mean_ok{s:Nat}(hB:1<=sq s)(hB2:sq s<=36){xs:List E}{M:Nat}(hl:xs.length=(ah s).length)(hm:∀y∈xs,y.depth<=M/\-(pw (sq s) M)<=av (sq s) M y/\av (sq s) M y<=pw (sq s) M)(hM:pw (sq s) (M+1)<=aw):∃x,meanE (sq s) (ah s) xs=some x/\x.depth<=M+1:=by
 have hM0:pw (sq s) M<=aw:=Int.le_trans (bU hB (by omega)) hM
 have hw:=kI hl
 obtain⟨t,ht,t1,t2,t3⟩:=sum_ok hB hM0 (l:=(ah s).zip xs) (fun rx hr=>hm _ (List.of_mem_zip hr).2) (by omega)
 rw[hw]at t2 t3;have hp:=az hB (M-t.depth)
 have hn: -(ax)<=t.num/\t.num<=ax:=by
  have e:sq s*pw (sq s) M=pw (sq s) (M+1):=by rw[bJ,Int.mul_comm]
  rw[e]at t2 t3
  have hq: -aw<=t.num*pw (sq s) (M-t.depth)/\t.num*pw (sq s) (M-t.depth)<=aw:=by unfold av at t2 t3;omega
  generalize pw (sq s) (M-t.depth)=k at *
  have:(t.num.natAbs:Int)<=aw:=by
   have h1:(t.num*k).natAbs=t.num.natAbs*k.natAbs:=Int.natAbs_mul _ _
   have h2:t.num.natAbs<=t.num.natAbs*k.natAbs:=Nat.le_mul_of_pos_right _ (by omega)
   have h3:((t.num*k).natAbs:Int)<=aw:=by omega
   omega
  unfold ax aw at *
  omega
 obtain⟨x,hx⟩:=mk_ok hB (n:=t.num) (d:=t.depth+1) hn.1 hn.2 (Int.le_trans (bU hB (by omega)) hM)
 refine⟨x,by unfold meanE;rw[ht,Option.bind_some,hx],?_⟩
 have:=(av_mk (M:=t.depth+1) hB hx (Nat.le_refl _)).1
 omega
theorem lE{s:Nat}(hB:1<=sq s):∀(f:Nat) {own other:List Int} {e:E},val s f own other=some e->Uni1 (sq s) e
 | 0,own,other,e,h=>by cases h
 |f+1,own,other,e,h=>by
   unfold val at h
   split at h
   ·injection h with h;subst h;exact uni_one
   · split at h
     ·injection h with h;subst h;exact dL
     · cases hs : allS (fun r => (bestS (s * s) (fun q => (val s f other q).bind (oneM (s * s))) (resultsL own r.1 r.2)).map fun t => t.2.2) (ah s) with
       |none=>rw [hs]at h;cases h
       |some xs=>
         rw [hs]at h
         refine mc hB h (ku hs) fun y hy=>?_
         obtain⟨r,_,hr⟩:=allS_mem hs y hy
         cases ht:bestS (s*s) (fun q=>(val s f other q).bind (oneM (s*s))) (resultsL own r.1 r.2)with
         |none=>rw [ht]at hr;cases hr
         |some t=>
           rw [ht]at hr
           have hy':t.2.2=y:=by simpa using hr
           rw [<-hy']
           rcases bestS_mem ht with h0 |⟨q,_,hq⟩
           ·rw [h0];exact dL
           · cases hv : val s f other q with
             |none=>rw [hv]at hq;cases hq
             |some z=>rw [hv]at hq;exact ji hB hq (lE hB f hv)
theorem win_uni{s:Nat}(hB:1<=sq s){own other:List Int}{e:E}(h:win s own other=some e):Uni1 (sq s) e:=lE hB _ h
def LE(B:Int)(x y:E):Prop:=x.num*pw B y.depth<=y.num*pw B x.depth
theorem le_av{B:Int}(hB:1<=B){x y:E}{M:Nat}(hx:x.depth<=M)(hy:y.depth<=M):LE B x y↔av B M x<=av B M y:=by
 have p:=az hB (M-x.depth);have q:=az hB (M-y.depth);have px:=az hB x.depth;have py:=az hB y.depth;have e1:=kS B hx;have e2:=kS B hy;unfold LE av;generalize pw B (M-x.depth)=a at *;generalize pw B (M-y.depth)=b at *;generalize pw B x.depth=P at *;generalize pw B y.depth=Q at *;generalize x.num=u at *;generalize y.num=v at *;have e3:a*P=b*Q:=e1.symm.trans e2
 have hPQ:0<P*Q:=Int.mul_pos (by omega) (by omega)
 have hab:0<a*b:=Int.mul_pos (by omega) (by omega)
 have t1:u*a*(P*Q)=(u*Q)*(a*P):=by ac_rfl
 have t2:v*b*(P*Q)=(v*P)*(b*Q):=by ac_rfl
 have t3:u*Q*(a*b)=(u*a)*(b*Q):=by ac_rfl
 have t4:v*P*(a*b)=(v*b)*(a*P):=by ac_rfl
 have hK:0<b*Q:=Int.mul_pos (by omega) (by omega)
 constructor
 ·intro h
  refine Int.le_of_mul_le_mul_right ?_ hPQ
  rw[t1,t2,e3]
  exact Int.mul_le_mul_of_nonneg_right h (by omega)
 ·intro h
  refine Int.le_of_mul_le_mul_right ?_ hab
  rw[t3,t4,e3]
  exact Int.mul_le_mul_of_nonneg_right h (by omega)
theorem mi(B:Int)(x:E):LE B x x:=Int.le_refl _
theorem le_trans'{B:Int}(hB:1<=B){x y z:E}(h:LE B x y)(k:LE B y z):LE B x z:=by
 obtain⟨M,hM⟩:∃M,M=max x.depth (max y.depth z.depth):=⟨_,rfl⟩
 rw[le_av hB (M:=M) (by omega) (by omega)]at *
 omega
theorem avS_le{B:Int}{M:Nat}:∀{rs:List (Nat×Nat)} {xs ys:List E},xs.length=ys.length->(∀i,i<xs.length->av B M (xs.getD i aj)<=av B M (ys.getD i aj))->avS B M (rs.zip xs)<=avS B M (rs.zip ys):=by
 intro rs
 induction rs with
 |nil=>intro xs ys _ _;simp[avS]
 |cons r rs ih=>
  intro xs ys hl hi
  cases xs with
  |nil=>
   cases ys with
   |nil=>simp[avS]
   |cons y ys=>simp at hl
  |cons x xs=>
   cases ys with
   |nil=>simp at hl
   |cons y ys=>
    have h0:=hi 0 (by simp)
    have h1:=ih (xs:=xs) (ys:=ys) (by simpa using hl) fun i hx=>by have:=hi (i+1) (by simpa using hx);simpa[List.getD]using this
    have hw:=fo r
    have h0':av B M x<=av B M y:=by simpa[List.getD]using h0
    have k1:=Int.mul_le_mul_of_nonneg_right h0' (show 0<=aL r by omega)
    have e1:avS B M ((r,x)::rs.zip xs)=av B M x*aL r+avS B M (rs.zip xs):=by simp[avS]
    have e2:avS B M ((r,y)::rs.zip ys)=av B M y*aL r+avS B M (rs.zip ys):=by simp[avS]
    rw[List.zip_cons_cons,List.zip_cons_cons,e1,e2]
    omega
theorem mean_le{B:Int}(hB:1<=B){rs:List (Nat×Nat)}{xs ys:List E}{x y:E}(h:meanE B rs xs=some x)(k:meanE B rs ys=some y)(hl:xs.length=ys.length)(hi:∀i,i<xs.length->LE B (xs.getD i aj) (ys.getD i aj)):LE B x y:=by
 obtain⟨M1,hM1⟩:=ir xs;obtain⟨M2,hM2⟩:=ir ys;obtain⟨M,hM⟩:∃M,M=max M1 M2:=⟨_,rfl⟩
 obtain⟨d1,e1⟩:=mean_av (M:=M) hB h fun z hz=>by have:=hM1 z hz;omega
 obtain⟨d2,e2⟩:=mean_av (M:=M) hB k fun z hz=>by have:=hM2 z hz;omega
 rw[le_av hB d1 d2,e1,e2]
 refine avS_le hl fun i hx=>?_
 have hmem:∀{zs:List E} {j:Nat},j<zs.length->zs.getD j aj∈zs:=fun {zs j} hj=>by
  rw[List.getD_eq_getElem?_getD,List.getElem?_eq_getElem hj]
  exact List.getElem_mem hj
 exact(le_av hB (by have:=hM1 _ (hmem hx);omega) (by have:=hM2 _ (hmem (show i<ys.length by omega));omega)).1 (hi i hx)
theorem cmp_le{B:Int}{x y:E}:cmpE B x y<=0↔LE B x y:=by
 unfold cmpE LE
 split
 ·constructor
  ·intro _;omega
  ·intro _;omega
 ·split
  ·constructor
   ·intro h;omega
   ·intro h;omega
  ·constructor
   ·intro _;omega
   ·intro _;omega
theorem cmp_ge{B:Int}{x y:E}:0<=cmpE B x y↔LE B y x:=by
 unfold cmpE LE
 split
 ·constructor
  ·intro h;omega
  ·intro h;omega
 ·split
  ·constructor
   ·intro _;omega
   ·intro _;omega
  ·constructor
   ·intro _;omega
   ·intro _;omega
def turns(p:List Int):Nat:=((pips p+1)/2).toNat
theorem pips_zero{p:List Int}(h:∀x∈p,0<=x)(h0:p.sum=0):pips p=0:=jB _ p 0 h h0
theorem wsum_ge(f g:Nat->Int):∀(p:List Int) (k:Nat),(∀x∈p,0<=x)->(∀i,k<=i->i<k+p.length->f i<=g i)->wsum f k p<=wsum g k p
 | [],_,_,_=>Int.le_refl _
 |a::p,k,h,hf=>by
   have:=wsum_ge f g p (k+1) (fun x hx=>h x (by simp [hx])) (fun i h1 h2=>hf i (by omega) (by simp at h2 ⊢;omega))
   have h1:=hf k (Nat.le_refl _) (by simp)
   have h2:=Int.mul_le_mul_of_nonneg_right h1 (h a (by simp))
   show f k*a+_<=g k*a+_
   omega
theorem kF(m:Int):∀(p:List Int) (k:Nat),wsum (fun _=>m) k p=m*p.sum
 | [],_=>by show(0:Int)=m*0;simp
 |a::p,k=>by
   show m*a+_=m*(a+p.sum)
   rw [kF m p (k+1),Int.mul_add]
theorem pips_lo{p:List Int}(h:∀x∈p,0<=x):p.sum<=pips p:=by
 have:=wsum_ge (fun _=>1) (fun i=>(i:Int)+1) p 0 h (fun i _ _=>by omega)
 rw[kF,Int.one_mul]at this
 exact this
theorem dI{h c:Nat}{d1 d2:Nat}{ds:List Nat}{p:List Int}(hd:∀d∈d1::d2::ds,1<=d)(hp:PosP h c p)(h0:p.sum≠0):∀q∈reach (d1::d2::ds) p,pips q+2<=pips p\/q.sum=0:=by
 intro q hq
 rw[bI,if_neg h0]at hq;obtain⟨m,hm,hqm⟩:=List.mem_flatMap.1 hq
 obtain⟨h1,h2,_⟩:=cD (hd d1 (by simp)) hp hm
 by_cases hm0:m.sum=0
 ·rw[fE _ hm0,List.mem_singleton]at hqm
  subst hqm
  exact .inr hm0
 ·have:=(bC (fun d hd'=>hd d (by simp at hd' ⊢;exact .inr hd')) h1 q hqm).2.2 (by simp) hm0
  exact .inl (by omega)
theorem lT{h c:Nat}{a b:Nat}{p:List Int}(ha:1<=a)(hb:1<=b)(hp:PosP h c p)(h0:p.sum≠0):∀q∈resultsL p a b,turns q+1<=turns p:=by
 intro q hq
 have hq1:=(bf ha hb hp q hq).1;have hs:=fS hp.2.1;have hlo:=pips_lo hp.2.1
 have key:pips q+2<=pips p\/q.sum=0:=by
  obtain⟨ds,hds,hq⟩:=(gh ha hb hp q).1 hq;unfold dice at hds
  split at hds
  ·rw[List.mem_singleton]at hds
   subst hds
   exact dI (by simp;omega) hp h0 q hq
  ·simp only[List.mem_cons,List.not_mem_nil,or_false]at hds
   rcases hds with rfl|rfl
   ·exact dI (by simp;omega) hp h0 q hq
   ·exact dI (by simp;omega) hp h0 q hq
 have hqn:=aN hq1.2.1;unfold turns
 rcases key with k|k
 ·omega
 ·have:=pips_zero hq1.2.1 k
  omega
theorem val_ok{h c s:Nat}(hB:1<=sq s)(hB2:sq s<=36){D:Nat}(hD:pw (sq s) D<=aw):∀(f:Nat) {own other:List Int},PosP h c own->PosP h c other->pips own+pips other<f->turns own+turns other<=D->∃e,val s f own other=some e/\e.depth<=turns own+turns other
 | 0,own,other,ho,ht,h1,_=>by have:=aN ho.2.1;have:=aN ht.2.1;omega
 |f+1,own,other,ho,ht,h1,h2=>by
   unfold val
   by_cases h0:own.sum=0
   ·rw [if_pos h0];exact⟨_,rfl,Nat.zero_le _⟩
   rw [if_neg h0]
   by_cases h3:other.sum=0
   ·rw [if_pos h3];exact⟨_,rfl,Nat.zero_le _⟩
   rw [if_neg h3]
   have key:∀r∈ah s,∀q∈resultsL own r.1 r.2,∃x,(val s f other q).bind (oneM (s*s))=some x/\x.depth+1<=turns own+turns other:=by
     intro r hr q hq
     obtain⟨r1,r2, -⟩:=bB.1 hr
     obtain⟨q1,_,q3⟩:=bf (by omega) r1 ho q hq
     have hq3:=q3 h0
     have ht3:=lT (by omega) r1 ho h0 q hq
     obtain⟨e,he,hed⟩:=val_ok hB hB2 hD f ht q1 (by omega) (by omega)
     obtain⟨z,hz⟩:=oneM_ok hB (val_val hB f he) (lE hB f he)
     refine⟨z,by rw [he,Option.bind_some];exact hz,?_⟩
     have:=(iH (M:=e.depth) hB hz (Nat.le_refl _)).1
     omega
   have hpo: 0< pips own:=by have:=pips_lo ho.2.1;have:=fS ho.2.1;omega
   have hto: 1<=turns own:=by unfold turns;omega
   obtain⟨M,hM⟩:∃M,turns own+turns other=M+1:=⟨turns own+turns other-1,by omega⟩
   have hbest:∀r∈ah s,∃x,((bestS (s*s) (fun q=>(val s f other q).bind (oneM (s*s))) (resultsL own r.1 r.2)).map fun t=>t.2.2)=some x/\x.depth<=M/\Uni1 (sq s) x:=by
     intro r hr
     obtain⟨t,ht'⟩:=bestS_ok (B:=s*s) (f:=fun q=>(val s f other q).bind (oneM (s*s))) (l:=resultsL own r.1 r.2) fun q hq=>by
       obtain⟨x,hx,_⟩:=key r hr q hq
       exact⟨x,hx⟩
     refine⟨t.2.2,by rw [ht'];rfl,?_⟩
     rcases bestS_mem ht' with e |⟨q,hq,e⟩
     ·rw [e];exact⟨Nat.zero_le _,dL⟩
     · obtain ⟨x, hx, hd⟩ := key r hr q hq
       have e':(val s f other q).bind (oneM (s*s))=some t.2.2:=e;rw [hx]at e';injection e' with e';rw [<-e']
       refine⟨by omega,?_⟩
       cases hv:val s f other q with
       |none=>rw [hv]at hx;cases hx
       |some z=>rw [hv]at hx;exact ji hB hx (lE hB f hv)
   obtain⟨xs,hxs⟩:=allS_ok fun r hr=>(hbest r hr).imp fun x hx=>hx.1
   rw [hxs,Option.bind_some,hM]
   refine mean_ok hB hB2 (ku hxs) (fun y hy=>?_) (by rw [<-hM];exact Int.le_trans (bU hB h2) hD)
   obtain⟨r,hr,e⟩:=allS_mem hxs y hy;obtain⟨x,hx,hd,hu⟩:=hbest r hr
   have hyx:y=x:=by rw [hx]at e;injection e with e;exact e.symm
   rw [hyx];have:=(kK hB hd).1 hu;have:=az hB M
   exact⟨hd,by omega,by omega⟩
theorem win_ok{h c s:Nat}(hB:1<=sq s)(hB2:sq s<=36){D:Nat}(hD:pw (sq s) D<=aw){own other:List Int}(ho:PosP h c own)(ht:PosP h c other)(h2:turns own+turns other<=D):∃e,win s own other=some e/\e.depth<=turns own+turns other:=
 val_ok hB hB2 hD _ ho ht (by unfold fuel;omega) h2
end Go.Proofs.YtcmeoenkgmghkaaGreat.Ra
namespace Go.Proofs.YtcmeoenkgmghkaaGreat.Pl
open Go.Proofs.YtcmeoenkgmghkaaGreat Ps Ra Ex
theorem le_one(B:Int){x:E}(h:Uni1 B x):LE B x oneE:=by
 unfold Ra.LE oneE;have:=h.2
 simp only[bM,Int.mul_one,Int.one_mul]
 exact this
theorem oneM_le{B:Int}(hB:1<=B){x y a b:E}(hx:oneM B x=some a)(hy:oneM B y=some b)(h:LE B x y):LE B b a:=by
 obtain⟨M,hM⟩:∃M,M=max x.depth y.depth:=⟨_,rfl⟩
 obtain⟨d1,e1⟩:=iH (M:=M) hB hx (by omega)
 obtain⟨d2,e2⟩:=iH (M:=M) hB hy (by omega)
 rw[le_av hB (M:=M) (by omega) (by omega),e1,e2]
 have:=(le_av hB (M:=M) (by omega) (by omega)).1 h
 omega
theorem upE_or(B:Int)(x y:E):upE B x y=x\/upE B x y=y:=by unfold upE;split<;>simp
theorem upE_l(B:Int)(x y:E):LE B x (upE B x y):=by
 unfold upE
 split
 ·exact mi B x
 ·exact cmp_le.1 (by omega)
theorem upE_r(B:Int)(x y:E):LE B y (upE B x y):=by
 unfold upE
 split
 ·exact cmp_ge.1 (by omega)
 ·exact mi B y
theorem upE_mono{B:Int}(hB:1<=B){x x' y y':E}(h:LE B x x')(k:LE B y y'):LE B (upE B x y) (upE B x' y'):=by
 rcases upE_or B x y with e|e
 ·rw[e];exact le_trans' hB h (upE_l B _ _)
 ·rw[e];exact le_trans' hB k (upE_r B _ _)
theorem upE_uni{B:Int}{x y:E}(hx:Uni1 B x)(hy:Uni1 B y):Uni1 B (upE B x y):=by
 rcases upE_or B x y with e|e<;>rw[e]<;>assumption
def GI(B:Int)(x:Iv):Prop:=Uni1 B x.1/\Uni1 B x.2/\LE B x.1 x.2
theorem flipE_two{B:Int}{x y:Iv}(h:flipE B x=some y):oneM B x.2=some y.1/\oneM B x.1=some y.2:=by
 unfold flipE at h
 rcases h1:oneM B x.2 with _|lo
 ·rw[h1]at h;cases h
 ·rcases h2:oneM B x.1 with _|hi
  ·rw[h1,h2]at h;cases h
  ·rw[h1,h2]at h
   simp only[Option.bind_some,Option.map_some]at h
   injection h with h;rw[<-h]
   exact⟨rfl,rfl⟩
theorem li{B:Int}(hB:1<=B){x y:Iv}(h:flipE B x=some y)(hx:GI B x):GI B y:=by
 obtain⟨h1,h2⟩:=flipE_two h
 exact⟨ji hB h1 hx.2.1,ji hB h2 hx.1,oneM_le hB h2 h1 hx.2.2⟩
theorem flipE_ok{B:Int}(hB:1<=B){x:Iv}(hv:VI B x)(hx:GI B x){M:Nat}(d1:x.1.depth<=M)(d2:x.2.depth<=M):∃y,flipE B x=some y/\y.1.depth<=M/\y.2.depth<=M:=by
 obtain⟨a,ha⟩:=oneM_ok hB hv.2 hx.2.1;obtain⟨b,hb⟩:=oneM_ok hB hv.1 hx.1;have e1:=(iH (M:=x.2.depth) hB ha (Nat.le_refl _)).1;have e2:=(iH (M:=x.1.depth) hB hb (Nat.le_refl _)).1
 exact⟨(a,b),by unfold flipE;rw[ha,hb];rfl,by show a.depth<=M;omega,by show b.depth<=M;omega⟩
theorem bestJ_good{B:Int}(hB:1<=B){b x:Iv}(hb:GI B b)(hx:GI B x):GI B (bestJ B b x):=⟨upE_uni hx.1 hb.1,upE_uni hx.2.1 hb.2.1,upE_mono hB hx.2.2 hb.2.2⟩
theorem lh{B:Int}(hB:1<=B):∀(l:List Iv) (b:Iv),GI B b->(∀x∈l,GI B x)->GI B (l.foldl (bestJ B) b)
 | [],_,hb,_=>hb
 |x::l,b,hb,hl=>lh hB l _ (bestJ_good hB hb (hl x List.mem_cons_self)) fun y hy=>hl y (List.mem_cons_of_mem _ hy)
theorem lp{B:Int}(hB:1<=B){l:List Iv}(hl:∀x∈l,GI B x)(hne:l≠[]):GI B (bestI B l):=by
 cases l with
 |nil=>exact absurd rfl hne
 |cons x l=>exact lh hB l x (hl x List.mem_cons_self) fun y hy=>hl y (List.mem_cons_of_mem _ hy)
theorem upE_dep{B:Int}{x y:E}{M:Nat}(hx:x.depth<=M)(hy:y.depth<=M):(upE B x y).depth<=M:=by
 rcases upE_or B x y with e|e<;>rw[e]<;>assumption
theorem foldJ_dep{B:Int}{M:Nat}:∀(l:List Iv) (b:Iv),(b.1.depth<=M/\b.2.depth<=M)->(∀x∈l,x.1.depth<=M/\x.2.depth<=M)->(l.foldl (bestJ B) b).1.depth<=M/\(l.foldl (bestJ B) b).2.depth<=M
 | [],_,hb,_=>hb
 |x::l,b,hb,hl=>foldJ_dep l _ ⟨upE_dep (hl x List.mem_cons_self).1 hb.1,upE_dep (hl x List.mem_cons_self).2 hb.2⟩ fun y hy=>hl y (List.mem_cons_of_mem _ hy)
theorem bestI_dep{B:Int}{M:Nat}{l:List Iv}(hl:∀x∈l,x.1.depth<=M/\x.2.depth<=M):(bestI B l).1.depth<=M/\(bestI B l).2.depth<=M:=by
 cases l with
 |nil=>exact⟨Nat.zero_le _,Nat.zero_le _⟩
 |cons x l=>exact foldJ_dep l x (hl x List.mem_cons_self) fun y hy=>hl y (List.mem_cons_of_mem _ hy)
theorem jq{α β:Type}{g:α->Option β}{l:List α}{xs:List β}(h:mapO g l=some xs):∀x∈xs,∃a∈l,g a=some x:=
 mf (g:=g) (Q:=fun l xs=>∀x∈xs,∃a∈l,g a=some x) (fun x hx=>by cases hx) (fun l xs r x h hr y hy=>by
  rcases List.mem_append.1 hy with h9|h9
  ·obtain⟨a,ha,hg⟩:=h y h9;exact⟨a,List.mem_append_left _ ha,hg⟩
  ·rw[List.mem_singleton.1 h9];exact⟨r,by simp,hr⟩) _ l rfl xs h
theorem mapO_ok{α β:Type}{g:α->Option β}{l:List α}(h:∀a∈l,∃x,g a=some x):∃xs,mapO g l=some xs:=by
 induction l using bj with
 |nil=>exact⟨[],rfl⟩
 |snoc l r ih=>
  obtain⟨xs,hx⟩:=ih fun a ha=>h a (List.mem_append_left _ ha)
  obtain⟨x,hr⟩:=h r (by simp)
  exact⟨xs++[x],by rw[jW,hx,Option.bind_some,hr];rfl⟩
theorem getD_map{α β:Type}(f:α->β)(l:List α)(i:Nat)(d:α)(e:β)(hi:i<l.length):(l.map f).getD i e=f (l.getD i d):=by
 simp[List.getD,List.getElem?_eq_getElem hi]
theorem getD_in{α:Type}{l:List α}{i:Nat}(d:α)(hi:i<l.length):l.getD i d∈l:=by
 rw[List.getD_eq_getElem?_getD,List.getElem?_eq_getElem hi];exact List.getElem_mem hi
theorem pairE_two{s:Nat}{L:List Iv}{x:Iv}(h:pairE s L=some x):meanE (sq s) (ah s) (L.map (·.1))=some x.1/\meanE (sq s) (ah s) (L.map (·.2))=some x.2:=by
 unfold pairE at h
 rcases h1:meanE (sq s) (ah s) (L.map (·.1))with _|lo
 ·rw[h1]at h;cases h
 ·rcases h2:meanE (sq s) (ah s) (L.map (·.2)) with _|hi
  ·rw[h1,h2]at h;cases h
  ·rw[h1,h2]at h
   simp only[Option.bind_some,Option.map_some]at h
   injection h with h;rw[<-h]
   exact⟨by first|rfl|exact h1,by first|rfl|exact h2⟩
theorem pairE_good{s:Nat}(hB:1<=sq s){L:List Iv}{x:Iv}(h:pairE s L=some x)(hl:L.length=(ah s).length)(hg:∀y∈L,GI (sq s) y):GI (sq s) x:=by
 obtain⟨h1,h2⟩:=pairE_two h
 refine⟨mc hB h1 (by rw[List.length_map,hl]) ?_,mc hB h2 (by rw[List.length_map,hl]) ?_,mean_le hB h1 h2 (by rw[List.length_map,List.length_map]) fun i hi=>?_⟩
 ·intro y hy
  obtain⟨z,hz,rfl⟩:=List.mem_map.1 hy
  exact(hg z hz).1
 ·intro y hy
  obtain⟨z,hz,rfl⟩:=List.mem_map.1 hy
  exact(hg z hz).2.1
 ·rw[List.length_map]at hi
  rw[getD_map _ L i (aj,aj) _ hi,getD_map _ L i (aj,aj) _ hi]
  exact(hg _ (getD_in _ hi)).2.2
theorem chS_uni{s h:Nat}(hB:1<=sq s){own other:List Int}{x:E}(hx:chS s h own other=some x):Uni1 (sq s) x:=by
 unfold chS at hx
 split at hx
 ·injection hx with hx;rw[<-hx];exact uni_one
 ·split at hx
  ·injection hx with hx;rw[<-hx];exact dL
  ·exact win_uni hB hx
theorem sol_eq{s h:Nat}{b:Bd}{x:Iv}(hx:((chS s h b.1 b.2).map fun x=>(x,x))=some x):chS s h b.1 b.2=some x.1/\x.2=x.1:=by
 rcases hc:chS s h b.1 b.2 with _|y
 ·rw[hc]at hx;cases hx
 ·rw[hc]at hx
  simp only[Option.map_some]at hx
  injection hx with hx;rw[<-hx]
  exact⟨rfl,rfl⟩
theorem ivE_step{s P h t:Nat}{b:Bd}(hs:¬solvB P h b.1 b.2=true){x:Iv}(hx:ivE s P h (t+1) b=some x):∃L,mapO (fun r=>(plE s P h (ivE s P h t) b r).map (bestI (sq s))) (ah s)=some L/\pairE s L=some x:=by
 unfold ivE at hx;rw[if_neg hs]at hx
 rcases hm:mapO (fun r=>(plE s P h (ivE s P h t) b r).map (bestI (sq s))) (ah s)with _|L
 ·rw[hm]at hx;cases hx
 ·rw[hm,Option.bind_some]at hx;exact⟨L,rfl,hx⟩
theorem map_some'{α β:Type}{o:Option α}{f:α->β}{x:β}(h:o.map f=some x):∃a,o=some a/\x=f a:=by
 rcases o with _|a
 ·cases h
 ·injection h with h;exact⟨a,rfl,h.symm⟩
theorem plE_mem{s P h:Nat}{iv:Bd->Option Iv}{b:Bd}{r:Nat×Nat}{L:List Iv}(hx:plE s P h iv b r=some L):∀x∈L,∃q y,iv q=some y/\flipE (sq s) y=some x:=fun x hm=>by
 obtain⟨a,_,ha⟩:=jq hx x hm
 cases h1:iv (a.2,a.1)with
 |none=>simp only[h1]at ha;cases ha
 |some y=>simp only[h1,Option.bind_some]at ha;exact⟨_,y,h1,ha⟩
theorem plE_ne{s P h:Nat}{iv:Bd->Option Iv}{b:Bd}{r:Nat×Nat}{L:List Iv}(hx:plE s P h iv b r=some L):L≠[]:=fun e=>by
 have h1:=bN hx;rw[e]at h1
 exact eX (List.eq_nil_of_length_eq_zero h1.symm)
theorem mp{s P h:Nat}(hB:1<=sq s):∀{t:Nat} {b:Bd} {x:Iv},ivE s P h t b=some x->GI (sq s) x:=by
 have hs:∀{b:Bd} {x:Iv},((chS s h b.1 b.2).map fun x=>(x,x))=some x->GI (sq s) x:=fun {b x} hx=>by
  obtain⟨h1,h2⟩:=sol_eq hx;have:=chS_uni hB h1
  exact⟨this,by rw[h2];exact this,by rw[h2];exact mi _ _⟩
 intro t
 induction t with
 |zero=>
  intro b x hx
  unfold ivE at hx
  split at hx
  ·exact hs hx
  ·injection hx with hx;rw[<-hx];exact⟨dL,uni_one,le_one _ dL⟩
 |succ t ih=>
  intro b x hx
  by_cases h0:solvB P h b.1 b.2=true
  ·unfold ivE at hx
   rw[if_pos h0]at hx
   exact hs hx
  ·obtain⟨L,h1,h2⟩:=ivE_step h0 hx
   refine pairE_good hB h2 (bN h1) fun y hy=>?_
   obtain⟨r,_,hr⟩:=jq h1 y hy;obtain⟨M,hM,rfl⟩:=map_some' hr
   refine lp hB (fun z hz=>?_) (plE_ne hM)
   obtain⟨q,u,hq,hu⟩:=plE_mem hM z hz
   exact li hB hu (ih hq)
theorem plE_good{s P h t:Nat}(hB:1<=sq s){b:Bd}{r:Nat×Nat}{L:List Iv}(hx:plE s P h (ivE s P h t) b r=some L):∀x∈L,GI (sq s) x:=fun z hz=>by
 obtain⟨q,u,hq,hu⟩:=plE_mem hx z hz
 exact li hB hu (mp hB hq)
theorem wsum_top(t:Int):∀(p:List Int) (k:Nat),(∀x∈p,0<=x)->(∀i,i<p.length->t<((k+i:Nat):Int)->p.getD i 0<=0)->wsum (fun i=>(i:Int)+1) k p<=(t+1)*p.sum
 | [],_,_,_=>by show(0:Int)<=(t+1)*0;simp
 |a::p,k,h,hz=>by
   have ih:=wsum_top t p (k+1) (fun x hx=>h x (by simp [hx])) (fun i hi ht=>by
     have:=hz (i+1) (by simpa using hi) (by omega)
     simpa [List.getD]using this)
   have ha:=h a (by simp)
   show((k:Int)+1)*a+wsum _ (k+1) p<=(t+1)*(a+p.sum)
   rw [Int.mul_add]
   by_cases hk:(k:Int)<=t
   · have := Int.mul_le_mul_of_nonneg_right (show (k : Int) + 1 ≤ t + 1 by omega) ha
     omega
   · have h0 := hz 0 (by simp) (by simpa using hk)
     have h0:a<=0:=by simpa [List.getD]using h0
     have:a=0:=by omega
     rw [this]
     simp only [Int.mul_zero]
     omega
theorem take_getD{α:Type}(d:α)(l:List α)(h i:Nat)(hi:i<h):(l.take h).getD i d=l.getD i d:=by
 simp[List.getD,List.getElem?_take,hi]
theorem pips_top{xs:List Int}{h c:Nat}(h0:∀x∈xs,0<=x)(hs:xs.sum<=c):pips (xs.take h)<=(topI xs xs.length+1)*c:=by
 have hb:=cY xs xs.length
 have h1:=wsum_top (topI xs xs.length) (xs.take h) 0 (fun x hx=>h0 x (List.mem_of_mem_take hx)) (fun i hi ht=>by
  rw[List.length_take]at hi
  rw[take_getD 0 xs h i (by omega)]
  rcases dM (p:=xs) (k:=xs.length)with⟨_,h2⟩|⟨j,h1,h2,_,h4⟩
  ·exact h2 i (by omega)
  ·exact h4 i (by rw[h1]at ht;omega) (by omega))
 have h2:=Int.mul_le_mul_of_nonneg_left (show(xs.take h).sum<=(c:Int)from Int.le_trans (ck xs h h0) hs) (show 0<=topI xs xs.length+1 by omega)
 unfold pips
 omega
theorem pw_13{s:Nat}(h1:1<=s)(h3:s<=3):pw (sq s) 13<=aw:=by
 have h9:s=1\/s=2\/s=3:=by omega
 rcases h9 with rfl|rfl|rfl<;>decide +kernel
theorem chS_ok{P h c s:Nat}(hP:P<=6)(hh:h<=P)(hc:c<=3)(h1:1<=s)(h3:s<=3){b:Bd}(hb:Sd P c b)(hs:solvB P h b.1 b.2=true):∃x,chS s h b.1 b.2=some x/\x.depth<=11:=by
 have hq:=sq_bd h1 (show s<=6 by omega)
 obtain⟨⟨l1,p1,s1⟩,⟨l2,p2,s2⟩⟩:=hb;unfold chS
 split
 ·exact⟨_,rfl,Nat.zero_le _⟩
 ·rename_i n1
  split
  ·exact⟨_,rfl,Nat.zero_le _⟩
  ·rename_i n2
   have h9:=of_decide_eq_true hs
   rcases h9 with h9|h9|⟨h9,h91,h92⟩
   ·exact absurd h9 n1
   ·exact absurd h9 n2
   ·have t1:=pips_top (h:=h) (c:=c) p1 s1
    have t2:=pips_top (h:=h) (c:=c) p2 s2;have b1:=cY b.1 b.1.length;have b2:=cY b.2 b.2.length
    have m1:=Int.mul_le_mul_of_nonneg_left (show(c:Int)<=3 by omega) (show 0<=topI b.1 b.1.length+1 by omega)
    have m2:=Int.mul_le_mul_of_nonneg_left (show(c:Int)<=3 by omega) (show 0<=topI b.2 b.2.length+1 by omega)
    have q1:=aN (p:=b.1.take h) fun x hx=>p1 x (List.mem_of_mem_take hx)
    have ht:turns (b.1.take h)+turns (b.2.take h)<=11:=by unfold turns;omega
    obtain⟨e,he,hd⟩:=win_ok (D:=11) hq.1 hq.2.1 (Int.le_trans (bU hq.1 (by omega)) (pw_13 h1 h3)) (fw (c:=c) (by omega) p1 s1) (fw (c:=c) (by omega) p2 s2) ht
    exact⟨e,he,by omega⟩
theorem ivE_ok{P h c s:Nat}(hP:P<=6)(hh:h<=P)(hc:c<=3)(h1:1<=s)(h3:s<=3):∀t,t<=2->∀{b:Bd},Sd P c b->∃x,ivE s P h t b=some x/\x.1.depth<=11+t/\x.2.depth<=11+t:=by
 have hq:=sq_bd h1 (show s<=6 by omega)
 have hsol:∀{b:Bd},Sd P c b->solvB P h b.1 b.2=true->∃x,((chS s h b.1 b.2).map fun x=>(x,x))=some x/\x.1.depth<=11/\x.2.depth<=11:=fun {b} hb hs=>by
  obtain⟨x,hx,hd⟩:=chS_ok hP hh hc h1 h3 hb hs
  exact⟨(x,x),by rw[hx];rfl,hd,hd⟩
 intro t
 induction t with
 |zero=>
  intro _ b hb
  unfold ivE
  by_cases h0:solvB P h b.1 b.2=true
  ·rw[if_pos h0];exact hsol hb h0
  ·rw[if_neg h0];exact⟨_,rfl,Nat.zero_le _,Nat.zero_le _⟩
 |succ t ih=>
  intro ht b hb
  unfold ivE
  by_cases h0:solvB P h b.1 b.2=true
  ·rw[if_pos h0]
   obtain⟨x,e,d1,d2⟩:=hsol hb h0
   exact⟨x,e,by omega,by omega⟩
  ·rw[if_neg h0]
   have key:∀r∈ah s,∃L,plE s P h (ivE s P h t) b r=some L/\∀x∈L,x.1.depth<=11+t/\x.2.depth<=11+t:=fun r hr=>by
    obtain⟨r1,r2,r3⟩:=bB.1 hr
    have k1:∀a∈playsP P h b r.1 r.2,∃x,((ivE s P h t (a.2,a.1)).bind (flipE (sq s)))=some x/\x.1.depth<=11+t/\x.2.depth<=11+t:=fun a ha=>by
     have hsd:=gU hb (by omega) (by omega) a ha
     obtain⟨y,hy,e1,e2⟩:=ih (by omega) (b:=(a.2,a.1)) ⟨hsd.2,hsd.1⟩
     obtain⟨z,hz,e3,e4⟩:=flipE_ok hq.1 (mn hq.1 hy) (mp hq.1 hy) e1 e2
     exact⟨z,by rw[hy,Option.bind_some,hz],e3,e4⟩
    obtain⟨L,hL⟩:=mapO_ok (g:=fun a:Bd=>(ivE s P h t (a.2,a.1)).bind (flipE (sq s))) (l:=playsP P h b r.1 r.2) fun a ha=>by
     obtain⟨x,hx,_⟩:=k1 a ha
     exact⟨x,hx⟩
    refine⟨L,hL,fun x hx=>?_⟩
    obtain⟨a,ha,hax⟩:=jq hL x hx;obtain⟨y,hy,e1,e2⟩:=k1 a ha;rw[hy]at hax;injection hax with hax
    rw[<-hax];exact⟨e1,e2⟩
   obtain⟨L,hL⟩:=mapO_ok (g:=fun r=>(plE s P h (ivE s P h t) b r).map (bestI (sq s))) (l:=ah s) fun r hr=>by
    obtain⟨K,hK,_⟩:=key r hr
    exact⟨bestI (sq s) K,by rw[hK];rfl⟩
   have hd:∀x∈L,(x.1.depth<=11+t/\Uni1 (sq s) x.1)/\(x.2.depth<=11+t/\Uni1 (sq s) x.2):=fun x hx=>by
    obtain⟨r,hr,hrx⟩:=jq hL x hx;obtain⟨K,hK,hKd⟩:=key r hr;rw[hK]at hrx;injection hrx with hrx;have hg:=lp hq.1 (plE_good hq.1 hK) (plE_ne hK);have hdd:=bestI_dep (B:=sq s) hKd;rw[hrx]at hg hdd
    exact⟨⟨hdd.1,hg.1⟩,⟨hdd.2,hg.2.1⟩⟩
   have hM:pw (sq s) (11+t+1)<=aw:=Int.le_trans (bU hq.1 (by omega)) (pw_13 h1 h3)
   have hav:∀{y:E},y.depth<=11+t->Uni1 (sq s) y->y.depth<=11+t/\-(pw (sq s) (11+t))<=av (sq s) (11+t) y/\av (sq s) (11+t) y<=pw (sq s) (11+t):=fun {y} d u=>by
    have h9:=(kK hq.1 d).1 u
    exact⟨d,by omega,h9.2⟩
   obtain⟨lo,hlo,dlo⟩:=mean_ok hq.1 hq.2.1 (xs:=L.map (·.1)) (M:=11+t) (by rw[List.length_map,bN hL]) (fun y hy=>by
    obtain⟨z,hz,rfl⟩:=List.mem_map.1 hy
    exact hav (hd z hz).1.1 (hd z hz).1.2) hM
   obtain⟨hi,hhi,dhi⟩:=mean_ok hq.1 hq.2.1 (xs:=L.map (·.2)) (M:=11+t) (by rw[List.length_map,bN hL]) (fun y hy=>by
    obtain⟨z,hz,rfl⟩:=List.mem_map.1 hy
    exact hav (hd z hz).2.1 (hd z hz).2.2) hM
   refine⟨(lo,hi),?_,by show lo.depth<=_;omega,by show hi.depth<=_;omega⟩
   rw[hL,Option.bind_some];unfold pairE;rw[hlo,hhi]
   rfl
theorem plE_ok{P h c s t:Nat}(hP:P<=6)(hh:h<=P)(hc:c<=3)(h1:1<=s)(h3:s<=3)(ht:t<=2){b:Bd}(hb:Sd P c b){ra rb:Nat}(ha:1<=ra)(hbb:1<=rb):∃L,plE s P h (ivE s P h t) b (ra,rb)=some L:=by
 have hq:=sq_bd h1 (show s<=6 by omega)
 exact mapO_ok (g:=fun a:Bd=>(ivE s P h t (a.2,a.1)).bind (flipE (sq s))) (l:=playsP P h b ra rb) fun a ha'=>by
  have hsd:=gU hb ha hbb a ha';obtain⟨y,hy,e1,e2⟩:=ivE_ok hP hh hc h1 h3 t ht (b:=(a.2,a.1)) ⟨hsd.2,hsd.1⟩;obtain⟨z,hz,_⟩:=flipE_ok hq.1 (mn hq.1 hy) (mp hq.1 hy) e1 e2
  exact⟨z,by rw[hy,Option.bind_some,hz]⟩
end Go.Proofs.YtcmeoenkgmghkaaGreat.Pl
namespace Go.Proofs.YtcmeoenkgmghkaaGreat
open Go.RowKit Pl Ps Ra Ex
theorem piR_ok(p c h s:Int)(own other:List Int)(tu ra rb:Int):
  (∃(s':Nat) (L:List Iv),s=s'/\piR p c h s own other tu ra rb=(0,some L)/\1<=s'/\s'<=3/\L≠[]/\L.length<=781250/\∀x∈L,VI (sq s') x/\GI (sq s') x)\/
  (((piR p c h s own other tu ra rb).1≠0/\0<=(piR p c h s own other tu ra rb).1/\(piR p c h s own other tu ra rb).1<=3)/\(piR p c h s own other tu ra rb).2=none):=by
 unfold piR
 by_cases h0:cdT p c h s own other tu (rollB s ra rb)=0
 ·left
  rw[if_pos h0];obtain⟨hbd,hin,hro,hsm⟩:=cdT_yes h0;obtain⟨hvv,hsd1,hsd2,_,_⟩:=is hbd;obtain⟨hl1,hq1,hms1⟩:=bQ hsd1;obtain⟨hl2,hq2,hms2⟩:=bQ hsd2;have hv8:=aA hvv;obtain⟨_,hp6,hc3,hs3⟩:=ew hsm;have hro2:1<=ra/\ra<=s/\1<=rb/\rb<=ra:=of_decide_eq_true hro;have hin2:0<=tu/\tu<=2:=of_decide_eq_true hin
  obtain⟨P,rfl⟩:∃P:Nat,p=P:=⟨p.toNat,by omega⟩
  obtain⟨c',rfl⟩:∃c':Nat,c=c':=⟨c.toNat,by omega⟩
  obtain⟨h',rfl⟩:∃h':Nat,h=h':=⟨h.toNat,by omega⟩
  obtain⟨s',rfl⟩:∃s':Nat,s=s':=⟨s.toNat,by omega⟩
  obtain⟨da,rfl⟩:∃da:Nat,ra=da:=⟨ra.toNat,by omega⟩
  obtain⟨db,rfl⟩:∃db:Nat,rb=db:=⟨rb.toNat,by omega⟩
  obtain⟨tu',rfl⟩:∃tu':Nat,tu=tu':=⟨tu.toNat,by omega⟩
  have hsd:Sd P c' (own,other):=⟨⟨hl1,hq1,hms1⟩,⟨hl2,hq2,hms2⟩⟩
  simp only[Int.toNat_natCast]
  obtain⟨L,hL⟩:=plE_ok (P:=P) (h:=h') (c:=c') (s:=s') (t:=tu') (by omega) (by omega) (by omega) (by omega) (by omega) (by omega) hsd (ra:=da) (rb:=db) (by omega) (by omega)
  obtain⟨hq1',_,_⟩:=sq_bd (show 1<=s' by omega) (show s'<=6 by omega)
  refine⟨s',L,rfl,by rw[hL],by omega,by omega,plE_ne hL,?_,fun x hx=>⟨jR hq1' hL x hx,plE_good hq1' hL x hx⟩⟩
  rw[bN hL]
  exact dW hsd (by omega) (by omega) (by omega)
 ·right
  rw[if_neg h0];have:=cdT_bd (p:=p) (c:=c) (h:=h) (s:=s) (own:=own) (other:=other) (tu:=tu) (mo:=rollB s ra rb)
  exact⟨⟨h0,this.1,this.2⟩,rfl⟩
end Go.Proofs.YtcmeoenkgmghkaaGreat

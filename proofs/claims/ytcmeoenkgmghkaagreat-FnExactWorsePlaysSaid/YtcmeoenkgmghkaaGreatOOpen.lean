/- Part of one proof. There are no conditions. -/
import Derived.Test.YtcmeoenkgmghkaaGreatOY44
import Derived.ProofKit
import Derived.OpenShut
import Derived.Lib.SmallJoins
import Derived.Deep.Slices
import Derived.Deep.Fields
import Derived.ChangeSame
import Derived.ChangeSlices
import Derived.Below
set_option maxHeartbeats 0
set_option linter.unusedVariables false
set_option linter.unusedSimpArgs false
set_option maxRecDepth 100000
open Go.IntKind renaming i64->d
open Go.Value renaming slice->l,agg->m,tuple->B,pointer->C
open Go.Obj renaming cells->q
open Go renaming execOp->jz,undef->j0,Value->j1
open Go.Act renaming eval->j2
open List renaming drop_succ_cons->qa,drop_zero->qb
open Go.Proofs.Tryz renaming prog->qc
namespace Go.Proofs.YtcmeoenkgmghkaaGreat
open Go.RowKit Pl Ps Ra Ex
def iq:Nat->Nat
 | 0=>26
 | 1=>27
 | 2=>28
 | 3=>29
 | 4=>30
 | 5=>31
 | 6=>32
 | 7=>33
 | 8=>25
 | 9=>34
 | 10=>35
 |_=>0
def ip:Nat->Nat
 | 0=>39
 | 1=>40
 | 2=>41
 | 3=>42
 | 4=>43
 | 5=>44
 | 6=>45
 | 7=>38
 | 8=>46
 | 9=>47
 |_=>0
def fS:Nat->Nat
 | 0=>57
 | 1=>58
 | 2=>59
 | 3=>60
 |_=>0
def fR:Nat->Nat
 | 0=>90
 | 1=>91
 | 2=>92
 | 3=>93
 | 4=>94
 | 5=>95
 | 6=>96
 | 7=>97
 | 8=>89
 | 9=>98
 | 10=>99
 |_=>0
theorem ku(p c h s:Int)(A1 A2:Option Addr)(n1 a1 n2 a2:Nat)(xs ys:List Int)(ra rb:Int)(z:Int)(w:World)(hx:SL w A1 n1 xs)(hy:SL w A2 n2 ys)(hm1:n1<=maxLen)(hm2:n2<=maxLen):
  Calls qc 7 #[m #[.int d p,.int d c,.int d h,.int d s],m #[l A1 n1 a1,l A2 n2 a2],m #[.int d ra,.int d rb],.int d z] w fun e w'=>e= .returned (.bool true)/\Below w.heap.size w w':=by
 have hV0:Bel w (((w.alloc (q #[.int d p,.int d c,.int d h,.int d s] 23)).alloc (q #[l A1 n1 a1,l A2 n2 a2] 26)).alloc (q #[.int d ra,.int d rb] 28)):=(Bel.trans (Bel.trans (Bel.alloc _ _) (Bel.alloc _ _)) (Bel.alloc _ _))
 have C0:Cel (((w.alloc (q #[.int d p,.int d c,.int d h,.int d s] 23)).alloc (q #[l A1 n1 a1,l A2 n2 a2] 26)).alloc (q #[.int d ra,.int d rb] 28)) (w.heap.size) [.int d p,.int d c,.int d h,.int d s]:=((Cel.new' _ _ _ (by simp)).alloc _).alloc _
 have C1:Cel (((w.alloc (q #[.int d p,.int d c,.int d h,.int d s] 23)).alloc (q #[l A1 n1 a1,l A2 n2 a2] 26)).alloc (q #[.int d ra,.int d rb] 28)) (w.heap.size+1) [l A1 n1 a1,l A2 n2 a2]:=(Cel.new' _ _ _ (by simp)).alloc _
 have C2:Cel (((w.alloc (q #[.int d p,.int d c,.int d h,.int d s] 23)).alloc (q #[l A1 n1 a1,l A2 n2 a2] 26)).alloc (q #[.int d ra,.int d rb] 28)) (w.heap.size+1+1) [.int d ra,.int d rb]:=Cel.new' _ _ _ (by simp)
 have Sxs:=h_ (hx.below hV0);have Sys:=h_ (hy.below hV0);have Axs:=h_ hx;have Ays:=h_ hy;have Lx:=h_ hx.1;have Ly:=h_ hy.1;clear hx hy;have HB:=h_ hV0;clear hV0;replace C0:=h_ C0;replace C1:=h_ C1;replace C2:=h_ C2;obtain⟨r,hr⟩:∃r,r=wpR p c h s xs ys z ra rb:=⟨_,rfl⟩;have hlen:=wpR_len p c h s xs ys z ra rb;rw[<-hr]at hlen;obtain⟨L0,r3⟩:=r;replace hlen:L0.length<=1000000:=hlen
 have CZ:=h_ fun(W:World)=>szBoard_any A1 A2 n1 a1 n2 a2 1048576 W (by unfold maxLen at hm1;omega) (by unfold maxLen at hm2;omega) (by omega) (by omega)
 go_enter Tryz.func7,Tryz.ntmps7
 go_wp2_with (fail)
 generalize (((w.alloc (q #[.int d p,.int d c,.int d h,.int d s] 23)).alloc (q #[l A1 n1 a1,l A2 n2 a2] 26)).alloc (q #[.int d ra,.int d rb] 28))=V at *
 refine(CZ.out _).mono ?_
 rintro e V1 ⟨r,rfl,hr1,hr2,hr3,hb⟩
 clear CZ;replace C0:=h_ (C0.out.below hb);replace C1:=h_ (C1.out.below hb);replace C2:=h_ (C2.out.below hb);replace Sxs:=h_ (Sxs.out.below hb);replace Sys:=h_ (Sys.out.below hb);replace HB:=h_ (Bel.trans HB.out hb);clear hb
 by_cases hneg:r<0
 ·go_wp2_with (fail)
  go_ret
  exact⟨rfl,HB.out⟩
 have hsz:=hr3 (by omega)
 have hn1':n1<=2000000:=by omega
 have hn2':n2<=2000000:=by omega
 have ox:xs.length<=2000000:=by rw[Lx.out];exact hn1'
 have oy:ys.length<=2000000:=by rw[Ly.out];exact hn2'
 clear hr1 hr2 hr3 hsz
 have CS:Hid (∀(W:World) (X1:Option Addr) (k1:Nat) (X2:Option Addr) (k2:Nat),SL W X1 xs.length xs->SL W X2 ys.length ys->xs.length<=k1->ys.length<=k2->Calls qc 30 #[m #[.int d p,.int d c,.int d h,.int d s],m #[l X1 xs.length k1,l X2 ys.length k2],m #[.int d ra,.int d rb],.int d z] W fun e w'=>∃v b,e= .returned (B #[v,.int d r3])/\W.heap.size<=b/\OwnS w' b 2 (v) L0/\Below W.heap.size W w'):=fun W X1 k1 X2 k2 s1 s2 l1 l2=>by
  have:=jK p c h s z ra rb X1 X2 _ k1 _ k2 xs ys W s1 s2 l1 l2 ox oy;rw[<-hr]at this;exact this.mono fun e W' ⟨v,h1,h2,h3⟩=>⟨v,_,h1,Nat.le_refl _,h2,h3⟩
 have CI:Hid (∀(W:World) (X1:Option Addr) (k1:Nat) (X2:Option Addr) (k2:Nat),SL W X1 xs.length xs->SL W X2 ys.length ys->xs.length<=k1->ys.length<=k2->Calls qc 31 #[m #[.int d p,.int d c,.int d h,.int d s],m #[l X1 xs.length k1,l X2 ys.length k2],m #[.int d ra,.int d rb],.int d z] W fun e w'=>∃v b,e= .returned (B #[v,.int d r3])/\W.heap.size<=b/\OwnS w' b 2 (v) L0/\Below W.heap.size W w'):=fun W X1 k1 X2 k2 s1 s2 l1 l2=>by
  have:=kC p c h s z ra rb X1 X2 _ k1 _ k2 xs ys W s1 s2 l1 l2 ox oy;rw[<-hr]at this;exact this.mono fun e W' ⟨v,h1,h2,h3⟩=>⟨v,_,h1,Nat.le_refl _,h2,h3⟩
 clear hr;have zV2:=C2.out.lt
 go_wp2_with (fail)
 refine w_ 11 (fun i=>i==10) iq [Eqv (m #[.int d p,.int d c,.int d h,.int d s]),Eqv (m #[.int d p,.int d c,.int d h,.int d s]),Eqv (m #[l A1 n1 a1,l A2 n2 a2]),CpB xs ys,Eqv (m #[.int d ra,.int d rb]),Eqv (m #[.int d ra,.int d rb]),Eqv (.int d z),RowT (fun W b v=>OwnS W b 2 (v) L0) V1.heap.size [.int d r3],RowT (fun W b v=>OwnS W b 2 (v) L0) V1.heap.size [.int d r3],RowE (fun W b v=>OwnS W b 2 (v) L0) V1.heap.size,Eqv (.int d r3)] (by repeat (first|exact AllStb.nil|refine AllStb.cons (by first|exact a6 _|exact stb_cpy _|exact lI stO_I|exact lJ stO_I|exact stb_cpb _ _) ?_)) ?_ ?_ ?_
 ·intro i o hi hX ho a' W hW hIW hfar hdep
  have hi8:i=10:=by simpa using hX
  clear hfar hX hi;subst hi8
  simp at ho
  subst ho
  ·obtain⟨u,bs,d1,-⟩:RowT (fun W b v=>OwnS W b 2 (v) L0) V1.heap.size [.int d r3] (a'.tmps.getD 25 j0) W:=dp hdep 8
   replace d1:a'.tmps.getD 25 j0=B #[u,.int d r3]:=d1
   exact⟨.int d r3,fun W'=>by simp only[jz,j2,d1];go_simp,rfl⟩
 focus
  refine ?za
 rotate_left
 focus
  intro v V2 hW hIW hg
  have g0:v 0=_:=gq hg 0
  have g1:v 1=_:=gq hg 1
  have g2:v 2=_:=gq hg 2
  obtain⟨_,_,_,_,g3,_,_,_,_⟩:CpB xs ys (v 3) V2:=hg 3 (by omega)
  have g4:v 4=_:=gq hg 4
  have g5:v 5=_:=gq hg 5
  have g6:v 6=_:=gq hg 6
  obtain⟨_,_,g7,_,_⟩:RowT (fun W b v=>OwnS W b 2 (v) L0) V1.heap.size [.int d r3] (v 7) V2:=hg 7 (by omega)
  obtain⟨_,_,g8,_,_⟩:RowT (fun W b v=>OwnS W b 2 (v) L0) V1.heap.size [.int d r3] (v 8) V2:=hg 8 (by omega)
  obtain⟨bs,-,ho⟩:RowE (fun W b v=>OwnS W b 2 (v) L0) V1.heap.size (v 9) V2:=hg 9 (by omega)
  obtain⟨Gw,cw,g9,-,-⟩:=ho.read;rw[g9]at ho
  have g10:v 10=_:=gq hg 10
  simp only[qa,qb,putV,iq,g0,g1,g2,g3,g4,g5,g6,g7,g8,g9,g10,Act.put]
  clear g0 g1 g2 g3 g4 g5 g6 g7 g8 g9 g10 hg hIW;have hb:=hW.out;clear hW
  have uV2:=Below.size (show Below V1.heap.size V1 V2 from hb)
  replace C0:=h_ (C0.out.below hb);replace C1:=h_ (C1.out.below hb);replace C2:=h_ (C2.out.below hb);replace Sxs:=h_ (Sxs.out.below hb);replace Sys:=h_ (Sys.out.below hb);replace HB:=h_ (Bel.trans HB.out hb);clear hb
  have UHw:Hid (∀k,(l Gw L0.length cw:j1).ownBlock=some k->k<V2.heap.size):=fun k hk=>(ho.lt k hk).2
  have Hw:=h_ ho;clear ho;have cC1_0:=C1.out.cell 0 _ rfl;have cC1_1:=C1.out.cell 1 _ rfl
  go_wp2_with (fail)
  refine(et _ _ _ _ _ _ _ _ _ Sxs.out Sys.out hn1' hn2').mono ?_
  rintro e V3 ⟨Y1,y1,Y2,y2,rfl,ho1,ho2,hap,hb⟩
  have HAP:=h_ hap;clear hap;clear cC1_0 cC1_1;replace Hw:=h_ (Hw.out.below hb)
  have uV3:=Below.size (show Below V2.heap.size V2 V3 from hb)
  replace C0:=h_ (C0.out.below hb);replace C1:=h_ (C1.out.below hb);replace C2:=h_ (C2.out.below hb);replace Sxs:=h_ (Sxs.out.below hb);replace Sys:=h_ (Sys.out.below hb);replace HB:=h_ (Bel.trans HB.out hb);clear hb;have H1k:=h_ (ho1.sl rfl).2;have H2k:=h_ (ho2.sl rfl).2;have ho:=ho1;clear ho1
  have UH1:Hid (∀k,(l Y1 xs.length y1:j1).ownBlock=some k->k<V3.heap.size):=fun k hk=>(ho.lt k hk).2
  have H1:=h_ ho;clear ho;have ho:=ho2;clear ho2
  have UH2:Hid (∀k,(l Y2 ys.length y2:j1).ownBlock=some k->k<V3.heap.size):=fun k hk=>(ho.lt k hk).2
  have H2:=h_ ho;clear ho
  go_wp2_with (fail)
  obtain⟨V4,hV⟩:∃V,V=V3.alloc (q #[l Y1 xs.length y1,l Y2 ys.length y2] 35):=⟨_,rfl⟩;rw[<-hV]
  have hb:Below V3.heap.size V3 V4:=by rw[hV];exact Bel.alloc _ _
  have CX:Hid (Cel V4 V3.heap.size [l Y1 xs.length y1,l Y2 ys.length y2]):=by rw[hV];exact Cel.new' _ _ _ rfl
  clear hV;replace Hw:=h_ (Hw.out.below hb);replace H1:=h_ (H1.out.below hb);replace H2:=h_ (H2.out.below hb);replace C0:=h_ (C0.out.below hb);replace C1:=h_ (C1.out.below hb);replace C2:=h_ (C2.out.below hb);replace Sxs:=h_ (Sxs.out.below hb);replace Sys:=h_ (Sys.out.below hb);replace HB:=h_ (Bel.trans HB.out hb);clear hb;have zVX:=CX.out.lt
  refine w_ 10 (fun i=>i==9) ip [Eqv (m #[.int d p,.int d c,.int d h,.int d s]),Eqv (m #[.int d p,.int d c,.int d h,.int d s]),Eqv (m #[l Y1 xs.length y1,l Y2 ys.length y2]),Eqv (m #[.int d ra,.int d rb]),Eqv (m #[.int d ra,.int d rb]),Eqv (.int d z),RowT (fun W b v=>OwnS W b 2 (v) L0) V4.heap.size [.int d r3],RowT (fun W b v=>OwnS W b 2 (v) L0) V4.heap.size [.int d r3],RowE (fun W b v=>OwnS W b 2 (v) L0) V4.heap.size,Eqv (.int d r3)] (by repeat (first|exact AllStb.nil|refine AllStb.cons (by first|exact a6 _|exact stb_cpy _|exact lI stO_I|exact lJ stO_I) ?_)) ?_ ?_ ?_
  ·intro i o hi hX ho a' W hW hIW hfar hdep
   have hi8:i=9:=by simpa using hX
   clear hfar hX hi;subst hi8
   simp at ho
   subst ho
   ·obtain⟨u,bs,d1,-⟩:RowT (fun W b v=>OwnS W b 2 (v) L0) V4.heap.size [.int d r3] (a'.tmps.getD 38 j0) W:=dp hdep 7
    replace d1:a'.tmps.getD 38 j0=B #[u,.int d r3]:=d1
    exact⟨.int d r3,fun W'=>by simp only[jz,j2,d1];go_simp,rfl⟩
  focus
   refine ?zc
  rotate_left
  focus
   intro v V5 hW hIW hg
   have g0:v 0=_:=gq hg 0
   have g1:v 1=_:=gq hg 1
   have g2:v 2=_:=gq hg 2
   have g3:v 3=_:=gq hg 3
   have g4:v 4=_:=gq hg 4
   have g5:v 5=_:=gq hg 5
   obtain⟨_,_,g6,_,_⟩:RowT (fun W b v=>OwnS W b 2 (v) L0) V4.heap.size [.int d r3] (v 6) V5:=hg 6 (by omega)
   obtain⟨_,_,g7,_,_⟩:RowT (fun W b v=>OwnS W b 2 (v) L0) V4.heap.size [.int d r3] (v 7) V5:=hg 7 (by omega)
   obtain⟨bs,hbs,ho⟩:RowE (fun W b v=>OwnS W b 2 (v) L0) V4.heap.size (v 8) V5:=hg 8 (by omega)
   obtain⟨Gg,cg,g8,-,-⟩:=ho.read;rw[g8]at ho
   have g9:v 9=_:=gq hg 9
   simp only[qa,qb,putV,ip,g0,g1,g2,g3,g4,g5,g6,g7,g8,g9,Act.put]
   clear g0 g1 g2 g3 g4 g5 g6 g7 g8 g9 hg hIW;have hb:=hW.out;have hbw:V4.heap.size<=bs:=hbs;clear hW hbs;replace Hw:=h_ (Hw.out.below hb);replace H1:=h_ (H1.out.below hb);replace H2:=h_ (H2.out.below hb);replace C0:=h_ (C0.out.below hb);replace C1:=h_ (C1.out.below hb);replace C2:=h_ (C2.out.below hb);replace CX:=h_ (CX.out.below hb);replace Sxs:=h_ (Sxs.out.below hb);replace Sys:=h_ (Sys.out.below hb);replace HB:=h_ (Bel.trans HB.out hb);clear hb;have Hg:=h_ ho;clear ho;have bg:=hbw;clear hbw
   go_wp2_with (fail)
   refine(cT _ _ _ _ _ _ _ (Hg.out.sl rfl).1 (Hw.out.sl rfl).1 (by omega)).mono ?_
   rintro e V6 ⟨rfl,hb⟩
   replace Hw:=h_ (Hw.out.below hb);replace H1:=h_ (H1.out.below hb);replace H2:=h_ (H2.out.below hb);replace Hg:=h_ (Hg.out.below hb);replace C0:=h_ (C0.out.below hb);replace C1:=h_ (C1.out.below hb);replace C2:=h_ (C2.out.below hb);replace CX:=h_ (CX.out.below hb);replace Sxs:=h_ (Sxs.out.below hb);replace Sys:=h_ (Sys.out.below hb);replace HB:=h_ (Bel.trans HB.out hb);clear hb
   go_wp2_with (fail)
   refine w_ 4 (fun _=>false) fS [Eqv (m #[l Y1 xs.length y1,l Y2 ys.length y2]),Eqv (m #[l A1 n1 a1,l A2 n2 a2]),CpB xs ys,Eqv (.bool true)] (by repeat (first|exact AllStb.nil|refine AllStb.cons (by first|exact a6 _|exact stb_cpb _ _) ?_)) ?_ ?_ ?_
   ·intro i o hi hX ho a' W hW hIW hfar hdep
    exact absurd hX (by simp)
   ·intro i o hi hX ho a' W hW hIW hfar hdep
    have e1:a'.tmps.getD 12 j0=C (some ⟨V3.heap.size,0,none⟩):=(fr hfar 12).trans rfl
    have e2:a'.tmps.getD 5 j0=C (some ⟨w.heap.size+1,0,none⟩):=(fr hfar 5).trans rfl
    have hi8:=i_3 hi
    clear hfar hX hi
    rcases hi8 with rfl|rfl|rfl|rfl
    all_goals (simp at ho;subst ho)
    ·have zz:=CX.out.below hW
     have z0:=zz.cell 0 _ rfl;have z1:=zz.cell 1 _ rfl
     refine il ?_;simp only[jz,j2,e1];go_simp
    ·have zz:=C1.out.below hW
     have z0:=zz.cell 0 _ rfl;have z1:=zz.cell 1 _ rfl
     refine il ?_;simp only[jz,j2,e2];go_simp
    ·have d1:a'.tmps.getD 58 j0=_:=dp hdep 1
     refine .inr ⟨14,#[m #[l A1 n1 a1,l A2 n2 a2]],by simp only[jz,j2,d1];go_simp,?_⟩
     refine(et _ _ _ _ _ _ _ _ _ (Sxs.out.below hW) (Sys.out.below hW) hn1' hn2').mono ?_
     rintro e W' ⟨X1,k1,X2,k2,rfl,ho1,ho2,_,hb'⟩
     exact⟨_,rfl,hb',trivial,X1,k1,X2,k2,rfl,(ho1.sl rfl).1,(ho1.sl rfl).2,(ho2.sl rfl).1,(ho2.sl rfl).2⟩
    ·have d1:a'.tmps.getD 57 j0=_:=dp hdep 0
     obtain⟨X1,k1,X2,k2,d2,s1,-,s2,-⟩:CpB xs ys (a'.tmps.getD 59 j0) W:=dp hdep 2
     refine .inr ⟨18,#[m #[l Y1 xs.length y1,l Y2 ys.length y2],m #[l X1 xs.length k1,l X2 ys.length k2]],by simp only[jz,j2,d1,d2];go_simp,?_⟩
     refine(eqBoard_yes _ _ _ _ _ _ _ _ _ _ _ _ _ (SL.below (H1.out.sl rfl).1 hW) (SL.below (H2.out.sl rfl).1 hW) s1 s2 ox oy).mono ?_
     rintro e W' ⟨rfl,hb'⟩
     exact⟨_,rfl,hb',trivial,rfl⟩
   intro v V7 hW hIW hg
   have g0:v 0=_:=gq hg 0
   have g1:v 1=_:=gq hg 1
   obtain⟨_,_,_,_,g2,_,_,_,_⟩:CpB xs ys (v 2) V7:=hg 2 (by omega)
   have g3:v 3=_:=gq hg 3
   simp only[qa,qb,putV,fS,g0,g1,g2,g3,Act.put]
   clear g0 g1 g2 g3 hg hIW;have hb:=hW;clear hW;replace Hw:=h_ (Hw.out.below hb);replace H1:=h_ (H1.out.below hb);replace H2:=h_ (H2.out.below hb);replace Hg:=h_ (Hg.out.below hb);replace C0:=h_ (C0.out.below hb);replace C1:=h_ (C1.out.below hb);replace C2:=h_ (C2.out.below hb);replace CX:=h_ (CX.out.below hb);replace HB:=h_ (Bel.trans HB.out hb);clear hb;have cCX_0:=CX.out.cell 0 _ rfl;have cCX_1:=CX.out.cell 1 _ rfl
   go_wp2_with (fail)
   have M:=mc Y1 Y2 xs.length y1 ys.length y2 _ _ xs ys 1 V7 H1.out H2.out HAP.out ox oy (by omega)
   obtain⟨K1,hK1⟩:∃K:Int,((1+xs.length+ys.length:Nat):Int)=K:=⟨_,rfl⟩
   have hKp1:0<=K1:=by omega
   have hKn1:¬K1<0:=by omega
   rw[hK1]at M;clear hK1
   refine M.mono ?_
   rintro e V8 ⟨rfl,-,-,hf⟩
   clear M;clear cCX_0 cCX_1
   have LB:∀j,(some j=(Value.slice Y1 xs.length y1).ownBlock\/some j=(Value.slice Y2 ys.length y2).ownBlock)->V2.heap.size<=j/\j<V3.heap.size:=fun j h=>by
    rcases h with h|h
    ·exact⟨by have:=(H1.out.lt j h.symm).1;omega,UH1.out j h.symm⟩
    ·exact⟨by have:=(H2.out.lt j h.symm).1;omega,UH2.out j h.symm⟩
   replace C0:=h_ (C0.out.frm hf (fun h=>by have:=LB _ h;omega))
   replace C1:=h_ (C1.out.frm hf (fun h=>by have:=LB _ h;omega))
   replace C2:=h_ (C2.out.frm hf (fun h=>by have:=LB _ h;omega))
   replace Hw:=h_ (hf.own Hw.out (fun j hj h=>by have:=LB _ h;have:=UHw.out _ hj;omega))
   replace Hg:=h_ (hf.own Hg.out (fun j hj h=>by have:=LB _ h;have:=(Hg.out.lt j hj).1;omega))
   replace HB:=h_ (show Bel w V8 from frm_lo HB.out hf (fun j h=>by have:=LB _ h;omega))
   clear LB hf H1 UH1 H2 UH2 HAP
   go_wp2_with (fail)
   refine(cT _ _ _ _ _ _ _ (Hg.out.sl rfl).1 (Hw.out.sl rfl).1 (by omega)).mono ?_
   rintro e V9 ⟨rfl,hb⟩
   replace Hw:=h_ (Hw.out.below hb);replace Hg:=h_ (Hg.out.below hb);replace C0:=h_ (C0.out.below hb);replace C1:=h_ (C1.out.below hb);replace C2:=h_ (C2.out.below hb);replace HB:=h_ (Bel.trans HB.out hb);clear hb
   go_wp2_with (fail)
   have M:=dM Gg L0.length cg _ _ L0 1 V9 Hg.out (by omega) (by omega)
   obtain⟨KM,hKM⟩:∃K:Int,((1+L0.length:Nat):Int)=K:=⟨_,rfl⟩
   have hMp:0<=KM:=by omega
   have hMn:¬KM<0:=by omega
   have hMM:(KM !=KM)=false:=by simp
   rw[hKM]at M;have HKM:=h_ hKM;clear hKM
   refine M.mono ?_
   rintro e V10 ⟨rfl,ho,hg⟩
   clear M;have hf:=Frm.of_grown hg;clear hg
   have LB:=fun j hj=>(Hg.out.lt j hj).1
   replace C0:=h_ (C0.out.frm hf (fun h=>by have:=LB _ h.symm;omega))
   replace C1:=h_ (C1.out.frm hf (fun h=>by have:=LB _ h.symm;omega))
   replace C2:=h_ (C2.out.frm hf (fun h=>by have:=LB _ h.symm;omega))
   replace Hw:=h_ (hf.own Hw.out (fun j hj h=>by have:=LB _ h.symm;have:=UHw.out _ hj;omega))
   replace HB:=h_ (show Bel w V10 from frm_lo HB.out hf (fun j h=>by have:=LB _ h.symm;omega))
   clear LB;replace Hg:=h_ ho;clear ho hf
   go_wp2_with (fail)
   have M:=fQ Gg L0.length cg 1 V10 (Hg.out.sl rfl).1 (by omega) (by omega)
   rw[HKM.out]at M
   refine M.mono ?_
   rintro e W' ⟨rfl,rfl⟩
   clear M;have Sxs:=h_ (Axs.out.below HB.out);have Sys:=h_ (Ays.out.below HB.out)
   go_wp2_with (fail)
   refine w_ 11 (fun i=>i==10) fR [Eqv (m #[.int d p,.int d c,.int d h,.int d s]),Eqv (m #[.int d p,.int d c,.int d h,.int d s]),Eqv (m #[l A1 n1 a1,l A2 n2 a2]),CpB xs ys,Eqv (m #[.int d ra,.int d rb]),Eqv (m #[.int d ra,.int d rb]),Eqv (.int d z),RowT (fun W b v=>OwnS W b 2 (v) L0) V10.heap.size [.int d r3],RowT (fun W b v=>OwnS W b 2 (v) L0) V10.heap.size [.int d r3],RowE (fun W b v=>OwnS W b 2 (v) L0) V10.heap.size,Eqv (.int d r3)] (by repeat (first|exact AllStb.nil|refine AllStb.cons (by first|exact a6 _|exact stb_cpy _|exact lI stO_I|exact lJ stO_I|exact stb_cpb _ _) ?_)) ?_ ?_ ?_
   ·intro i o hi hX ho a' W hW hIW hfar hdep
    have hi8:i=10:=by simpa using hX
    clear hfar hX hi;subst hi8
    simp at ho
    subst ho
    ·obtain⟨u,bs,d1,-⟩:RowT (fun W b v=>OwnS W b 2 (v) L0) V10.heap.size [.int d r3] (a'.tmps.getD 89 j0) W:=dp hdep 8
     replace d1:a'.tmps.getD 89 j0=B #[u,.int d r3]:=d1
     exact⟨.int d r3,fun W'=>by simp only[jz,j2,d1];go_simp,rfl⟩
   ·intro i o hi hX ho a' W hW hIW hfar hdep
    have e3:a'.tmps.getD 3 j0= .int d z:=(fr hfar 3).trans rfl
    have e4:a'.tmps.getD 4 j0=C (some ⟨w.heap.size,0,none⟩):=(fr hfar 4).trans rfl
    have e5:a'.tmps.getD 5 j0=C (some ⟨(w.heap.size+1),0,none⟩):=(fr hfar 5).trans rfl
    have e6:a'.tmps.getD 6 j0=C (some ⟨(w.heap.size+1+1),0,none⟩):=(fr hfar 6).trans rfl
    have hi8:i=0\/i=1\/i=2\/i=3\/i=4\/i=5\/i=6\/i=7\/i=8\/i=9:=by simp at hX;omega
    clear hfar hX hi
    rcases hi8 with rfl|rfl|rfl|rfl|rfl|rfl|rfl|rfl|rfl|rfl
    all_goals (simp at ho;subst ho)
    ·have zz:=C0.out.below hW
     have z0:=zz.cell 0 _ rfl;have z1:=zz.cell 1 _ rfl;have z2:=zz.cell 2 _ rfl;have z3:=zz.cell 3 _ rfl
     refine il ?_;simp only[jz,j2,e4];go_simp
    ·have d1:a'.tmps.getD 90 j0=_:=dp hdep 0
     refine .inr ⟨13,#[m #[.int d p,.int d c,.int d h,.int d s]],by simp only[jz,j2,d1];go_simp,?_⟩
     refine(er _ _ _ _ _).mono ?_
     rintro e W' ⟨rfl,hb'⟩
     exact⟨_,rfl,hb',trivial,rfl⟩
    ·have zz:=C1.out.below hW
     have z0:=zz.cell 0 _ rfl;have z1:=zz.cell 1 _ rfl
     refine il ?_;simp only[jz,j2,e5];go_simp
    ·have d1:a'.tmps.getD 92 j0=_:=dp hdep 2
     refine .inr ⟨14,#[m #[l A1 n1 a1,l A2 n2 a2]],by simp only[jz,j2,d1];go_simp,?_⟩
     refine(et _ _ _ _ _ _ _ _ _ (Sxs.out.below hW) (Sys.out.below hW) hn1' hn2').mono ?_
     rintro e W' ⟨X1,k1,X2,k2,rfl,ho1,ho2,_,hb'⟩
     exact⟨_,rfl,hb',trivial,X1,k1,X2,k2,rfl,(ho1.sl rfl).1,(ho1.sl rfl).2,(ho2.sl rfl).1,(ho2.sl rfl).2⟩
    ·have zz:=C2.out.below hW
     have z0:=zz.cell 0 _ rfl;have z1:=zz.cell 1 _ rfl
     refine il ?_;simp only[jz,j2,e6];go_simp
    ·have d1:a'.tmps.getD 94 j0=_:=dp hdep 4
     refine .inr ⟨15,#[m #[.int d ra,.int d rb]],by simp only[jz,j2,d1];go_simp,?_⟩
     refine(iD _ _ _).mono ?_
     rintro e W' ⟨rfl,hb'⟩
     exact⟨_,rfl,hb',trivial,rfl⟩
    ·refine il ?_;simp only[jz,j2,e3];go_simp
    ·have d91:a'.tmps.getD 91 j0=_:=dp hdep 1
     obtain⟨X1,k1,X2,k2,d93,s1,l1,s2,l2⟩:CpB xs ys (a'.tmps.getD 93 j0) W:=dp hdep 3
     have d95:a'.tmps.getD 95 j0=_:=dp hdep 5
     have d96:a'.tmps.getD 96 j0=_:=dp hdep 6
     refine .inr ⟨31,#[m #[.int d p,.int d c,.int d h,.int d s],m #[l X1 xs.length k1,l X2 ys.length k2],m #[.int d ra,.int d rb],.int d z],by simp only[jz,j2,d91,d93,d95,d96];go_simp,?_⟩
     refine(CI.out W X1 k1 X2 k2 s1 s2 l1 l2).mono ?_
     rintro e W' ⟨u,bs,rfl,hbs,ho,hb'⟩
     exact⟨_,rfl,hb',trivial,u,bs,rfl,Nat.le_trans (Below.size hW) hbs,ho⟩
    ·obtain⟨u,bs,d1,h1,h2⟩:RowT (fun W b v=>OwnS W b 2 (v) L0) V10.heap.size [.int d r3] (a'.tmps.getD 97 j0) W:=dp hdep 7
     replace d1:a'.tmps.getD 97 j0=B #[u,.int d r3]:=d1
     exact .inl ⟨B #[u,.int d r3],W,by simp only[jz,j2,d1];go_simp,Bel.rfl' _,trivial,u,bs,rfl,h1,h2⟩
    ·obtain⟨u,bs,d1,h1,h2⟩:RowT (fun W b v=>OwnS W b 2 (v) L0) V10.heap.size [.int d r3] (a'.tmps.getD 89 j0) W:=dp hdep 8
     replace d1:a'.tmps.getD 89 j0=B #[u,.int d r3]:=d1
     exact .inl ⟨u,W,by simp only[jz,j2,d1];go_simp,Bel.rfl' _,trivial,bs,h1,h2⟩
   intro v V11 hW hIW hg
   have g0:v 0=_:=gq hg 0
   have g1:v 1=_:=gq hg 1
   have g2:v 2=_:=gq hg 2
   obtain⟨_,_,_,_,g3,_,_,_,_⟩:CpB xs ys (v 3) V11:=hg 3 (by omega)
   have g4:v 4=_:=gq hg 4
   have g5:v 5=_:=gq hg 5
   have g6:v 6=_:=gq hg 6
   obtain⟨_,_,g7,_,_⟩:RowT (fun W b v=>OwnS W b 2 (v) L0) V10.heap.size [.int d r3] (v 7) V11:=hg 7 (by omega)
   obtain⟨_,_,g8,_,_⟩:RowT (fun W b v=>OwnS W b 2 (v) L0) V10.heap.size [.int d r3] (v 8) V11:=hg 8 (by omega)
   obtain⟨bs,-,ho⟩:RowE (fun W b v=>OwnS W b 2 (v) L0) V10.heap.size (v 9) V11:=hg 9 (by omega)
   obtain⟨Gh,ch,g9,-,-⟩:=ho.read;rw[g9]at ho
   have g10:v 10=_:=gq hg 10
   simp only[qa,qb,putV,fR,g0,g1,g2,g3,g4,g5,g6,g7,g8,g9,g10,Act.put]
   clear g0 g1 g2 g3 g4 g5 g6 g7 g8 g9 g10 hg hIW;have hb:=hW.out;clear hW;replace Hw:=h_ (Hw.out.below hb);replace Hg:=h_ (Hg.out.below hb);replace HB:=h_ (Bel.trans HB.out hb);clear hb;have Hh:=h_ ho;clear ho
   go_wp2_with (fail)
   refine(cT _ _ _ _ _ _ _ (Hh.out.sl rfl).1 (Hw.out.sl rfl).1 (by omega)).mono ?_
   rintro e V12 ⟨rfl,hb⟩
   replace Hg:=h_ (Hg.out.below hb);replace HB:=h_ (Bel.trans HB.out hb);clear hb
   go_wp2_with (fail)
   have M:=fQ Gg L0.length cg 1 V12 (Hg.out.sl rfl).1 (by omega) (by omega)
   rw[HKM.out]at M
   refine M.mono ?_
   rintro e W' ⟨rfl,rfl⟩
   clear M
   go_wp2_with (fail)
   go_ret
   exact⟨rfl,HB.out⟩
 case' zc|za=>
  intro i o hi hX ho a' W hW hIW hfar hdep
  have e3:a'.tmps.getD 3 j0= .int d z:=(fr hfar 3).trans rfl
  have e4:a'.tmps.getD 4 j0=C (some ⟨w.heap.size,0,none⟩):=(fr hfar 4).trans rfl
 case' za=>
  have e5:a'.tmps.getD 5 j0=C (some ⟨(w.heap.size+1),0,none⟩):=(fr hfar 5).trans rfl
 case' za|zc=>
  have e6:a'.tmps.getD 6 j0=C (some ⟨(w.heap.size+1+1),0,none⟩):=(fr hfar 6).trans rfl
 case' za=>
  have hi8:i=0\/i=1\/i=2\/i=3\/i=4\/i=5\/i=6\/i=7\/i=8\/i=9:=by simp at hX;omega
  clear hfar hX hi
 case za=>
  rcases hi8 with rfl|rfl|rfl|rfl|rfl|rfl|rfl|rfl|rfl|rfl
  all_goals (simp at ho;subst ho)
  ·have zz:=C0.out.below hW
   have z0:=zz.cell 0 _ rfl;have z1:=zz.cell 1 _ rfl;have z2:=zz.cell 2 _ rfl;have z3:=zz.cell 3 _ rfl
   refine il ?_;simp only[jz,j2,e4];go_simp
  ·have d1:a'.tmps.getD 26 j0=_:=dp hdep 0
   refine .inr ⟨13,#[m #[.int d p,.int d c,.int d h,.int d s]],by simp only[jz,j2,d1];go_simp,?_⟩
   refine(er _ _ _ _ _).mono ?_
   rintro e W' ⟨rfl,hb'⟩
   exact⟨_,rfl,hb',trivial,rfl⟩
  ·have zz:=C1.out.below hW
   have z0:=zz.cell 0 _ rfl;have z1:=zz.cell 1 _ rfl
   refine il ?_;simp only[jz,j2,e5];go_simp
  ·have d1:a'.tmps.getD 28 j0=_:=dp hdep 2
   refine .inr ⟨14,#[m #[l A1 n1 a1,l A2 n2 a2]],by simp only[jz,j2,d1];go_simp,?_⟩
   refine(et _ _ _ _ _ _ _ _ _ (Sxs.out.below hW) (Sys.out.below hW) hn1' hn2').mono ?_
   rintro e W' ⟨X1,k1,X2,k2,rfl,ho1,ho2,_,hb'⟩
   exact⟨_,rfl,hb',trivial,X1,k1,X2,k2,rfl,(ho1.sl rfl).1,(ho1.sl rfl).2,(ho2.sl rfl).1,(ho2.sl rfl).2⟩
  ·have zz:=C2.out.below hW
   have z0:=zz.cell 0 _ rfl;have z1:=zz.cell 1 _ rfl
   refine il ?_;simp only[jz,j2,e6];go_simp
  ·have d1:a'.tmps.getD 30 j0=_:=dp hdep 4
   refine .inr ⟨15,#[m #[.int d ra,.int d rb]],by simp only[jz,j2,d1];go_simp,?_⟩
   refine(iD _ _ _).mono ?_
   rintro e W' ⟨rfl,hb'⟩
   exact⟨_,rfl,hb',trivial,rfl⟩
  ·refine il ?_;simp only[jz,j2,e3];go_simp
  ·have d27:a'.tmps.getD 27 j0=_:=dp hdep 1
   obtain⟨X1,k1,X2,k2,d29,s1,l1,s2,l2⟩:CpB xs ys (a'.tmps.getD 29 j0) W:=dp hdep 3
   have d31:a'.tmps.getD 31 j0=_:=dp hdep 5
   have d32:a'.tmps.getD 32 j0=_:=dp hdep 6
   refine .inr ⟨30,#[m #[.int d p,.int d c,.int d h,.int d s],m #[l X1 xs.length k1,l X2 ys.length k2],m #[.int d ra,.int d rb],.int d z],by simp only[jz,j2,d27,d29,d31,d32];go_simp,?_⟩
   refine(CS.out W X1 k1 X2 k2 s1 s2 l1 l2).mono ?_
   rintro e W' ⟨u,bs,rfl,hbs,ho,hb'⟩
   exact⟨_,rfl,hb',trivial,u,bs,rfl,Nat.le_trans (Below.size hW) hbs,ho⟩
  ·obtain⟨u,bs,d1,h1,h2⟩:RowT (fun W b v=>OwnS W b 2 (v) L0) V1.heap.size [.int d r3] (a'.tmps.getD 33 j0) W:=dp hdep 7
   replace d1:a'.tmps.getD 33 j0=B #[u,.int d r3]:=d1
   exact .inl ⟨B #[u,.int d r3],W,by simp only[jz,j2,d1];go_simp,Bel.rfl' _,trivial,u,bs,rfl,h1,h2⟩
  ·obtain⟨u,bs,d1,h1,h2⟩:RowT (fun W b v=>OwnS W b 2 (v) L0) V1.heap.size [.int d r3] (a'.tmps.getD 25 j0) W:=dp hdep 8
   replace d1:a'.tmps.getD 25 j0=B #[u,.int d r3]:=d1
   exact .inl ⟨u,W,by simp only[jz,j2,d1];go_simp,Bel.rfl' _,trivial,bs,h1,h2⟩
 case zc=>
  have e12:a'.tmps.getD 12 j0=C (some ⟨V3.heap.size,0,none⟩):=(fr hfar 12).trans rfl
  have hi8:i=0\/i=1\/i=2\/i=3\/i=4\/i=5\/i=6\/i=7\/i=8:=by simp at hX;omega
  clear hfar hX hi
  rcases hi8 with rfl|rfl|rfl|rfl|rfl|rfl|rfl|rfl|rfl
  all_goals (simp at ho;subst ho)
  ·have zz:=C0.out.below hW
   have z0:=zz.cell 0 _ rfl;have z1:=zz.cell 1 _ rfl;have z2:=zz.cell 2 _ rfl;have z3:=zz.cell 3 _ rfl
   refine il ?_;simp only[jz,j2,e4];go_simp
  ·have d1:a'.tmps.getD 39 j0=_:=dp hdep 0
   refine .inr ⟨13,#[m #[.int d p,.int d c,.int d h,.int d s]],by simp only[jz,j2,d1];go_simp,?_⟩
   refine(er _ _ _ _ _).mono ?_
   rintro e W' ⟨rfl,hb'⟩
   exact⟨_,rfl,hb',trivial,rfl⟩
  ·have zz:=CX.out.below hW
   have z0:=zz.cell 0 _ rfl;have z1:=zz.cell 1 _ rfl
   refine il ?_;simp only[jz,j2,e12];go_simp
  ·have zz:=C2.out.below hW
   have z0:=zz.cell 0 _ rfl;have z1:=zz.cell 1 _ rfl
   refine il ?_;simp only[jz,j2,e6];go_simp
  ·have d1:a'.tmps.getD 42 j0=_:=dp hdep 3
   refine .inr ⟨15,#[m #[.int d ra,.int d rb]],by simp only[jz,j2,d1];go_simp,?_⟩
   refine(iD _ _ _).mono ?_
   rintro e W' ⟨rfl,hb'⟩
   exact⟨_,rfl,hb',trivial,rfl⟩
  ·refine il ?_;simp only[jz,j2,e3];go_simp
  ·have d40:a'.tmps.getD 40 j0=_:=dp hdep 1
   have d41:a'.tmps.getD 41 j0=_:=dp hdep 2
   have d43:a'.tmps.getD 43 j0=_:=dp hdep 4
   have d44:a'.tmps.getD 44 j0=_:=dp hdep 5
   refine .inr ⟨31,#[m #[.int d p,.int d c,.int d h,.int d s],m #[l Y1 xs.length y1,l Y2 ys.length y2],m #[.int d ra,.int d rb],.int d z],by simp only[jz,j2,d40,d41,d43,d44];go_simp,?_⟩
   refine(CI.out W _ _ _ _ ((H1.out.sl rfl).1.below hW) ((H2.out.sl rfl).1.below hW) H1k.out H2k.out).mono ?_
   rintro e W' ⟨u,bs,rfl,hbs,ho,hb'⟩
   exact⟨_,rfl,hb',trivial,u,bs,rfl,Nat.le_trans (Below.size hW) hbs,ho⟩
  ·obtain⟨u,bs,d1,h1,h2⟩:RowT (fun W b v=>OwnS W b 2 (v) L0) V4.heap.size [.int d r3] (a'.tmps.getD 45 j0) W:=dp hdep 6
   replace d1:a'.tmps.getD 45 j0=B #[u,.int d r3]:=d1
   exact .inl ⟨B #[u,.int d r3],W,by simp only[jz,j2,d1];go_simp,Bel.rfl' _,trivial,u,bs,rfl,h1,h2⟩
  ·obtain⟨u,bs,d1,h1,h2⟩:RowT (fun W b v=>OwnS W b 2 (v) L0) V4.heap.size [.int d r3] (a'.tmps.getD 38 j0) W:=dp hdep 7
   replace d1:a'.tmps.getD 38 j0=B #[u,.int d r3]:=d1
   exact .inl ⟨u,W,by simp only[jz,j2,d1];go_simp,Bel.rfl' _,trivial,bs,h1,h2⟩
open Go.ChangeShapes Go.WideShapes Go.ChangeAt Go.RowKit Go.Joins Go.Deep
theorem cellsV:Tryz.prog.cellsOf 23=4:=by kernel_rfl
theorem cellsB:Tryz.prog.cellsOf 26=2:=by kernel_rfl
theorem cellsR:Tryz.prog.cellsOf 28=2:=by kernel_rfl
theorem cellsS:Tryz.prog.cellsOf 24=1:=by kernel_rfl
theorem ke:Tryz.prog.cellsOf 2=1:=by kernel_rfl
section
variable {H:Type}{enc:TypeId×j1->H}{w:World}{base:Nat}{spare:Nat->Bool}{held:Bool}{fuel:Nat}
theorem fld{t:TypeId}{fs:Array Field}{cs:List j1}{x:DataW H×List MemPlace}(ht:Tryz.prog.underlying t=some (.struct fs))(h:DataW.trod enc qc w base spare held fuel t cs=some x):
  cs.length=Tryz.prog.cellsOf t/\∃n,∀(i:Nat) (f:Field),fs[i]? =some f->∃y,DataW.trod enc qc w base spare held n f.type ((cs.drop f.offset).take (Tryz.prog.cellsOf f.type))=some y:=by
 obtain⟨xs,n,_,_,hl,hx,hf⟩:=DataW.trod_struct ht h
 refine⟨hl,n,fun i f hi=>?_⟩
 have hlt:i<xs.length:=by rw[hx];exact(Array.getElem?_eq_some_iff.1 hi).1
 exact⟨_,(hf i f hi).trans (List.getElem?_eq_getElem hlt)⟩
theorem fldT{t:TypeId}{cs:List j1}{y0:DataW H×List MemPlace}{P:Program}{n:Nat}{t':TypeId}{cs':List j1}(h:DataW.trod enc P w base spare held n t cs=some y0)(e1:t=t')(e2:cs=cs'):DataW.trod enc P w base spare held n t' cs'=some y0:=by subst e1 e2;exact h
theorem iG{cs:List j1}{x:DataW H×List MemPlace}(h:DataW.trod enc qc w base spare held fuel 2 cs=some x):∃n:Int,cs=[.int d n]/\(Lit.int d n).wf=true:=by
 obtain⟨n,h1,_,h2⟩:=DataW.trod_int Tryz.underlying2 h
 exact⟨n,h1,h2⟩
theorem openSL{cs:List j1}{x:DataW H×List MemPlace}(h:DataW.trod enc qc w base spare held fuel 24 cs=some x):
  ∃A n c xs,cs=[l A n c]/\SL w A n xs/\n<=maxLen/\∀z∈xs,(Lit.int d z).wf=true:=by
 rcases open_ints Tryz.underlying24 Tryz.underlying2 ke h with⟨rfl,_⟩|⟨a,len,cap,zs,rfl,_,hl,hm,hz,_,hcell,hw⟩
 ·exact⟨none,0,0,[],rfl,SL.nil_ _,by simp[maxLen],by simp⟩
 ·have hle:len<=zs.length:=by rw[hz];split<;>omega
  refine⟨some a,len,cap,zs.take len,rfl,⟨by simp;omega,fun hn=>?_⟩,by omega,fun z hz'=>hw z (List.mem_of_mem_take hz')⟩
  obtain⟨b,off,spot⟩:=a
  have h0:=hcell 0 (by omega)
  have hspot:spot=none:=by simpa[Addr.add]using World.cell?_spot h0
  subst hspot
  refine⟨b,off,rfl,World.block_lt_of_cell? w _ h0,fun i hi=>?_⟩
  have h1:=hcell i (by omega)
  rw[add_plain]at h1;rw[h1]
  simp[List.getD,List.getElem?_take,hi]
theorem openBoard{cs:List j1}{x:DataW H×List MemPlace}(h:DataW.trod enc qc w base spare held fuel 26 cs=some x):
  ∃A1 n1 c1 xs A2 n2 c2 ys,cs=[l A1 n1 c1,l A2 n2 c2]/\SL w A1 n1 xs/\n1<=maxLen/\SL w A2 n2 ys/\n2<=maxLen:=by
 obtain⟨hl,n,hf⟩:=fld Tryz.underlying26 h;obtain⟨y0,h0⟩:=hf 0 _ rfl;obtain⟨y1,h1⟩:=hf 1 _ rfl;rw[cellsB]at hl
 match cs,hl with
 | [v0,v1],_=>
  obtain⟨A1,n1,c1,xs,e1,s1,m1,_⟩:=openSL (fldT h0 (t':=24) (cs':=[v0]) rfl (by show List.take (Tryz.prog.cellsOf 24) _=_;rw[cellsS];rfl))
  obtain⟨A2,n2,c2,ys,e2,s2,m2,_⟩:=openSL (fldT h1 (t':=24) (cs':=[v1]) rfl (by show List.take (Tryz.prog.cellsOf 24) _=_;rw[cellsS];rfl))
  simp at e1 e2
  subst e1 e2
  exact⟨A1,n1,c1,xs,A2,n2,c2,ys,rfl,s1,m1,s2,m2⟩
theorem openVariant{cs:List j1}{x:DataW H×List MemPlace}(h:DataW.trod enc qc w base spare held fuel 23 cs=some x):
  ∃p c g s:Int,cs=[.int d p,.int d c,.int d g,.int d s]/\(Lit.int d p).wf=true/\(Lit.int d c).wf=true/\(Lit.int d g).wf=true/\(Lit.int d s).wf=true:=by
 obtain⟨hl,n,hf⟩:=fld Tryz.underlying23 h;obtain⟨y0,h0⟩:=hf 0 _ rfl;obtain⟨y1,h1⟩:=hf 1 _ rfl;obtain⟨y2,h2⟩:=hf 2 _ rfl;obtain⟨y3,h3⟩:=hf 3 _ rfl;rw[cellsV]at hl
 match cs,hl with
 | [v0,v1,v2,v3],_=>
  obtain⟨p,e0,w0⟩:=iG (fldT h0 (t':=2) (cs':=[v0]) rfl (by show List.take (Tryz.prog.cellsOf 2) _=_;rw[ke];rfl))
  obtain⟨c,e1,w1⟩:=iG (fldT h1 (t':=2) (cs':=[v1]) rfl (by show List.take (Tryz.prog.cellsOf 2) _=_;rw[ke];rfl))
  obtain⟨g,e2,w2⟩:=iG (fldT h2 (t':=2) (cs':=[v2]) rfl (by show List.take (Tryz.prog.cellsOf 2) _=_;rw[ke];rfl))
  obtain⟨s,e3,w3⟩:=iG (fldT h3 (t':=2) (cs':=[v3]) rfl (by show List.take (Tryz.prog.cellsOf 2) _=_;rw[ke];rfl))
  simp at e0 e1 e2 e3
  subst e0 e1 e2 e3
  exact⟨p,c,g,s,rfl,w0,w1,w2,w3⟩
theorem openRoll{cs:List j1}{x:DataW H×List MemPlace}(h:DataW.trod enc qc w base spare held fuel 28 cs=some x):
  ∃p c:Int,cs=[.int d p,.int d c]/\(Lit.int d p).wf=true/\(Lit.int d c).wf=true:=by
 obtain⟨hl,n,hf⟩:=fld Tryz.underlying28 h;obtain⟨y0,h0⟩:=hf 0 _ rfl;obtain⟨y1,h1⟩:=hf 1 _ rfl;rw[cellsR]at hl
 match cs,hl with
 | [v0,v1],_=>
  obtain⟨p,e0,w0⟩:=iG (fldT h0 (t':=2) (cs':=[v0]) rfl (by show List.take (Tryz.prog.cellsOf 2) _=_;rw[ke];rfl))
  obtain⟨c,e1,w1⟩:=iG (fldT h1 (t':=2) (cs':=[v1]) rfl (by show List.take (Tryz.prog.cellsOf 2) _=_;rw[ke];rfl))
  simp at e0 e1
  subst e0 e1
  exact⟨p,c,rfl,w0,w1⟩
end
end Go.Proofs.YtcmeoenkgmghkaaGreat

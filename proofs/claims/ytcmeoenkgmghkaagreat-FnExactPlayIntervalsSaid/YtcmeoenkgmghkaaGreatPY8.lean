/- Part of one proof. There are no conditions. -/
import Derived.Test.YtcmeoenkgmghkaaGreatPY6
import Derived.Deep.Cut
set_option maxHeartbeats 0
set_option linter.unusedVariables false
set_option linter.unusedSimpArgs false
set_option maxRecDepth 100000
open Go.Value renaming int->a,slice->d,pointer->r,bool->y,agg->A
open Go.IntKind renaming i64->m
open Go.Obj renaming cells->q
namespace Go.Proofs.YtcmeoenkgmghkaaGreat
open Go.RowKit Pl
theorem OwnS.apart{w:World}{base:Nat}{e:TypeId}{v:Value}{xs:List Int}(h:OwnS w base e v xs){b i:Nat}(hb:v.ownBlock≠some b)(u:Value):OwnS (w.setCell ⟨b,i,none⟩ u) base e v xs:=
 (Frm.set w b i u).own h (fun k hk hb2=>hb (by rw[<-hb2];exact hk))
theorem ob_ne{g b n c:Nat}(h:g≠b):(Value.slice (some ⟨g,0,none⟩) n c).ownBlock≠some b:=fun e=>by
 have h9:some g=some b:=e;injection h9 with h9
 exact h h9
theorem OwnS.bump{w:World}{base:Nat}{e:TypeId}{g n c:Nat}{xs:List Int}(h:OwnS w base e (d (some ⟨g,0,none⟩) n c) xs)(j:Nat)(k x:Int)(hx:x=xs.getD j 0+k):
  OwnS (w.setCell ⟨g,j,none⟩ (a m x)) base e (d (some ⟨g,0,none⟩) n c) (Pl.bump xs j k):=by
 subst hx
 exact h.stored j _
theorem mG(P src:Nat)(c h s die:Int)(A1 A2:Option Addr)(n1 c1 n2 c2:Nat)(own other:List Int)(w:World)(h1:SL w A1 n1 own)(h2:SL w A2 n2 other)(hl1:n1=P+1)(hl2:n2=P+1)(hP:P<=900)(hsrc:src<=P)(hq1:∀j,0<=own.getD j 0/\own.getD j 0<=1000):
  Calls Tryz.prog 230 #[A #[a m (P:Int),a m c,a m h,a m s],A #[d A1 n1 c1,d A2 n2 c2],A #[a m (src:Int),a m (-1),a m die,y false]] w (RetBq w (bump own src (-1)) other):=by
 have HF0:Hid (Fr w ((((w.alloc (q #[a m (P:Int),a m c,a m h,a m s] 33)).alloc (q #[d A1 n1 c1,d A2 n2 c2] 35)).alloc (q #[a m (src:Int),a m (-1),a m die,y false] 242)).alloc (q #[d none 0 0,d none 0 0] 35)) [[a m (P:Int),a m c,a m h,a m s],[d A1 n1 c1,d A2 n2 c2],[a m (src:Int),a m (-1),a m die,y false],[d none 0 0,d none 0 0]]):=((((Fr.start w).allocT (by simp) _ _).allocT (by simp) _ _).allocT (by simp) _ _).allocT (by simp) _ _
 have CC:=h_ fun(W:World) (hw:Below w.heap.size w W)=>cj A1 A2 n1 c1 n2 c2 own other W (h1.below hw) (h2.below hw) (by omega) (by omega) (by omega) (by omega)
 have HL1:Hid (own.length=n1/\n1=P+1):=⟨h1.1,hl1⟩;have HL2:Hid (other.length=n2/\n2=P+1):=⟨h2.1,hl2⟩;have hX:=hq1 src
 have hlen1:(src:Int)<(own.length:Int):=by rw[h1.1];omega
 clear h1 h2 hl1 hl2
 go_enter Tryz.func230,Tryz.ntmps230
 go_wp2_with (fail)
 refine(CC.out _ HF0.out.b).mono ?_
 rintro e w1 ⟨g1,k1,g2,k2,rfl,ho1,ho2,hne,hb1⟩
 have HF1:=h_ (HF0.out.below hb1)
 obtain⟨_,hg,gl1,gm1,qc1,qf1⟩:=ao ho1 (by rw[HL1.out.1,HL1.out.2];omega)
 injection hg with hg;injection hg with hg;subst hg
 obtain⟨_,hg,gl2,gm2,qc2,qf2⟩:=ao ho2 (by rw[HL2.out.1,HL2.out.2];omega)
 injection hg with hg;injection hg with hg;subst hg
 have q1:=qc1 src (by rw[HL1.out.1,HL1.out.2];omega)
 have f1:=qf1 src;have HO1:=h_ ho1;have HO2:=h_ ho2;have HB1:=h_ HF1.out.b
 have hne2:g2≠g1:=fun e=>hne e.symm
 have hzz:=HF1.out.z
 simp only[List.length_cons,List.length_nil]at hzz
 have gz1:w.heap.size+4<=g1:=by simpa using gl1
 have gz2:w.heap.size+4<=g2:=by simpa using gl2
 clear gl1 gl2;clear hb1 HF0 CC ho1 ho2;generalize hXX:own.getD src 0=X at *;clear qc1 qc2 qf1 qf2
 have z2:=HF1.out.l2 (by simp)
 have c20:=HF1.out.c2 0 rfl;have c21:=HF1.out.c2 1 rfl;have c23:=HF1.out.c2 3 rfl
 have z3:=HF1.out.l3 (by simp)
 have c30:=HF1.out.c3 0 rfl;have f30:=HF1.out.f3 0 rfl;have c31:=HF1.out.c3 1 rfl;have f31:=HF1.out.f3 1 rfl
 go_wp2_with (fail)
 refine bodyPost_ret (v:=A #[d (some ⟨g1,0,none⟩) own.length k1,d (some ⟨g2,0,none⟩) other.length k2]) (by simp[results,Tryz.results230,go_sem, *]) rfl ⟨g1,k1,g2,k2,by simp only[aO],?_,?_,hne,?_⟩
 ·try simp only[aO]
  repeat (first|refine OwnS.alloc ?_ _|refine OwnS.apart ?_ (ob_ne (by omega)) _)
  refine OwnS.bump ?_ src (-1) _ (by rw[hXX];omega)
  exact HO1.out.mono (by simp;omega)
 ·try simp only[aO]
  repeat (first|refine OwnS.alloc ?_ _|refine OwnS.apart ?_ (ob_ne (by omega)) _)
  exact HO2.out.mono (by simp;omega)
 ·repeat (first|exact HB1.out|refine alw ?_ (Nat.le_refl _)|refine stw ?_ (by omega))
theorem afterStep_go(P src t:Nat)(c h s die:Int)(A1 A2:Option Addr)(n1 c1 n2 c2:Nat)(own other:List Int)(w:World)(h1:SL w A1 n1 own)(h2:SL w A2 n2 other)(hl1:n1=P+1)(hl2:n2=P+1)(hP:P<=900)(hsrc:src<=P)(ht:t<P)(hts:t≠src)(hq1:∀j,0<=own.getD j 0/\own.getD j 0<=1000):
  Calls Tryz.prog 230 #[A #[a m (P:Int),a m c,a m h,a m s],A #[d A1 n1 c1,d A2 n2 c2],A #[a m (src:Int),a m (t:Int),a m die,y false]] w (RetBq w (bump (bump own src (-1)) t 1) other):=by
 have HQ1:=h_ hq1
 have HF0:Hid (Fr w ((((w.alloc (q #[a m (P:Int),a m c,a m h,a m s] 33)).alloc (q #[d A1 n1 c1,d A2 n2 c2] 35)).alloc (q #[a m (src:Int),a m (t:Int),a m die,y false] 242)).alloc (q #[d none 0 0,d none 0 0] 35)) [[a m (P:Int),a m c,a m h,a m s],[d A1 n1 c1,d A2 n2 c2],[a m (src:Int),a m (t:Int),a m die,y false],[d none 0 0,d none 0 0]]):=((((Fr.start w).allocT (by simp) _ _).allocT (by simp) _ _).allocT (by simp) _ _).allocT (by simp) _ _
 have CC:=h_ fun(W:World) (hw:Below w.heap.size w W)=>cj A1 A2 n1 c1 n2 c2 own other W (h1.below hw) (h2.below hw) (by omega) (by omega) (by omega) (by omega)
 have HL1:Hid (own.length=n1/\n1=P+1):=⟨h1.1,hl1⟩;have HL2:Hid (other.length=n2/\n2=P+1):=⟨h2.1,hl2⟩;have hX:=hq1 src
 have hlen1:(src:Int)<(own.length:Int):=by rw[h1.1];omega
 clear h1 h2 hl1 hl2
 go_enter Tryz.func230,Tryz.ntmps230
 go_wp2_with (fail)
 refine(CC.out _ HF0.out.b).mono ?_
 rintro e w1 ⟨g1,k1,g2,k2,rfl,ho1,ho2,hne,hb1⟩
 have HF1:=h_ (HF0.out.below hb1)
 obtain⟨_,hg,gl1,gm1,qc1,qf1⟩:=ao ho1 (by rw[HL1.out.1,HL1.out.2];omega)
 injection hg with hg;injection hg with hg;subst hg
 obtain⟨_,hg,gl2,gm2,qc2,qf2⟩:=ao ho2 (by rw[HL2.out.1,HL2.out.2];omega)
 injection hg with hg;injection hg with hg;subst hg
 have q1:=qc1 src (by rw[HL1.out.1,HL1.out.2];omega)
 have f1:=qf1 src;have HO1:=h_ ho1;have HO2:=h_ ho2
 have hne2:g2≠g1:=fun e=>hne e.symm
 have hzz:=HF1.out.z
 simp only[List.length_cons,List.length_nil]at hzz
 have gz1:w.heap.size+4<=g1:=by simpa using gl1
 have gz2:w.heap.size+4<=g2:=by simpa using gl2
 have N1:w.heap.size≠g1/\w.heap.size+1≠g1/\w.heap.size+1+1≠g1/\w.heap.size+1+1+1≠g1/\w1.heap.size≠g1/\g1≠w1.heap.size:=by omega
 obtain⟨-,-,-,-,n1e,-⟩:=N1;clear gl1 gl2;clear hb1 HF0 CC ho1 ho2
 have qt:=qc1 t (by rw[HL1.out.1,HL1.out.2];omega)
 have htl:(t:Int)<(own.length:Int):=by rw[HL1.out.1,HL1.out.2];omega
 have hY:=HQ1.out t
 have hlo1:src<own.length:=by rw[HL1.out.1,HL1.out.2];omega
 generalize hXX:own.getD src 0=X at *;generalize hYY:own.getD t 0=Y at *
 have hge:0<=(t:Int):=by omega
 clear qc1 qc2 qf1 qf2 hq1
 have z2:=HF1.out.l2 (by simp)
 have c20:=HF1.out.c2 0 rfl
 go_upto_region 3 with (fail)
 clear z2 c20;obtain⟨Wa,hWa⟩:∃W,W=(w1.setCell ⟨g1,src,none⟩ (a m (X-1))).alloc (q #[d (some ⟨g1,0,none⟩) own.length k1,d (some ⟨g2,0,none⟩) other.length k2] 35):=⟨_,rfl⟩;rw[<-hWa]
 have HFa:Hid (Fr w Wa [[a m (P:Int),a m c,a m h,a m s],[d A1 n1 c1,d A2 n2 c2],[a m (src:Int),a m (t:Int),a m die,y false],[d none 0 0,d none 0 0]]):=by
  rw[hWa]
  exact(HF1.out.frm (Frm.set w1 g1 src _) (fun k hk=>by omega) (fun k hk=>by simp;omega)).alloc _
 have HO1a:Hid (OwnS Wa w.heap.size 2 (d (some ⟨g1,0,none⟩) own.length k1) (bump own src (-1))):=by
  rw[hWa]
  refine OwnS.alloc ?_ _
  refine OwnS.bump ?_ src (-1) _ (by rw[hXX];omega)
  exact HO1.out.mono (by simp;omega)
 have HO2a:Hid (OwnS Wa w.heap.size 2 (d (some ⟨g2,0,none⟩) other.length k2) other):=by
  rw[hWa]
  refine OwnS.alloc (OwnS.apart ?_ (ob_ne hne2) _) _
  exact HO2.out.mono (by simp;omega)
 have ra0:Wa.cell? ⟨w1.heap.size,0,none⟩=some (d (some ⟨g1,0,none⟩) own.length k1):=by rw[hWa];simp[go_sem]
 have ra1:Wa.cell? ⟨w1.heap.size,1,none⟩=some (d (some ⟨g2,0,none⟩) other.length k2):=by rw[hWa];simp[go_sem]
 have qt:Wa.cell? ⟨g1,t,none⟩=some (a m Y):=by
  obtain⟨_,hg,_,_,qc,_⟩:=ao HO1a.out (by have:=HL1.out;omega)
  injection hg with hg;injection hg with hg;subst hg
  rw[qc t (by have:=HL1.out;omega),dG _ _ _ _ (by have:=HL1.out;omega),if_neg hts,hYY,Int.add_zero]
 have ft:Wa.frozen? ⟨g1,t,none⟩=false:=by
  obtain⟨_,hg,_,_,_,qf⟩:=ao HO1a.out (by have:=HL1.out;omega)
  injection hg with hg;injection hg with hg;subst hg
  exact qf t
 clear hWa HF1 HO1 HO2 q1 f1;have c21:=HFa.out.c2 1 rfl
 go_upto_region 5 with (fail)
 clear c21;obtain⟨Wb,hW9⟩:∃W,W=Wa.setCell ⟨g1,t,none⟩ (a m (Y+1)):=⟨_,rfl⟩;rw[<-hW9]
 have HFb:Hid (Fr w Wb [[a m (P:Int),a m c,a m h,a m s],[d A1 n1 c1,d A2 n2 c2],[a m (src:Int),a m (t:Int),a m die,y false],[d none 0 0,d none 0 0]]):=by
  rw[hW9]
  exact HFa.out.frm (Frm.set Wa g1 t _) (fun k hk=>by omega) (fun k hk=>by simp;omega)
 have HO1b:Hid (OwnS Wb w.heap.size 2 (d (some ⟨g1,0,none⟩) own.length k1) (bump (bump own src (-1)) t 1)):=by
  rw[hW9]
  refine OwnS.bump (xs:=bump own src (-1)) ?_ t 1 _ (by rw[dG _ _ _ _ (by have:=HL1.out;omega),if_neg hts,hYY];omega)
  exact HO1a.out
 have HO2b:Hid (OwnS Wb w.heap.size 2 (d (some ⟨g2,0,none⟩) other.length k2) other):=by
  rw[hW9]
  exact OwnS.apart HO2a.out (ob_ne hne2) _
 have h90:=Frm.set Wa g1 t (a m (Y+1));rw[<-hW9]at h90
 have h91:=h90.cell' ra0 (by omega)
 have h92:=h90.cell' ra1 (by omega)
 clear ra0 ra1;have ra0:=h91;have ra1:=h92;have HBb:=h_ HFb.out.b;clear hW9 HFa HO1a HO2a h90 h91 h92;clear qt ft;have c23:=HFb.out.c2 3 rfl;have c30:=HFb.out.c3 0 rfl;have f30:=HFb.out.f3 0 rfl;have c31:=HFb.out.c3 1 rfl;have f31:=HFb.out.f3 1 rfl
 go_wp2_with (fail)
 refine bodyPost_ret (v:=A #[d (some ⟨g1,0,none⟩) own.length k1,d (some ⟨g2,0,none⟩) other.length k2]) (by simp[results,Tryz.results230,go_sem, *]) rfl ⟨g1,k1,g2,k2,by simp only[aO],?_,?_,hne,?_⟩
 ·simp only[aO]
  exact OwnS.apart (OwnS.apart HO1b.out (ob_ne (by omega)) _) (ob_ne (by omega)) _
 ·try simp only[aO]
  exact OwnS.apart (OwnS.apart HO2b.out (ob_ne (by omega)) _) (ob_ne (by omega)) _
 ·repeat (first|exact HBb.out|refine stw ?_ (by omega))
theorem mH(P src t:Nat)(c h s die:Int)(A1 A2:Option Addr)(n1 c1 n2 c2:Nat)(own other:List Int)(w:World)(h1:SL w A1 n1 own)(h2:SL w A2 n2 other)(hl1:n1=P+1)(hl2:n2=P+1)(hP:P<=900)(hsrc:src<=P)(ht:t<P)(hts:t≠src)(hq1:∀j,0<=own.getD j 0/\own.getD j 0<=1000)(hq2:∀j,0<=other.getD j 0/\other.getD j 0<=1000):
  Calls Tryz.prog 230 #[A #[a m (P:Int),a m c,a m h,a m s],A #[d A1 n1 c1,d A2 n2 c2],A #[a m (src:Int),a m (t:Int),a m die,y true]] w (RetBq w (bump (bump own src (-1)) t 1) (bump (bump other (P-1-t) (-1)) P 1)):=by
 obtain⟨K,hK⟩:∃K,K=P-1-t:=⟨_,rfl⟩;rw[<-hK];have HQ1:=h_ hq1;have HQ2:=h_ hq2
 have HF0:Hid (Fr w ((((w.alloc (q #[a m (P:Int),a m c,a m h,a m s] 33)).alloc (q #[d A1 n1 c1,d A2 n2 c2] 35)).alloc (q #[a m (src:Int),a m (t:Int),a m die,y true] 242)).alloc (q #[d none 0 0,d none 0 0] 35)) [[a m (P:Int),a m c,a m h,a m s],[d A1 n1 c1,d A2 n2 c2],[a m (src:Int),a m (t:Int),a m die,y true],[d none 0 0,d none 0 0]]):=((((Fr.start w).allocT (by simp) _ _).allocT (by simp) _ _).allocT (by simp) _ _).allocT (by simp) _ _
 have CC:=h_ fun(W:World) (hw:Below w.heap.size w W)=>cj A1 A2 n1 c1 n2 c2 own other W (h1.below hw) (h2.below hw) (by omega) (by omega) (by omega) (by omega)
 have HL1:Hid (own.length=n1/\n1=P+1):=⟨h1.1,hl1⟩;have HL2:Hid (other.length=n2/\n2=P+1):=⟨h2.1,hl2⟩;have hX:=hq1 src
 have hlen1:(src:Int)<(own.length:Int):=by rw[h1.1];omega
 clear h1 h2 hl1 hl2
 go_enter Tryz.func230,Tryz.ntmps230
 go_wp2_with (fail)
 refine(CC.out _ HF0.out.b).mono ?_
 rintro e w1 ⟨g1,k1,g2,k2,rfl,ho1,ho2,hne,hb1⟩
 have HF1:=h_ (HF0.out.below hb1)
 obtain⟨_,hg,gl1,gm1,qc1,qf1⟩:=ao ho1 (by rw[HL1.out.1,HL1.out.2];omega)
 injection hg with hg;injection hg with hg;subst hg
 obtain⟨_,hg,gl2,gm2,qc2,qf2⟩:=ao ho2 (by rw[HL2.out.1,HL2.out.2];omega)
 injection hg with hg;injection hg with hg;subst hg
 have q1:=qc1 src (by rw[HL1.out.1,HL1.out.2];omega)
 have f1:=qf1 src;have HO1:=h_ ho1;have HO2:=h_ ho2
 have hne2:g2≠g1:=fun e=>hne e.symm
 have hzz:=HF1.out.z
 simp only[List.length_cons,List.length_nil]at hzz
 have gz1:w.heap.size+4<=g1:=by simpa using gl1
 have gz2:w.heap.size+4<=g2:=by simpa using gl2
 have N1:w.heap.size≠g1/\w.heap.size+1≠g1/\w.heap.size+1+1≠g1/\w.heap.size+1+1+1≠g1/\w1.heap.size≠g1/\g1≠w1.heap.size:=by omega
 have N2:w.heap.size≠g2/\w.heap.size+1≠g2/\w.heap.size+1+1≠g2/\w.heap.size+1+1+1≠g2/\w1.heap.size≠g2/\g2≠w1.heap.size:=by omega
 obtain⟨n1a,n1b,n1c,n1d,n1e,n1f⟩:=N1;obtain⟨n2a,n2b,n2c,n2d,n2e,n2f⟩:=N2;clear gl1 gl2;clear hb1 HF0 CC ho1 ho2
 have qt:=qc1 t (by rw[HL1.out.1,HL1.out.2];omega)
 have htl:(t:Int)<(own.length:Int):=by rw[HL1.out.1,HL1.out.2];omega
 have hY:=HQ1.out t
 have hlo1:src<own.length:=by rw[HL1.out.1,HL1.out.2];omega
 have hts2:src≠t:=fun e=>hts e.symm
 generalize hXX:own.getD src 0=X at *;generalize hYY:own.getD t 0=Y at *
 have hge:0<=(t:Int):=by omega
 have hK0:(P:Int)-1-(t:Int)<(other.length:Int):=by rw[HL2.out.1,HL2.out.2];omega
 have hK2:((P:Int)-1-(t:Int)).toNat=K:=by omega
 have hKP:K≠P:=by omega
 have hKP2:P≠K:=by omega
 have hPl:(P:Int)<(other.length:Int):=by rw[HL2.out.1,HL2.out.2];omega
 have hlo2:K<other.length:=by rw[HL2.out.1,HL2.out.2];omega
 have hZ:=HQ2.out K;have hU:=HQ2.out P;generalize hZZ:other.getD K 0=Z at *;generalize hUU:other.getD P 0=U at *;clear qc1 qc2 qf1 qf2 hq1 hq2 hK
 have z2:=HF1.out.l2 (by simp)
 have c20:=HF1.out.c2 0 rfl
 go_upto_region 3 with (fail)
 clear z2 c20;obtain⟨Wa,hWa⟩:∃W,W=(w1.setCell ⟨g1,src,none⟩ (a m (X-1))).alloc (q #[d (some ⟨g1,0,none⟩) own.length k1,d (some ⟨g2,0,none⟩) other.length k2] 35):=⟨_,rfl⟩;rw[<-hWa]
 have HFa:Hid (Fr w Wa [[a m (P:Int),a m c,a m h,a m s],[d A1 n1 c1,d A2 n2 c2],[a m (src:Int),a m (t:Int),a m die,y true],[d none 0 0,d none 0 0]]):=by
  rw[hWa]
  exact(HF1.out.frm (Frm.set w1 g1 src _) (fun k hk=>by omega) (fun k hk=>by simp;omega)).alloc _
 have HO1a:Hid (OwnS Wa w.heap.size 2 (d (some ⟨g1,0,none⟩) own.length k1) (bump own src (-1))):=by
  rw[hWa]
  refine OwnS.alloc ?_ _
  refine OwnS.bump ?_ src (-1) _ (by rw[hXX];omega)
  exact HO1.out.mono (by simp;omega)
 have HO2a:Hid (OwnS Wa w.heap.size 2 (d (some ⟨g2,0,none⟩) other.length k2) other):=by
  rw[hWa]
  refine OwnS.alloc (OwnS.apart ?_ (ob_ne hne2) _) _
  exact HO2.out.mono (by simp;omega)
 have ra0:Wa.cell? ⟨w1.heap.size,0,none⟩=some (d (some ⟨g1,0,none⟩) own.length k1):=by rw[hWa];simp[go_sem]
 have ra1:Wa.cell? ⟨w1.heap.size,1,none⟩=some (d (some ⟨g2,0,none⟩) other.length k2):=by rw[hWa];simp[go_sem]
 have qt:Wa.cell? ⟨g1,t,none⟩=some (a m Y):=by
  obtain⟨_,hg,_,_,qc,_⟩:=ao HO1a.out (by have:=HL1.out;omega)
  injection hg with hg;injection hg with hg;subst hg
  rw[qc t (by have:=HL1.out;omega),dG _ _ _ _ (by have:=HL1.out;omega),if_neg hts,hYY,Int.add_zero]
 have ft:Wa.frozen? ⟨g1,t,none⟩=false:=by
  obtain⟨_,hg,_,_,_,qf⟩:=ao HO1a.out (by have:=HL1.out;omega)
  injection hg with hg;injection hg with hg;subst hg
  exact qf t
 clear hWa HF1 HO1 HO2 q1 f1;have c21:=HFa.out.c2 1 rfl
 go_upto_region 5 with (fail)
 clear c21;obtain⟨Wb,hW9⟩:∃W,W=Wa.setCell ⟨g1,t,none⟩ (a m (Y+1)):=⟨_,rfl⟩;rw[<-hW9]
 have HFb:Hid (Fr w Wb [[a m (P:Int),a m c,a m h,a m s],[d A1 n1 c1,d A2 n2 c2],[a m (src:Int),a m (t:Int),a m die,y true],[d none 0 0,d none 0 0]]):=by
  rw[hW9]
  exact HFa.out.frm (Frm.set Wa g1 t _) (fun k hk=>by omega) (fun k hk=>by simp;omega)
 have HO1b:Hid (OwnS Wb w.heap.size 2 (d (some ⟨g1,0,none⟩) own.length k1) (bump (bump own src (-1)) t 1)):=by
  rw[hW9]
  refine OwnS.bump (xs:=bump own src (-1)) ?_ t 1 _ (by rw[dG _ _ _ _ (by have:=HL1.out;omega),if_neg hts,hYY];omega)
  exact HO1a.out
 have HO2b:Hid (OwnS Wb w.heap.size 2 (d (some ⟨g2,0,none⟩) other.length k2) other):=by
  rw[hW9]
  exact OwnS.apart HO2a.out (ob_ne hne2) _
 have h90:=Frm.set Wa g1 t (a m (Y+1));rw[<-hW9]at h90
 have h91:=h90.cell' ra0 (by omega)
 have h92:=h90.cell' ra1 (by omega)
 clear ra0 ra1;have ra0:=h91;have ra1:=h92;clear hW9 HFa HO1a HO2a h90 h91 h92;clear qt ft
 have qG:Wb.cell? ⟨g2,K,none⟩=some (a m Z):=by
  obtain⟨_,hg,_,_,qc,_⟩:=ao HO2b.out (by have:=HL2.out;omega)
  injection hg with hg;injection hg with hg;subst hg
  have h99:=qc K (by have:=HL2.out;omega)
  rw[hZZ]at h99
  exact h99
 have fG:Wb.frozen? ⟨g2,K,none⟩=false:=by
  obtain⟨_,hg,_,_,_,qf⟩:=ao HO2b.out (by have:=HL2.out;omega)
  injection hg with hg;injection hg with hg;subst hg
  exact qf K
 have c00:=HFb.out.c0 0 rfl;have c21:=HFb.out.c2 1 rfl;have c23:=HFb.out.c2 3 rfl
 go_upto_region 7 with (fail)
 clear c00 c21 c23;obtain⟨Wc,hW9⟩:∃W,W=Wb.setCell ⟨g2,K,none⟩ (a m (Z-1)):=⟨_,rfl⟩;rw[<-hW9]
 have HFc:Hid (Fr w Wc [[a m (P:Int),a m c,a m h,a m s],[d A1 n1 c1,d A2 n2 c2],[a m (src:Int),a m (t:Int),a m die,y true],[d none 0 0,d none 0 0]]):=by
  rw[hW9]
  exact HFb.out.frm (Frm.set Wb g2 K _) (fun k hk=>by omega) (fun k hk=>by simp;omega)
 have HO1c:Hid (OwnS Wc w.heap.size 2 (d (some ⟨g1,0,none⟩) own.length k1) (bump (bump own src (-1)) t 1)):=by
  rw[hW9]
  exact OwnS.apart HO1b.out (ob_ne hne) _
 have HO2c:Hid (OwnS Wc w.heap.size 2 (d (some ⟨g2,0,none⟩) other.length k2) (bump other K (-1))):=by
  rw[hW9]
  exact HO2b.out.bump K (-1) _ (by rw[hZZ];omega)
 have h90:=Frm.set Wb g2 K (a m (Z-1));rw[<-hW9]at h90
 have h91:=h90.cell' ra0 (by omega)
 have h92:=h90.cell' ra1 (by omega)
 clear ra0 ra1;have ra0:=h91;have ra1:=h92;clear hW9 HFb HO1b HO2b h90 h91 h92;clear qG fG
 have hUU2:(bump other K (-1)).getD P 0=U:=by rw[dG _ _ _ _ hlo2,if_neg hKP2,hUU,Int.add_zero]
 have qG:Wc.cell? ⟨g2,P,none⟩=some (a m U):=by
  obtain⟨_,hg,_,_,qc,_⟩:=ao HO2c.out (by have:=HL2.out;omega)
  injection hg with hg;injection hg with hg;subst hg
  have h99:=qc P (by have:=HL2.out;omega)
  rw[hUU2]at h99
  exact h99
 have fG:Wc.frozen? ⟨g2,P,none⟩=false:=by
  obtain⟨_,hg,_,_,_,qf⟩:=ao HO2c.out (by have:=HL2.out;omega)
  injection hg with hg;injection hg with hg;subst hg
  exact qf P
 have c00:=HFc.out.c0 0 rfl
 go_upto_region 8 with (fail)
 clear c00;obtain⟨Wd,hW9⟩:∃W,W=Wc.setCell ⟨g2,P,none⟩ (a m (U+1)):=⟨_,rfl⟩;rw[<-hW9]
 have HFd:Hid (Fr w Wd [[a m (P:Int),a m c,a m h,a m s],[d A1 n1 c1,d A2 n2 c2],[a m (src:Int),a m (t:Int),a m die,y true],[d none 0 0,d none 0 0]]):=by
  rw[hW9]
  exact HFc.out.frm (Frm.set Wc g2 P _) (fun k hk=>by omega) (fun k hk=>by simp;omega)
 have HO1d:Hid (OwnS Wd w.heap.size 2 (d (some ⟨g1,0,none⟩) own.length k1) (bump (bump own src (-1)) t 1)):=by
  rw[hW9]
  exact OwnS.apart HO1c.out (ob_ne hne) _
 have HO2d:Hid (OwnS Wd w.heap.size 2 (d (some ⟨g2,0,none⟩) other.length k2) (bump (bump other K (-1)) P 1)):=by
  rw[hW9]
  exact HO2c.out.bump P 1 _ (by rw[hUU2])
 have h90:=Frm.set Wc g2 P (a m (U+1));rw[<-hW9]at h90
 have h91:=h90.cell' ra0 (by omega)
 have h92:=h90.cell' ra1 (by omega)
 clear ra0 ra1;have ra0:=h91;have ra1:=h92;have HBd:=h_ HFd.out.b;clear hW9 HFc HO1c HO2c h90 h91 h92;clear qG fG;have c30:=HFd.out.c3 0 rfl;have f30:=HFd.out.f3 0 rfl;have c31:=HFd.out.c3 1 rfl;have f31:=HFd.out.f3 1 rfl
 go_wp2_with (fail)
 refine bodyPost_ret (v:=A #[d (some ⟨g1,0,none⟩) own.length k1,d (some ⟨g2,0,none⟩) other.length k2]) (by simp[results,Tryz.results230,go_sem, *]) rfl ⟨g1,k1,g2,k2,by simp only[aO],?_,?_,hne,?_⟩
 ·simp only[aO]
  exact OwnS.apart (OwnS.apart HO1d.out (ob_ne (by omega)) _) (ob_ne (by omega)) _
 ·try simp only[aO]
  exact OwnS.apart (OwnS.apart HO2d.out (ob_ne (by omega)) _) (ob_ne (by omega)) _
 ·repeat (first|exact HBd.out|refine stw ?_ (by omega))
theorem lO{p c:Nat}{l:List Int}(h:SideP p c l)(hc:c<=1000):∀j,0<=l.getD j 0/\l.getD j 0<=1000:=fun j=>by
 refine⟨j7 h.2.1 j,?_⟩
 by_cases hj:j<l.length
 ·have:=iI l h.2.1 _ (aX l j hj)
  have:=h.2.2
  omega
 ·rw[List.getD_eq_getElem?_getD,List.getElem?_eq_none (by omega)];simp
theorem mI(P src die hN:Nat)(st:Stp)(c h s:Int)(C:Nat)(A1 A2:Option Addr)(n1 c1 n2 c2:Nat)(own other:List Int)(w:World)(h1:SL w A1 n1 own)(h2:SL w A2 n2 other)(hb:Sd P C (own,other))(hC:C<=1000)(hP:P<=900)(hsrc:src<=P)(hd:1<=die)(hst:stepP P hN (own,other) src die=some st):
  Calls Tryz.prog 230 #[A #[a m (P:Int),a m c,a m h,a m s],A #[d A1 n1 c1,d A2 n2 c2],stVal st die] w (RetBq w (aT P (own,other) st).1 (aT P (own,other) st).2):=by
 have e1:n1=P+1:=by rw[<-h1.1];exact hb.len1
 have e2:n2=P+1:=by rw[<-h2.1];exact hb.len2
 have b1:=lO hb.1 hC;have b2:=lO hb.2 hC;obtain⟨q1,q2,q3⟩:=gK hst;obtain⟨ss,sd,sh⟩:=st
 simp only at q1 q3
 subst q1
 rcases q3 with⟨q4,q5,q6⟩|⟨q5,q6⟩
 ·subst q5
  have hn0:(0:Int)<=((ss-die:Nat):Int):=by omega
  rcases sh with _|_
  ·have ea:aT P (own,other) ⟨ss,((ss-die:Nat):Int),false⟩=(bump (bump own ss (-1)) (ss-die) 1,other):=by
    unfold aT;simp only[if_pos hn0,Int.toNat_natCast];rfl
   rw[ea]
   exact afterStep_go P ss (ss-die) c h s die A1 A2 n1 c1 n2 c2 own other w h1 h2 e1 e2 hP hsrc (by omega) (by omega) b1
  ·have ea:aT P (own,other) ⟨ss,((ss-die:Nat):Int),true⟩=(bump (bump own ss (-1)) (ss-die) 1,bump (bump other (P-1-(ss-die)) (-1)) P 1):=by
    unfold aT;simp only[if_pos hn0,Int.toNat_natCast,if_true]
   rw[ea]
   exact mH P ss (ss-die) c h s die A1 A2 n1 c1 n2 c2 own other w h1 h2 e1 e2 hP hsrc (by omega) (by omega) b1 b2
 ·subst q5 q6
  have ea:aT P (own,other) ⟨ss,-1,false⟩=(bump own ss (-1),other):=rfl;rw[ea]
  exact mG P ss c h s die A1 A2 n1 c1 n2 c2 own other w h1 h2 e1 e2 hP hsrc b1
theorem OwnS.drew{w:World}{base:Nat}{e:TypeId}{v:Value}{xs:List Int}(h:OwnS w base e v xs):OwnS w.drew base e v xs:=h
theorem l04Apply_off(P src:Nat)(c h s die:Int)(A1 A2:Option Addr)(n1 c1 n2 c2:Nat)(own other:List Int)(w:World)(h1:SL w A1 n1 own)(h2:SL w A2 n2 other)(hl1:n1=P+1)(hl2:n2=P+1)(hP:P<=900)(hsrc:src<=P)(hq1:∀j,0<=own.getD j 0/\own.getD j 0<=1000):
  Calls Tryz.prog 227 #[A #[a m (P:Int),a m c,a m h,a m s],A #[d A1 n1 c1,d A2 n2 c2],A #[a m (src:Int),a m (-1),a m die,y false]] w (RetBq w (bump own src (-1)) other):=by
 have HF:Hid (Fr w ((((w.alloc (q #[a m (P:Int),a m c,a m h,a m s] 33)).alloc (q #[d A1 n1 c1,d A2 n2 c2] 35)).alloc (q #[a m (src:Int),a m (-1),a m die,y false] 242)).alloc (q #[d none 0 0,d none 0 0] 35)) [[a m (P:Int),a m c,a m h,a m s],[d A1 n1 c1,d A2 n2 c2],[a m (src:Int),a m (-1),a m die,y false],[d none 0 0,d none 0 0]]):=((((Fr.start w).allocT (by simp) _ _).allocT (by simp) _ _).allocT (by simp) _ _).allocT (by simp) _ _
 have HH1:=h_ fun(W:World) (hw:Below w.heap.size w W)=>h1.below hw
 have HH2:=h_ fun(W:World) (hw:Below w.heap.size w W)=>h2.below hw
 have HL1:Hid (own.length=n1/\n1=P+1):=⟨h1.1,hl1⟩;have HL2:Hid (other.length=n2/\n2=P+1):=⟨h2.1,hl2⟩;have hX:=hq1 src
 have hlen1:(src:Int)<(own.length:Int):=by rw[h1.1];omega
 have hpos1:0<own.length:=by rw[h1.1];omega
 have hpos2:0<other.length:=by rw[h2.1];omega
 have hn1:0<n1/\n1<=1000:=by omega
 have hn2:0<n2/\n2<=1000:=by omega
 have hlo1:src<own.length:=by omega
 clear h1 h2 hl1 hl2
 go_enter Tryz.func227,Tryz.ntmps227
 go_wp2_with (fail)
 generalize ((((w.alloc (q #[a m (P:Int),a m c,a m h,a m s] 33)).alloc (q #[d A1 n1 c1,d A2 n2 c2] 35)).alloc (q #[a m (src:Int),a m (-1),a m die,y false] 242)).alloc (q #[d none 0 0,d none 0 0] 35))=V at *
 refine aR 6 (fun i=>i+10) (twG (w.heap.size+4) (r (some ⟨w.heap.size+1,0,none⟩)) (d A1 n1 c1) (r (some ⟨w.heap.size+1,1,none⟩)) (d A2 n2 c2) own other) twO (by kernel_rfl) (by kernel_rfl) (fq _ _ _ _ _ _ _) (kL _ _ _ _ _ _ _) ?_ ?_
 ·intro i o hi ho a' W hb hfar hdep
  have e1:a'.tmps.getD 4 undef=(r (some ⟨w.heap.size+1,0,none⟩)):=(hfar 4 (fun j _=>by omega)).trans rfl
  have good:∀(v:Value) (W':World),Below W.heap.size W W'->(twG (w.heap.size+4) (r (some ⟨w.heap.size+1,0,none⟩)) (d A1 n1 c1) (r (some ⟨w.heap.size+1,1,none⟩)) (d A2 n2 c2) own other) i v W'->(∀b,twO i v=some b->W.heap.size<=b)->MGood (twG (w.heap.size+4) (r (some ⟨w.heap.size+1,0,none⟩)) (d A1 n1 c1) (r (some ⟨w.heap.size+1,1,none⟩)) (d A2 n2 c2) own other) twO i W v W':=fun v W' h1 h2 h3=>⟨h1,h2,h3⟩
  have hlo:(w.heap.size+4)<=W.heap.size:=by have h9:=HF.out.z;have h8:=Below.size hb;simp at h9;omega
  have hi8:=i_5 hi
  rcases hi8 with rfl|rfl|rfl|rfl|rfl|rfl
  all_goals
   simp at ho
   subst ho
  ·exact .inl ⟨(r (some ⟨w.heap.size+1,0,none⟩)),W,by simp only[execOp,Act.eval,e1];go_simp,good _ _ (Below.refl _ _) rfl (fun b hb=>by simp[twO]at hb)⟩
  ·have d1:a'.tmps.getD 10 undef=_:=dp hdep 0
   have y0:=(HF.out.below hb).c1 0 rfl
   exact .inl ⟨(d A1 n1 c1),W,by simp only[execOp,Act.eval,d1];go_simp,good _ _ (Below.refl _ _) rfl (fun b hb=>by simp[twO]at hb)⟩
  ·have d1:a'.tmps.getD 11 undef=_:=dp hdep 1
   refine .inr ⟨173,#[(d A1 n1 c1)],by simp only[execOp,Act.eval,d1];go_simp,?_⟩
   refine(bS A1 n1 c1 own W (HH1.out W (HF.out.below hb).b) (by omega) (by omega)).mono ?_
   rintro e W' ⟨Aq,cq,rfl,hoq,hb'⟩
   exact⟨_,rfl,good _ _ hb' ⟨Aq,cq,rfl,aH hoq hlo⟩ (fun b hb=>by simp only[twO]at hb;exact(World.ownsRow.lt hoq b hb).1)⟩
  ·exact .inl ⟨(r (some ⟨w.heap.size+1,1,none⟩)),W,by simp only[execOp,Act.eval,e1];go_simp,good _ _ (Below.refl _ _) rfl (fun b hb=>by simp[twO]at hb)⟩
  ·have d1:a'.tmps.getD 13 undef=_:=dp hdep 3
   have y0:=(HF.out.below hb).c1 1 rfl
   exact .inl ⟨(d A2 n2 c2),W,by simp only[execOp,Act.eval,d1];go_simp,good _ _ (Below.refl _ _) rfl (fun b hb=>by simp[twO]at hb)⟩
  ·have d1:a'.tmps.getD 14 undef=_:=dp hdep 4
   refine .inr ⟨173,#[(d A2 n2 c2)],by simp only[execOp,Act.eval,d1];go_simp,?_⟩
   refine(bS A2 n2 c2 other W (HH2.out W (HF.out.below hb).b) (by omega) (by omega)).mono ?_
   rintro e W' ⟨Aq,cq,rfl,hoq,hb'⟩
   exact⟨_,rfl,good _ _ hb' ⟨Aq,cq,rfl,aH hoq hlo⟩ (fun b hb=>by simp only[twO]at hb;exact(World.ownsRow.lt hoq b hb).1)⟩
 ·intro v W2 hW hg ho
  have g0:v 0=_:=gq hg 0
  have g1:v 1=_:=gq hg 1
  obtain⟨Ax,cx,g2,hox⟩:OwnQ (w.heap.size+4) own (v 2) W2:=hg 2 (by omega)
  have g3:v 3=_:=gq hg 3
  have g4:v 4=_:=gq hg 4
  obtain⟨Ay,cy,g5,hoy⟩:OwnQ (w.heap.size+4) other (v 5) W2:=hg 5 (by omega)
  obtain⟨gx,hgx,lx1,lx2,mx,nx⟩:=ao hox (by omega)
  obtain⟨gy,hgy,ly1,ly2,my,ny⟩:=ao hoy (by omega)
  subst hgx hgy
  have hne:gx≠gy:=fun e=>ho 2 5 (by omega) (by omega) (by omega) gx (by rw[g2];rfl) (by rw[g5,<-e];rfl)
  have HOX:=h_ hox;have HOY:=h_ hoy;have HNE:=h_ hne
  simp only[List.drop_succ_cons,List.drop_zero,putV,g0,g1,g2,g3,g4,g5,Act.put]
  clear g0 g1 g2 g3 g4 g5 hg ho hox hoy hne lx2 ly2;clear mx nx my ny;have HF1:=h_ (HF.out.below hW);clear hW HF HH1 HH2
  have hne2:gy≠gx:=fun e=>HNE.out e.symm
  have hne1:gx≠gy:=HNE.out;have gz1:=lx1;have gz2:=ly1
  have N1:w.heap.size≠gx/\w.heap.size+1≠gx/\w.heap.size+1+1≠gx/\w.heap.size+1+1+1≠gx:=by omega
  have N2:w.heap.size≠gy/\w.heap.size+1≠gy/\w.heap.size+1+1≠gy/\w.heap.size+1+1+1≠gy:=by omega
  obtain⟨n1a,n1b,n1c,n1d⟩:=N1;obtain⟨n2a,n2b,n2c,n2d⟩:=N2;clear lx1 ly1;generalize hXX0:own.getD src 0=X at *;have hXX:=h_ hXX0;clear hXX0
  have qx:W2.cell? ⟨gx,src,none⟩=some (a m X):=by
   obtain⟨_,hg,_,_,qc,_⟩:=ao HOX.out (by have:=HL1.out;omega)
   injection hg with hg;injection hg with hg;subst hg
   have h99:=qc (src) (by have:=HL1.out;omega)
   rw[hXX.out]at h99
   exact h99
  have fx:W2.frozen? ⟨gx,src,none⟩=false:=by
   obtain⟨_,hg,_,_,_,qf⟩:=ao HOX.out (by have:=HL1.out;omega)
   injection hg with hg;injection hg with hg;subst hg
   exact qf (src)
  have lx:=World.block_lt_of_cell? _ _ qx;obtain⟨z0,c00,f00,c01,f01,c02,f02,c03,f03,z1,c10,f10,c11,f11,z2,c20,f20,c21,f21,c22,f22,c23,f23,z3,c30,f30,c31,f31⟩:=HF1.out.xf0
  go_wp2_with (fail)
  go_region
  clear z0 c00 f00 c01 f01 c02 f02 c03 f03 z1 c10 f10 c11 f11 z2 c20 f20 c21 f21 c22 f22 c23 f23 z3 c30 f30 c31 f31;obtain⟨Wa,hW9⟩:∃W,W=(W2.setCell ⟨gx,src,none⟩ (a m (X-1))).drew:=⟨_,rfl⟩;rw[<-hW9]
  have HFa:Hid (Fr w Wa [[a m (P:Int),a m c,a m h,a m s],[d A1 n1 c1,d A2 n2 c2],[a m (src:Int),a m (-1),a m die,y false],[d none 0 0,d none 0 0]]):=by
   rw[hW9]
   exact(HF1.out.frm (Frm.set W2 gx src _) (fun k hk=>by omega) (fun k hk=>by simp;omega)).drew
  have HO1a:Hid (OwnS Wa (w.heap.size+4) 2 (d (some ⟨gx,0,none⟩) own.length cx) (bump own src (-1))):=by
   rw[hW9]
   exact OwnS.drew ((OwnS.bump HOX.out src (-1) _ (by rw[hXX.out];omega)))
  have HO2a:Hid (OwnS Wa (w.heap.size+4) 2 (d (some ⟨gy,0,none⟩) other.length cy) other):=by
   rw[hW9]
   exact OwnS.drew (OwnS.apart HOY.out (ob_ne hne2) _)
  clear hW9 HF1 HOX HOY;clear qx fx lx;obtain⟨z0,c00,f00,c01,f01,c02,f02,c03,f03,z1,c10,f10,c11,f11,z2,c20,f20,c21,f21,c22,f22,c23,f23,z3,c30,f30,c31,f31⟩:=HFa.out.xf0
  go_wp2_with (fail)
  refine bodyPost_ret (v:=A #[d (some ⟨gx,0,none⟩) own.length cx,d (some ⟨gy,0,none⟩) other.length cy]) (by simp[results,Tryz.results227,go_sem, *]) rfl ⟨gx,cx,gy,cy,by simp only[aO],?_,?_,HNE.out,?_⟩
  ·try simp only[aO]
   exact OwnS.mono ((HO1a.out.setLow (by show w.heap.size+1+1+1<w.heap.size+4;omega) _).setLow (by show w.heap.size+1+1+1<w.heap.size+4;omega) _) (by omega)
  ·try simp only[aO]
   exact OwnS.mono ((HO2a.out.setLow (by show w.heap.size+1+1+1<w.heap.size+4;omega) _).setLow (by show w.heap.size+1+1+1<w.heap.size+4;omega) _) (by omega)
  ·repeat (first|exact HFa.out.b|refine stw ?_ (by omega))
theorem l04Apply_go(P src t:Nat)(c h s die:Int)(A1 A2:Option Addr)(n1 c1 n2 c2:Nat)(own other:List Int)(w:World)(h1:SL w A1 n1 own)(h2:SL w A2 n2 other)(hl1:n1=P+1)(hl2:n2=P+1)(hP:P<=900)(hsrc:src<=P)(ht:t<P)(hts:t≠src)(hq1:∀j,0<=own.getD j 0/\own.getD j 0<=1000):
  Calls Tryz.prog 227 #[A #[a m (P:Int),a m c,a m h,a m s],A #[d A1 n1 c1,d A2 n2 c2],A #[a m (src:Int),a m (t:Int),a m die,y false]] w (RetBq w (bump (bump own src (-1)) t 1) other):=by
 have HQ1:=h_ hq1
 have HF:Hid (Fr w ((((w.alloc (q #[a m (P:Int),a m c,a m h,a m s] 33)).alloc (q #[d A1 n1 c1,d A2 n2 c2] 35)).alloc (q #[a m (src:Int),a m (t:Int),a m die,y false] 242)).alloc (q #[d none 0 0,d none 0 0] 35)) [[a m (P:Int),a m c,a m h,a m s],[d A1 n1 c1,d A2 n2 c2],[a m (src:Int),a m (t:Int),a m die,y false],[d none 0 0,d none 0 0]]):=((((Fr.start w).allocT (by simp) _ _).allocT (by simp) _ _).allocT (by simp) _ _).allocT (by simp) _ _
 have HH1:=h_ fun(W:World) (hw:Below w.heap.size w W)=>h1.below hw
 have HH2:=h_ fun(W:World) (hw:Below w.heap.size w W)=>h2.below hw
 have HL1:Hid (own.length=n1/\n1=P+1):=⟨h1.1,hl1⟩;have HL2:Hid (other.length=n2/\n2=P+1):=⟨h2.1,hl2⟩;have hX:=hq1 src
 have hlen1:(src:Int)<(own.length:Int):=by rw[h1.1];omega
 have hpos1:0<own.length:=by rw[h1.1];omega
 have hpos2:0<other.length:=by rw[h2.1];omega
 have hn1:0<n1/\n1<=1000:=by omega
 have hn2:0<n2/\n2<=1000:=by omega
 have hlo1:src<own.length:=by omega
 clear h1 h2 hl1 hl2
 go_enter Tryz.func227,Tryz.ntmps227
 go_wp2_with (fail)
 generalize ((((w.alloc (q #[a m (P:Int),a m c,a m h,a m s] 33)).alloc (q #[d A1 n1 c1,d A2 n2 c2] 35)).alloc (q #[a m (src:Int),a m (t:Int),a m die,y false] 242)).alloc (q #[d none 0 0,d none 0 0] 35))=V at *
 refine aR 6 (fun i=>i+10) (twG (w.heap.size+4) (r (some ⟨w.heap.size+1,0,none⟩)) (d A1 n1 c1) (r (some ⟨w.heap.size+1,1,none⟩)) (d A2 n2 c2) own other) twO (by kernel_rfl) (by kernel_rfl) (fq _ _ _ _ _ _ _) (kL _ _ _ _ _ _ _) ?_ ?_
 ·intro i o hi ho a' W hb hfar hdep
  have e1:a'.tmps.getD 4 undef=(r (some ⟨w.heap.size+1,0,none⟩)):=(hfar 4 (fun j _=>by omega)).trans rfl
  have good:∀(v:Value) (W':World),Below W.heap.size W W'->(twG (w.heap.size+4) (r (some ⟨w.heap.size+1,0,none⟩)) (d A1 n1 c1) (r (some ⟨w.heap.size+1,1,none⟩)) (d A2 n2 c2) own other) i v W'->(∀b,twO i v=some b->W.heap.size<=b)->MGood (twG (w.heap.size+4) (r (some ⟨w.heap.size+1,0,none⟩)) (d A1 n1 c1) (r (some ⟨w.heap.size+1,1,none⟩)) (d A2 n2 c2) own other) twO i W v W':=fun v W' h1 h2 h3=>⟨h1,h2,h3⟩
  have hlo:(w.heap.size+4)<=W.heap.size:=by have h9:=HF.out.z;have h8:=Below.size hb;simp at h9;omega
  have hi8:=i_5 hi
  rcases hi8 with rfl|rfl|rfl|rfl|rfl|rfl
  all_goals
   simp at ho
   subst ho
  ·exact .inl ⟨(r (some ⟨w.heap.size+1,0,none⟩)),W,by simp only[execOp,Act.eval,e1];go_simp,good _ _ (Below.refl _ _) rfl (fun b hb=>by simp[twO]at hb)⟩
  ·have d1:a'.tmps.getD 10 undef=_:=dp hdep 0
   have y0:=(HF.out.below hb).c1 0 rfl
   exact .inl ⟨(d A1 n1 c1),W,by simp only[execOp,Act.eval,d1];go_simp,good _ _ (Below.refl _ _) rfl (fun b hb=>by simp[twO]at hb)⟩
  ·have d1:a'.tmps.getD 11 undef=_:=dp hdep 1
   refine .inr ⟨173,#[(d A1 n1 c1)],by simp only[execOp,Act.eval,d1];go_simp,?_⟩
   refine(bS A1 n1 c1 own W (HH1.out W (HF.out.below hb).b) (by omega) (by omega)).mono ?_
   rintro e W' ⟨Aq,cq,rfl,hoq,hb'⟩
   exact⟨_,rfl,good _ _ hb' ⟨Aq,cq,rfl,aH hoq hlo⟩ (fun b hb=>by simp only[twO]at hb;exact(World.ownsRow.lt hoq b hb).1)⟩
  ·exact .inl ⟨(r (some ⟨w.heap.size+1,1,none⟩)),W,by simp only[execOp,Act.eval,e1];go_simp,good _ _ (Below.refl _ _) rfl (fun b hb=>by simp[twO]at hb)⟩
  ·have d1:a'.tmps.getD 13 undef=_:=dp hdep 3
   have y0:=(HF.out.below hb).c1 1 rfl
   exact .inl ⟨(d A2 n2 c2),W,by simp only[execOp,Act.eval,d1];go_simp,good _ _ (Below.refl _ _) rfl (fun b hb=>by simp[twO]at hb)⟩
  ·have d1:a'.tmps.getD 14 undef=_:=dp hdep 4
   refine .inr ⟨173,#[(d A2 n2 c2)],by simp only[execOp,Act.eval,d1];go_simp,?_⟩
   refine(bS A2 n2 c2 other W (HH2.out W (HF.out.below hb).b) (by omega) (by omega)).mono ?_
   rintro e W' ⟨Aq,cq,rfl,hoq,hb'⟩
   exact⟨_,rfl,good _ _ hb' ⟨Aq,cq,rfl,aH hoq hlo⟩ (fun b hb=>by simp only[twO]at hb;exact(World.ownsRow.lt hoq b hb).1)⟩
 ·intro v W2 hW hg ho
  have g0:v 0=_:=gq hg 0
  have g1:v 1=_:=gq hg 1
  obtain⟨Ax,cx,g2,hox⟩:OwnQ (w.heap.size+4) own (v 2) W2:=hg 2 (by omega)
  have g3:v 3=_:=gq hg 3
  have g4:v 4=_:=gq hg 4
  obtain⟨Ay,cy,g5,hoy⟩:OwnQ (w.heap.size+4) other (v 5) W2:=hg 5 (by omega)
  obtain⟨gx,hgx,lx1,lx2,mx,nx⟩:=ao hox (by omega)
  obtain⟨gy,hgy,ly1,ly2,my,ny⟩:=ao hoy (by omega)
  subst hgx hgy
  have hne:gx≠gy:=fun e=>ho 2 5 (by omega) (by omega) (by omega) gx (by rw[g2];rfl) (by rw[g5,<-e];rfl)
  have HOX:=h_ hox;have HOY:=h_ hoy;have HNE:=h_ hne
  simp only[List.drop_succ_cons,List.drop_zero,putV,g0,g1,g2,g3,g4,g5,Act.put]
  clear g0 g1 g2 g3 g4 g5 hg ho hox hoy hne lx2 ly2;clear mx nx my ny;have HF1:=h_ (HF.out.below hW);clear hW HF HH1 HH2
  have hne2:gy≠gx:=fun e=>HNE.out e.symm
  have hne1:gx≠gy:=HNE.out;have gz1:=lx1;have gz2:=ly1
  have N1:w.heap.size≠gx/\w.heap.size+1≠gx/\w.heap.size+1+1≠gx/\w.heap.size+1+1+1≠gx:=by omega
  have N2:w.heap.size≠gy/\w.heap.size+1≠gy/\w.heap.size+1+1≠gy/\w.heap.size+1+1+1≠gy:=by omega
  obtain⟨n1a,n1b,n1c,n1d⟩:=N1;obtain⟨n2a,n2b,n2c,n2d⟩:=N2;clear lx1 ly1;generalize hXX0:own.getD src 0=X at *;have hXX:=h_ hXX0;clear hXX0
  have qx:W2.cell? ⟨gx,src,none⟩=some (a m X):=by
   obtain⟨_,hg,_,_,qc,_⟩:=ao HOX.out (by have:=HL1.out;omega)
   injection hg with hg;injection hg with hg;subst hg
   have h99:=qc (src) (by have:=HL1.out;omega)
   rw[hXX.out]at h99
   exact h99
  have fx:W2.frozen? ⟨gx,src,none⟩=false:=by
   obtain⟨_,hg,_,_,_,qf⟩:=ao HOX.out (by have:=HL1.out;omega)
   injection hg with hg;injection hg with hg;subst hg
   exact qf (src)
  have lx:=World.block_lt_of_cell? _ _ qx;have hY:=HQ1.out t
  have htl:(t:Int)<(own.length:Int):=by rw[HL1.out.1,HL1.out.2];omega
  have hge:0<=(t:Int):=by omega
  generalize hYY0:own.getD t 0=Y at *;have hYY:=h_ hYY0;clear hYY0 HQ1 hq1;obtain⟨z0,c00,f00,c01,f01,c02,f02,c03,f03,z1,c10,f10,c11,f11,z2,c20,f20,c21,f21,c22,f22,c23,f23,z3,c30,f30,c31,f31⟩:=HF1.out.xf0
  go_wp2_with (fail)
  go_region
  clear z0 c00 f00 c01 f01 c02 f02 c03 f03 z1 c10 f10 c11 f11 z2 c20 f20 c21 f21 c22 f22 c23 f23 z3 c30 f30 c31 f31;obtain⟨Wa,hW9⟩:∃W,W=(W2.setCell ⟨gx,src,none⟩ (a m (X-1))).drew:=⟨_,rfl⟩;rw[<-hW9]
  have HFa:Hid (Fr w Wa [[a m (P:Int),a m c,a m h,a m s],[d A1 n1 c1,d A2 n2 c2],[a m (src:Int),a m (t:Int),a m die,y false],[d none 0 0,d none 0 0]]):=by
   rw[hW9]
   exact(HF1.out.frm (Frm.set W2 gx src _) (fun k hk=>by omega) (fun k hk=>by simp;omega)).drew
  have HO1a:Hid (OwnS Wa (w.heap.size+4) 2 (d (some ⟨gx,0,none⟩) own.length cx) (bump own src (-1))):=by
   rw[hW9]
   exact OwnS.drew ((OwnS.bump HOX.out src (-1) _ (by rw[hXX.out];omega)))
  have HO2a:Hid (OwnS Wa (w.heap.size+4) 2 (d (some ⟨gy,0,none⟩) other.length cy) other):=by
   rw[hW9]
   exact OwnS.drew (OwnS.apart HOY.out (ob_ne hne2) _)
  clear hW9 HF1 HOX HOY;clear qx fx lx
  have hBY:(bump own src (-1)).getD t 0=Y:=by rw[dG _ _ _ _ (by have:=HL1.out;omega),if_neg hts,hYY.out,Int.add_zero]
  have HBY:=h_ hBY;clear hBY
  have qy:Wa.cell? ⟨gx,t,none⟩=some (a m Y):=by
   obtain⟨_,hg,_,_,qc,_⟩:=ao HO1a.out (by have:=HL1.out;omega)
   injection hg with hg;injection hg with hg;subst hg
   have h99:=qc (t) (by have:=HL1.out;omega)
   rw[HBY.out]at h99
   exact h99
  have fy:Wa.frozen? ⟨gx,t,none⟩=false:=by
   obtain⟨_,hg,_,_,_,qf⟩:=ao HO1a.out (by have:=HL1.out;omega)
   injection hg with hg;injection hg with hg;subst hg
   exact qf (t)
  have ly:=World.block_lt_of_cell? _ _ qy;obtain⟨z0,c00,f00,c01,f01,c02,f02,c03,f03,z1,c10,f10,c11,f11,z2,c20,f20,c21,f21,c22,f22,c23,f23,z3,c30,f30,c31,f31⟩:=HFa.out.xf0
  go_wp2_with (fail)
  go_region
  clear z0 c00 f00 c01 f01 c02 f02 c03 f03 z1 c10 f10 c11 f11 z2 c20 f20 c21 f21 c22 f22 c23 f23 z3 c30 f30 c31 f31;obtain⟨Wb,hW9⟩:∃W,W=(Wa.setCell ⟨gx,t,none⟩ (a m (Y+1))).drew:=⟨_,rfl⟩;rw[<-hW9]
  have HFb:Hid (Fr w Wb [[a m (P:Int),a m c,a m h,a m s],[d A1 n1 c1,d A2 n2 c2],[a m (src:Int),a m (t:Int),a m die,y false],[d none 0 0,d none 0 0]]):=by
   rw[hW9]
   exact(HFa.out.frm (Frm.set Wa gx t _) (fun k hk=>by omega) (fun k hk=>by simp;omega)).drew
  have HO1b:Hid (OwnS Wb (w.heap.size+4) 2 (d (some ⟨gx,0,none⟩) own.length cx) (bump (bump own src (-1)) t 1)):=by
   rw[hW9]
   exact OwnS.drew ((OwnS.bump (xs:=bump own src (-1)) HO1a.out t 1 _ (by rw[HBY.out])))
  have HO2b:Hid (OwnS Wb (w.heap.size+4) 2 (d (some ⟨gy,0,none⟩) other.length cy) other):=by
   rw[hW9]
   exact OwnS.drew (OwnS.apart HO2a.out (ob_ne hne2) _)
  clear hW9 HFa HO1a HO2a;clear qy fy ly;obtain⟨z0,c00,f00,c01,f01,c02,f02,c03,f03,z1,c10,f10,c11,f11,z2,c20,f20,c21,f21,c22,f22,c23,f23,z3,c30,f30,c31,f31⟩:=HFb.out.xf0
  go_wp2_with (fail)
  refine bodyPost_ret (v:=A #[d (some ⟨gx,0,none⟩) own.length cx,d (some ⟨gy,0,none⟩) other.length cy]) (by simp[results,Tryz.results227,go_sem, *]) rfl ⟨gx,cx,gy,cy,by simp only[aO],?_,?_,HNE.out,?_⟩
  ·try simp only[aO]
   exact OwnS.mono ((HO1b.out.setLow (by show w.heap.size+1+1+1<w.heap.size+4;omega) _).setLow (by show w.heap.size+1+1+1<w.heap.size+4;omega) _) (by omega)
  ·try simp only[aO]
   exact OwnS.mono ((HO2b.out.setLow (by show w.heap.size+1+1+1<w.heap.size+4;omega) _).setLow (by show w.heap.size+1+1+1<w.heap.size+4;omega) _) (by omega)
  ·repeat (first|exact HFb.out.b|refine stw ?_ (by omega))
theorem l04Apply_hit(P src t:Nat)(c h s die:Int)(A1 A2:Option Addr)(n1 c1 n2 c2:Nat)(own other:List Int)(w:World)(h1:SL w A1 n1 own)(h2:SL w A2 n2 other)(hl1:n1=P+1)(hl2:n2=P+1)(hP:P<=900)(hsrc:src<=P)(ht:t<P)(hts:t≠src)(hq1:∀j,0<=own.getD j 0/\own.getD j 0<=1000)(hq2:∀j,0<=other.getD j 0/\other.getD j 0<=1000):
  Calls Tryz.prog 227 #[A #[a m (P:Int),a m c,a m h,a m s],A #[d A1 n1 c1,d A2 n2 c2],A #[a m (src:Int),a m (t:Int),a m die,y true]] w (RetBq w (bump (bump own src (-1)) t 1) (bump (bump other (P-1-t) (-1)) P 1)):=by
 obtain⟨K,hK⟩:∃K,K=P-1-t:=⟨_,rfl⟩;rw[<-hK];have HQ2:=h_ hq2;have HQ1:=h_ hq1
 have HF:Hid (Fr w ((((w.alloc (q #[a m (P:Int),a m c,a m h,a m s] 33)).alloc (q #[d A1 n1 c1,d A2 n2 c2] 35)).alloc (q #[a m (src:Int),a m (t:Int),a m die,y true] 242)).alloc (q #[d none 0 0,d none 0 0] 35)) [[a m (P:Int),a m c,a m h,a m s],[d A1 n1 c1,d A2 n2 c2],[a m (src:Int),a m (t:Int),a m die,y true],[d none 0 0,d none 0 0]]):=((((Fr.start w).allocT (by simp) _ _).allocT (by simp) _ _).allocT (by simp) _ _).allocT (by simp) _ _
 have HH1:=h_ fun(W:World) (hw:Below w.heap.size w W)=>h1.below hw
 have HH2:=h_ fun(W:World) (hw:Below w.heap.size w W)=>h2.below hw
 have HL1:Hid (own.length=n1/\n1=P+1):=⟨h1.1,hl1⟩;have HL2:Hid (other.length=n2/\n2=P+1):=⟨h2.1,hl2⟩;have hX:=hq1 src
 have hlen1:(src:Int)<(own.length:Int):=by rw[h1.1];omega
 have hpos1:0<own.length:=by rw[h1.1];omega
 have hpos2:0<other.length:=by rw[h2.1];omega
 have hn1:0<n1/\n1<=1000:=by omega
 have hn2:0<n2/\n2<=1000:=by omega
 have hlo1:src<own.length:=by omega
 clear h1 h2 hl1 hl2
 go_enter Tryz.func227,Tryz.ntmps227
 go_wp2_with (fail)
 generalize ((((w.alloc (q #[a m (P:Int),a m c,a m h,a m s] 33)).alloc (q #[d A1 n1 c1,d A2 n2 c2] 35)).alloc (q #[a m (src:Int),a m (t:Int),a m die,y true] 242)).alloc (q #[d none 0 0,d none 0 0] 35))=V at *
 refine aR 6 (fun i=>i+10) (twG (w.heap.size+4) (r (some ⟨w.heap.size+1,0,none⟩)) (d A1 n1 c1) (r (some ⟨w.heap.size+1,1,none⟩)) (d A2 n2 c2) own other) twO (by kernel_rfl) (by kernel_rfl) (fq _ _ _ _ _ _ _) (kL _ _ _ _ _ _ _) ?_ ?_
 ·intro i o hi ho a' W hb hfar hdep
  have e1:a'.tmps.getD 4 undef=(r (some ⟨w.heap.size+1,0,none⟩)):=(hfar 4 (fun j _=>by omega)).trans rfl
  have good:∀(v:Value) (W':World),Below W.heap.size W W'->(twG (w.heap.size+4) (r (some ⟨w.heap.size+1,0,none⟩)) (d A1 n1 c1) (r (some ⟨w.heap.size+1,1,none⟩)) (d A2 n2 c2) own other) i v W'->(∀b,twO i v=some b->W.heap.size<=b)->MGood (twG (w.heap.size+4) (r (some ⟨w.heap.size+1,0,none⟩)) (d A1 n1 c1) (r (some ⟨w.heap.size+1,1,none⟩)) (d A2 n2 c2) own other) twO i W v W':=fun v W' h1 h2 h3=>⟨h1,h2,h3⟩
  have hlo:(w.heap.size+4)<=W.heap.size:=by have h9:=HF.out.z;have h8:=Below.size hb;simp at h9;omega
  have hi8:=i_5 hi
  rcases hi8 with rfl|rfl|rfl|rfl|rfl|rfl
  all_goals
   simp at ho
   subst ho
  ·exact .inl ⟨(r (some ⟨w.heap.size+1,0,none⟩)),W,by simp only[execOp,Act.eval,e1];go_simp,good _ _ (Below.refl _ _) rfl (fun b hb=>by simp[twO]at hb)⟩
  ·have d1:a'.tmps.getD 10 undef=_:=dp hdep 0
   have y0:=(HF.out.below hb).c1 0 rfl
   exact .inl ⟨(d A1 n1 c1),W,by simp only[execOp,Act.eval,d1];go_simp,good _ _ (Below.refl _ _) rfl (fun b hb=>by simp[twO]at hb)⟩
  ·have d1:a'.tmps.getD 11 undef=_:=dp hdep 1
   refine .inr ⟨173,#[(d A1 n1 c1)],by simp only[execOp,Act.eval,d1];go_simp,?_⟩
   refine(bS A1 n1 c1 own W (HH1.out W (HF.out.below hb).b) (by omega) (by omega)).mono ?_
   rintro e W' ⟨Aq,cq,rfl,hoq,hb'⟩
   exact⟨_,rfl,good _ _ hb' ⟨Aq,cq,rfl,aH hoq hlo⟩ (fun b hb=>by simp only[twO]at hb;exact(World.ownsRow.lt hoq b hb).1)⟩
  ·exact .inl ⟨(r (some ⟨w.heap.size+1,1,none⟩)),W,by simp only[execOp,Act.eval,e1];go_simp,good _ _ (Below.refl _ _) rfl (fun b hb=>by simp[twO]at hb)⟩
  ·have d1:a'.tmps.getD 13 undef=_:=dp hdep 3
   have y0:=(HF.out.below hb).c1 1 rfl
   exact .inl ⟨(d A2 n2 c2),W,by simp only[execOp,Act.eval,d1];go_simp,good _ _ (Below.refl _ _) rfl (fun b hb=>by simp[twO]at hb)⟩
  ·have d1:a'.tmps.getD 14 undef=_:=dp hdep 4
   refine .inr ⟨173,#[(d A2 n2 c2)],by simp only[execOp,Act.eval,d1];go_simp,?_⟩
   refine(bS A2 n2 c2 other W (HH2.out W (HF.out.below hb).b) (by omega) (by omega)).mono ?_
   rintro e W' ⟨Aq,cq,rfl,hoq,hb'⟩
   exact⟨_,rfl,good _ _ hb' ⟨Aq,cq,rfl,aH hoq hlo⟩ (fun b hb=>by simp only[twO]at hb;exact(World.ownsRow.lt hoq b hb).1)⟩
 ·intro v W2 hW hg ho
  have g0:v 0=_:=gq hg 0
  have g1:v 1=_:=gq hg 1
  obtain⟨Ax,cx,g2,hox⟩:OwnQ (w.heap.size+4) own (v 2) W2:=hg 2 (by omega)
  have g3:v 3=_:=gq hg 3
  have g4:v 4=_:=gq hg 4
  obtain⟨Ay,cy,g5,hoy⟩:OwnQ (w.heap.size+4) other (v 5) W2:=hg 5 (by omega)
  obtain⟨gx,hgx,lx1,lx2,mx,nx⟩:=ao hox (by omega)
  obtain⟨gy,hgy,ly1,ly2,my,ny⟩:=ao hoy (by omega)
  subst hgx hgy
  have hne:gx≠gy:=fun e=>ho 2 5 (by omega) (by omega) (by omega) gx (by rw[g2];rfl) (by rw[g5,<-e];rfl)
  have HOX:=h_ hox;have HOY:=h_ hoy;have HNE:=h_ hne
  simp only[List.drop_succ_cons,List.drop_zero,putV,g0,g1,g2,g3,g4,g5,Act.put]
  clear g0 g1 g2 g3 g4 g5 hg ho hox hoy hne lx2 ly2;clear mx nx my ny;have HF1:=h_ (HF.out.below hW);clear hW HF HH1 HH2
  have hne2:gy≠gx:=fun e=>HNE.out e.symm
  have hne1:gx≠gy:=HNE.out;have gz1:=lx1;have gz2:=ly1
  have N1:w.heap.size≠gx/\w.heap.size+1≠gx/\w.heap.size+1+1≠gx/\w.heap.size+1+1+1≠gx:=by omega
  have N2:w.heap.size≠gy/\w.heap.size+1≠gy/\w.heap.size+1+1≠gy/\w.heap.size+1+1+1≠gy:=by omega
  obtain⟨n1a,n1b,n1c,n1d⟩:=N1;obtain⟨n2a,n2b,n2c,n2d⟩:=N2;clear lx1 ly1;generalize hXX0:own.getD src 0=X at *;have hXX:=h_ hXX0;clear hXX0
  have qx:W2.cell? ⟨gx,src,none⟩=some (a m X):=by
   obtain⟨_,hg,_,_,qc,_⟩:=ao HOX.out (by have:=HL1.out;omega)
   injection hg with hg;injection hg with hg;subst hg
   have h99:=qc (src) (by have:=HL1.out;omega)
   rw[hXX.out]at h99
   exact h99
  have fx:W2.frozen? ⟨gx,src,none⟩=false:=by
   obtain⟨_,hg,_,_,_,qf⟩:=ao HOX.out (by have:=HL1.out;omega)
   injection hg with hg;injection hg with hg;subst hg
   exact qf (src)
  have lx:=World.block_lt_of_cell? _ _ qx;have hY:=HQ1.out t
  have htl:(t:Int)<(own.length:Int):=by rw[HL1.out.1,HL1.out.2];omega
  have hge:0<=(t:Int):=by omega
  generalize hYY0:own.getD t 0=Y at *;have hYY:=h_ hYY0;clear hYY0 HQ1 hq1
  have hK0:(P:Int)-1-(t:Int)<(other.length:Int):=by rw[HL2.out.1,HL2.out.2];omega
  have hK1:0<=(P:Int)-1-(t:Int):=by omega
  have hK2:((P:Int)-1-(t:Int)).toNat=K:=by omega
  have hKP:K≠P:=by omega
  have hKP2:P≠K:=by omega
  have hPl:(P:Int)<(other.length:Int):=by rw[HL2.out.1,HL2.out.2];omega
  have hlo2:K<other.length:=by rw[HL2.out.1,HL2.out.2];omega
  have hZ:=HQ2.out K;have hU:=HQ2.out P;generalize hZZ0:other.getD K 0=Z at *;generalize hUU0:other.getD P 0=U at *;have hZZ:=h_ hZZ0
  have HBU:Hid ((bump other K (-1)).getD P 0=U):=by unfold Hid;rw[dG _ _ _ _ hlo2,if_neg hKP2,hUU0,Int.add_zero]
  clear hZZ0 hUU0 HQ2 hq2 hK;obtain⟨z0,c00,f00,c01,f01,c02,f02,c03,f03,z1,c10,f10,c11,f11,z2,c20,f20,c21,f21,c22,f22,c23,f23,z3,c30,f30,c31,f31⟩:=HF1.out.xf0
  go_wp2_with (fail)
  go_region
  clear z0 c00 f00 c01 f01 c02 f02 c03 f03 z1 c10 f10 c11 f11 z2 c20 f20 c21 f21 c22 f22 c23 f23 z3 c30 f30 c31 f31;obtain⟨Wa,hW9⟩:∃W,W=(W2.setCell ⟨gx,src,none⟩ (a m (X-1))).drew:=⟨_,rfl⟩;rw[<-hW9]
  have HFa:Hid (Fr w Wa [[a m (P:Int),a m c,a m h,a m s],[d A1 n1 c1,d A2 n2 c2],[a m (src:Int),a m (t:Int),a m die,y true],[d none 0 0,d none 0 0]]):=by
   rw[hW9]
   exact(HF1.out.frm (Frm.set W2 gx src _) (fun k hk=>by omega) (fun k hk=>by simp;omega)).drew
  have HO1a:Hid (OwnS Wa (w.heap.size+4) 2 (d (some ⟨gx,0,none⟩) own.length cx) (bump own src (-1))):=by
   rw[hW9]
   exact OwnS.drew ((OwnS.bump HOX.out src (-1) _ (by rw[hXX.out];omega)))
  have HO2a:Hid (OwnS Wa (w.heap.size+4) 2 (d (some ⟨gy,0,none⟩) other.length cy) other):=by
   rw[hW9]
   exact OwnS.drew (OwnS.apart HOY.out (ob_ne hne2) _)
  clear hW9 HF1 HOX HOY;clear qx fx lx
  have hBY:(bump own src (-1)).getD t 0=Y:=by rw[dG _ _ _ _ (by have:=HL1.out;omega),if_neg hts,hYY.out,Int.add_zero]
  have HBY:=h_ hBY;clear hBY
  have qy:Wa.cell? ⟨gx,t,none⟩=some (a m Y):=by
   obtain⟨_,hg,_,_,qc,_⟩:=ao HO1a.out (by have:=HL1.out;omega)
   injection hg with hg;injection hg with hg;subst hg
   have h99:=qc (t) (by have:=HL1.out;omega)
   rw[HBY.out]at h99
   exact h99
  have fy:Wa.frozen? ⟨gx,t,none⟩=false:=by
   obtain⟨_,hg,_,_,_,qf⟩:=ao HO1a.out (by have:=HL1.out;omega)
   injection hg with hg;injection hg with hg;subst hg
   exact qf (t)
  have ly:=World.block_lt_of_cell? _ _ qy;obtain⟨z0,c00,f00,c01,f01,c02,f02,c03,f03,z1,c10,f10,c11,f11,z2,c20,f20,c21,f21,c22,f22,c23,f23,z3,c30,f30,c31,f31⟩:=HFa.out.xf0
  go_wp2_with (fail)
  go_region
  clear z0 c00 f00 c01 f01 c02 f02 c03 f03 z1 c10 f10 c11 f11 z2 c20 f20 c21 f21 c22 f22 c23 f23 z3 c30 f30 c31 f31;obtain⟨Wb,hW9⟩:∃W,W=(Wa.setCell ⟨gx,t,none⟩ (a m (Y+1))).drew:=⟨_,rfl⟩;rw[<-hW9]
  have HFb:Hid (Fr w Wb [[a m (P:Int),a m c,a m h,a m s],[d A1 n1 c1,d A2 n2 c2],[a m (src:Int),a m (t:Int),a m die,y true],[d none 0 0,d none 0 0]]):=by
   rw[hW9]
   exact(HFa.out.frm (Frm.set Wa gx t _) (fun k hk=>by omega) (fun k hk=>by simp;omega)).drew
  have HO1b:Hid (OwnS Wb (w.heap.size+4) 2 (d (some ⟨gx,0,none⟩) own.length cx) (bump (bump own src (-1)) t 1)):=by
   rw[hW9]
   exact OwnS.drew ((OwnS.bump (xs:=bump own src (-1)) HO1a.out t 1 _ (by rw[HBY.out])))
  have HO2b:Hid (OwnS Wb (w.heap.size+4) 2 (d (some ⟨gy,0,none⟩) other.length cy) other):=by
   rw[hW9]
   exact OwnS.drew (OwnS.apart HO2a.out (ob_ne hne2) _)
  clear hW9 HFa HO1a HO2a;clear qy fy ly
  have qz:Wb.cell? ⟨gy,K,none⟩=some (a m Z):=by
   obtain⟨_,hg,_,_,qc,_⟩:=ao HO2b.out (by have:=HL2.out;omega)
   injection hg with hg;injection hg with hg;subst hg
   have h99:=qc (K) (by have:=HL2.out;omega)
   rw[hZZ.out]at h99
   exact h99
  have fz:Wb.frozen? ⟨gy,K,none⟩=false:=by
   obtain⟨_,hg,_,_,_,qf⟩:=ao HO2b.out (by have:=HL2.out;omega)
   injection hg with hg;injection hg with hg;subst hg
   exact qf (K)
  have lz:=World.block_lt_of_cell? _ _ qz;obtain⟨z0,c00,f00,c01,f01,c02,f02,c03,f03,z1,c10,f10,c11,f11,z2,c20,f20,c21,f21,c22,f22,c23,f23,z3,c30,f30,c31,f31⟩:=HFb.out.xf0
  go_upto_region 8 with (fail)
  clear z0 c00 f00 c01 f01 c02 f02 c03 f03 z1 c10 f10 c11 f11 z2 c20 f20 c21 f21 c22 f22 c23 f23 z3 c30 f30 c31 f31;obtain⟨Wc,hW9⟩:∃W,W=Wb.setCell ⟨gy,K,none⟩ (a m (Z-1)):=⟨_,rfl⟩;rw[<-hW9]
  have HFc:Hid (Fr w Wc [[a m (P:Int),a m c,a m h,a m s],[d A1 n1 c1,d A2 n2 c2],[a m (src:Int),a m (t:Int),a m die,y true],[d none 0 0,d none 0 0]]):=by
   rw[hW9]
   exact(HFb.out.frm (Frm.set Wb gy K _) (fun k hk=>by omega) (fun k hk=>by simp;omega))
  have HO1c:Hid (OwnS Wc (w.heap.size+4) 2 (d (some ⟨gx,0,none⟩) own.length cx) (bump (bump own src (-1)) t 1)):=by
   rw[hW9]
   exact OwnS.apart HO1b.out (ob_ne hne1) _
  have HO2c:Hid (OwnS Wc (w.heap.size+4) 2 (d (some ⟨gy,0,none⟩) other.length cy) (bump other K (-1))):=by
   rw[hW9]
   exact HO2b.out.bump K (-1) _ (by rw[hZZ.out];omega)
  clear hW9 HFb HO1b HO2b;clear qz fz lz
  have qu:Wc.cell? ⟨gy,P,none⟩=some (a m U):=by
   obtain⟨_,hg,_,_,qc,_⟩:=ao HO2c.out (by have:=HL2.out;omega)
   injection hg with hg;injection hg with hg;subst hg
   have h99:=qc (P) (by have:=HL2.out;omega)
   rw[HBU.out]at h99
   exact h99
  have fu:Wc.frozen? ⟨gy,P,none⟩=false:=by
   obtain⟨_,hg,_,_,_,qf⟩:=ao HO2c.out (by have:=HL2.out;omega)
   injection hg with hg;injection hg with hg;subst hg
   exact qf (P)
  have lu:=World.block_lt_of_cell? _ _ qu;obtain⟨z0,c00,f00,c01,f01,c02,f02,c03,f03,z1,c10,f10,c11,f11,z2,c20,f20,c21,f21,c22,f22,c23,f23,z3,c30,f30,c31,f31⟩:=HFc.out.xf0
  go_region
  clear z0 c00 f00 c01 f01 c02 f02 c03 f03 z1 c10 f10 c11 f11 z2 c20 f20 c21 f21 c22 f22 c23 f23 z3 c30 f30 c31 f31;obtain⟨Wd,hW9⟩:∃W,W=(Wc.setCell ⟨gy,P,none⟩ (a m (U+1))).drew:=⟨_,rfl⟩;rw[<-hW9]
  have HFd:Hid (Fr w Wd [[a m (P:Int),a m c,a m h,a m s],[d A1 n1 c1,d A2 n2 c2],[a m (src:Int),a m (t:Int),a m die,y true],[d none 0 0,d none 0 0]]):=by
   rw[hW9]
   exact(HFc.out.frm (Frm.set Wc gy P _) (fun k hk=>by omega) (fun k hk=>by simp;omega)).drew
  have HO1d:Hid (OwnS Wd (w.heap.size+4) 2 (d (some ⟨gx,0,none⟩) own.length cx) (bump (bump own src (-1)) t 1)):=by
   rw[hW9]
   exact OwnS.drew (OwnS.apart HO1c.out (ob_ne hne1) _)
  have HO2d:Hid (OwnS Wd (w.heap.size+4) 2 (d (some ⟨gy,0,none⟩) other.length cy) (bump (bump other K (-1)) P 1)):=by
   rw[hW9]
   exact OwnS.drew ((OwnS.bump (xs:=bump other K (-1)) HO2c.out P 1 _ (by rw[HBU.out])))
  clear hW9 HFc HO1c HO2c;clear qu fu lu;obtain⟨z0,c00,f00,c01,f01,c02,f02,c03,f03,z1,c10,f10,c11,f11,z2,c20,f20,c21,f21,c22,f22,c23,f23,z3,c30,f30,c31,f31⟩:=HFd.out.xf0
  go_wp2_with (fail)
  refine bodyPost_ret (v:=A #[d (some ⟨gx,0,none⟩) own.length cx,d (some ⟨gy,0,none⟩) other.length cy]) (by simp[results,Tryz.results227,go_sem, *]) rfl ⟨gx,cx,gy,cy,by simp only[aO],?_,?_,HNE.out,?_⟩
  ·try simp only[aO]
   exact OwnS.mono ((HO1d.out.setLow (by show w.heap.size+1+1+1<w.heap.size+4;omega) _).setLow (by show w.heap.size+1+1+1<w.heap.size+4;omega) _) (by omega)
  ·try simp only[aO]
   exact OwnS.mono ((HO2d.out.setLow (by show w.heap.size+1+1+1<w.heap.size+4;omega) _).setLow (by show w.heap.size+1+1+1<w.heap.size+4;omega) _) (by omega)
  ·repeat (first|exact HFd.out.b|refine stw ?_ (by omega))
theorem l04Apply_any(P src die hN:Nat)(st:Stp)(c h s:Int)(C:Nat)(A1 A2:Option Addr)(n1 c1 n2 c2:Nat)(own other:List Int)(w:World)(h1:SL w A1 n1 own)(h2:SL w A2 n2 other)(hb:Sd P C (own,other))(hC:C<=1000)(hP:P<=900)(hsrc:src<=P)(hd:1<=die)(hst:stepP P hN (own,other) src die=some st):
  Calls Tryz.prog 227 #[A #[a m (P:Int),a m c,a m h,a m s],A #[d A1 n1 c1,d A2 n2 c2],stVal st die] w (RetBq w (aT P (own,other) st).1 (aT P (own,other) st).2):=by
 have e1:n1=P+1:=by rw[<-h1.1];exact hb.len1
 have e2:n2=P+1:=by rw[<-h2.1];exact hb.len2
 have b1:=lO hb.1 hC;have b2:=lO hb.2 hC;obtain⟨q1,q2,q3⟩:=gK hst;obtain⟨ss,sd,sh⟩:=st
 simp only at q1 q3
 subst q1
 rcases q3 with⟨q4,q5,q6⟩|⟨q5,q6⟩
 ·subst q5
  have hn0:(0:Int)<=((ss-die:Nat):Int):=by omega
  rcases sh with _|_
  ·have ea:aT P (own,other) ⟨ss,((ss-die:Nat):Int),false⟩=(bump (bump own ss (-1)) (ss-die) 1,other):=by
    unfold aT;simp only[if_pos hn0,Int.toNat_natCast];rfl
   rw[ea]
   exact l04Apply_go P ss (ss-die) c h s die A1 A2 n1 c1 n2 c2 own other w h1 h2 e1 e2 hP hsrc (by omega) (by omega) b1
  ·have ea:aT P (own,other) ⟨ss,((ss-die:Nat):Int),true⟩=(bump (bump own ss (-1)) (ss-die) 1,bump (bump other (P-1-(ss-die)) (-1)) P 1):=by
    unfold aT;simp only[if_pos hn0,Int.toNat_natCast,if_true]
   rw[ea]
   exact l04Apply_hit P ss (ss-die) c h s die A1 A2 n1 c1 n2 c2 own other w h1 h2 e1 e2 hP hsrc (by omega) (by omega) b1 b2
 ·subst q5 q6
  have ea:aT P (own,other) ⟨ss,-1,false⟩=(bump own ss (-1),other):=rfl;rw[ea]
  exact l04Apply_off P ss c h s die A1 A2 n1 c1 n2 c2 own other w h1 h2 e1 e2 hP hsrc b1
end Go.Proofs.YtcmeoenkgmghkaaGreat

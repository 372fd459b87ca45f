/- Part of one proof. There are no conditions. -/
import Derived.Test.YtcmeoenkgmghkaaGreatPY4
set_option maxHeartbeats 0
set_option linter.unusedVariables false
set_option linter.unusedSimpArgs false
set_option maxRecDepth 100000
open Go.Value renaming int->a,slice->d,pointer->C,bool->D,agg->I
open Go.IntKind renaming i64->y
open Go.Obj renaming cells->B
open Go.Ending renaming returned->F
namespace Go.Proofs.YtcmeoenkgmghkaaGreat
open Go.RowKit Pl
theorem Tryz.infoSt:(Tryz.prog.info? 242).map (fun i=>(i.zero,i.size,i.bytes))=some (some (I #[a y 0,a y 0,a y 0,D false]),4,32):=by kernel_rfl
def stC(die:Nat)(s:Stp):List Value:=[a y (s.src:Int),a y s.dst,a y (die:Int),D s.hit]
def stCs(die:Nat)(l:List Stp):List Value:=l.flatMap (stC die)
theorem stC_cells(die:Nat)(s:Stp):∀u∈stC die s,u.oneCell'=true:=fun u hu=>by
 simp[stC]at hu
 rcases hu with rfl|rfl|rfl|rfl<;>rfl
def RetSt(w:World)(die:Nat)(l:List Stp)(e:Ending)(w':World):Prop:=∃v,e=F v/\w'.ownsRow w.heap.size 242 4 v l.length (stCs die l)/\Below w.heap.size w w'
def legO(p h:Nat)(b:Bd)(die:Nat)(i:Nat):List Stp:=if overB b=true then []else legI p h b die i
theorem legO_succ(p h:Nat)(b:Bd)(die i:Nat):legO p h b die (i+1)=legO p h b die i++(if overB b=true then none else stepP p h b (p-i) die).toList:=by
 unfold legO
 split<;>rfl
theorem legO_zero(p h:Nat)(b:Bd)(die:Nat):legO p h b die 0=[]:=by
 unfold legO
 split<;>rfl
theorem legO_len{p h:Nat}{b:Bd}{die:Nat}(i:Nat):(legO p h b die i).length<=i:=by
 unfold legO
 split
 ·simp
 ·exact js i
theorem legal_legO(p h:Nat)(b:Bd)(die:Nat):legal p h b die=legO p h b die (p+1-0):=rfl
theorem kA(P h die:Nat)(c s:Int)(A1 A2:Option Addr)(n1 c1 n2 c2:Nat)(own other:List Int)(w:World)(h1:SL w A1 n1 own)(h2:SL w A2 n2 other)(hl1:n1=P+1)(hl2:n2=P+1)(hP:P<=1000)(hd1:1<=die)(hd2:die<=1000)(hh:h<=1000)
  (hq1:∀x∈own,0<=x) (hq2:∀x∈other,0<=x) (hm1:own.sum<=2000000) (hm2:other.sum<=2000000):
  Calls Tryz.prog 229 #[I #[a y (P:Int),a y c,a y (h:Int),a y s],I #[d A1 n1 c1,d A2 n2 c2],a y (die:Int)] w (RetSt w die (legal P h (own,other) die)):=by
 obtain⟨i0,hi,iz0,iz1,iz2⟩:=info_parts Tryz.infoSt
 have CS:=h_ fun(m:Nat) (W:World) (hw:Below w.heap.size w W) (hmP:m<=P)=>stepFrom_any P h m die c s A1 A2 n1 c1 n2 c2 own other W (h1.below hw) (h2.below hw) hl1 hl2 hP (by omega) hd1 hd2 hh
 have CV:=h_ fun(W:World) (hw:Below w.heap.size w W)=>eI A1 A2 n1 c1 n2 c2 own other W (h1.below hw) (h2.below hw) hq1 hq2 hm1 hm2 (by omega) (by omega)
 have HF:Hid (Fr w ((w.alloc (B #[a y (P:Int),a y c,a y (h:Int),a y s] 33)).alloc (B #[d A1 n1 c1,d A2 n2 c2] 35)) [[a y (P:Int),a y c,a y (h:Int),a y s],[d A1 n1 c1,d A2 n2 c2]]):=((Fr.start w).allocT (by simp) _ _).allocT (by simp) _ _
 clear h1 h2 hq1 hq2 hm1 hm2 hl1 hl2
 by_cases hov:overB (own,other)=true
 ·have HR:Hid (∀W:World,Below w.heap.size w W->RetSt w die (legal P h (own,other) die) (F (d none 0 0)) W):=fun W hw=>⟨_,rfl,by unfold legal;rw[if_pos hov];exact World.ownsRow_nil _ _ _ _,hw⟩
  have CV2:Hid (∀W:World,Below w.heap.size w W->Calls Tryz.prog 155 #[I #[d A1 n1 c1,d A2 n2 c2]] W fun e w'=>e=F (D true)/\Below W.heap.size W w'):=fun W hw=>by
   have h:=CV.out W hw
   rw[show decide (own.sum=0\/other.sum=0)=true from hov]at h
   exact h
  clear hov CV CS
  go_enter Tryz.func229,Tryz.ntmps229
  go_wp2_with (fail)
  refine(CV2.out _ HF.out.b).mono ?_
  rintro e w1 ⟨rfl,hb1⟩
  have HF1:=h_ (HF.out.below hb1);clear hb1 HF CV2
  go_wp2_with (fail)
  go_ret
  exact HR.out _ HF1.out.b
 ·have hov2:overB (own,other)=false:=by simpa using hov
  have HOV:Hid (legal P h (own,other) die=legI P h (own,other) die (P+1-0)):=by unfold Hid legal;rw[if_neg hov];rfl
  have CV2:Hid (∀W:World,Below w.heap.size w W->Calls Tryz.prog 155 #[I #[d A1 n1 c1,d A2 n2 c2]] W fun e w'=>e=F (D false)/\Below W.heap.size W w'):=fun W hw=>by
   have h:=CV.out W hw
   rw[show decide (own.sum=0\/other.sum=0)=false from hov2]at h
   exact h
  clear hov hov2 CV
  go_enter Tryz.func229,Tryz.ntmps229
  go_wp2_with (fail)
  refine(CV2.out _ HF.out.b).mono ?_
  rintro e w1 ⟨rfl,hb1⟩
  have HF1:=h_ (HF.out.below hb1);clear hb1 HF CV2;have c00:=HF1.out.c0 0 rfl
  go_wp2_with (fail)
  clear c00;have HF:=HF1;clear HF1;have HST:Hid (w1.ownsRow (w.heap.size+2) 242 4 (d none 0 0) 0 []):=World.ownsRow_nil _ _ _ _
  go_loopw [7,8] (fun v7 v8 wr=>∃(k:Nat),k<=P+1/\v8=a y ((k:Int)-1)/\(∃vx,vx=v7/\Hid (wr.ownsRow (w.heap.size+2) 242 4 vx (legI P h (own,other) die (P+1-k)).length (stCs die (legI P h (own,other) die (P+1-k))))/\Hid (∀q,vx.ownBlock=some q->(w.heap.size+2)<=q))/\Hid (Fr w wr [[a y (P:Int),a y c,a y (h:Int),a y s],[d A1 n1 c1,d A2 n2 c2]])) (fun _ v8 _=>(intOf v8+1).toNat)
  case atStart=>exact⟨P+1,Nat.le_refl _,by congr 1;omega,⟨_,rfl,(by rw[Nat.sub_self];exact HST.out),fun q hq=>by cases hq⟩,HF.out⟩
  case round=>
   clear HF HST;obtain⟨k,hk,rfl,⟨vx,rfl,HO,HVN⟩,HF⟩:=hrel
   by_cases hk0:k=0
   ·subst hk0
    have HR:Hid (RetSt w die (legal P h (own,other) die) (F vx) wr):=⟨vx,rfl,by rw[HOV.out];exact aH HO.out (by omega),HF.out.b⟩
    go_wp2_with (fail)
    go_ret
    exact HR.out
   ·obtain⟨m,rfl⟩:∃m,k=m+1:=⟨k-1,by omega⟩
    have hmP:m<=P:=by omega
    have em:(((m+1:Nat)):Int)-1=(m:Int):=by omega
    rw[em]
    have hge:(0:Int)<=(m:Int):=by omega
    have HNX:Hid (legI P h (own,other) die (P+1-m)=legI P h (own,other) die (P+1-(m+1))++(stepP P h (own,other) m die).toList):=by
     have e1:P+1-m=(P+1-(m+1))+1:=by omega
     have e2:P-(P+1-(m+1))=m:=by omega
     unfold Hid;rw[e1]
     show legI P h (own,other) die (P+1-(m+1))++(stepP P h (own,other) (P-(P+1-(m+1))) die).toList=_
     rw[e2]
    have CM:=h_ fun(W:World) (hw:Below w.heap.size w W)=>CS.out m W hw hmP
    have HLN:Hid ((legI P h (own,other) die (P+1-(m+1))).length<=1001):=by have:=js (p:=P) (h:=h) (b:=(own,other)) (die:=die) (P+1-(m+1));unfold Hid;omega
    have c00:=HF.out.c0 0 rfl;have c01:=HF.out.c0 1 rfl;have c02:=HF.out.c0 2 rfl;have c03:=HF.out.c0 3 rfl;have c10:=HF.out.c1 0 rfl;have c11:=HF.out.c1 1 rfl
    go_wp2_with (fail)
    clear c00 c01 c02 c03 c10 c11
    refine(CM.out _ HF.out.b).mono ?_
    rintro e w1 ⟨hres,hb1⟩
    have HF1:=h_ (HF.out.below hb1);have HO1:=h_ (own_below HO.out hb1);have hz1:w.heap.size+2<=w1.heap.size:=HF1.out.z;clear hb1 HF HO CM
    cases hs:stepP P h (own,other) m die with
    |none=>
     rw[hs]at hres HNX;obtain⟨a9,b9,c9,d9,rfl⟩:=hres
     have HO2:Hid ((w1.alloc (B #[a y a9,a y b9,a y c9,D d9] 242)).ownsRow ((w.heap.size+2)) 242 4 vx (legI P h (own,other) die (P+1-m)).length (stCs die (legI P h (own,other) die (P+1-m)))):=by
      rw[HNX.out,Option.toList_none,List.append_nil]
      exact own_below HO1.out ((Below.refl _ _).alloc (Nat.le_refl _) _)
     have HF2:=h_ (HF1.out.alloc (B #[a y a9,a y b9,a y c9,D d9] 242));clear HO1 HF1 hs HNX
     go_wp2_with (fail)
     exact⟨⟨m,by omega,rfl,⟨vx,rfl,HO2,HVN⟩,HF2⟩,by simp[intOf]⟩
    |some st=>
     rw[hs]at hres HNX;obtain⟨src,dst,hit⟩:=st;replace hres:e=F (.tuple #[I #[a y (src:Int),a y dst,a y (die:Int),D hit],D true]):=hres;subst hres
     have HROW:Hid (((w1.alloc (B #[a y (src:Int),a y dst,a y (die:Int),D hit] 242)).alloc (B #[a y (src:Int),a y dst,a y (die:Int),D hit] 242)).ownsRow ((w.heap.size+2)) 242 4 vx (legI P h (own,other) die (P+1-(m+1))).length (stCs die (legI P h (own,other) die (P+1-(m+1))))):=own_below HO1.out (((Below.refl _ _).alloc (Nat.le_refl _) _).alloc (by simp) _)
     have HF2:=h_ ((HF1.out.alloc (B #[a y (src:Int),a y dst,a y (die:Int),D hit] 242)).alloc (B #[a y (src:Int),a y dst,a y (die:Int),D hit] 242))
     have HNW:Hid (∀j u,(stC die ⟨src,dst,hit⟩)[j]? =some u->((w1.alloc (B #[a y (src:Int),a y dst,a y (die:Int),D hit] 242)).alloc (B #[a y (src:Int),a y dst,a y (die:Int),D hit] 242)).cell? ((⟨w1.heap.size+1,0,none⟩:Addr).add j)=some u):=fun j u hj=>by
      match j,hj with
      | 0,hj=>simp[stC]at hj;subst hj;simp[go_sem,Addr.add]
      | 1,hj=>simp[stC]at hj;subst hj;simp[go_sem,Addr.add]
      | 2,hj=>simp[stC]at hj;subst hj;simp[go_sem,Addr.add]
      | 3,hj=>simp[stC]at hj;subst hj;simp[go_sem,Addr.add]
      |j+4,hj=>simp[stC]at hj
     have HFIN:Hid (∀v' w4 q,w4.ownsRow ((w.heap.size+2)) 242 4 v' ((legI P h (own,other) die (P+1-(m+1))).length+1) (stCs die (legI P h (own,other) die (P+1-(m+1)))++stC die ⟨src,dst,hit⟩)->((w1.alloc (B #[a y (src:Int),a y dst,a y (die:Int),D hit] 242)).alloc (B #[a y (src:Int),a y dst,a y (die:Int),D hit] 242)).grownBy w4 q->q=vx.ownBlock->
       Hid (w4.ownsRow ((w.heap.size+2)) 242 4 v' (legI P h (own,other) die (P+1-m)).length (stCs die (legI P h (own,other) die (P+1-m))))/\Hid (∀q,v'.ownBlock=some q->(w.heap.size+2)<=q)/\Hid (Fr w w4 [[a y (P:Int),a y c,a y (h:Int),a y s],[d A1 n1 c1,d A2 n2 c2]])):=fun v' w4 q ho hg hq=>by
      subst hq
      have e1:(legI P h (own,other) die (P+1-m)).length=(legI P h (own,other) die (P+1-(m+1))).length+1:=by rw[HNX.out];simp
      have e2:stCs die (legI P h (own,other) die (P+1-m))=stCs die (legI P h (own,other) die (P+1-(m+1)))++stC die ⟨src,dst,hit⟩:=by rw[HNX.out];unfold stCs;simp
      exact⟨by rw[e1,e2];exact ho,fun q hq=>(World.ownsRow.lt ho q hq).1,HF2.out.frm (Frm.of_grown hg) (fun k hk=>by have:=HVN.out k hk.symm;omega) (fun k hk=>by have:=HVN.out k hk.symm;simp;omega)⟩
     clear HO1 HF1 hs HNX HF2
     go_wp2_with (at_builtin;(refine wpList_append_own_at _ rfl _ _ 83 rfl ((w.heap.size+2)) 242 i0 (I #[a y 0,a y 0,a y 0,D false]) 4 32 Tryz.underlying83 hi iz0 iz1 iz2 rfl (by decide) _ _ _ rfl HROW.out ⟨w1.heap.size+1,0,none⟩ 1 1 (stC die ⟨src,dst,hit⟩) rfl rfl HNW.out (stC_cells _ _) (by have:=HLN.out;unfold maxLen;omega) (by have:=HLN.out;omega) (by simp;omega) ?_);intro v' w4 hown hgrow _ hat)
     obtain⟨HO3,HVN3,HF3⟩:=HFIN.out v' w4 _ hown hgrow rfl;clear hown hgrow HFIN HROW HNW hat
     exact⟨⟨m,by omega,rfl,⟨v',rfl,HO3,HVN3⟩,HF3⟩,by simp[intOf]⟩
theorem l04Legal_any(P h die:Nat)(c s:Int)(A1 A2:Option Addr)(n1 c1 n2 c2:Nat)(own other:List Int)(w:World)(h1:SL w A1 n1 own)(h2:SL w A2 n2 other)(hl1:n1=P+1)(hl2:n2=P+1)(hP:P<=1000)(hd1:1<=die)(hd2:die<=1000)(hh:h<=1000)
  (hq1:∀x∈own,0<=x) (hq2:∀x∈other,0<=x) (hm1:own.sum<=2000000) (hm2:other.sum<=2000000):
  Calls Tryz.prog 226 #[I #[a y (P:Int),a y c,a y (h:Int),a y s],I #[d A1 n1 c1,d A2 n2 c2],a y (die:Int)] w (RetSt w die (legal P h (own,other) die)):=by
 obtain⟨i0,hi,iz0,iz1,iz2⟩:=info_parts Tryz.infoSt
 have CS:=h_ fun(m:Nat) (W:World) (hw:Below w.heap.size w W) (hmP:m<=P)=>l04Step_any P h m die c s A1 A2 n1 c1 n2 c2 own other W (h1.below hw) (h2.below hw) hl1 hl2 hP (by omega) hd1 hd2 hh hq1 hq2 hm1 hm2
 have HF:Hid (Fr w ((w.alloc (B #[a y (P:Int),a y c,a y (h:Int),a y s] 33)).alloc (B #[d A1 n1 c1,d A2 n2 c2] 35)) [[a y (P:Int),a y c,a y (h:Int),a y s],[d A1 n1 c1,d A2 n2 c2]]):=((Fr.start w).allocT (by simp) _ _).allocT (by simp) _ _
 have HOV:=h_ (legal_legO P h (own,other) die);clear h1 h2 hq1 hq2 hm1 hm2 hl1 hl2
 have HST:Hid ((((w.alloc (B #[a y (P:Int),a y c,a y (h:Int),a y s] 33)).alloc (B #[d A1 n1 c1,d A2 n2 c2] 35)).alloc (B #[] 242)).ownsRow (w.heap.size+2) 242 4 (d (some ⟨w.heap.size+1+1,0,none⟩) 0 0) 0 []):=by
  have hq9:=World.ownsRow_lit ((w.alloc (B #[a y (P:Int),a y c,a y (h:Int),a y s] 33)).alloc (B #[d A1 n1 c1,d A2 n2 c2] 35)) #[] 0 (base:=w.heap.size+2) (e:=242) (size:=4) (by simp) (by decide) (by simp)
  rw[show((w.alloc (B #[a y (P:Int),a y c,a y (h:Int),a y s] 33)).alloc (B #[d A1 n1 c1,d A2 n2 c2] 35)).heap.size=w.heap.size+1+1 by simp]at hq9
  exact hq9
 replace HF:=h_ (HF.out.alloc (B #[] 242))
 go_enter Tryz.func226,Tryz.ntmps226
 go_wp2_with (fail)
 go_loopw [7,8] (fun v7 v8 wr=>∃(k:Nat),k<=P+1/\v8=a y ((k:Int)-1)/\(∃vx,vx=v7/\Hid (wr.ownsRow (w.heap.size+2) 242 4 vx (legO P h (own,other) die (P+1-k)).length (stCs die (legO P h (own,other) die (P+1-k))))/\Hid (∀q,vx.ownBlock=some q->(w.heap.size+2)<=q))/\Hid (Fr w wr [[a y (P:Int),a y c,a y (h:Int),a y s],[d A1 n1 c1,d A2 n2 c2]])) (fun _ v8 _=>(intOf v8+1).toNat)
 case atStart=>exact⟨P+1,Nat.le_refl _,by congr 1;omega,⟨_,rfl,(by rw[Nat.sub_self,legO_zero];exact HST.out),fun q hq=>by have h9:some (w.heap.size+2)=some q:=hq;injection h9 with h9;omega⟩,HF.out⟩
 case round=>
  clear HF HST;obtain⟨k,hk,rfl,⟨vx,rfl,HO,HVN⟩,HF⟩:=hrel
  by_cases hk0:k=0
  ·subst hk0
   have HR:Hid (RetSt w die (legal P h (own,other) die) (F vx) wr):=⟨vx,rfl,by rw[HOV.out];exact aH HO.out (by omega),HF.out.b⟩
   go_wp2_with (fail)
   go_ret
   exact HR.out
  ·obtain⟨m,rfl⟩:∃m,k=m+1:=⟨k-1,by omega⟩
   have hmP:m<=P:=by omega
   have em:(((m+1:Nat)):Int)-1=(m:Int):=by omega
   rw[em]
   have hge:(0:Int)<=(m:Int):=by omega
   have HNX:Hid (legO P h (own,other) die (P+1-m)=legO P h (own,other) die (P+1-(m+1))++(if overB (own,other)=true then none else stepP P h (own,other) m die).toList):=by
    have e1:P+1-m=(P+1-(m+1))+1:=by omega
    have e2:P-(P+1-(m+1))=m:=by omega
    unfold Hid;rw[e1,legO_succ,e2]
   have CM:=h_ fun(W:World) (hw:Below w.heap.size w W)=>CS.out m W hw hmP
   have HLN:Hid ((legO P h (own,other) die (P+1-(m+1))).length<=1001):=by have:=legO_len (p:=P) (h:=h) (b:=(own,other)) (die:=die) (P+1-(m+1));unfold Hid;omega
   have c00:=HF.out.c0 0 rfl;have c01:=HF.out.c0 1 rfl;have c02:=HF.out.c0 2 rfl;have c03:=HF.out.c0 3 rfl;have c10:=HF.out.c1 0 rfl;have c11:=HF.out.c1 1 rfl
   go_wp2_with (fail)
   clear c00 c01 c02 c03 c10 c11
   refine(CM.out _ HF.out.b).mono ?_
   rintro e w1 ⟨hres,hb1⟩
   have HF1:=h_ (HF.out.below hb1);have HO1:=h_ (own_below HO.out hb1);have hz1:w.heap.size+2<=w1.heap.size:=HF1.out.z;clear hb1 HF HO CM
   cases hs:if overB (own,other)=true then none else stepP P h (own,other) m die with
   |none=>
    rw[hs]at hres HNX;obtain⟨a9,b9,c9,d9,rfl⟩:=hres
    have HO2:Hid ((w1.alloc (B #[a y a9,a y b9,a y c9,D d9] 242)).ownsRow ((w.heap.size+2)) 242 4 vx (legO P h (own,other) die (P+1-m)).length (stCs die (legO P h (own,other) die (P+1-m)))):=by
     rw[HNX.out,Option.toList_none,List.append_nil]
     exact own_below HO1.out ((Below.refl _ _).alloc (Nat.le_refl _) _)
    have HF2:=h_ (HF1.out.alloc (B #[a y a9,a y b9,a y c9,D d9] 242));clear HO1 HF1 hs HNX
    go_wp2_with (fail)
    exact⟨⟨m,by omega,rfl,⟨vx,rfl,HO2,HVN⟩,HF2⟩,by simp[intOf]⟩
   |some st=>
    rw[hs]at hres HNX;obtain⟨src,dst,hit⟩:=st;replace hres:e=F (.tuple #[I #[a y (src:Int),a y dst,a y (die:Int),D hit],D true]):=hres;subst hres
    have HROW:Hid (((w1.alloc (B #[a y (src:Int),a y dst,a y (die:Int),D hit] 242)).alloc (B #[a y (src:Int),a y dst,a y (die:Int),D hit] 242)).ownsRow ((w.heap.size+2)) 242 4 vx (legO P h (own,other) die (P+1-(m+1))).length (stCs die (legO P h (own,other) die (P+1-(m+1))))):=own_below HO1.out (((Below.refl _ _).alloc (Nat.le_refl _) _).alloc (by simp) _)
    have HF2:=h_ ((HF1.out.alloc (B #[a y (src:Int),a y dst,a y (die:Int),D hit] 242)).alloc (B #[a y (src:Int),a y dst,a y (die:Int),D hit] 242))
    have HNW:Hid (∀j u,(stC die ⟨src,dst,hit⟩)[j]? =some u->((w1.alloc (B #[a y (src:Int),a y dst,a y (die:Int),D hit] 242)).alloc (B #[a y (src:Int),a y dst,a y (die:Int),D hit] 242)).cell? ((⟨w1.heap.size+1,0,none⟩:Addr).add j)=some u):=fun j u hj=>by
     match j,hj with
     | 0,hj=>simp[stC]at hj;subst hj;simp[go_sem,Addr.add]
     | 1,hj=>simp[stC]at hj;subst hj;simp[go_sem,Addr.add]
     | 2,hj=>simp[stC]at hj;subst hj;simp[go_sem,Addr.add]
     | 3,hj=>simp[stC]at hj;subst hj;simp[go_sem,Addr.add]
     |j+4,hj=>simp[stC]at hj
    have HFIN:Hid (∀v' w4 q,w4.ownsRow ((w.heap.size+2)) 242 4 v' ((legO P h (own,other) die (P+1-(m+1))).length+1) (stCs die (legO P h (own,other) die (P+1-(m+1)))++stC die ⟨src,dst,hit⟩)->((w1.alloc (B #[a y (src:Int),a y dst,a y (die:Int),D hit] 242)).alloc (B #[a y (src:Int),a y dst,a y (die:Int),D hit] 242)).grownBy w4 q->q=vx.ownBlock->
      Hid (w4.ownsRow ((w.heap.size+2)) 242 4 v' (legO P h (own,other) die (P+1-m)).length (stCs die (legO P h (own,other) die (P+1-m))))/\Hid (∀q,v'.ownBlock=some q->(w.heap.size+2)<=q)/\Hid (Fr w w4 [[a y (P:Int),a y c,a y (h:Int),a y s],[d A1 n1 c1,d A2 n2 c2]])):=fun v' w4 q ho hg hq=>by
     subst hq
     have e1:(legO P h (own,other) die (P+1-m)).length=(legO P h (own,other) die (P+1-(m+1))).length+1:=by rw[HNX.out];simp
     have e2:stCs die (legO P h (own,other) die (P+1-m))=stCs die (legO P h (own,other) die (P+1-(m+1)))++stC die ⟨src,dst,hit⟩:=by rw[HNX.out];unfold stCs;simp
     exact⟨by rw[e1,e2];exact ho,fun q hq=>(World.ownsRow.lt ho q hq).1,HF2.out.frm (Frm.of_grown hg) (fun k hk=>by have:=HVN.out k hk.symm;omega) (fun k hk=>by have:=HVN.out k hk.symm;simp;omega)⟩
    clear HO1 HF1 hs HNX HF2
    go_wp2_with (at_builtin;(refine wpList_append_own_at _ rfl _ _ 83 rfl ((w.heap.size+2)) 242 i0 (I #[a y 0,a y 0,a y 0,D false]) 4 32 Tryz.underlying83 hi iz0 iz1 iz2 rfl (by decide) _ _ _ rfl HROW.out ⟨w1.heap.size+1,0,none⟩ 1 1 (stC die ⟨src,dst,hit⟩) rfl rfl HNW.out (stC_cells _ _) (by have:=HLN.out;unfold maxLen;omega) (by have:=HLN.out;omega) (by simp;omega) ?_);intro v' w4 hown hgrow _ hat)
    obtain⟨HO3,HVN3,HF3⟩:=HFIN.out v' w4 _ hown hgrow rfl;clear hown hgrow HFIN HROW HNW hat
    exact⟨⟨m,by omega,rfl,⟨v',rfl,HO3,HVN3⟩,HF3⟩,by simp[intOf]⟩
def OwnQ(lo:Nat)(xs:List Int):RP:=fun v W=>∃A c,v=d A xs.length c/\OwnS W lo 2 (d A xs.length c) xs
theorem lL(lo:Nat)(xs:List Int):Stb (OwnQ lo xs):=fun _ _ _ ⟨A,c,h1,h2⟩ hb=>⟨A,c,h1,own_below h2 hb⟩
theorem own_new(w:World)(base:Nat)(hb:base<=w.heap.size):OwnS (w.alloc (B #[] 2)) base 2 (d (some ⟨w.heap.size,0,none⟩) 0 0) []:=World.ownsRow_lit w #[] 0 hb (by decide) (by simp)
theorem bS(A:Option Addr)(n c:Nat)(xs:List Int)(w:World)(h:SL w A n xs)(h0:0<n)(hn:n<=1000):
  Calls Tryz.prog 173 #[d A n c] w (RetO w 2 xs):=by
 obtain⟨i0,hi,iz0,iz1,iz2⟩:=info_parts Tryz.infoI;have HB:Hid (Below w.heap.size w (w.alloc (B #[] 2))):=(Below.refl _ _).alloc (Nat.le_refl _) _;have HROW:Hid (OwnS (w.alloc (B #[] 2)) w.heap.size 2 (d (some ⟨w.heap.size,0,none⟩) 0 0) []):=own_new w _ (Nat.le_refl _);have HS:=h_ (h.below HB.out);have hl:=h.1;obtain⟨b,off,hA,-,hc⟩:=HS.out.2 h0;subst hA
 have HNEW:Hid (∀j u,(xs.map (Value.int y))[j]? =some u->(w.alloc (B #[] 2)).cell? ((⟨b,off,none⟩:Addr).add j)=some u):=fun j u hj=>by
  have hjn:j<xs.length:=by
   have:=(List.getElem?_eq_some_iff.1 hj).1
   simpa using this
  have h1:=hc j (by omega)
  rw[List.getElem?_map,List.getElem?_eq_getElem hjn]at hj
  simp only[Option.map_some,Option.some.injEq]at hj
  rw[<-hj]
  have h2:(⟨b,off,none⟩:Addr).add j=⟨b,off+j,none⟩:=by unfold Addr.add;split<;>simp_all
  rw[h2,h1]
  simp[List.getD,hjn]
 clear hc
 go_enter Tryz.func173,Tryz.ntmps173
 go_wp2_with (at_builtin;(refine wpList_append_own_at _ rfl _ _ 24 rfl w.heap.size 2 i0 (a y 0) 1 8 Tryz.underlying24 hi iz0 iz1 iz2 rfl (by decide) _ _ _ rfl HROW.out ⟨b,off,none⟩ n c (xs.map (Value.int y)) rfl (by simp;omega) HNEW.out (fun u hu=>by obtain⟨x,_,rfl⟩:=List.mem_map.1 hu;rfl) (by unfold maxLen;simp;omega) (by simp;omega) (by simp) ?_);intro v' w4 hown hgrow _ _)
 have hb4:∀r,(w.alloc (B #[] 2)).grownBy w4 r->r=some w.heap.size->Below w.heap.size w w4:=fun r hg hr=>by
  subst hr
  exact HB.out.grown hg (by simp) (fun k hk=>by injection hk with hk;omega)
 have HR:Hid (RetO w 2 xs (F v') w4):=RetO.mk (by unfold OwnS;rw[hl];simpa using hown) (hb4 _ hgrow rfl)
 go_ret
 exact HR.out
def twG(lo:Nat)(p1 s1 p2 s2:Value)(xs ys:List Int)(i:Nat)(v:Value)(W:World):Prop:=match i with
 | 0=>v=p1
 | 1=>v=s1
 | 2=>OwnQ lo xs v W
 | 3=>v=p2
 | 4=>v=s2
 |_=>OwnQ lo ys v W
def twO(i:Nat)(v:Value):Option Nat:=match i with
 | 2=>v.ownBlock
 | 5=>v.ownBlock
 |_=>none
theorem fq(lo:Nat)(p1 s1 p2 s2:Value)(xs ys:List Int):∀i v W W',twG lo p1 s1 p2 s2 xs ys i v W->Below W.heap.size W W'->twG lo p1 s1 p2 s2 xs ys i v W':=by
 intro i v W W' hg hb
 unfold twG at *
 split at hg
 ·exact hg
 ·exact hg
 ·exact lL _ _ _ _ _ hg hb
 ·exact hg
 ·exact hg
 ·exact lL _ _ _ _ _ hg hb
theorem kL(lo:Nat)(p1 s1 p2 s2:Value)(xs ys:List Int):∀i v W b,twG lo p1 s1 p2 s2 xs ys i v W->twO i v=some b->b<W.heap.size:=by
 intro i v W b hg ho
 unfold twO at ho
 split at ho
 ·obtain⟨A,c,rfl,h2⟩:OwnQ lo xs v W:=hg
  exact(World.ownsRow.lt h2 b ho).2
 ·obtain⟨A,c,rfl,h2⟩:OwnQ lo ys v W:=hg
  exact(World.ownsRow.lt h2 b ho).2
 ·cases ho
def RetBq(w:World)(own other:List Int)(e:Ending)(w':World):Prop:=∃g1 c1 g2 c2,e=F (I #[d (some ⟨g1,0,none⟩) own.length c1,d (some ⟨g2,0,none⟩) other.length c2])/\
 OwnS w' w.heap.size 2 (d (some ⟨g1,0,none⟩) own.length c1) own/\OwnS w' w.heap.size 2 (d (some ⟨g2,0,none⟩) other.length c2) other/\g1≠g2/\Below w.heap.size w w'
theorem cj(A1 A2:Option Addr)(n1 c1 n2 c2:Nat)(own other:List Int)(w:World)(h1:SL w A1 n1 own)(h2:SL w A2 n2 other)(h10:0<n1)(h20:0<n2)(hn1:n1<=1000)(hn2:n2<=1000):
  Calls Tryz.prog 170 #[I #[d A1 n1 c1,d A2 n2 c2]] w (RetBq w own other):=by
 have HH1:=h_ fun(W:World) (hw:Below w.heap.size w W)=>h1.below hw
 have HH2:=h_ fun(W:World) (hw:Below w.heap.size w W)=>h2.below hw
 have hl1:own.length=n1:=h1.1;have hl2:other.length=n2:=h2.1
 have HF:Hid (Fr w ((w.alloc (B #[d A1 n1 c1,d A2 n2 c2] 35)).alloc (B #[d none 0 0,d none 0 0] 35)) [[d A1 n1 c1,d A2 n2 c2],[d none 0 0,d none 0 0]]):=((Fr.start w).allocT (by simp) _ _).allocT (by simp) _ _
 clear h1 h2
 go_enter Tryz.func170,Tryz.ntmps170
 go_wp2_with (fail)
 generalize ((w.alloc (B #[d A1 n1 c1,d A2 n2 c2] 35)).alloc (B #[d none 0 0,d none 0 0] 35))=V at *
 refine aR 6 (fun i=>i+3) (twG (w.heap.size+2) (C (some ⟨w.heap.size,0,none⟩)) (d A1 n1 c1) (C (some ⟨w.heap.size,1,none⟩)) (d A2 n2 c2) own other) twO (by kernel_rfl) (by kernel_rfl) (fq _ _ _ _ _ _ _) (kL _ _ _ _ _ _ _) ?_ ?_
 ·intro i o hi ho a' W hb hfar hdep
  have e1:a'.tmps.getD 1 undef=(C (some ⟨w.heap.size,0,none⟩)):=(hfar 1 (fun j _=>by omega)).trans rfl
  have good:∀(v:Value) (W':World),Below W.heap.size W W'->(twG (w.heap.size+2) (C (some ⟨w.heap.size,0,none⟩)) (d A1 n1 c1) (C (some ⟨w.heap.size,1,none⟩)) (d A2 n2 c2) own other) i v W'->(∀b,twO i v=some b->W.heap.size<=b)->MGood (twG (w.heap.size+2) (C (some ⟨w.heap.size,0,none⟩)) (d A1 n1 c1) (C (some ⟨w.heap.size,1,none⟩)) (d A2 n2 c2) own other) twO i W v W':=fun v W' h1 h2 h3=>⟨h1,h2,h3⟩
  have hlo:(w.heap.size+2)<=W.heap.size:=by have h9:=HF.out.z;have h8:=Below.size hb;simp at h9;omega
  have hi8:=i_5 hi
  rcases hi8 with rfl|rfl|rfl|rfl|rfl|rfl
  all_goals
   simp at ho
   subst ho
  ·exact .inl ⟨(C (some ⟨w.heap.size,0,none⟩)),W,by simp only[execOp,Act.eval,e1];go_simp,good _ _ (Below.refl _ _) rfl (fun b hb=>by simp[twO]at hb)⟩
  ·have d1:a'.tmps.getD 3 undef=_:=dp hdep 0
   have y0:=(HF.out.below hb).c0 0 rfl
   exact .inl ⟨(d A1 n1 c1),W,by simp only[execOp,Act.eval,d1];go_simp,good _ _ (Below.refl _ _) rfl (fun b hb=>by simp[twO]at hb)⟩
  ·have d1:a'.tmps.getD 4 undef=_:=dp hdep 1
   refine .inr ⟨193,#[(d A1 n1 c1)],by simp only[execOp,Act.eval,d1];go_simp,?_⟩
   refine(fn A1 n1 c1 own W (HH1.out W (HF.out.below hb).b) (by omega)).mono ?_
   rintro e W' ⟨Aq,cq,rfl,hoq,hb'⟩
   exact⟨_,rfl,good _ _ hb' ⟨Aq,cq,rfl,aH hoq hlo⟩ (fun b hb=>by simp only[twO]at hb;exact(World.ownsRow.lt hoq b hb).1)⟩
  ·exact .inl ⟨(C (some ⟨w.heap.size,1,none⟩)),W,by simp only[execOp,Act.eval,e1];go_simp,good _ _ (Below.refl _ _) rfl (fun b hb=>by simp[twO]at hb)⟩
  ·have d1:a'.tmps.getD 6 undef=_:=dp hdep 3
   have y0:=(HF.out.below hb).c0 1 rfl
   exact .inl ⟨(d A2 n2 c2),W,by simp only[execOp,Act.eval,d1];go_simp,good _ _ (Below.refl _ _) rfl (fun b hb=>by simp[twO]at hb)⟩
  ·have d1:a'.tmps.getD 7 undef=_:=dp hdep 4
   refine .inr ⟨193,#[(d A2 n2 c2)],by simp only[execOp,Act.eval,d1];go_simp,?_⟩
   refine(fn A2 n2 c2 other W (HH2.out W (HF.out.below hb).b) (by omega)).mono ?_
   rintro e W' ⟨Aq,cq,rfl,hoq,hb'⟩
   exact⟨_,rfl,good _ _ hb' ⟨Aq,cq,rfl,aH hoq hlo⟩ (fun b hb=>by simp only[twO]at hb;exact(World.ownsRow.lt hoq b hb).1)⟩
 ·intro v W2 hW hg ho
  have g0:v 0=_:=gq hg 0
  have g1:v 1=_:=gq hg 1
  obtain⟨Ax,cx,g2,hox⟩:OwnQ (w.heap.size+2) own (v 2) W2:=hg 2 (by omega)
  have g3:v 3=_:=gq hg 3
  have g4:v 4=_:=gq hg 4
  obtain⟨Ay,cy,g5,hoy⟩:OwnQ (w.heap.size+2) other (v 5) W2:=hg 5 (by omega)
  obtain⟨gx,hgx,-,-,_,_⟩:=ao hox (by omega)
  obtain⟨gy,hgy,-,-,_,_⟩:=ao hoy (by omega)
  subst hgx hgy
  have hne:gx≠gy:=fun e=>ho 2 5 (by omega) (by omega) (by omega) gx (by rw[g2];rfl) (by rw[g5,<-e];rfl)
  have HOX:=h_ hox;have HOY:=h_ hoy;have HNE:=h_ hne
  simp only[List.drop_succ_cons,List.drop_zero,putV,g0,g1,g2,g3,g4,g5,Act.put]
  clear g0 g1 g2 g3 g4 g5 hg ho hox hoy hne;have HF2:=h_ (HF.out.below hW);have HB2:=h_ HF2.out.b;clear hW HF;have c10:=HF2.out.c1 0 rfl;have f10:=HF2.out.f1 0 rfl;have c11:=HF2.out.c1 1 rfl;have f11:=HF2.out.f1 1 rfl
  go_wp2_with (fail)
  refine bodyPost_ret (v:=I #[d (some ⟨gx,0,none⟩) own.length cx,d (some ⟨gy,0,none⟩) other.length cy]) (by simp[results,Tryz.results170,go_sem, *]) rfl ⟨gx,cx,gy,cy,rfl,?_,?_,HNE.out,?_⟩
  ·exact(HOX.out.setLow (by show w.heap.size+1<w.heap.size+2;omega) _).setLow (by show w.heap.size+1<w.heap.size+2;omega) _ |>.mono (by omega)
  ·exact(HOY.out.setLow (by show w.heap.size+1<w.heap.size+2;omega) _).setLow (by show w.heap.size+1<w.heap.size+2;omega) _ |>.mono (by omega)
  ·repeat (first|exact HB2.out|refine stw ?_ (by omega))
theorem swapped_any(A1 A2:Option Addr)(n1 c1 n2 c2:Nat)(own other:List Int)(w:World)(h1:SL w A1 n1 own)(h2:SL w A2 n2 other)(h10:0<n1)(h20:0<n2)(hn1:n1<=1000)(hn2:n2<=1000):
  Calls Tryz.prog 140 #[I #[d A1 n1 c1,d A2 n2 c2]] w (RetBq w other own):=by
 have HH1:=h_ fun(W:World) (hw:Below w.heap.size w W)=>h1.below hw
 have HH2:=h_ fun(W:World) (hw:Below w.heap.size w W)=>h2.below hw
 have hl1:own.length=n1:=h1.1;have hl2:other.length=n2:=h2.1
 have HF:Hid (Fr w ((w.alloc (B #[d A1 n1 c1,d A2 n2 c2] 35)).alloc (B #[d none 0 0,d none 0 0] 35)) [[d A1 n1 c1,d A2 n2 c2],[d none 0 0,d none 0 0]]):=((Fr.start w).allocT (by simp) _ _).allocT (by simp) _ _
 clear h1 h2
 go_enter Tryz.func140,Tryz.ntmps140
 go_wp2_with (fail)
 generalize ((w.alloc (B #[d A1 n1 c1,d A2 n2 c2] 35)).alloc (B #[d none 0 0,d none 0 0] 35))=V at *
 refine aR 6 (fun i=>i+3) (twG (w.heap.size+2) (C (some ⟨w.heap.size,1,none⟩)) (d A2 n2 c2) (C (some ⟨w.heap.size,0,none⟩)) (d A1 n1 c1) other own) twO (by kernel_rfl) (by kernel_rfl) (fq _ _ _ _ _ _ _) (kL _ _ _ _ _ _ _) ?_ ?_
 ·intro i o hi ho a' W hb hfar hdep
  have e1:a'.tmps.getD 1 undef=(C (some ⟨w.heap.size,0,none⟩)):=(hfar 1 (fun j _=>by omega)).trans rfl
  have good:∀(v:Value) (W':World),Below W.heap.size W W'->(twG (w.heap.size+2) (C (some ⟨w.heap.size,1,none⟩)) (d A2 n2 c2) (C (some ⟨w.heap.size,0,none⟩)) (d A1 n1 c1) other own) i v W'->(∀b,twO i v=some b->W.heap.size<=b)->MGood (twG (w.heap.size+2) (C (some ⟨w.heap.size,1,none⟩)) (d A2 n2 c2) (C (some ⟨w.heap.size,0,none⟩)) (d A1 n1 c1) other own) twO i W v W':=fun v W' h1 h2 h3=>⟨h1,h2,h3⟩
  have hlo:(w.heap.size+2)<=W.heap.size:=by have h9:=HF.out.z;have h8:=Below.size hb;simp at h9;omega
  have hi8:=i_5 hi
  rcases hi8 with rfl|rfl|rfl|rfl|rfl|rfl
  all_goals
   simp at ho
   subst ho
  ·exact .inl ⟨(C (some ⟨w.heap.size,1,none⟩)),W,by simp only[execOp,Act.eval,e1];go_simp,good _ _ (Below.refl _ _) rfl (fun b hb=>by simp[twO]at hb)⟩
  ·have d1:a'.tmps.getD 3 undef=_:=dp hdep 0
   have y0:=(HF.out.below hb).c0 1 rfl
   exact .inl ⟨(d A2 n2 c2),W,by simp only[execOp,Act.eval,d1];go_simp,good _ _ (Below.refl _ _) rfl (fun b hb=>by simp[twO]at hb)⟩
  ·have d1:a'.tmps.getD 4 undef=_:=dp hdep 1
   refine .inr ⟨193,#[(d A2 n2 c2)],by simp only[execOp,Act.eval,d1];go_simp,?_⟩
   refine(fn A2 n2 c2 other W (HH2.out W (HF.out.below hb).b) (by omega)).mono ?_
   rintro e W' ⟨Aq,cq,rfl,hoq,hb'⟩
   exact⟨_,rfl,good _ _ hb' ⟨Aq,cq,rfl,aH hoq hlo⟩ (fun b hb=>by simp only[twO]at hb;exact(World.ownsRow.lt hoq b hb).1)⟩
  ·exact .inl ⟨(C (some ⟨w.heap.size,0,none⟩)),W,by simp only[execOp,Act.eval,e1];go_simp,good _ _ (Below.refl _ _) rfl (fun b hb=>by simp[twO]at hb)⟩
  ·have d1:a'.tmps.getD 6 undef=_:=dp hdep 3
   have y0:=(HF.out.below hb).c0 0 rfl
   exact .inl ⟨(d A1 n1 c1),W,by simp only[execOp,Act.eval,d1];go_simp,good _ _ (Below.refl _ _) rfl (fun b hb=>by simp[twO]at hb)⟩
  ·have d1:a'.tmps.getD 7 undef=_:=dp hdep 4
   refine .inr ⟨193,#[(d A1 n1 c1)],by simp only[execOp,Act.eval,d1];go_simp,?_⟩
   refine(fn A1 n1 c1 own W (HH1.out W (HF.out.below hb).b) (by omega)).mono ?_
   rintro e W' ⟨Aq,cq,rfl,hoq,hb'⟩
   exact⟨_,rfl,good _ _ hb' ⟨Aq,cq,rfl,aH hoq hlo⟩ (fun b hb=>by simp only[twO]at hb;exact(World.ownsRow.lt hoq b hb).1)⟩
 ·intro v W2 hW hg ho
  have g0:v 0=_:=gq hg 0
  have g1:v 1=_:=gq hg 1
  obtain⟨Ax,cx,g2,hox⟩:OwnQ (w.heap.size+2) other (v 2) W2:=hg 2 (by omega)
  have g3:v 3=_:=gq hg 3
  have g4:v 4=_:=gq hg 4
  obtain⟨Ay,cy,g5,hoy⟩:OwnQ (w.heap.size+2) own (v 5) W2:=hg 5 (by omega)
  obtain⟨gx,hgx,-,-,_,_⟩:=ao hox (by omega)
  obtain⟨gy,hgy,-,-,_,_⟩:=ao hoy (by omega)
  subst hgx hgy
  have hne:gx≠gy:=fun e=>ho 2 5 (by omega) (by omega) (by omega) gx (by rw[g2];rfl) (by rw[g5,<-e];rfl)
  have HOX:=h_ hox;have HOY:=h_ hoy;have HNE:=h_ hne
  simp only[List.drop_succ_cons,List.drop_zero,putV,g0,g1,g2,g3,g4,g5,Act.put]
  clear g0 g1 g2 g3 g4 g5 hg ho hox hoy hne;have HF2:=h_ (HF.out.below hW);have HB2:=h_ HF2.out.b;clear hW HF;have c10:=HF2.out.c1 0 rfl;have f10:=HF2.out.f1 0 rfl;have c11:=HF2.out.c1 1 rfl;have f11:=HF2.out.f1 1 rfl
  go_wp2_with (fail)
  refine bodyPost_ret (v:=I #[d (some ⟨gx,0,none⟩) other.length cx,d (some ⟨gy,0,none⟩) own.length cy]) (by simp[results,Tryz.results140,go_sem, *]) rfl ⟨gx,cx,gy,cy,rfl,?_,?_,HNE.out,?_⟩
  ·exact(HOX.out.setLow (by show w.heap.size+1<w.heap.size+2;omega) _).setLow (by show w.heap.size+1<w.heap.size+2;omega) _ |>.mono (by omega)
  ·exact(HOY.out.setLow (by show w.heap.size+1<w.heap.size+2;omega) _).setLow (by show w.heap.size+1<w.heap.size+2;omega) _ |>.mono (by omega)
  ·repeat (first|exact HB2.out|refine stw ?_ (by omega))
theorem l02Swap_any(A1 A2:Option Addr)(n1 c1 n2 c2:Nat)(own other:List Int)(w:World)(h1:SL w A1 n1 own)(h2:SL w A2 n2 other)(h10:0<n1)(h20:0<n2)(hn1:n1<=1000)(hn2:n2<=1000):
  Calls Tryz.prog 106 #[I #[d A1 n1 c1,d A2 n2 c2]] w (RetBq w other own):=by
 have HH1:=h_ fun(W:World) (hw:Below w.heap.size w W)=>h1.below hw
 have HH2:=h_ fun(W:World) (hw:Below w.heap.size w W)=>h2.below hw
 have hl1:own.length=n1:=h1.1;have hl2:other.length=n2:=h2.1
 have HF:Hid (Fr w ((w.alloc (B #[d A1 n1 c1,d A2 n2 c2] 35)).alloc (B #[d none 0 0,d none 0 0] 35)) [[d A1 n1 c1,d A2 n2 c2],[d none 0 0,d none 0 0]]):=((Fr.start w).allocT (by simp) _ _).allocT (by simp) _ _
 clear h1 h2
 go_enter Tryz.func106,Tryz.ntmps106
 go_wp2_with (fail)
 generalize ((w.alloc (B #[d A1 n1 c1,d A2 n2 c2] 35)).alloc (B #[d none 0 0,d none 0 0] 35))=V at *
 refine aR 6 (fun i=>i+3) (twG (w.heap.size+2) (C (some ⟨w.heap.size,1,none⟩)) (d A2 n2 c2) (C (some ⟨w.heap.size,0,none⟩)) (d A1 n1 c1) other own) twO (by kernel_rfl) (by kernel_rfl) (fq _ _ _ _ _ _ _) (kL _ _ _ _ _ _ _) ?_ ?_
 ·intro i o hi ho a' W hb hfar hdep
  have e1:a'.tmps.getD 1 undef=(C (some ⟨w.heap.size,0,none⟩)):=(hfar 1 (fun j _=>by omega)).trans rfl
  have good:∀(v:Value) (W':World),Below W.heap.size W W'->(twG (w.heap.size+2) (C (some ⟨w.heap.size,1,none⟩)) (d A2 n2 c2) (C (some ⟨w.heap.size,0,none⟩)) (d A1 n1 c1) other own) i v W'->(∀b,twO i v=some b->W.heap.size<=b)->MGood (twG (w.heap.size+2) (C (some ⟨w.heap.size,1,none⟩)) (d A2 n2 c2) (C (some ⟨w.heap.size,0,none⟩)) (d A1 n1 c1) other own) twO i W v W':=fun v W' h1 h2 h3=>⟨h1,h2,h3⟩
  have hlo:(w.heap.size+2)<=W.heap.size:=by have h9:=HF.out.z;have h8:=Below.size hb;simp at h9;omega
  have hi8:=i_5 hi
  rcases hi8 with rfl|rfl|rfl|rfl|rfl|rfl
  all_goals
   simp at ho
   subst ho
  ·exact .inl ⟨(C (some ⟨w.heap.size,1,none⟩)),W,by simp only[execOp,Act.eval,e1];go_simp,good _ _ (Below.refl _ _) rfl (fun b hb=>by simp[twO]at hb)⟩
  ·have d1:a'.tmps.getD 3 undef=_:=dp hdep 0
   have y0:=(HF.out.below hb).c0 1 rfl
   exact .inl ⟨(d A2 n2 c2),W,by simp only[execOp,Act.eval,d1];go_simp,good _ _ (Below.refl _ _) rfl (fun b hb=>by simp[twO]at hb)⟩
  ·have d1:a'.tmps.getD 4 undef=_:=dp hdep 1
   refine .inr ⟨173,#[(d A2 n2 c2)],by simp only[execOp,Act.eval,d1];go_simp,?_⟩
   refine(bS A2 n2 c2 other W (HH2.out W (HF.out.below hb).b) (by omega) (by omega)).mono ?_
   rintro e W' ⟨Aq,cq,rfl,hoq,hb'⟩
   exact⟨_,rfl,good _ _ hb' ⟨Aq,cq,rfl,aH hoq hlo⟩ (fun b hb=>by simp only[twO]at hb;exact(World.ownsRow.lt hoq b hb).1)⟩
  ·exact .inl ⟨(C (some ⟨w.heap.size,0,none⟩)),W,by simp only[execOp,Act.eval,e1];go_simp,good _ _ (Below.refl _ _) rfl (fun b hb=>by simp[twO]at hb)⟩
  ·have d1:a'.tmps.getD 6 undef=_:=dp hdep 3
   have y0:=(HF.out.below hb).c0 0 rfl
   exact .inl ⟨(d A1 n1 c1),W,by simp only[execOp,Act.eval,d1];go_simp,good _ _ (Below.refl _ _) rfl (fun b hb=>by simp[twO]at hb)⟩
  ·have d1:a'.tmps.getD 7 undef=_:=dp hdep 4
   refine .inr ⟨173,#[(d A1 n1 c1)],by simp only[execOp,Act.eval,d1];go_simp,?_⟩
   refine(bS A1 n1 c1 own W (HH1.out W (HF.out.below hb).b) (by omega) (by omega)).mono ?_
   rintro e W' ⟨Aq,cq,rfl,hoq,hb'⟩
   exact⟨_,rfl,good _ _ hb' ⟨Aq,cq,rfl,aH hoq hlo⟩ (fun b hb=>by simp only[twO]at hb;exact(World.ownsRow.lt hoq b hb).1)⟩
 ·intro v W2 hW hg ho
  have g0:v 0=_:=gq hg 0
  have g1:v 1=_:=gq hg 1
  obtain⟨Ax,cx,g2,hox⟩:OwnQ (w.heap.size+2) other (v 2) W2:=hg 2 (by omega)
  have g3:v 3=_:=gq hg 3
  have g4:v 4=_:=gq hg 4
  obtain⟨Ay,cy,g5,hoy⟩:OwnQ (w.heap.size+2) own (v 5) W2:=hg 5 (by omega)
  obtain⟨gx,hgx,-,-,_,_⟩:=ao hox (by omega)
  obtain⟨gy,hgy,-,-,_,_⟩:=ao hoy (by omega)
  subst hgx hgy
  have hne:gx≠gy:=fun e=>ho 2 5 (by omega) (by omega) (by omega) gx (by rw[g2];rfl) (by rw[g5,<-e];rfl)
  have HOX:=h_ hox;have HOY:=h_ hoy;have HNE:=h_ hne
  simp only[List.drop_succ_cons,List.drop_zero,putV,g0,g1,g2,g3,g4,g5,Act.put]
  clear g0 g1 g2 g3 g4 g5 hg ho hox hoy hne;have HF2:=h_ (HF.out.below hW);have HB2:=h_ HF2.out.b;clear hW HF;have c10:=HF2.out.c1 0 rfl;have f10:=HF2.out.f1 0 rfl;have c11:=HF2.out.c1 1 rfl;have f11:=HF2.out.f1 1 rfl
  go_wp2_with (fail)
  refine bodyPost_ret (v:=I #[d (some ⟨gx,0,none⟩) other.length cx,d (some ⟨gy,0,none⟩) own.length cy]) (by simp[results,Tryz.results106,go_sem, *]) rfl ⟨gx,cx,gy,cy,rfl,?_,?_,HNE.out,?_⟩
  ·exact(HOX.out.setLow (by show w.heap.size+1<w.heap.size+2;omega) _).setLow (by show w.heap.size+1<w.heap.size+2;omega) _ |>.mono (by omega)
  ·exact(HOY.out.setLow (by show w.heap.size+1<w.heap.size+2;omega) _).setLow (by show w.heap.size+1<w.heap.size+2;omega) _ |>.mono (by omega)
  ·repeat (first|exact HB2.out|refine stw ?_ (by omega))
end Go.Proofs.YtcmeoenkgmghkaaGreat

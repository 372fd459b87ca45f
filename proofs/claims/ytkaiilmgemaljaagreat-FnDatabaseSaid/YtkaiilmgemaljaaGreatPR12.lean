/- Contract of an expected number, the reference's. There are no conditions beyond those that each states. -/
import Derived.Test.YtkaiilmgemaljaaGreatPR11
import Derived.Test.YtkaiilmgemaljaaGreatPR4
set_option linter.unusedVariables false
set_option linter.unusedSimpArgs false
namespace Go.Proofs.YtkaiilmgemaljaaGreat
open Go.RowKit Ps Ra Ex
theorem numT_zero:∀(l:List Int) (left:Nat),(∀x∈l,x=0)→numT l left=0
 | [],_,_=>rfl
 | x :: r, left, h => by
   have h0 : x = 0 := h x (by simp)
   subst h0
   rw [numT_cons, numT_zero r _ (fun y hy => h y (by simp [hy]))]
   rfl
theorem sum_zero_all:∀{l:List Int},(∀x∈l,0≤x)→l.sum=0→∀x∈l,x=0
 | [],_,_,x,hx=>by cases hx
 | y :: r, h, hs, x, hx => by
   have h1 := h y (by simp)
   have h2 : 0 ≤ r.sum := by
     clear hs hx h1 x
     induction r with
     | nil => simp
     | cons z r ih => rw [List.sum_cons]; have := h z (by simp); have := ih (fun a ha => h a (by rcases List.mem_cons.1 ha with rfl | ha; simp; simp [ha])); omega
   rw [List.sum_cons] at hs
   rcases List.mem_cons.1 hx with rfl | hx
   · omega
   · exact sum_zero_all (fun a ha => h a (by simp [ha])) (by omega) x hx
theorem num_zero {h c:Nat} {q:List Int} (hq:PosP h c q) (h0:q.sum=0):num c q=0:=numT_zero _ _ fun x hx=>sum_zero_all hq.2.1 h0 x (by simpa using hx)
theorem rep_pos (h c:Nat):PosP h c (List.replicate h 0):=⟨by simp,fun x hx=>by simp at hx;omega,by simp⟩
theorem num_nz {h c:Nat} {q:List Int} (hq:PosP h c q) (h0:q.sum≠0):num c q≠0:=fun e=>h0 (by rw[num_inj hq (rep_pos h c) (e.trans (num_zero (rep_pos h c) (by simp)).symm)];simp)
theorem frAt_ix {L:List (List Value)} {i j:Nat} {v:Value} (h:frAt L i j=some v):i<L.length:=by
 unfold frAt at h
 rcases Nat.lt_or_ge i L.length with h1|h1
 ·exact h1
 ·simp[List.getElem?_eq_none h1]at h
theorem FrS.setOut {S:Nat→Prop} {w wr:World} {L:List (List Value)} (h:FrS S w wr L) {b i:Nat} {v:Value} (hb:w.heap.size+L.length≤b):FrS S w (wr.setCell ⟨b,i,none⟩ v) L:=
 ⟨h.f.ownSet (by omega) _,h.low,by have:=h.z;simpa using this,fun i' j u hu=>(Frm.set wr b i v).cell' (h.cell i' j u hu) (fun e=>by have:=frAt_ix hu;have e':w.heap.size+i'=b:=e;omega),
  fun i' j u hu=>(frm_froz (Frm.set wr b i v) (World.block_lt_of_cell? wr _ (h.cell i' j u hu)) (fun e=>by have:=frAt_ix hu;have e':w.heap.size+i'=b:=e;omega)).trans (h.froz i' j u hu)⟩
set_option maxRecDepth 100000 in
set_option maxHeartbeats 8000000 in
theorem l11Value_step (t:UT) (ht:t.Ok) {q:List Int} (hq:PosP t.h t.c q) (hval:q.sum≠0→∀x,PosP t.h t.c x→pips x<pips q→UVal t x):UVal t q:=by
 intro A ca w hI hA hca
 obtain⟨i0,hi,iz0,iz1,iz2⟩:=info_parts Tryz.infoE;have hv:=isVar_yes ht.v
 have hs1:1≤t.s:=by omega
 have hs6:t.s≤6:=by omega
 have hh24:t.h≤24:=by omega
 have hc15:t.c≤15:=by omega
 obtain⟨hq1,hq36,_⟩:=sq_bd hs1 hs6;have hlow:=hI.ltS;have HLOW:=Lib.hid hlow;have HBT1:Hid (t.bt<w.heap.size):=hI.ltB
 have HNS:Hid (¬t.S w.heap.size):=fun h=>by have:=hlow _ h;omega
 have HNB:Hid (t.bt≠w.heap.size):=fun h=>by have:=hI.ltB;omega
 obtain⟨W0,hW0⟩:∃W0,W0=w.alloc (.cells #[.int .i64 0,.int .i64 0] 35):=⟨_,rfl⟩
 have HF0:Hid (FrS t.S w W0 [[.int .i64 0,.int .i64 0]]):=by rw[hW0];exact (FrS.start w hlow).allocT (by simp) _ _
 have hb0:Below w.heap.size w W0:=by rw[hW0];exact (Below.refl _ _).alloc (Nat.le_refl _) _
 have HI0:=Lib.hid (hI.below hb0);have HA0:=Lib.hid (hA.below hb0);have hN5:=ht.n
 have hw6:wys t.h t.c≤1000000:=Nat.le_trans hN5 (by omega)
 have CNN:=Lib.hid fun (W:World) (hx:SL W A t.h q)=>l10Number_any t.p t.s t.c t.h A t.h ca q W hx hq hc15 hh24 hw6
 have e0:=HI0.out.tb 0 _ rfl;have e1:=HI0.out.tb 1 _ rfl;have e2:=HI0.out.tb 2 _ rfl;have e3:=HI0.out.tb 3 _ rfl;have hbt:=HI0.out.ltB
 by_cases hs0:q.sum=0
 ·have HRE:Hid (xp t.s q=some ⟨0,0⟩):=xp_zero hs0
  rw[num_zero hq hs0]at CNN;have b0:(((0:Nat):Int) == 0)=true:=rfl;clear hI hA hv hlow hb0 hq hval hs0 ht;subst hW0
  go_enter Tryz.func142,Tryz.ntmps142
  go_wp2_with (fail)
  refine (CNN.out _ HA0.out.1).mono ?_
  rintro e w1 ⟨rfl,hb⟩
  have HF1:=Lib.hid (HF0.out.below hb);have HI1:=Lib.hid (HI0.out.below hb);clear hb HF0 HI0 HA0 e0 e1 e2 e3 hbt;obtain⟨z0,c00,f00,c01,f01⟩:=HF1.out.xf3
  go_wp2_with (fail)
  refine bodyPost_ret (v:=.tuple #[.agg #[.int .i64 0,.int .i64 ((0:Nat):Int)],.bool true]) (by simp[results,Tryz.results142,go_sem,c00,c01,z0,f00,f01]) rfl (RetUn.mkY HRE.out ?_ ?_)
  ·repeat (with_reducible first|exact HI1.out|refine UtI.alloc ?_ _|refine UtI.drew ?_|refine UtI.stored ?_ _ HNS.out HNB.out)
  ·repeat (with_reducible first|exact HF1.out.f|refine Frm.alloc ?_ _|refine Frm.drew ?_|refine Frm.ownSet ?_ (by omega) _)
 ·have b0:((num t.c q:Int) == 0)=false:=by have:=num_nz hq hs0;simp;omega
  have hKM:num t.c q<t.N:=num_lt hq;have HQ:=Lib.hid hq;have HKK:Hid (t.key q=num t.c q):=rfl
  have HXP:Hid (xp t.s q=((allS (rollL t.s q) (rollsN t.s)).bind (meanE (sq t.s) (rollsN t.s))).bind fun m=>addE (sq t.s) m oneE):=xp_eq hq hs0
  have HVAL:=Lib.hid (rollL_val (s:=t.s) hq1 q)
  have CRL:Hid (∀(a b:Nat),(a,b)∈rollsN t.s→∀(W:World),UtI t W→SQ t.S W A t.h q→Calls Tryz.prog 211 #[.pointer (some ⟨t.bt,0,none⟩),.slice A t.h ca,.agg #[.int .i64 (a:Int),.int .i64 (b:Int)]] W (RetUn t W (rollL t.s q (a,b)))):=fun a b hab W hI hA=>by
   obtain⟨r1,r2,r3⟩:=mem_rollsN.1 hab
   exact l11Roll_any t ht hq a b r1 r2 r3 (fun x hx=>hval hs0 x (results_pos (by omega) r1 hq x hx).1 ((results_pos (by omega) r1 hq x hx).2.2 hs0)) A ca W hI hA hca
  have MEAN:=Lib.hid fun (W:World) (A:Option Addr) (c0 n:Nat) (xs:List E) (hn:(rollsN t.s).length=n) (hx:EL (fun _=>False) W A n xs) (hval:∀x∈xs,Val (sq t.s) x)=>l09Mean_any t.p t.c t.h t.s n c0 A xs W hs1 hs6 hx hn hval
  have ADD:Hid (∀(m:Int) (d:Nat) (W:World),Val (sq t.s) ⟨m,d⟩→Calls Tryz.prog 136 #[.agg #[.int .i64 t.p,.int .i64 t.c,.int .i64 t.h,.int .i64 t.s],.agg #[.int .i64 m,.int .i64 (d:Int)],.agg #[.int .i64 1,.int .i64 0]] W (RetE W (addE (sq t.s) ⟨m,d⟩ oneE))):=fun m d W hm=>l09Add_any t.p t.c t.h m 1 t.s d 0 W hs1 hs6 hm one_val
  have HMV:Hid (∀xs e,meanE (sq t.s) (rollsN t.s) xs=some e→Val (sq t.s) e):=fun xs e h=>by
   unfold meanE at h
   cases hu:sumE (sq t.s) ((rollsN t.s).zip xs) with
   | none=>rw[hu]at h;cases h
   | some u=>rw[hu]at h;exact mk_isVal hq1 h
  have CROL:=Lib.hid fun (W:World)=>l09Rolls_any t.p t.c t.h t.s W hs6
  obtain⟨nr,hnr⟩:∃nr,(rollsN t.s).length=nr:=⟨_,rfl⟩;have HNR:=Lib.hid hnr
  have hnr21:nr≤21:=by rw[← hnr];exact rolls_le hs6
  generalize num t.c q=K at *;clear hI hA hv hlow hb0 hq hval hs0 ht hnr;subst hW0
  go_enter Tryz.func142,Tryz.ntmps142
  go_wp2_with (fail)
  refine (CNN.out _ HA0.out.1).mono ?_
  rintro e w1 ⟨rfl,hb⟩
  have HF1:=Lib.hid (HF0.out.below hb);have HI1:=Lib.hid (HI0.out.below hb);have HA1:=Lib.hid (HA0.out.below hb)
  have hz1:w.heap.size+1≤w1.heap.size:=by have:=HF1.out.z;simpa using this
  clear hb HF0 HI0 HA0 e0 e1 e2 e3 hbt;obtain⟨kf,ef,hC,hM2⟩:=HI1.out;have HC:=Lib.hid hC;have HM2:=Lib.hid hM2;clear hC hM2;have e4:=HI1.out.tb 4 _ rfl;have e5:=HI1.out.tb 5 _ rfl;have ek:=HC.out.k K hKM;have hbt:=HI1.out.ltB;have hbk:=HC.out.ltK
  have hKi0:(0:Int)≤(K:Int):=by omega
  have hKi:(K:Int)<(t.N:Int):=by omega
  rcases hkf:kf K with _|_
  ·rw[hkf]at ek
   clear hkf HC HM2;have e0:=HI1.out.tb 0 _ rfl;have e1:=HI1.out.tb 1 _ rfl;have e2:=HI1.out.tb 2 _ rfl;have e3:=HI1.out.tb 3 _ rfl
   go_wp2_with (fail)
   refine (CROL.out _).mono ?_
   rintro e W2 ⟨vr,rfl,hor,hb2⟩
   have hsz1:∀x,w1.heap.size≤x→¬t.S x:=fun x hx h=>by have:=HLOW.out x h;omega
   obtain⟨Ar,cr,rfl,hRL,hcr⟩:=hor.read (S:=t.S) hsz1;rw[HNR.out]at hRL hcr ⊢;have HRL:=Lib.hid hRL;have HF2:=Lib.hid (HF1.out.below hb2);have HI2:=Lib.hid (HI1.out.below hb2);have HA2:=Lib.hid (HA1.out.below hb2);have hzW2:w.heap.size+1≤W2.heap.size:=Nat.le_trans hz1 hb2.size
   have hncr:(nr:Int)≤(cr:Int):=by omega
   clear hor hb2 hRL HF1 HI1 HA1 e0 e1 e2 e3 e4 e5 ek hbt hbk hsz1
   have HO0:Hid (OwnE (W2.alloc (.cells #[] 35)) W2.heap.size (.slice (some ⟨W2.heap.size,0,none⟩) 0 0) []):=by
    have:=row_made W2 (base:=W2.heap.size) 35 (z:=2) (n:=0) #[] (Nat.le_refl _) (by unfold maxLen;omega) rfl
    exact this
   have HI3:Hid (UtI t (W2.alloc (.cells #[] 35))):=HI2.out.alloc _;have hfa:Frm t.S W2 (W2.alloc (.cells #[] 35)):=(Frm.refl _ _).alloc _;have HFA:=Lib.hid hfa;clear hfa
   go_wp2_with (fail)
   go_loopw [8,9] (fun v8 v9 wr=>∃(k:Nat) (xs:List E),k≤nr∧v9 = .int .i64 k∧Hid (allS (rollL t.s q) ((rollsN t.s).take k)=some xs∧xs.length=k)∧(∃vx,vx=v8∧Hid (OwnE wr W2.heap.size vx xs))∧Hid (UtI t wr)∧Hid (Frm t.S W2 wr)) (fun _ v9 _=>nr-(intOf v9).toNat)
   case atStart=>exact⟨0,[],by omega,rfl,⟨rfl,rfl⟩,⟨_,rfl,HO0.out⟩,HI3.out,HFA.out⟩
   case round=>
    clear HI3 HO0 HFA;obtain⟨k,xs,hk,rfl,hxs,⟨vx,rfl,HO⟩,HI,HFW⟩:=hrel;have HF:=Lib.hid (HF2.out.frm HFW.out);have HA:=Lib.hid (HA2.out.frm HFW.out);have hzr:W2.heap.size≤wr.heap.size:=HFW.out.size;have hxk:=hxs.out.2;have HXK:=Lib.hid hxk;clear hxk
    by_cases hlt:k<nr
    ·have hki:(k:Int)<(nr:Int):=by omega
     obtain⟨br,ofr,hAr,hzb,q1,q2⟩:=(HRL.out.frm HFW.out).at hlt;subst hAr
     have hmem:=getD_mem' (rollsN t.s) (0,0) (k:=k) (by rw[HNR.out];exact hlt)
     have HLK:Hid (k<(rollsN t.s).length):=by unfold Hid;rw[HNR.out];exact hlt
     rcases hab:(rollsN t.s).getD k (0,0) with⟨a,b⟩
     rw[hab]at q1 q2 hmem
     simp only at q1 q2
     have CB:=Lib.hid (CRL.out a b hmem wr HI.out HA.out)
     have HVL:=Lib.hid fun (j:Nat) (hj:vx.ownBlock=some j)=>World.ownsRow.lt HO.out j hj
     rcases hbs:rollL t.s q (a,b) with _|⟨xn,xd⟩
     ·have HRE:Hid (xp t.s q=none):=by
       unfold Hid
       rw[HXP.out,allS_stop HLK.out hxs.out.1 (by rw[hab,hbs])];rfl
      rw[hbs]at CB;clear hab hbs hmem;obtain⟨z0,c00,f00,c01,f01⟩:=HF.out.xf3
      go_wp2_with (fail)
      clear z0 c00 f00 c01 f01
      refine CB.out.mono ?_
      rintro e w2 ⟨rfl,hI2,hf2⟩
      have HF3:=Lib.hid (HF.out.frm hf2);have HI3:=Lib.hid hI2;have hz2:=hf2.size
      have hzz:w.heap.size+1≤w2.heap.size:=by omega
      unfold exV
      simp only[Option.getD_none,Option.isSome_none]
      clear hI2 hf2 HF HI HO CB hz2;obtain⟨z0,c00,f00,c01,f01⟩:=HF3.out.xf3
      go_wp2_with (fail)
      refine bodyPost_ret (v:=.tuple #[.agg #[.int .i64 0,.int .i64 0],.bool false]) (by simp[results,Tryz.results142,go_sem,c00,c01,z0,f00,f01]) rfl (RetUn.mkN HRE.out ?_ ?_)
      ·repeat (with_reducible first|exact HI3.out|refine UtI.alloc ?_ _|refine UtI.drew ?_|refine UtI.stored ?_ _ HNS.out HNB.out)
      ·repeat (with_reducible first|exact HF3.out.f|refine Frm.alloc ?_ _|refine Frm.drew ?_|refine Frm.ownSet ?_ (by omega) _)
     ·have HXS:Hid (allS (rollL t.s q) ((rollsN t.s).take (k+1))=some (xs++[⟨xn,xd⟩])):=allS_go HLK.out hxs.out.1 (by rw[hab,hbs])
      rw[hbs]at CB;clear hab hbs hmem;obtain⟨z0,c00,f00,c01,f01⟩:=HF.out.xf3
      go_wp2_with (fail)
      clear z0 c00 f00 c01 f01
      refine CB.out.mono ?_
      rintro e w2 ⟨rfl,hI2,hf2⟩
      have hz2:=hf2.size;have hzq:W2.heap.size≤w2.heap.size:=Nat.le_trans hzr hz2
      have HV:Hid (∀o o':Obj,Frm t.S W2 ((w2.alloc o).alloc o')∧UtI t ((w2.alloc o).alloc o')):=fun o o'=>⟨((HFW.out.trans hf2).alloc o).alloc o',(hI2.alloc o).alloc o'⟩
      have HROW:Hid (((w2.alloc (.cells #[.int .i64 xn,.int .i64 (xd:Int)] 35)).alloc (.cells #[.int .i64 xn,.int .i64 (xd:Int)] 35)).ownsRow W2.heap.size 35 2 vx xs.length (exC xs)):=
       row_alloc (row_alloc (hf2.row HO.out fun j hj h=>by have:=(HVL.out j hj).1;have:=HLOW.out j h;omega) _) _
      have hTN:Hid (∀j u,[Value.int .i64 xn,.int .i64 (xd:Int)][j]? = some u→((w2.alloc (.cells #[.int .i64 xn,.int .i64 (xd:Int)] 35)).alloc (.cells #[.int .i64 xn,.int .i64 (xd:Int)] 35)).cell? ((⟨w2.heap.size+1,0,none⟩:Addr).add j)=some u):=by
       have h:=two_new (w2.alloc (.cells #[.int .i64 xn,.int .i64 (xd:Int)] 35)) xn (xd:Int) 35
       rw[show (w2.alloc (.cells #[.int .i64 xn,.int .i64 (xd:Int)] 35)).heap.size=w2.heap.size+1 by simp]at h
       exact h
      unfold exV
      simp only[Option.getD_some,Option.isSome_some]
      clear hI2 hf2 HF HI HO CB hz2 HFW
      go_wp2_with (at_builtin;(refine wpList_append_own_at _ rfl _ _ 29 rfl W2.heap.size 35 i0 (.agg #[.int .i64 0,.int .i64 0]) 2 16 Tryz.underlying29 hi iz0 iz1 iz2 rfl (by decide) _ _ _ rfl HROW.out ⟨w2.heap.size+1,0,none⟩ 1 1 [.int .i64 xn,.int .i64 (xd:Int)] rfl rfl hTN.out (two_cells _ _) (by have:=HXK.out;unfold maxLen;omega) (by have:=HXK.out;omega) (by simp;omega) ?_);intro v' w4 hown hgrow _ hat)
      have hgO:∀x,some x=vx.ownBlock→W2.heap.size≤x:=fun x hx=>(HVL.out x hx.symm).1
      have HFw4:Hid (Frm t.S W2 w4):=(HV.out _ _).1.outs (Frm.of_grown hgrow) hgO
      have HI4:Hid (UtI t w4):=(HV.out _ _).2.frm (Frm.of_grown hgrow) (fun x hx h=>by have:=hgO x hx;have:=HLOW.out x h;omega) (fun h=>by have:=hgO _ h;have:=HBT1.out;omega)
      have HO4:Hid (OwnE w4 W2.heap.size v' (xs++[⟨xn,xd⟩])):=by
       unfold Hid OwnE;rw[exC_snoc,List.length_append]
       exact hown
      have HL4:Hid ((xs++[(⟨xn,xd⟩:E)]).length=k+1):=by unfold Hid;rw[List.length_append,HXK.out];rfl
      clear hown hgrow hat HROW HV hgO
      go_wp2_with (fail)
      go_roundw
      case rel=>exact⟨k+1,xs++[⟨xn,xd⟩],by omega,by go_num,⟨HXS.out,HL4.out⟩,⟨_,rfl,HO4⟩,HI4,HFw4⟩
      case measure=>(simp[intOf])<;>omega
    ·have hke:k=nr:=by omega
     have HALL:Hid (allS (rollL t.s q) (rollsN t.s)=some xs):=by
      have h:=hxs.out.1
      rwa [List.take_of_length_le (by rw[HNR.out];omega)]at h
     have HRE0:Hid (xp t.s q=(meanE (sq t.s) (rollsN t.s) xs).bind fun m=>addE (sq t.s) m oneE):=by
      unfold Hid
      rw[HXP.out,HALL.out];rfl
     obtain⟨Av,cv,hvx,hel,_⟩:=HO.out.el
     have hxl:xs.length=nr:=by rw[HXK.out,hke]
     rw[hxl]at hvx hel;have MEAN2:=Lib.hid (MEAN.out wr Av cv nr xs HNR.out hel (allS_val HVAL.out HALL.out));have HMV2:=Lib.hid (HMV.out xs);subst hvx;have e0:=HI.out.tb 0 _ rfl;have e1:=HI.out.tb 1 _ rfl;have e2:=HI.out.tb 2 _ rfl;have e3:=HI.out.tb 3 _ rfl;have hbt:=HI.out.ltB;clear hel hxl HO hxs HRL HA HFW;generalize meanE (sq t.s) (rollsN t.s) xs=o at *
     rcases o with _|⟨m,d⟩
     ·have HRE:Hid (xp t.s q=none):=HRE0.out
      go_wp2_with (fail)
      refine MEAN2.out.mono ?_
      rintro e w2 ⟨rfl,hb2⟩
      simp only[Option.getD_none,Option.isSome_none]
      have HF3:=Lib.hid (HF.out.below hb2);have HI3:=Lib.hid (HI.out.below hb2);have hz2:=hb2.size
      have hzz:w.heap.size+1≤w2.heap.size:=by omega
      clear HF HI hb2 e0 e1 e2 e3 hbt MEAN2 hz2;obtain⟨z0,c00,f00,c01,f01⟩:=HF3.out.xf3
      go_wp2_with (fail)
      refine bodyPost_ret (v:=.tuple #[.agg #[.int .i64 0,.int .i64 0],.bool false]) (by simp[results,Tryz.results142,go_sem,c00,c01,z0,f00,f01]) rfl (RetUn.mkN HRE.out ?_ ?_)
      ·repeat (with_reducible first|exact HI3.out|refine UtI.alloc ?_ _|refine UtI.drew ?_|refine UtI.stored ?_ _ HNS.out HNB.out)
      ·repeat (with_reducible first|exact HF3.out.f|refine Frm.alloc ?_ _|refine Frm.drew ?_|refine Frm.ownSet ?_ (by omega) _)
     ·have HRE1:Hid (xp t.s q=addE (sq t.s) ⟨m,d⟩ oneE):=HRE0.out
      have ADD2:=Lib.hid fun (W:World)=>ADD.out m d W (HMV2.out _ rfl)
      go_wp2_with (fail)
      refine MEAN2.out.mono ?_
      rintro e w2 ⟨rfl,hb2⟩
      simp only[Option.getD_some,Option.isSome_some]
      have HF2':Hid (FrS t.S w (w2.alloc (.cells #[.int .i64 m,.int .i64 (d:Int)] 35)) [[.int .i64 0,.int .i64 0]]):=(HF.out.below hb2).alloc _;have HI2':Hid (UtI t (w2.alloc (.cells #[.int .i64 m,.int .i64 (d:Int)] 35))):=(HI.out.below hb2).alloc _;have hz2:=hb2.size
      have g0:(w2.alloc (.cells #[.int .i64 m,.int .i64 (d:Int)] 35)).cell? ⟨w2.heap.size,0,none⟩=some (.int .i64 m):=by simp[go_sem]
      have g1:(w2.alloc (.cells #[.int .i64 m,.int .i64 (d:Int)] 35)).cell? ⟨w2.heap.size,1,none⟩=some (.int .i64 (d:Int)):=by simp[go_sem]
      have gz:w2.heap.size<(w2.alloc (.cells #[.int .i64 m,.int .i64 (d:Int)] 35)).heap.size:=by simp
      have hX2:w.heap.size+1≤(w2.alloc (.cells #[.int .i64 m,.int .i64 (d:Int)] 35)).heap.size:=by omega
      clear HF HI hb2 e0 e1 e2 e3 hbt MEAN2 HF2 HI2
      go_upto_region 18 with (fail)
      have HF2:=HF2';have HI2:=HI2';clear HF2' HI2';generalize w2.alloc (.cells #[.int .i64 m,.int .i64 (d:Int)] 35)=X2 at *;generalize addE (sq t.s) ⟨m,d⟩ oneE=o1 at *
      rcases o1 with _|⟨m1,d1⟩
      ·have ADD3:Hid (∀W:World,Calls Tryz.prog 136 #[.agg #[.int .i64 t.p,.int .i64 t.c,.int .i64 t.h,.int .i64 t.s],.agg #[.int .i64 m,.int .i64 (d:Int)],.agg #[.int .i64 1,.int .i64 0]] W fun e w'=>e = .returned (.tuple #[.agg #[.int .i64 0,.int .i64 0],.bool false])∧Below W.heap.size W w'):=ADD2.out
       refine wp_region_blk 10 9 14 _ _ (.cells #[.int .i64 0,.int .i64 0] 35) (by kernel_rfl) (by kernel_rfl) rfl rfl rfl (fun _ _=>by kernel_rfl) rfl (pure_extract _ _ _ _ rfl rfl) (fun _ _ _ _ h=>h) (by kernel_rfl) ?_
       apply Exists.intro
       refine⟨fun X hX=>?_,fun t1 t2=>?_⟩
       ·
        have hXb:Below X2.heap.size X2 X:=by obtain⟨t0,rfl⟩:=hX;exact below_more X2 t0
        have e0:=(HI2.out.below hXb).tb 0 _ rfl;have e1:=(HI2.out.below hXb).tb 1 _ rfl;have e2:=(HI2.out.below hXb).tb 2 _ rfl;have e3:=(HI2.out.below hXb).tb 3 _ rfl;have hbt:=(HI2.out.below hXb).ltB;have y0:=keep_cell g0 hXb;have y1:=keep_cell g1 hXb;have yz:=World.block_lt_of_cell? X _ y0;clear hX hXb
        simp only[List.take_succ_cons,List.take_zero]
        repeat (first|go_big_quiet_step (first|(go_at_call 212;exact more_call (l11One_any _))|(go_at_call 136;exact more_call (ADD3.out _))|fail)|quiet_step (first|(go_at_call 212;exact more_call (l11One_any _))|(go_at_call 136;exact more_call (ADD3.out _))|fail))
        exact wpQuiet_nil rfl
       simp only[List.drop_succ_cons,List.drop_zero,Act.put]
       have HU:Hid (FrS t.S w (more ((more X2 t1).alloc (.cells #[.int .i64 0,.int .i64 0] 35)) t2) [[.int .i64 0,.int .i64 0]]):=((HF2.out.more t1).alloc _).more t2;have HIU:Hid (UtI t (more ((more X2 t1).alloc (.cells #[.int .i64 0,.int .i64 0] 35)) t2)):=((HI2.out.more t1).alloc _).more t2;have x0:=blk_cell X2 t1 t2 #[.int .i64 0,.int .i64 0] 35 0 rfl;have x1:=blk_cell X2 t1 t2 #[.int .i64 0,.int .i64 0] 35 1 rfl;have x0':=blk_froz X2 t1 t2 #[.int .i64 0,.int .i64 0] 35 0;have x1':=blk_froz X2 t1 t2 #[.int .i64 0,.int .i64 0] 35 1;have xz:=blk_lt X2 t1 t2 (.cells #[.int .i64 0,.int .i64 0] 35);have xbw:=size_more X2 t1;clear HF2 HI2 g0 g1 gz;generalize more ((more X2 t1).alloc (.cells #[.int .i64 0,.int .i64 0] 35)) t2=U at *;generalize (more X2 t1).heap.size=bb at *
       have hbw:w.heap.size+1≤bb:=by omega
       have hbS:¬t.S bb:=fun h=>by have:=HLOW.out _ h;omega
       have hbB:t.bt≠bb:=fun h=>by have:=HBT1.out;omega
       obtain⟨z0,c00,f00,c01,f01⟩:=HU.out.xf3
       go_wp2_with (fail)
       have HU2:Hid (Frm t.S w ((U.setCell ⟨bb,0,none⟩ (.int .i64 0)).setCell ⟨bb,1,none⟩ (.int .i64 0))):=(HU.out.f.ownSet (by omega) _).ownSet (by omega) _
       have HIU2:Hid (UtI t ((U.setCell ⟨bb,0,none⟩ (.int .i64 0)).setCell ⟨bb,1,none⟩ (.int .i64 0))):=(HIU.out.stored _ hbS hbB).stored _ hbS hbB
       have hne:¬bb=w.heap.size:=by omega
       have hne2:¬w.heap.size=bb:=by omega
       refine bodyPost_ret (v:=.tuple #[.agg #[.int .i64 0,.int .i64 0],.bool false]) (by simp[results,Tryz.results142,go_sem,c00,c01,z0,f00,f01,x0,x1,x0',x1',xz,hne,hne2]) rfl (RetUn.mkN HRE1.out ?_ ?_)
       ·repeat (with_reducible first|exact HIU2.out|refine UtI.alloc ?_ _|refine UtI.stored ?_ _ HNS.out HNB.out)
       ·repeat (with_reducible first|exact HU2.out|refine Frm.alloc ?_ _|refine Frm.ownSet ?_ (by omega) _)
      ·have ADD3:Hid (∀W:World,Calls Tryz.prog 136 #[.agg #[.int .i64 t.p,.int .i64 t.c,.int .i64 t.h,.int .i64 t.s],.agg #[.int .i64 m,.int .i64 (d:Int)],.agg #[.int .i64 1,.int .i64 0]] W fun e w'=>e = .returned (.tuple #[.agg #[.int .i64 m1,.int .i64 (d1:Int)],.bool true])∧Below W.heap.size W w'):=ADD2.out
       refine wp_region_blk 10 9 14 _ _ (.cells #[.int .i64 0,.int .i64 0] 35) (by kernel_rfl) (by kernel_rfl) rfl rfl rfl (fun _ _=>by kernel_rfl) rfl (pure_extract _ _ _ _ rfl rfl) (fun _ _ _ _ h=>h) (by kernel_rfl) ?_
       apply Exists.intro
       refine⟨fun X hX=>?_,fun t1 t2=>?_⟩
       ·
        have hXb:Below X2.heap.size X2 X:=by obtain⟨t0,rfl⟩:=hX;exact below_more X2 t0
        have e0:=(HI2.out.below hXb).tb 0 _ rfl;have e1:=(HI2.out.below hXb).tb 1 _ rfl;have e2:=(HI2.out.below hXb).tb 2 _ rfl;have e3:=(HI2.out.below hXb).tb 3 _ rfl;have hbt:=(HI2.out.below hXb).ltB;have y0:=keep_cell g0 hXb;have y1:=keep_cell g1 hXb;have yz:=World.block_lt_of_cell? X _ y0;clear hX hXb
        simp only[List.take_succ_cons,List.take_zero]
        repeat (first|go_big_quiet_step (first|(go_at_call 212;exact more_call (l11One_any _))|(go_at_call 136;exact more_call (ADD3.out _))|fail)|quiet_step (first|(go_at_call 212;exact more_call (l11One_any _))|(go_at_call 136;exact more_call (ADD3.out _))|fail))
        exact wpQuiet_nil rfl
       simp only[List.drop_succ_cons,List.drop_zero,Act.put]
       have HU:Hid (FrS t.S w (more ((more X2 t1).alloc (.cells #[.int .i64 0,.int .i64 0] 35)) t2) [[.int .i64 0,.int .i64 0]]):=((HF2.out.more t1).alloc _).more t2;have HIU:Hid (UtI t (more ((more X2 t1).alloc (.cells #[.int .i64 0,.int .i64 0] 35)) t2)):=((HI2.out.more t1).alloc _).more t2;have x0:=blk_cell X2 t1 t2 #[.int .i64 0,.int .i64 0] 35 0 rfl;have x1:=blk_cell X2 t1 t2 #[.int .i64 0,.int .i64 0] 35 1 rfl;have x0':=blk_froz X2 t1 t2 #[.int .i64 0,.int .i64 0] 35 0;have x1':=blk_froz X2 t1 t2 #[.int .i64 0,.int .i64 0] 35 1;have xz:=blk_lt X2 t1 t2 (.cells #[.int .i64 0,.int .i64 0] 35);have xbw:=size_more X2 t1;clear HF2 HI2 g0 g1 gz;generalize more ((more X2 t1).alloc (.cells #[.int .i64 0,.int .i64 0] 35)) t2=U at *;generalize (more X2 t1).heap.size=bb at *
       have hbw:w.heap.size+1≤bb:=by omega
       have hbS:¬t.S bb:=fun h=>by have:=HLOW.out _ h;omega
       have hbB:t.bt≠bb:=fun h=>by have:=HBT1.out;omega
       have HFx:Hid (FrS t.S w ((U.setCell ⟨bb,0,none⟩ (.int .i64 m1)).setCell ⟨bb,1,none⟩ (.int .i64 (d1:Int))) [[.int .i64 0,.int .i64 0]]):=(HU.out.setOut (by simp only[List.length_cons,List.length_nil];omega)).setOut (by simp only[List.length_cons,List.length_nil];omega)
       have HIx:Hid (UtI t ((U.setCell ⟨bb,0,none⟩ (.int .i64 m1)).setCell ⟨bb,1,none⟩ (.int .i64 (d1:Int)))):=(HIU.out.stored _ hbS hbB).stored _ hbS hbB
       have g0:((U.setCell ⟨bb,0,none⟩ (.int .i64 m1)).setCell ⟨bb,1,none⟩ (.int .i64 (d1:Int))).cell? ⟨bb,0,none⟩=some (.int .i64 m1):=by simp[go_sem,x0,xz]
       have g1:((U.setCell ⟨bb,0,none⟩ (.int .i64 m1)).setCell ⟨bb,1,none⟩ (.int .i64 (d1:Int))).cell? ⟨bb,1,none⟩=some (.int .i64 (d1:Int)):=by simp[go_sem,x1,xz]
       have gz:bb<((U.setCell ⟨bb,0,none⟩ (.int .i64 m1)).setCell ⟨bb,1,none⟩ (.int .i64 (d1:Int))).heap.size:=by simpa using xz
       clear HU HIU
       go_upto_region 21 with (fail)
       generalize (U.setCell ⟨bb,0,none⟩ (.int .i64 m1)).setCell ⟨bb,1,none⟩ (.int .i64 (d1:Int))=X at *;clear x0 x1 x0' x1' xz;obtain⟨kf,ef,hC,hM2⟩:=HIx.out;have HM2:=Lib.hid hM2;have HC:=Lib.hid hC;have HC1:=Lib.hid (hC.setK hKM);have e4:=hC.tb 4 _ rfl;have ek:=hC.k K hKM;have fk:=hC.fk K;have hbk:=hC.ltK;have hbt:=hC.ltB
       have hgk:¬bb=t.bk:=fun h=>by have:=HLOW.out t.bk (.inl rfl);omega
       have hgk2:¬t.bk=bb:=fun h=>hgk h.symm
       have hbb:¬t.bt=t.bk:=fun h=>hC.nt (.inl h)
       have hbb2:¬t.bk=t.bt:=fun h=>hbb h.symm
       have k0:=(Frm.set X t.bk K (.bool true)).cell' g0 hgk;have k1:=(Frm.set X t.bk K (.bool true)).cell' g1 hgk
       have kz:bb<(X.setCell ⟨t.bk,K,none⟩ (.bool true)).heap.size:=by simpa using gz
       have HFk2:Hid (FrS t.S w (X.setCell ⟨t.bk,K,none⟩ (.bool true)) [[.int .i64 0,.int .i64 0]]):=HFx.out.frm ((Frm.set X t.bk K (.bool true)).mono fun x hx=>by rw[hx];exact .inl rfl)
       clear hC hM2
       go_wp2_with (fail)
       clear g0 g1 gz e4 ek fk hbk;generalize X.setCell ⟨t.bk,K,none⟩ (.bool true)=X1 at *;have e5:=HC1.out.tb 5 _ rfl;have hbt1:=HC1.out.ltB
       first|refine wp_region_tail_more2 7 (by kernel_rfl) (by kernel_rfl) ?_|refine wp_region_tail_more 7 (by kernel_rfl) (by kernel_rfl) ?_
       simp only[List.take_succ_cons,List.take_zero,List.drop_succ_cons,List.drop_zero]
       repeat (first|go_big_quiet_step (fail)|quiet_step (fail))
       refine wpQuiet_nil ?_
       intro _ hw'
       obtain⟨tr,hw''⟩:=hw';subst hw'';have HC2:=Lib.hid (HC1.out.below (below_more _ tr));have HF6:=Lib.hid (HFk2.out.more tr);have j0:=keep_cell k0 (below_more _ tr);have j1:=keep_cell k1 (below_more _ tr);have jz:=Nat.lt_of_lt_of_le kz (size_more _ tr);clear k0 k1 kz e5 hbt1 hbt HC1 HFk2 HFx HIx HC;generalize more X1 tr=Z at *;obtain⟨v1,v2⟩:=HC2.out.e K hKM;have fv1:=HC2.out.fv (K*2);have fv2:=HC2.out.fv (K*2+1);have hbv:=HC2.out.ltV
       have hgv:¬bb=t.bv:=fun h=>hbS (.inr h)
       have hgv2:¬t.bv=bb:=fun h=>hgv h.symm
       have hwv:¬w.heap.size=t.bv:=fun h=>HNS.out (.inr h)
       have hwv2:¬t.bv=w.heap.size:=fun h=>hwv h.symm
       have HI7:Hid (UtI t ((Z.setCell ⟨t.bv,K*2,none⟩ (.int .i64 m1)).setCell ⟨t.bv,K*2+1,none⟩ (.int .i64 (d1:Int)))):=by
        refine⟨_,_,HC2.out.setV hKM m1 (d1:Int),?_⟩
        have:=HM2.out.put HQ.out (e:=⟨m1,d1⟩) HRE1.out;rw[HKK.out]at this
        exact this
       have HF7:Hid (FrS t.S w ((Z.setCell ⟨t.bv,K*2,none⟩ (.int .i64 m1)).setCell ⟨t.bv,K*2+1,none⟩ (.int .i64 (d1:Int))) [[.int .i64 0,.int .i64 0]]):=HF6.out.frm (((Frm.set _ _ _ _).trans (Frm.set _ _ _ _)).mono fun x hx=>by rw[hx];exact .inr rfl)
       have h2:∀(c:Nat) (v:Value),Z.cell? ⟨bb,c,none⟩=some v→((Z.setCell ⟨t.bv,K*2,none⟩ (.int .i64 m1)).setCell ⟨t.bv,K*2+1,none⟩ (.int .i64 (d1:Int))).cell? ⟨bb,c,none⟩=some v:=fun c v h=>(Frm.set _ _ _ _).cell' ((Frm.set _ _ _ _).cell' h hgv) hgv
       have q0:=h2 0 _ j0;have q1:=h2 1 _ j1;have e5:=HC2.out.tb 5 _ rfl;clear h2 HF6 HM2
       have z0:=HF7.out.ltA (b:=w.heap.size) 0 rfl (by simp)
       have c00:=HF7.out.cellA (b:=w.heap.size) 0 0 rfl rfl;have f00:=HF7.out.frozA (b:=w.heap.size) 0 0 rfl rfl;have c01:=HF7.out.cellA (b:=w.heap.size) 0 1 rfl rfl;have f01:=HF7.out.frozA (b:=w.heap.size) 0 1 rfl rfl
       go_wp2_with (fail)
       refine bodyPost_ret (v:=.tuple #[.agg #[.int .i64 m1,.int .i64 (d1:Int)],.bool true]) (by simp[results,Tryz.results142,go_sem,c00,c01,z0,f00,f01]) rfl (RetUn.mkY HRE1.out ?_ ?_)
       ·repeat (with_reducible first|exact HI7.out|refine UtI.alloc ?_ _|refine UtI.drew ?_|refine UtI.stored ?_ _ HNS.out HNB.out)
       ·repeat (with_reducible first|exact HF7.out.f|refine Frm.alloc ?_ _|refine Frm.drew ?_|refine Frm.ownSet ?_ (by omega) _)
  ·obtain⟨⟨m,d⟩,hwe,hee⟩:=HM2.out q HQ.out (by rw[HKK.out];exact hkf)
   rw[HKK.out]at hee;obtain⟨ev1,ev2⟩:=HC.out.e K hKM;rw[hee]at ev1 ev2;rw[hkf]at ek;have HRE:=Lib.hid hwe;have hbv:=HC.out.ltV;clear hkf hwe hee HC HM2;obtain⟨z0,c00,f00,c01,f01⟩:=HF1.out.xf3
   go_wp2_with (fail)
   refine bodyPost_ret (v:=.tuple #[.agg #[.int .i64 m,.int .i64 (d:Int)],.bool true]) (by simp[results,Tryz.results142,go_sem,c00,c01,z0,f00,f01]) rfl (RetUn.mkY HRE.out ?_ ?_)
   ·repeat (with_reducible first|exact HI1.out|refine UtI.alloc ?_ _|refine UtI.drew ?_|refine UtI.stored ?_ _ HNS.out HNB.out)
   ·repeat (with_reducible first|exact HF1.out.f|refine Frm.alloc ?_ _|refine Frm.drew ?_|refine Frm.ownSet ?_ (by omega) _)
theorem l11Value_any (t:UT) (ht:t.Ok):∀(f:Nat) {q:List Int},PosP t.h t.c q→pips q<f→UVal t q
 | 0,q,hq,h=>by have:=pips_nonneg hq.2.1;omega
 | f+1,q,hq,h=>l11Value_step t ht hq fun _ x hx hxl=>l11Value_any t ht f hx (by omega)
theorem l11Value_all (t:UT) (ht:t.Ok) {q:List Int} (hq:PosP t.h t.c q):UVal t q:=
 l11Value_any t ht ((pips q).toNat+1) hq (by have:=pips_nonneg hq.2.1;omega)
end Go.Proofs.YtkaiilmgemaljaaGreat

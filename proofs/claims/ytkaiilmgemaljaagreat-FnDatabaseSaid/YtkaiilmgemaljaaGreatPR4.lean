/- Contract of an expected number's computation, by the program's table. There are no conditions beyond those that it states. -/
import Derived.Test.YtkaiilmgemaljaaGreatPR3
import Derived.Test.YtkaiilmgemaljaaGreatPZt
set_option linter.unusedVariables false
set_option linter.unusedSimpArgs false
namespace Go.Proofs.YtkaiilmgemaljaaGreat
open Go.RowKit Ps Ra Ex Go.Maps
theorem rollL_lst (s:Nat) (p:List Int) (a b:Nat):rollL s p (a,b)=(lstS (sq s) (xp s) (resultsL p a b)).map fun t=>t.2.2:=rfl
set_option maxRecDepth 100000 in
set_option maxHeartbeats 4000000 in
theorem ocompute_any (t:OT) (ht:t.Ok) {q:List Int} (hq:PosP t.h t.c q) (hs0:q.sum≠0) (hexp:∀x,PosP t.h t.c x→pips x<pips q→ExpC t x)
  (A:Option Addr) (ca:Nat) (w:World) (hI:OneI t w) (hA:SQ t.S w A t.h q) (hca:t.h≤ca):
  Calls Tryz.prog 238 #[.pointer (some ⟨t.bt,0,none⟩),.slice A t.h ca] w (RetX t w (xp t.s q)):=by
 obtain⟨i0,hi,iz0,iz1,iz2⟩:=info_parts Tryz.infoE;have hv:=isVar_yes ht.v
 have hs1:1≤t.s:=by omega
 have hs6:t.s≤6:=by omega
 obtain⟨hq1,hq36,_⟩:=sq_bd hs1 hs6;have hlow:=hI.ltS;have HLOW:=Lib.hid hlow
 have HNS:Hid (¬t.S w.heap.size):=fun h=>by have:=hlow _ h;omega
 have HNB:Hid (t.bt≠w.heap.size):=fun h=>by have:=hI.ltB;omega
 have HF0:Hid (FrS t.S w (w.alloc (.cells #[.int .i64 0,.int .i64 0] 35)) [[.int .i64 0,.int .i64 0]]):=(FrS.start w hlow).allocT (by simp) _ _
 have hb0:Below w.heap.size w (w.alloc (.cells #[.int .i64 0,.int .i64 0] 35)):=(Below.refl _ _).alloc (Nat.le_refl _) _;have HI0:=Lib.hid (hI.below hb0);have HA0:=Lib.hid (hA.below hb0)
 have HXP:Hid (xp t.s q=((allS (rollL t.s q) (rollsN t.s)).bind (meanE (sq t.s) (rollsN t.s))).bind fun m=>addE (sq t.s) m oneE):=xp_eq hq hs0
 have HVAL:=Lib.hid (rollL_val (s:=t.s) hq1 q)
 have CAR:=Lib.hid fun (W:World)=>AllRolls_any t.p t.c t.h t.s W ht.v
 have CCH:Hid (∀(a b:Nat),(a,b)∈rollsN t.s→∀(W:World),OneI t W→SQ t.S W A t.h q→Calls Tryz.prog 244 #[.pointer (some ⟨t.bt,0,none⟩),.slice A t.h ca,.agg #[.int .i64 (a:Int),.int .i64 (b:Int)]] W (RetChO t W (lstS (sq t.s) (xp t.s) (resultsL q a b)))):=fun a b hab W hI hA=>by
  obtain⟨r1,r2,r3⟩:=mem_rollsN.1 hab
  exact choice_any t ht hq a b r1 r2 r3 (fun x hx=>hexp x (results_pos (by omega) r1 hq x hx).1 ((results_pos (by omega) r1 hq x hx).2.2 hs0)) A ca W hI hA hca
 have MEAN:=Lib.hid fun (W:World) (A:Option Addr) (c0 n:Nat) (xs:List E) (hn:(rollsN t.s).length=n) (hx:EL (fun _=>False) W A n xs) (hval:∀x∈xs,Val (sq t.s) x)=>meanExact_any t.p t.c t.h t.s n c0 A xs W ht.v hx hn hval
 have ADD:Hid (∀(m:Int) (d:Nat) (W:World),Val (sq t.s) ⟨m,d⟩→Calls Tryz.prog 130 #[.agg #[.int .i64 t.p,.int .i64 t.c,.int .i64 t.h,.int .i64 t.s],.agg #[.int .i64 m,.int .i64 (d:Int)],.agg #[.int .i64 1,.int .i64 0]] W (RetE W (addE (sq t.s) ⟨m,d⟩ oneE))):=fun m d W hm=>addExact_any t.p t.c t.h m 1 t.s d 0 W hs1 hs6 hm one_val
 have HMV:Hid (∀xs e,meanE (sq t.s) (rollsN t.s) xs=some e→Val (sq t.s) e):=fun xs e h=>by
  unfold meanE at h
  cases hu:sumE (sq t.s) ((rollsN t.s).zip xs) with
  | none=>rw[hu]at h;cases h
  | some u=>rw[hu]at h;exact mk_isVal hq1 h
 obtain⟨nr,hnr⟩:∃nr,(rollsN t.s).length=nr:=⟨_,rfl⟩;have HNR:=Lib.hid hnr
 have hnr21:nr≤21:=by rw[← hnr];exact rolls_le hs6
 have e0:=HI0.out.tb 0 _ rfl;have e1:=HI0.out.tb 1 _ rfl;have e2:=HI0.out.tb 2 _ rfl;have e3:=HI0.out.tb 3 _ rfl;have hbt:=HI0.out.ltB;have HBT1:Hid (t.bt<w.heap.size):=hI.ltB;clear hI hA hv hlow hb0 hq hs0 hexp hnr
 go_enter Tryz.func238,Tryz.ntmps238
 go_wp2_with (fail)
 refine (CAR.out _).mono ?_
 rintro e w1 ⟨vr,rfl,ho,hb⟩
 have hgS:∀k,(w.alloc (.cells #[.int .i64 0,.int .i64 0] 35)).heap.size≤k→¬t.S k:=fun k hk h=>by have:=HLOW.out k h;simp at hk;omega
 obtain⟨Ar,cr,rfl,hrl,hcr⟩:=ho.read (S:=t.S) hgS;rw[HNR.out]at hrl ⊢;have HRL:=Lib.hid hrl;have HF1:=Lib.hid (HF0.out.below hb);have HI1:=Lib.hid (HI0.out.below hb);have HA1:=Lib.hid (HA0.out.below hb)
 have hz1:w.heap.size+1≤w1.heap.size:=by have:=HF1.out.z;simpa using this
 clear ho hb hrl hgS e0 e1 e2 e3 hbt HF0 HI0 HA0 CAR
 go_wp2_with (fail)
 go_loopw [6,20] (fun v6 v20 wr=>∃(k:Nat) (xs:List E),k≤nr∧v20 = .int .i64 k∧Hid (allS (rollL t.s q) ((rollsN t.s).take k)=some xs∧xs.length=k)∧(∃vx,vx=v6∧Hid (OwnE wr w1.heap.size vx xs))∧Hid (OneI t wr)∧Hid (Frm t.S w1 wr)) (fun _ v20 _=>nr-(intOf v20).toNat)
 case atStart=>exact⟨0,[],by omega,rfl,⟨rfl,rfl⟩,⟨_,rfl,World.ownsRow_nil _ _ _ _⟩,HI1.out,Frm.refl _ _⟩
 case round=>
  clear HI1 hcr;obtain⟨k,xs,hk,rfl,hxs,⟨vx,rfl,HO⟩,HI,HFW⟩:=hrel;have HF:=Lib.hid (HF1.out.frm HFW.out);have HA:=Lib.hid (HA1.out.frm HFW.out);have hzr:w1.heap.size≤wr.heap.size:=HFW.out.size;have hxk:=hxs.out.2;have HXK:=Lib.hid hxk;clear hxk
  by_cases hlt:k<nr
  ·have hki:(k:Int)<(nr:Int):=by omega
   obtain⟨br,ofr,hAr,_,q1,q2⟩:=(HRL.out.frm HFW.out).at hlt;subst hAr
   have hmem:=getD_mem' (rollsN t.s) (0,0) (k:=k) (by rw[HNR.out];exact hlt)
   have HLK:Hid (k<(rollsN t.s).length):=by unfold Hid;rw[HNR.out];exact hlt
   rcases hab:(rollsN t.s).getD k (0,0) with⟨a,b⟩
   rw[hab]at q1 q2 hmem
   simp only at q1 q2
   have CB:=Lib.hid (CCH.out a b hmem (wr.alloc (.cells #[.int .i64 (a:Int),.int .i64 (b:Int)] 39)) (HI.out.alloc _) (HA.out.below ((Below.refl _ _).alloc (Nat.le_refl _) _)))
   have HVL:=Lib.hid fun (j:Nat) (hj:vx.ownBlock=some j)=>World.ownsRow.lt HO.out j hj
   rcases hbs:lstS (sq t.s) (xp t.s) (resultsL q a b) with _|⟨cnt,at',⟨xn,xd⟩⟩
   ·have HRE:Hid (xp t.s q=none):=by
     unfold Hid
     rw[HXP.out,allS_stop HLK.out hxs.out.1 (by rw[hab,rollL_lst,hbs];rfl)];rfl
    rw[hbs]at CB;clear hab hbs hmem;obtain⟨z0,c00,f00,c01,f01⟩:=HF.out.xf3
    go_wp2_with (fail)
    clear z0 c00 f00 c01 f01
    refine CB.out.mono ?_
    rintro e w2 ⟨hI2,hf2,rfl⟩
    have HF2:=Lib.hid ((HF.out.alloc _).frm hf2);have HI2:=Lib.hid hI2;have hz2:=hf2.size
    have hzz:w.heap.size+1≤w2.heap.size:=by simp at hz2;omega
    clear hI2 hf2 HF HI HO CB hz2;obtain⟨z0,c00,f00,c01,f01⟩:=HF2.out.xf3
    go_wp2_with (fail)
    refine bodyPost_ret (v:=.tuple #[.agg #[.int .i64 0,.int .i64 0],.bool false]) (by simp[results,Tryz.results238,go_sem,c00,c01,z0,f00,f01]) rfl (RetX.mkN HRE.out ?_ ?_)
    ·repeat (with_reducible first|exact HI2.out|refine OneI.alloc ?_ _|refine OneI.drew ?_|refine OneI.stored ?_ _ HNS.out HNB.out)
    ·repeat (with_reducible first|exact HF2.out.f|refine Frm.alloc ?_ _|refine Frm.drew ?_|refine Frm.ownSet ?_ (by omega) _)
   ·have HXS:Hid (allS (rollL t.s q) ((rollsN t.s).take (k+1))=some (xs++[⟨xn,xd⟩])):=allS_go HLK.out hxs.out.1 (by rw[hab,rollL_lst,hbs];rfl)
    rw[hbs]at CB;clear hab hbs hmem;obtain⟨z0,c00,f00,c01,f01⟩:=HF.out.xf3
    go_wp2_with (fail)
    clear z0 c00 f00 c01 f01
    refine CB.out.mono ?_
    rintro e w2 ⟨hI2,hf2,vb,rfl⟩
    have hz2:=hf2.size
    have hzq:wr.heap.size+1≤w2.heap.size:=by simpa using hz2
    have HV:Hid (∀o o':Obj,Frm t.S w1 ((w2.alloc o).alloc o')∧OneI t ((w2.alloc o).alloc o')):=fun o o'=>⟨(((HFW.out.alloc _).trans hf2).alloc o).alloc o',(hI2.alloc o).alloc o'⟩
    have HROW:Hid (((w2.alloc (.cells #[.int .i64 xn,.int .i64 (xd:Int)] 35)).alloc (.cells #[.int .i64 xn,.int .i64 (xd:Int)] 35)).ownsRow w1.heap.size 35 2 vx xs.length (exC xs)):=
     row_alloc (row_alloc (hf2.row (row_alloc HO.out _) fun j hj h=>by have:=(HVL.out j hj).1;have:=HLOW.out j h;omega) _) _
    have hTN:Hid (∀j u,[Value.int .i64 xn,.int .i64 (xd:Int)][j]? = some u→((w2.alloc (.cells #[.int .i64 xn,.int .i64 (xd:Int)] 35)).alloc (.cells #[.int .i64 xn,.int .i64 (xd:Int)] 35)).cell? ((⟨w2.heap.size+1,0,none⟩:Addr).add j)=some u):=by
     have h:=two_new (w2.alloc (.cells #[.int .i64 xn,.int .i64 (xd:Int)] 35)) xn (xd:Int) 35
     rw[show (w2.alloc (.cells #[.int .i64 xn,.int .i64 (xd:Int)] 35)).heap.size=w2.heap.size+1 by simp]at h
     exact h
    clear hI2 hf2 HF HI HO CB hz2 HFW
    go_wp2_with (at_builtin;(refine wpList_append_own_at _ rfl _ _ 29 rfl w1.heap.size 35 i0 (.agg #[.int .i64 0,.int .i64 0]) 2 16 Tryz.underlying29 hi iz0 iz1 iz2 rfl (by decide) _ _ _ rfl HROW.out ⟨w2.heap.size+1,0,none⟩ 1 1 [.int .i64 xn,.int .i64 (xd:Int)] rfl rfl hTN.out (two_cells _ _) (by have:=HXK.out;unfold maxLen;omega) (by have:=HXK.out;omega) (by simp;omega) ?_);intro v' w4 hown hgrow _ hat)
    have hgO:∀x,some x=vx.ownBlock→w1.heap.size≤x:=fun x hx=>(HVL.out x hx.symm).1
    have HFw4:Hid (Frm t.S w1 w4):=(HV.out _ _).1.outs (Frm.of_grown hgrow) hgO
    have HI4:Hid (OneI t w4):=(HV.out _ _).2.frm (Frm.of_grown hgrow) (fun x hx h=>by have:=hgO x hx;have:=HLOW.out x h;omega) (fun h=>by have:=hgO _ h;have:=HBT1.out;omega)
    have HO4:Hid (OwnE w4 w1.heap.size v' (xs++[⟨xn,xd⟩])):=by
     unfold Hid OwnE;rw[exC_snoc,List.length_append]
     exact hown
    have HL4:Hid ((xs++[(⟨xn,xd⟩:E)]).length=k+1):=by unfold Hid;rw[List.length_append,HXK.out];rfl
    clear hown hgrow hat HROW HV hgO
    go_wp2_with (fail)
    go_roundw
    case rel=>exact⟨k+1,xs++[⟨xn,xd⟩],by omega,by go_num,⟨HXS.out,HL4.out⟩,⟨_,rfl,HO4⟩,HI4,HFw4⟩
    case measure=>(simp[intOf])<;>omega
  ·have hke:k=nr:=by omega
   have HALL:Hid (allS (rollL t.s q) (rollsN t.s)=some xs):=by
    have h:=hxs.out.1
    rwa [List.take_of_length_le (by rw[HNR.out];omega)]at h
   have HRE0:Hid (xp t.s q=(meanE (sq t.s) (rollsN t.s) xs).bind fun m=>addE (sq t.s) m oneE):=by
    unfold Hid
    rw[HXP.out,HALL.out];rfl
   obtain⟨Av,cv,hvx,hel,_⟩:=HO.out.el
   have hxl:xs.length=nr:=by rw[HXK.out,hke]
   rw[hxl]at hvx hel;have MEAN2:=Lib.hid (MEAN.out wr Av cv nr xs HNR.out hel (allS_val HVAL.out HALL.out));have HMV2:=Lib.hid (HMV.out xs);subst hvx;have e0:=HI.out.tb 0 _ rfl;have e1:=HI.out.tb 1 _ rfl;have e2:=HI.out.tb 2 _ rfl;have e3:=HI.out.tb 3 _ rfl;have hbt:=HI.out.ltB;clear hel hxl HO hxs HRL HA HFW;generalize meanE (sq t.s) (rollsN t.s) xs=o at *;obtain⟨z0,c00,f00,c01,f01⟩:=HF.out.xf3
   rcases o with _|⟨m,d⟩
   ·have HRE:Hid (xp t.s q=none):=HRE0.out
    go_wp2_with (fail)
    clear z0 c00 f00 c01 f01
    refine MEAN2.out.mono ?_
    rintro e w2 ⟨rfl,hb2⟩
    simp only[Option.getD_none,Option.isSome_none]
    have HF2:=Lib.hid (HF.out.below hb2);have HI2:=Lib.hid (HI.out.below hb2);have hz2:=hb2.size
    have hzz:w.heap.size+1≤w2.heap.size:=by omega
    clear HF HI hb2 e0 e1 e2 e3 hbt MEAN2 hz2;obtain⟨z0,c00,f00,c01,f01⟩:=HF2.out.xf3
    go_wp2_with (fail)
    refine bodyPost_ret (v:=.tuple #[.agg #[.int .i64 0,.int .i64 0],.bool false]) (by simp[results,Tryz.results238,go_sem,c00,c01,z0,f00,f01]) rfl (RetX.mkN HRE.out ?_ ?_)
    ·repeat (with_reducible first|exact HI2.out|refine OneI.alloc ?_ _|refine OneI.drew ?_|refine OneI.stored ?_ _ HNS.out HNB.out)
    ·repeat (with_reducible first|exact HF2.out.f|refine Frm.alloc ?_ _|refine Frm.drew ?_|refine Frm.ownSet ?_ (by omega) _)
   ·have HRE1:Hid (xp t.s q=addE (sq t.s) ⟨m,d⟩ oneE):=HRE0.out
    have ADD2:=Lib.hid fun (W:World)=>ADD.out m d W (HMV2.out _ rfl)
    go_wp2_with (fail)
    clear z0 c00 f00 c01 f01
    refine MEAN2.out.mono ?_
    rintro e w2 ⟨rfl,hb2⟩
    simp only[Option.getD_some,Option.isSome_some]
    have HF2:Hid (FrS t.S w (w2.alloc (.cells #[.int .i64 m,.int .i64 (d:Int)] 35)) [[.int .i64 0,.int .i64 0]]):=(HF.out.below hb2).alloc _;have HI2:Hid (OneI t (w2.alloc (.cells #[.int .i64 m,.int .i64 (d:Int)] 35))):=(HI.out.below hb2).alloc _;have hz2:=hb2.size
    have hzz:w.heap.size+1≤w2.heap.size:=by omega
    have g0:(w2.alloc (.cells #[.int .i64 m,.int .i64 (d:Int)] 35)).cell? ⟨w2.heap.size,0,none⟩=some (.int .i64 m):=by simp[go_sem]
    have g1:(w2.alloc (.cells #[.int .i64 m,.int .i64 (d:Int)] 35)).cell? ⟨w2.heap.size,1,none⟩=some (.int .i64 (d:Int)):=by simp[go_sem]
    have gz:w2.heap.size<(w2.alloc (.cells #[.int .i64 m,.int .i64 (d:Int)] 35)).heap.size:=by simp
    clear HF HI hb2 e0 e1 e2 e3 hbt MEAN2 hz2
    go_upto_region 13 with (fail)
    generalize w2.alloc (.cells #[.int .i64 m,.int .i64 (d:Int)] 35)=W2 at *;have e0:=HI2.out.tb 0 _ rfl;have e1:=HI2.out.tb 1 _ rfl;have e2:=HI2.out.tb 2 _ rfl;have e3:=HI2.out.tb 3 _ rfl;have hbt:=HI2.out.ltB;generalize addE (sq t.s) ⟨m,d⟩ oneE=o1 at *
    rcases o1 with _|⟨m1,d1⟩
    ·have ADD3:Hid (∀W:World,Calls Tryz.prog 130 #[.agg #[.int .i64 t.p,.int .i64 t.c,.int .i64 t.h,.int .i64 t.s],.agg #[.int .i64 m,.int .i64 (d:Int)],.agg #[.int .i64 1,.int .i64 0]] W fun e w'=>e = .returned (.tuple #[.agg #[.int .i64 0,.int .i64 0],.bool false])∧Below W.heap.size W w'):=fun W=>ADD2.out W
     obtain⟨z0,c00,f00,c01,f01⟩:=HF2.out.xf3
     first|refine wp_region_tail_more2 9 (by kernel_rfl) (by kernel_rfl) ?_|refine wp_region_tail_more 9 (by kernel_rfl) (by kernel_rfl) ?_
     simp only[List.take_succ_cons,List.take_zero,List.drop_succ_cons,List.drop_zero]
     repeat (first|go_big_quiet_step ((go_at_call 130;exact more_call (ADD3.out _)))|quiet_step ((go_at_call 130;exact more_call (ADD3.out _))))
     refine wpQuiet_nil ?_
     intro _ hw'
     obtain⟨tr,hw''⟩:=hw';subst hw'';clear z0 c00 f00 c01 f01;have HFz:=Lib.hid (HF2.out.more tr);have HIz:=Lib.hid (HI2.out.more tr);clear HF2 HI2 e0 e1 e2 e3 hbt g0 g1 gz;generalize more W2 tr=Z at *;obtain⟨z0,c00,f00,c01,f01⟩:=HFz.out.xf3
     go_wp2_with (fail)
     refine bodyPost_ret (v:=.tuple #[.agg #[.int .i64 0,.int .i64 0],.bool false]) (by simp[results,Tryz.results238,go_sem,c00,c01,z0,f00,f01]) rfl (RetX.mkN HRE1.out ?_ ?_)
     ·repeat (with_reducible first|exact HIz.out|refine OneI.alloc ?_ _|refine OneI.drew ?_|refine OneI.stored ?_ _ HNS.out HNB.out)
     ·repeat (with_reducible first|exact HFz.out.f|refine Frm.alloc ?_ _|refine Frm.drew ?_|refine Frm.ownSet ?_ (by omega) _)
    ·have ADD3:Hid (∀W:World,Calls Tryz.prog 130 #[.agg #[.int .i64 t.p,.int .i64 t.c,.int .i64 t.h,.int .i64 t.s],.agg #[.int .i64 m,.int .i64 (d:Int)],.agg #[.int .i64 1,.int .i64 0]] W fun e w'=>e = .returned (.tuple #[.agg #[.int .i64 m1,.int .i64 d1],.bool true])∧Below W.heap.size W w'):=fun W=>ADD2.out W
     obtain⟨z0,c00,f00,c01,f01⟩:=HF2.out.xf3
     first|refine wp_region_tail_more2 9 (by kernel_rfl) (by kernel_rfl) ?_|refine wp_region_tail_more 9 (by kernel_rfl) (by kernel_rfl) ?_
     simp only[List.take_succ_cons,List.take_zero,List.drop_succ_cons,List.drop_zero]
     repeat (first|go_big_quiet_step ((go_at_call 130;exact more_call (ADD3.out _)))|quiet_step ((go_at_call 130;exact more_call (ADD3.out _))))
     refine wpQuiet_nil ?_
     intro _ hw'
     obtain⟨tr,hw''⟩:=hw';subst hw'';clear z0 c00 f00 c01 f01;have HFz:=Lib.hid (HF2.out.more tr);have HIz:=Lib.hid (HI2.out.more tr);clear HF2 HI2 e0 e1 e2 e3 hbt g0 g1 gz;generalize more W2 tr=Z at *;obtain⟨z0,c00,f00,c01,f01⟩:=HFz.out.xf3
     go_wp2_with (fail)
     refine bodyPost_ret (v:=.tuple #[.agg #[.int .i64 m1,.int .i64 d1],.bool true]) (by simp[results,Tryz.results238,go_sem,c00,c01,z0,f00,f01]) rfl (RetX.mkY HRE1.out ?_ ?_)
     ·repeat (with_reducible first|exact HIz.out|refine OneI.alloc ?_ _|refine OneI.drew ?_|refine OneI.stored ?_ _ HNS.out HNB.out)
     ·repeat (with_reducible first|exact HFz.out.f|refine Frm.alloc ?_ _|refine Frm.drew ?_|refine Frm.ownSet ?_ (by omega) _)
end Go.Proofs.YtkaiilmgemaljaaGreat

/- Joined texts of one proof: N45, N26. Each part tells what it shows. There are no conditions. -/
import Derived.Test.YtkaiilmgemaljaaGreatPZt
import Derived.Test.YtkaiilmgemaljaaGreatPZm
set_option linter.unusedVariables false
set_option linter.unusedSimpArgs false
/- Contract of a win chance, the reference's: the walk. There are no conditions. -/
namespace Go.Proofs.YtkaiilmgemaljaaGreat
open Go.RowKit Ps Ra Ex
theorem v13_ge (i:Nat):13≤v13d i:=by
 unfold v13d
 split
 ·omega
 ·split
  ·omega
  ·split<;>omega
set_option maxRecDepth 100000 in
set_option maxHeartbeats 8000000 in
theorem l12Value_step (t:RT2) (ht:t.Ok) {own other:List Int} (hq:PosP t.h t.c own) (hq2:PosP t.h t.c other) (hval:own.sum≠0→∀q,PosP t.h t.c q→pips q<pips own→ValC t other q):ValC t own other:=by
 intro A B ca cb w hI hA hca hB hcb
 obtain⟨i0,hi,hz0,hz1,hz2⟩:=info_parts Tryz.infoE;have hv:=isVar_yes ht.v
 have hs1:1≤t.s:=by omega
 have hs6:t.s≤6:=by omega
 have hh24:t.h≤24:=by omega
 have hh1:0<t.h:=by omega
 have hc15:t.c≤15:=by omega
 obtain⟨hq1,hq36,_⟩:=sq_bd hs1 hs6;have hlow:=hI.ltS;have HLOW:=Lib.hid hlow
 have HNS:Hid (¬t.S w.heap.size):=fun h=>by have:=hlow _ h;omega
 have HNB:Hid (t.bt≠w.heap.size):=fun h=>by have:=hI.ltB;omega
 have HF0:Hid (FrS t.S w (w.alloc (.cells #[.int .i64 0,.int .i64 0] 35)) [[.int .i64 0,.int .i64 0]]):=(FrS.start w hlow).allocT (by simp) _ _
 have hb0:Below w.heap.size w (w.alloc (.cells #[.int .i64 0,.int .i64 0] 35)):=(Below.refl _ _).alloc (Nat.le_refl _) _;have HI0:Hid (TabI t (w.alloc (.cells #[.int .i64 0,.int .i64 0] 35))):=hI.below hb0;have HIW:=Lib.hid hI;have HA:=Lib.hid (hA.below hb0);have HB:=Lib.hid (hB.below hb0)
 have SUA:=Lib.hid (l10Sum_any A t.h ca own _ HA.out.1 hq.2.1 (by have:=hq.2.2;omega) (by omega))
 have SUB:=Lib.hid (l10Sum_any B t.h cb other _ HB.out.1 hq2.2.1 (by have:=hq2.2.2;omega) (by omega))
 by_cases hs0:own.sum=0
 ·have HRE:Hid (win t.s own other=some ⟨1,0⟩):=win_own hs0
  have b0:(own.sum == 0)=true:=by simp[hs0]
  clear hI hA hB hv hlow hb0 hq hq2 hval hs0 ht HA HB SUB
  go_enter Tryz.func144,Tryz.ntmps144
  go_wp2_with (first
   | (go_at_call 162;(with_reducible refine SUA.out.mono ?_);rintro e w' ⟨rfl,rfl⟩)
   | (go_at_call 212; (with_reducible refine (more_first (l11One_any _)).mono ?_); rintro e w' ⟨rfl, tr, rfl⟩
      have HZ := Lib.hid (HF0.out.more tr); have HIz := Lib.hid (HI0.out.more tr); clear HF0 HI0 SUA; generalize more (w.alloc (.cells #[.int .i64 0, .int .i64 0] 35)) tr = Z at *; obtain ⟨z0, c00, f00, c01, f01⟩ := HZ.out.xf3
      ))
  refine bodyPost_ret (v:=.tuple #[.agg #[.int .i64 1,.int .i64 ((0:Nat):Int)],.bool true]) (by simp[results,Tryz.results144,go_sem,c00,c01,z0,f00,f01]) rfl (RetTn.mkY HRE.out ?_ ?_)
  ·repeat (first|exact HIz.out|refine TabI.alloc ?_ _|refine TabI.drew ?_|refine TabI.stored ?_ _ HNS.out HNB.out)
  ·repeat (first|exact HZ.out.f|refine Frm.alloc ?_ _|refine Frm.drew ?_|refine Frm.ownSet ?_ (by omega) _)
 ·have b0:(own.sum == 0)=false:=by simp[hs0]
  by_cases ht0:other.sum=0
  ·have HRE:Hid (win t.s own other=some ⟨0,0⟩):=win_other hs0 ht0
   have b1:(other.sum == 0)=true:=by simp[ht0]
   clear hI hA hB hv hlow hb0 hq hq2 hval hs0 ht0 ht HA HB
   go_enter Tryz.func144,Tryz.ntmps144
   go_wp2_with (first|(go_at_call 162;(with_reducible refine SUA.out.mono ?_);rintro e w' ⟨rfl,rfl⟩)|(go_at_call 162;(with_reducible refine SUB.out.mono ?_);rintro e w' ⟨rfl,rfl⟩))
   refine bodyPost_ret (v:=.tuple #[.agg #[.int .i64 0,.int .i64 ((0:Nat):Int)],.bool true]) (by simp[results,Tryz.results144,go_sem]) rfl (RetTn.mkY HRE.out ?_ ?_)
   ·repeat (first|exact HIW.out|refine TabI.alloc ?_ _)
   ·repeat (first|exact Frm.refl _ _|refine Frm.alloc ?_ _)
  ·have b1:(other.sum == 0)=false:=by simp[ht0]
   have HQ:=Lib.hid hq;have HQ2:=Lib.hid hq2;have hn1:num t.c own<t.N:=num_lt hq;have hn2:num t.c other<t.N:=num_lt hq2;have hN5:=ht.n
   have hw6:wys t.h t.c≤1000000:=Nat.le_trans hN5 (by omega)
   have CN1:=Lib.hid fun (W:World) (hx:SL W A t.h own)=>l10Number_any t.p t.s t.c t.h A t.h ca own W hx hq hc15 hh24 hw6
   have CN2:=Lib.hid fun (W:World) (hx:SL W B t.h other)=>l10Number_any t.p t.s t.c t.h B t.h cb other W hx hq2 hc15 hh24 hw6
   have hmul:num t.c own*t.N≤500*500:=Nat.mul_le_mul (by omega) hN5
   have hw1:IntKind.i64.wrap ((num t.c own:Int)*(t.N:Int))=((num t.c own*t.N:Nat):Int):=by
    rw[← Int.natCast_mul];exact IntWalk.i64_in _ (by omega)
   have hw2:IntKind.i64.wrap (((num t.c own*t.N:Nat):Int)+(num t.c other:Int))=((num t.c own*t.N+num t.c other:Nat):Int):=by
    rw[← Int.natCast_add];exact IntWalk.i64_in _ (by omega)
   have HK2:Hid (t.key own other=num t.c own*t.N+num t.c other):=rfl;have hKM:num t.c own*t.N+num t.c other<t.M:=RT2.key_lt hq hq2;have hM:t.M≤250000:=Nat.mul_le_mul hN5 hN5;have HT:=Lib.hid ht;have HVV:=Lib.hid (hval hs0);have HWIN:Hid (win t.s own other=(allS (rollE t.s own other) (rollsN t.s)).bind (meanE (sq t.s) (rollsN t.s))):=win_eq hq hq2 hs0 ht0;have HRV:=Lib.hid (rollE_val hq1 own other);have HS0:=Lib.hid hs0;have HT0:=Lib.hid ht0;generalize hKK:num t.c own*t.N+num t.c other=K at *;generalize hMM:num t.c own*t.N=M at *;generalize num t.c own=na at *;generalize num t.c other=nb at *;clear hMM hKK hmul hw6
   have hzz:w.heap.size+1≤(w.alloc (.cells #[.int .i64 0,.int .i64 0] 35)).heap.size:=by simp
   clear hI hA hB hv hlow hb0 hq hq2 hval hs0 ht0 ht
   go_enter Tryz.func144,Tryz.ntmps144
   go_wp2_with (first|(go_at_call 162;(with_reducible refine SUA.out.mono ?_);rintro e w' ⟨rfl,rfl⟩)|(go_at_call 162;(with_reducible refine SUB.out.mono ?_);rintro e w' ⟨rfl,rfl⟩))
   generalize w.alloc (.cells #[.int .i64 0,.int .i64 0] 35)=W0 at *;have e0:=HI0.out.tb 0 _ rfl;have e1:=HI0.out.tb 1 _ rfl;have e2:=HI0.out.tb 2 _ rfl;have e3:=HI0.out.tb 3 _ rfl;have e4:=HI0.out.tb 4 _ rfl;have hbt:=HI0.out.ltB;clear SUA SUB
   first|refine wp_region_more2 (by kernel_rfl) (by kernel_rfl) ?_|refine wp_region_more (by kernel_rfl) (by kernel_rfl) ?_
   repeat (first|go_big_quiet_step (first|(go_at_call_of 192 A;exact more_call (CN1.out _ (HA.out.1.more _)))|(go_at_call_of 192 B;exact more_call (CN2.out _ (HB.out.1.more _))))|quiet_step (first|(go_at_call_of 192 A;exact more_call (CN1.out _ (HA.out.1.more _)))|(go_at_call_of 192 B;exact more_call (CN2.out _ (HB.out.1.more _)))))
   refine wpQuiet_nil ?_
   intro _ hw'
   obtain⟨tr,hw''⟩:=hw';subst hw'';have HF1:=Lib.hid (HF0.out.more tr);have HI1:=Lib.hid (HI0.out.more tr);have HA1:=Lib.hid (HA.out.below (below_more _ tr));have HB1:=Lib.hid (HB.out.below (below_more _ tr));have hzW1:=Nat.le_trans hzz (size_more _ tr);clear HF0 HI0 HA HB hzz e0 e1 e2 e3 e4 hbt CN1 CN2 hw1 hw2 hn1 hn2;generalize more W0 tr=W1 at *;have hbt:=HI1.out.ltB;obtain⟨kf,ef,hC,hM2⟩:=HI1.out;have HC:=Lib.hid hC;have HM2:=Lib.hid hM2;clear hC hM2;have e5:=HI1.out.tb 5 _ rfl;have e6:=HI1.out.tb 6 _ rfl;have ek:=HC.out.k K hKM
   have hKi0:(0:Int)≤(K:Int):=by omega
   have hKi:(K:Int)<(t.M:Int):=by omega
   rcases hkf:kf K with _|_
   ·rw[hkf]at ek
    clear hkf HC HM2;have e0:=HI1.out.tb 0 _ rfl;have e1:=HI1.out.tb 1 _ rfl;have e2:=HI1.out.tb 2 _ rfl;have e3:=HI1.out.tb 3 _ rfl
    go_wp2_with (fail)
    refine (l09Rolls_any t.p t.c t.h t.s _ hs6).mono ?_
    rintro e W2 ⟨vr,rfl,hor,hb2⟩
    have hsz1:∀x,W1.heap.size≤x→¬t.S x:=fun x hx h=>by have:=HLOW.out x h;omega
    obtain⟨Ar,cr,rfl,hRL,hcr⟩:=hor.read (S:=t.S) hsz1
    have hnr1:0<(rollsN t.s).length:=by
     have h1:=rollsN_length t.s
     have h2:1*2≤t.s*(t.s+1):=Nat.mul_le_mul (by omega) (by omega)
     omega
    have hnr21:(rollsN t.s).length≤21:=rolls_le hs6;obtain⟨rb,ro,rfl,_,_,_⟩:=hRL.at hnr1;have HRL:=Lib.hid hRL;have HF2:=Lib.hid (HF1.out.below hb2);have HI2:=Lib.hid (HI1.out.below hb2);have HA2:=Lib.hid (HA1.out.below hb2);have HB2:=Lib.hid (HB1.out.below hb2);have hzW2:w.heap.size+1≤W2.heap.size:=Nat.le_trans hzW1 hb2.size
    have hncr:((rollsN t.s).length:Int)≤(cr:Int):=by omega
    clear hor hb2 hRL HF1 HI1 HA1 HB1 e0 e1 e2 e3 e5 e6 ek hbt hsz1
    have HO0:Hid (OwnE (W2.alloc (.cells #[] 35)) W2.heap.size (.slice (some ⟨W2.heap.size,0,none⟩) 0 0) []):=by
     have:=row_made W2 (base:=W2.heap.size) 35 (z:=2) (n:=0) #[] (Nat.le_refl _) (by unfold maxLen;omega) rfl
     exact this
    have HI3:Hid (TabI t (W2.alloc (.cells #[] 35))):=HI2.out.alloc _;have hfa:Frm t.S W2 (W2.alloc (.cells #[] 35)):=(Frm.refl _ _).alloc _;have HFA:=Lib.hid hfa;clear hfa
    go_wp2_with (fail)
    go_loopw [10,11] (fun v10 v11 wr=>∃(k:Nat) (xs:List E),k≤(rollsN t.s).length∧v11 = .int .i64 k∧Hid (allS (rollE t.s own other) ((rollsN t.s).take k)=some xs∧xs.length=k)∧(∃vx,vx=v10∧Hid (OwnE wr W2.heap.size vx xs))∧Hid (TabI t wr)∧Hid (Frm t.S W2 wr)) (fun _ v11 _=>(rollsN t.s).length-(intOf v11).toNat)
    case atStart=>exact⟨0,[],by omega,rfl,⟨rfl,rfl⟩,⟨_,rfl,HO0.out⟩,HI3.out,HFA.out⟩
    case round=>
     clear HO0 HI3 HFA;obtain⟨k,xs,hk,rfl,hxs,⟨vx,rfl,HO⟩,HI,HFw⟩:=hrel;have HXK:=Lib.hid hxs.out.2
     by_cases hlt:k<(rollsN t.s).length
     ·have hki:(k:Int)<((rollsN t.s).length:Int):=by omega
      have hrl:=HRL.out.frm HFw.out;obtain⟨_,_,hA',hzr,q1,q2⟩:=hrl.at hlt;injection hA' with hA';injection hA' with hA1' hA2';subst hA1' hA2'
      have hrbS:Hid (¬t.S rb):=by
       obtain⟨_,_,hA'',_,hs'',_⟩:=hrl.2.2 (by omega)
       injection hA'' with hA'';injection hA'' with h1'' h2'';subst h1''
       exact hs''
      have hrm:=mem_rollsN.1 (getD_mem' (rollsN t.s) (0,0) hlt);have HLK:=Lib.hid hlt
      rcases hab:(rollsN t.s).getD k (0,0) with⟨a,b⟩
      rw[hab]at q1 q2 hrm;obtain⟨r1,r2,r3⟩:=hrm
      simp only at q1 q2 r1 r2 r3
      have HQ1:=Lib.hid q1;have HQ2':=Lib.hid q2;have hzwr:W2.heap.size≤wr.heap.size:=HFw.out.size
      have hlowr:Hid (∀x,t.S x→x<wr.heap.size):=fun x hx=>by have:=HLOW.out x hx;omega
      have HAr:=Lib.hid (HA2.out.frm HFw.out);have HBr:=Lib.hid (HB2.out.frm HFw.out)
      have HRES:=Lib.hid fun (W:World) (hx:SQ t.S W A t.h own) (hS:∀x,W.heap.size≤x→¬t.S x)=>l10Results_any t.S t.p t.c t.h t.s A t.h ca a b own W hx.1 hca ⟨HQ.out.1,HQ.out.2.1,by have:=HQ.out.2.2;omega⟩ hh24 hh1 r1 r2 (by omega) hS
      have HBST0:=fun (A':Option Addr) (n c:Nat) (W:World) (hI:TabI t W) (hpl:PL t.S W A' n (resultsL own a b)) (hB:SQ t.S W B t.h other)=>l12Best_any t HT.out (resultsL own a b) (fun q h=>(results_pos (by omega) r1 HQ.out q h).1) (fun q h=>l12After_any t HT.out (results_pos (by omega) r1 HQ.out q h).1 HT0.out (HVV.out q (results_pos (by omega) r1 HQ.out q h).1 ((results_pos (by omega) r1 HQ.out q h).2.2 HS0.out))) A' B n c cb W (by rw[← hpl.len];exact Nat.le_trans (results_len (by omega) r1 HQ.out hh24) (by omega)) hI hpl hB hcb
      clear q1 q2 hrl r1 r2 r3
      rcases hbs:bestS (sq t.s) (sec t.s other) (resultsL own a b) with _|⟨cnt,at',⟨xn,xd⟩⟩
      ·have HRE:Hid (win t.s own other=none):=by
        unfold Hid
        rw[HWIN.out,allS_stop HLK.out hxs.out.1 (by rw[hab,rollE_best,hbs];rfl)];rfl
       rw[hbs]at HBST0;have HBST:=Lib.hid HBST0;clear hbs hab HBST0
       go_wp2_with (fail)
       refine wp_region_early 18 (fun i=>i == 15||i == 16) v13d (Frm t.S) (TabI t) (v13G t wr A B ca cb rb ro cr k a b own (.tuple #[.int .i64 0,.agg #[.int .i64 0,.int .i64 0],.bool false]) (.int .i64 0) (.agg #[.int .i64 0,.int .i64 0]) (.bool false)) (by kernel_rfl) (by kernel_rfl) (fun _ _ _ _ _ h=>h) (fun _ _ _ h1 h2=>h1.trans h2) (fun _=>Frm.refl _ _) (v13_stab hlowr.out) (Frm.refl _ _).drew HI.out.drew ?_ ?_ ?_
       ·
        intro i o hi hX ho a' W hW hIW hfar hdep
        have dep:∀j,j<18→Region.waitsFor .any _ i j=true→v13G t wr A B ca cb rb ro cr k a b own (.tuple #[.int .i64 0,.agg #[.int .i64 0,.int .i64 0],.bool false]) (.int .i64 0) (.agg #[.int .i64 0,.int .i64 0]) (.bool false) j (a'.tmps.getD (v13d j) undef) W:=hdep
        have hi8:i=15∨i=16:=by simpa using hX
        clear hfar
        rcases hi8 with rfl|rfl
        all_goals
         simp at ho
         subst ho
        ·have d1:a'.tmps.getD 69 undef = .tuple #[.int .i64 0,.agg #[.int .i64 0,.int .i64 0],.bool false]:=dep 13 (by omega) (by kernel_rfl)
         exact⟨.agg #[.int .i64 0,.int .i64 0],fun W'=>by simp only[execOp,Act.eval,d1];go_simp,rfl⟩
        ·have d1:a'.tmps.getD 69 undef = .tuple #[.int .i64 0,.agg #[.int .i64 0,.int .i64 0],.bool false]:=dep 13 (by omega) (by kernel_rfl)
         exact⟨.bool false,fun W'=>by simp only[execOp,Act.eval,d1];go_simp,rfl⟩
       ·
        intro i o hi hX ho a' W hW hIW hfar hdep
        have e0:a'.tmps.getD 0 undef = .pointer (some ⟨t.bt,0,none⟩):=(hfar 0 (fun j _=>by have:=v13_ge j;omega)).trans rfl
        have e1:a'.tmps.getD 1 undef = .slice A t.h ca:=(hfar 1 (fun j _=>by have:=v13_ge j;omega)).trans rfl
        have e2:a'.tmps.getD 2 undef = .slice B t.h cb:=(hfar 2 (fun j _=>by have:=v13_ge j;omega)).trans rfl
        have e9:a'.tmps.getD 9 undef = .slice (some ⟨rb,ro,none⟩) (rollsN t.s).length cr:=(hfar 9 (fun j _=>by have:=v13_ge j;omega)).trans rfl
        have e11:a'.tmps.getD 11 undef = .int .i64 (k:Int):=(hfar 11 (fun j _=>by have:=v13_ge j;omega)).trans rfl
        have dep:∀j,j<18→Region.waitsFor .any _ i j=true→v13G t wr A B ca cb rb ro cr k a b own (.tuple #[.int .i64 0,.agg #[.int .i64 0,.int .i64 0],.bool false]) (.int .i64 0) (.agg #[.int .i64 0,.int .i64 0]) (.bool false) j (a'.tmps.getD (v13d j) undef) W:=hdep
        have hX2:i≠15∧i≠16:=by simpa using hX
        have hi8:i=0∨i=1∨i=2∨i=3∨i=4∨i=5∨i=6∨i=7∨i=8∨i=9∨i=10∨i=11∨i=12∨i=13∨i=14∨i=17:=by omega
        clear hfar
        rcases hi8 with rfl|rfl|rfl|rfl|rfl|rfl|rfl|rfl|rfl|rfl|rfl|rfl|rfl|rfl|rfl|rfl
        all_goals
         simp at ho
         subst ho
        ·exact .inl ⟨.pointer (some ⟨t.bt,0,none⟩),W,by simp only[execOp,Act.eval,e0];go_simp,Frm.refl _ _,hIW,rfl⟩
        ·exact .inl ⟨.pointer (some ⟨t.bt,0,none⟩),W,by simp only[execOp,Act.eval,e0];go_simp,Frm.refl _ _,hIW,rfl⟩
        ·have d1:a'.tmps.getD 71 undef = .pointer (some ⟨t.bt,0,none⟩):=dep 1 (by omega) (by kernel_rfl)
         exact .inl ⟨.pointer (some ⟨t.bt,0,none⟩),W,by simp only[execOp,Act.eval,d1];go_simp,Frm.refl _ _,hIW,rfl⟩
        ·have d1:a'.tmps.getD 72 undef = .pointer (some ⟨t.bt,0,none⟩):=dep 2 (by omega) (by kernel_rfl)
         exact .inl ⟨.pointer (some ⟨t.bt,0,none⟩),W,by simp only[execOp,Act.eval,d1];go_simp,Frm.refl _ _,hIW,rfl⟩
        ·have d1:a'.tmps.getD 73 undef = .pointer (some ⟨t.bt,0,none⟩):=dep 3 (by omega) (by kernel_rfl)
         have q0:=hIW.tb 0 _ rfl;have q1:=hIW.tb 1 _ rfl;have q2:=hIW.tb 2 _ rfl;have q3:=hIW.tb 3 _ rfl
         exact .inl ⟨.agg #[.int .i64 t.p,.int .i64 t.c,.int .i64 t.h,.int .i64 t.s],W,by simp only[execOp,Act.eval,d1];go_simp,Frm.refl _ _,hIW,rfl⟩
        ·exact .inl ⟨.slice A t.h ca,W,by simp only[execOp,Act.eval,e1];go_simp,Frm.refl _ _,hIW,rfl⟩
        ·exact .inl ⟨.slice (some ⟨rb,ro,none⟩) (rollsN t.s).length cr,W,by simp only[execOp,Act.eval,e9];go_simp,Frm.refl _ _,hIW,rfl⟩
        ·exact .inl ⟨.int .i64 (k:Int),W,by simp only[execOp,Act.eval,e11];go_simp,Frm.refl _ _,hIW,rfl⟩
        ·have d1:a'.tmps.getD 76 undef = .slice (some ⟨rb,ro,none⟩) (rollsN t.s).length cr:=dep 6 (by omega) (by kernel_rfl)
         have d2:a'.tmps.getD 77 undef = .int .i64 (k:Int):=dep 7 (by omega) (by kernel_rfl)
         exact .inl ⟨.pointer (some ⟨rb,ro+k*2,none⟩),W,by simp only[execOp,Act.eval,d1,d2];go_simp,Frm.refl _ _,hIW,rfl⟩
        ·have d1:a'.tmps.getD 78 undef = .pointer (some ⟨rb,ro+k*2,none⟩):=dep 8 (by omega) (by kernel_rfl)
         have q1:=hW.cell' HQ1.out hrbS.out;have q2:=hW.cell' HQ2'.out hrbS.out
         exact .inl ⟨.agg #[.int .i64 (a:Int),.int .i64 (b:Int)],W,by simp only[execOp,Act.eval,d1];go_simp,Frm.refl _ _,hIW,rfl⟩
        ·have d1:a'.tmps.getD 74 undef = .agg #[.int .i64 t.p,.int .i64 t.c,.int .i64 t.h,.int .i64 t.s]:=dep 4 (by omega) (by kernel_rfl)
         have d2:a'.tmps.getD 75 undef = .slice A t.h ca:=dep 5 (by omega) (by kernel_rfl)
         have d3:a'.tmps.getD 79 undef = .agg #[.int .i64 (a:Int),.int .i64 (b:Int)]:=dep 9 (by omega) (by kernel_rfl)
         refine .inr ⟨91,#[.agg #[.int .i64 t.p,.int .i64 t.c,.int .i64 t.h,.int .i64 t.s],.slice A t.h ca,.agg #[.int .i64 (a:Int),.int .i64 (b:Int)]],by simp only[execOp,Act.eval,d1,d2,d3];go_simp,?_⟩
         refine (HRES.out W (HAr.out.frm hW) (fun x hx h=>by have:=hlowr.out x h;have:=hW.size;omega)).mono ?_
         rintro e W' ⟨b',off,n',c',rfl,hpl,hc,hb'⟩
         exact⟨_,rfl,Frm.of_below' _ hb',hIW.below hb',b',off,n',c',rfl,hpl,hc⟩
        ·exact .inl ⟨.slice B t.h cb,W,by simp only[execOp,Act.eval,e2];go_simp,Frm.refl _ _,hIW,rfl⟩
        ·have d1:a'.tmps.getD 70 undef = .pointer (some ⟨t.bt,0,none⟩):=dep 0 (by omega) (by kernel_rfl)
         obtain⟨b',off,n',c',d2,hpl,hc⟩:∃b' off n c,a'.tmps.getD 80 undef = .slice (some ⟨b',off,none⟩) n c∧PL t.S W (some ⟨b',off,none⟩) n (resultsL own a b)∧n≤c:=dep 10 (by omega) (by kernel_rfl)
         have d3:a'.tmps.getD 81 undef = .slice B t.h cb:=dep 11 (by omega) (by kernel_rfl)
         refine .inr ⟨92,#[.pointer (some ⟨t.bt,0,none⟩),.slice (some ⟨b',off,none⟩) n' c',.slice B t.h cb],by simp only[execOp,Act.eval,d1,d2,d3];go_simp,?_⟩
         refine (HBST.out (some ⟨b',off,none⟩) n' c' W hIW hpl (HBr.out.frm hW)).mono ?_
         rintro e W' ⟨hI',hf',rfl⟩
         exact⟨_,rfl,hf',hI',rfl⟩
        ·have d1:a'.tmps.getD 82 undef = .tuple #[.int .i64 0,.agg #[.int .i64 0,.int .i64 0],.bool false]:=dep 12 (by omega) (by kernel_rfl)
         exact .inl ⟨.tuple #[.int .i64 0,.agg #[.int .i64 0,.int .i64 0],.bool false],W,by simp only[execOp,Act.eval,d1];go_simp,Frm.refl _ _,hIW,rfl⟩
        ·have d1:a'.tmps.getD 69 undef = .tuple #[.int .i64 0,.agg #[.int .i64 0,.int .i64 0],.bool false]:=dep 13 (by omega) (by kernel_rfl)
         exact .inl ⟨.int .i64 0,W,by simp only[execOp,Act.eval,d1];go_simp,Frm.refl _ _,hIW,rfl⟩
        ·refine .inl ⟨.pointer (some ⟨W.heap.size,0,none⟩),W.alloc (.cells #[.int .i64 0,.int .i64 0] 35),by kernel_rfl,(Frm.refl _ _).alloc _,hIW.alloc _,W.heap.size,rfl,hW.size,?_,?_,?_,?_⟩<;>simp[go_sem]
       intro v W hW hIW hg
       have g0:v 0 = .pointer (some ⟨t.bt,0,none⟩):=hg 0 (by omega)
       have g1:v 1 = .pointer (some ⟨t.bt,0,none⟩):=hg 1 (by omega)
       have g2:v 2 = .pointer (some ⟨t.bt,0,none⟩):=hg 2 (by omega)
       have g3:v 3 = .pointer (some ⟨t.bt,0,none⟩):=hg 3 (by omega)
       have g4:v 4 = .agg #[.int .i64 t.p,.int .i64 t.c,.int .i64 t.h,.int .i64 t.s]:=hg 4 (by omega)
       have g5:v 5 = .slice A t.h ca:=hg 5 (by omega)
       have g6:v 6 = .slice (some ⟨rb,ro,none⟩) (rollsN t.s).length cr:=hg 6 (by omega)
       have g7:v 7 = .int .i64 (k:Int):=hg 7 (by omega)
       have g8:v 8 = .pointer (some ⟨rb,ro+k*2,none⟩):=hg 8 (by omega)
       have g9:v 9 = .agg #[.int .i64 (a:Int),.int .i64 (b:Int)]:=hg 9 (by omega)
       obtain⟨_,_,_,_,g10,_,_⟩:∃b' off n c,v 10 = .slice (some ⟨b',off,none⟩) n c∧PL t.S W (some ⟨b',off,none⟩) n (resultsL own a b)∧n≤c:=hg 10 (by omega)
       have g11:v 11 = .slice B t.h cb:=hg 11 (by omega)
       have g12:v 12 = .tuple #[.int .i64 0,.agg #[.int .i64 0,.int .i64 0],.bool false]:=hg 12 (by omega)
       have g13:v 13 = .tuple #[.int .i64 0,.agg #[.int .i64 0,.int .i64 0],.bool false]:=hg 13 (by omega)
       have g14:v 14 = .int .i64 0:=hg 14 (by omega)
       have g15:v 15 = .agg #[.int .i64 0,.int .i64 0]:=hg 15 (by omega)
       have g16:v 16 = .bool false:=hg 16 (by omega)
       obtain⟨g,g17,gl,y0,y1,y2,y3⟩:∃g,v 17 = .pointer (some ⟨g,0,none⟩)∧wr.heap.size≤g∧W.cell? ⟨g,0,none⟩=some (.int .i64 0)∧W.cell? ⟨g,1,none⟩=some (.int .i64 0)∧W.frozen? ⟨g,0,none⟩=false∧W.frozen? ⟨g,1,none⟩=false:=hg 17 (by omega)
       simp only[List.drop_succ_cons,List.drop_zero,putV,v13d,g0,g1,g2,g3,g4,g5,g6,g7,g8,g9,g10,g11,g12,g13,g14,g15,g16,g17,Act.put]
       clear g0 g1 g2 g3 g4 g5 g6 g7 g8 g9 g10 g11 g12 g13 g14 g15 g16 g17 hg;have HW:=Lib.hid hW;have HIw:=Lib.hid hIW;have yz:=World.block_lt_of_cell? W _ y0;clear hW hIW
       have hgS:¬t.S g:=fun h=>by have:=hlowr.out g h;omega
       have hgB:t.bt≠g:=fun h=>by have:=HI.out.ltB;omega
       have hgn:¬g=w.heap.size:=by omega
       have hgn2:¬w.heap.size=g:=by omega
       have HF4:=Lib.hid ((HF2.out.frm HFw.out).frm HW.out);clear HO;obtain⟨z0,c00,f00,c01,f01⟩:=HF4.out.xf3
       go_wp2_with (fail)
       refine bodyPost_ret (v:=.tuple #[.agg #[.int .i64 0,.int .i64 0],.bool false]) (by simp[results,Tryz.results144,go_sem,c00,c01,z0,f00,f01,y0,y1,y2,y3,yz,hgn,hgn2]) rfl (RetTn.mkN HRE.out ?_ ?_)
       ·repeat (first|exact HIw.out|refine TabI.alloc ?_ _|refine TabI.stored ?_ _ HNS.out HNB.out|refine TabI.stored ?_ _ hgS hgB)
       ·repeat (first|exact HF4.out.f|refine Frm.alloc ?_ _|refine Frm.ownSet ?_ (by omega) _)
      ·have HXS:Hid (allS (rollE t.s own other) ((rollsN t.s).take (k+1))=some (xs++[⟨xn,xd⟩])):=allS_go HLK.out hxs.out.1 (by rw[hab,rollE_best,hbs];rfl)
       rw[hbs]at HBST0;have HBST:=Lib.hid HBST0;clear hbs hab HBST0
       go_wp2_with (fail)
       refine wp_region_early 18 (fun i=>i == 15||i == 16) v13d (Frm t.S) (TabI t) (v13G t wr A B ca cb rb ro cr k a b own (.tuple #[.int .i64 (at':Int),.agg #[.int .i64 xn,.int .i64 (xd:Int)],.bool true]) (.int .i64 (at':Int)) (.agg #[.int .i64 xn,.int .i64 (xd:Int)]) (.bool true)) (by kernel_rfl) (by kernel_rfl) (fun _ _ _ _ _ h=>h) (fun _ _ _ h1 h2=>h1.trans h2) (fun _=>Frm.refl _ _) (v13_stab hlowr.out) (Frm.refl _ _).drew HI.out.drew ?_ ?_ ?_
       ·
        intro i o hi hX ho a' W hW hIW hfar hdep
        have dep:∀j,j<18→Region.waitsFor .any _ i j=true→v13G t wr A B ca cb rb ro cr k a b own (.tuple #[.int .i64 (at':Int),.agg #[.int .i64 xn,.int .i64 (xd:Int)],.bool true]) (.int .i64 (at':Int)) (.agg #[.int .i64 xn,.int .i64 (xd:Int)]) (.bool true) j (a'.tmps.getD (v13d j) undef) W:=hdep
        have hi8:i=15∨i=16:=by simpa using hX
        clear hfar
        rcases hi8 with rfl|rfl
        all_goals
         simp at ho
         subst ho
        ·have d1:a'.tmps.getD 69 undef = .tuple #[.int .i64 (at':Int),.agg #[.int .i64 xn,.int .i64 (xd:Int)],.bool true]:=dep 13 (by omega) (by kernel_rfl)
         exact⟨.agg #[.int .i64 xn,.int .i64 (xd:Int)],fun W'=>by simp only[execOp,Act.eval,d1];go_simp,rfl⟩
        ·have d1:a'.tmps.getD 69 undef = .tuple #[.int .i64 (at':Int),.agg #[.int .i64 xn,.int .i64 (xd:Int)],.bool true]:=dep 13 (by omega) (by kernel_rfl)
         exact⟨.bool true,fun W'=>by simp only[execOp,Act.eval,d1];go_simp,rfl⟩
       ·
        intro i o hi hX ho a' W hW hIW hfar hdep
        have e0:a'.tmps.getD 0 undef = .pointer (some ⟨t.bt,0,none⟩):=(hfar 0 (fun j _=>by have:=v13_ge j;omega)).trans rfl
        have e1:a'.tmps.getD 1 undef = .slice A t.h ca:=(hfar 1 (fun j _=>by have:=v13_ge j;omega)).trans rfl
        have e2:a'.tmps.getD 2 undef = .slice B t.h cb:=(hfar 2 (fun j _=>by have:=v13_ge j;omega)).trans rfl
        have e9:a'.tmps.getD 9 undef = .slice (some ⟨rb,ro,none⟩) (rollsN t.s).length cr:=(hfar 9 (fun j _=>by have:=v13_ge j;omega)).trans rfl
        have e11:a'.tmps.getD 11 undef = .int .i64 (k:Int):=(hfar 11 (fun j _=>by have:=v13_ge j;omega)).trans rfl
        have dep:∀j,j<18→Region.waitsFor .any _ i j=true→v13G t wr A B ca cb rb ro cr k a b own (.tuple #[.int .i64 (at':Int),.agg #[.int .i64 xn,.int .i64 (xd:Int)],.bool true]) (.int .i64 (at':Int)) (.agg #[.int .i64 xn,.int .i64 (xd:Int)]) (.bool true) j (a'.tmps.getD (v13d j) undef) W:=hdep
        have hX2:i≠15∧i≠16:=by simpa using hX
        have hi8:i=0∨i=1∨i=2∨i=3∨i=4∨i=5∨i=6∨i=7∨i=8∨i=9∨i=10∨i=11∨i=12∨i=13∨i=14∨i=17:=by omega
        clear hfar
        rcases hi8 with rfl|rfl|rfl|rfl|rfl|rfl|rfl|rfl|rfl|rfl|rfl|rfl|rfl|rfl|rfl|rfl
        all_goals
         simp at ho
         subst ho
        ·exact .inl ⟨.pointer (some ⟨t.bt,0,none⟩),W,by simp only[execOp,Act.eval,e0];go_simp,Frm.refl _ _,hIW,rfl⟩
        ·exact .inl ⟨.pointer (some ⟨t.bt,0,none⟩),W,by simp only[execOp,Act.eval,e0];go_simp,Frm.refl _ _,hIW,rfl⟩
        ·have d1:a'.tmps.getD 71 undef = .pointer (some ⟨t.bt,0,none⟩):=dep 1 (by omega) (by kernel_rfl)
         exact .inl ⟨.pointer (some ⟨t.bt,0,none⟩),W,by simp only[execOp,Act.eval,d1];go_simp,Frm.refl _ _,hIW,rfl⟩
        ·have d1:a'.tmps.getD 72 undef = .pointer (some ⟨t.bt,0,none⟩):=dep 2 (by omega) (by kernel_rfl)
         exact .inl ⟨.pointer (some ⟨t.bt,0,none⟩),W,by simp only[execOp,Act.eval,d1];go_simp,Frm.refl _ _,hIW,rfl⟩
        ·have d1:a'.tmps.getD 73 undef = .pointer (some ⟨t.bt,0,none⟩):=dep 3 (by omega) (by kernel_rfl)
         have q0:=hIW.tb 0 _ rfl;have q1:=hIW.tb 1 _ rfl;have q2:=hIW.tb 2 _ rfl;have q3:=hIW.tb 3 _ rfl
         exact .inl ⟨.agg #[.int .i64 t.p,.int .i64 t.c,.int .i64 t.h,.int .i64 t.s],W,by simp only[execOp,Act.eval,d1];go_simp,Frm.refl _ _,hIW,rfl⟩
        ·exact .inl ⟨.slice A t.h ca,W,by simp only[execOp,Act.eval,e1];go_simp,Frm.refl _ _,hIW,rfl⟩
        ·exact .inl ⟨.slice (some ⟨rb,ro,none⟩) (rollsN t.s).length cr,W,by simp only[execOp,Act.eval,e9];go_simp,Frm.refl _ _,hIW,rfl⟩
        ·exact .inl ⟨.int .i64 (k:Int),W,by simp only[execOp,Act.eval,e11];go_simp,Frm.refl _ _,hIW,rfl⟩
        ·have d1:a'.tmps.getD 76 undef = .slice (some ⟨rb,ro,none⟩) (rollsN t.s).length cr:=dep 6 (by omega) (by kernel_rfl)
         have d2:a'.tmps.getD 77 undef = .int .i64 (k:Int):=dep 7 (by omega) (by kernel_rfl)
         exact .inl ⟨.pointer (some ⟨rb,ro+k*2,none⟩),W,by simp only[execOp,Act.eval,d1,d2];go_simp,Frm.refl _ _,hIW,rfl⟩
        ·have d1:a'.tmps.getD 78 undef = .pointer (some ⟨rb,ro+k*2,none⟩):=dep 8 (by omega) (by kernel_rfl)
         have q1:=hW.cell' HQ1.out hrbS.out;have q2:=hW.cell' HQ2'.out hrbS.out
         exact .inl ⟨.agg #[.int .i64 (a:Int),.int .i64 (b:Int)],W,by simp only[execOp,Act.eval,d1];go_simp,Frm.refl _ _,hIW,rfl⟩
        ·have d1:a'.tmps.getD 74 undef = .agg #[.int .i64 t.p,.int .i64 t.c,.int .i64 t.h,.int .i64 t.s]:=dep 4 (by omega) (by kernel_rfl)
         have d2:a'.tmps.getD 75 undef = .slice A t.h ca:=dep 5 (by omega) (by kernel_rfl)
         have d3:a'.tmps.getD 79 undef = .agg #[.int .i64 (a:Int),.int .i64 (b:Int)]:=dep 9 (by omega) (by kernel_rfl)
         refine .inr ⟨91,#[.agg #[.int .i64 t.p,.int .i64 t.c,.int .i64 t.h,.int .i64 t.s],.slice A t.h ca,.agg #[.int .i64 (a:Int),.int .i64 (b:Int)]],by simp only[execOp,Act.eval,d1,d2,d3];go_simp,?_⟩
         refine (HRES.out W (HAr.out.frm hW) (fun x hx h=>by have:=hlowr.out x h;have:=hW.size;omega)).mono ?_
         rintro e W' ⟨b',off,n',c',rfl,hpl,hc,hb'⟩
         exact⟨_,rfl,Frm.of_below' _ hb',hIW.below hb',b',off,n',c',rfl,hpl,hc⟩
        ·exact .inl ⟨.slice B t.h cb,W,by simp only[execOp,Act.eval,e2];go_simp,Frm.refl _ _,hIW,rfl⟩
        ·have d1:a'.tmps.getD 70 undef = .pointer (some ⟨t.bt,0,none⟩):=dep 0 (by omega) (by kernel_rfl)
         obtain⟨b',off,n',c',d2,hpl,hc⟩:∃b' off n c,a'.tmps.getD 80 undef = .slice (some ⟨b',off,none⟩) n c∧PL t.S W (some ⟨b',off,none⟩) n (resultsL own a b)∧n≤c:=dep 10 (by omega) (by kernel_rfl)
         have d3:a'.tmps.getD 81 undef = .slice B t.h cb:=dep 11 (by omega) (by kernel_rfl)
         refine .inr ⟨92,#[.pointer (some ⟨t.bt,0,none⟩),.slice (some ⟨b',off,none⟩) n' c',.slice B t.h cb],by simp only[execOp,Act.eval,d1,d2,d3];go_simp,?_⟩
         refine (HBST.out (some ⟨b',off,none⟩) n' c' W hIW hpl (HBr.out.frm hW)).mono ?_
         rintro e W' ⟨hI',hf',rfl⟩
         exact⟨_,rfl,hf',hI',rfl⟩
        ·have d1:a'.tmps.getD 82 undef = .tuple #[.int .i64 (at':Int),.agg #[.int .i64 xn,.int .i64 (xd:Int)],.bool true]:=dep 12 (by omega) (by kernel_rfl)
         exact .inl ⟨.tuple #[.int .i64 (at':Int),.agg #[.int .i64 xn,.int .i64 (xd:Int)],.bool true],W,by simp only[execOp,Act.eval,d1];go_simp,Frm.refl _ _,hIW,rfl⟩
        ·have d1:a'.tmps.getD 69 undef = .tuple #[.int .i64 (at':Int),.agg #[.int .i64 xn,.int .i64 (xd:Int)],.bool true]:=dep 13 (by omega) (by kernel_rfl)
         exact .inl ⟨.int .i64 (at':Int),W,by simp only[execOp,Act.eval,d1];go_simp,Frm.refl _ _,hIW,rfl⟩
        ·refine .inl ⟨.pointer (some ⟨W.heap.size,0,none⟩),W.alloc (.cells #[.int .i64 0,.int .i64 0] 35),by kernel_rfl,(Frm.refl _ _).alloc _,hIW.alloc _,W.heap.size,rfl,hW.size,?_,?_,?_,?_⟩<;>simp[go_sem]
       intro v W hW hIW hg
       have g0:v 0 = .pointer (some ⟨t.bt,0,none⟩):=hg 0 (by omega)
       have g1:v 1 = .pointer (some ⟨t.bt,0,none⟩):=hg 1 (by omega)
       have g2:v 2 = .pointer (some ⟨t.bt,0,none⟩):=hg 2 (by omega)
       have g3:v 3 = .pointer (some ⟨t.bt,0,none⟩):=hg 3 (by omega)
       have g4:v 4 = .agg #[.int .i64 t.p,.int .i64 t.c,.int .i64 t.h,.int .i64 t.s]:=hg 4 (by omega)
       have g5:v 5 = .slice A t.h ca:=hg 5 (by omega)
       have g6:v 6 = .slice (some ⟨rb,ro,none⟩) (rollsN t.s).length cr:=hg 6 (by omega)
       have g7:v 7 = .int .i64 (k:Int):=hg 7 (by omega)
       have g8:v 8 = .pointer (some ⟨rb,ro+k*2,none⟩):=hg 8 (by omega)
       have g9:v 9 = .agg #[.int .i64 (a:Int),.int .i64 (b:Int)]:=hg 9 (by omega)
       obtain⟨_,_,_,_,g10,_,_⟩:∃b' off n c,v 10 = .slice (some ⟨b',off,none⟩) n c∧PL t.S W (some ⟨b',off,none⟩) n (resultsL own a b)∧n≤c:=hg 10 (by omega)
       have g11:v 11 = .slice B t.h cb:=hg 11 (by omega)
       have g12:v 12 = .tuple #[.int .i64 (at':Int),.agg #[.int .i64 xn,.int .i64 (xd:Int)],.bool true]:=hg 12 (by omega)
       have g13:v 13 = .tuple #[.int .i64 (at':Int),.agg #[.int .i64 xn,.int .i64 (xd:Int)],.bool true]:=hg 13 (by omega)
       have g14:v 14 = .int .i64 (at':Int):=hg 14 (by omega)
       have g15:v 15 = .agg #[.int .i64 xn,.int .i64 (xd:Int)]:=hg 15 (by omega)
       have g16:v 16 = .bool true:=hg 16 (by omega)
       obtain⟨g,g17,gl,y0,y1,y2,y3⟩:∃g,v 17 = .pointer (some ⟨g,0,none⟩)∧wr.heap.size≤g∧W.cell? ⟨g,0,none⟩=some (.int .i64 0)∧W.cell? ⟨g,1,none⟩=some (.int .i64 0)∧W.frozen? ⟨g,0,none⟩=false∧W.frozen? ⟨g,1,none⟩=false:=hg 17 (by omega)
       simp only[List.drop_succ_cons,List.drop_zero,putV,v13d,g0,g1,g2,g3,g4,g5,g6,g7,g8,g9,g10,g11,g12,g13,g14,g15,g16,g17,Act.put]
       clear g0 g1 g2 g3 g4 g5 g6 g7 g8 g9 g10 g11 g12 g13 g14 g15 g16 g17 hg;have HW:=Lib.hid hW;have HIw:=Lib.hid hIW;have yz:=World.block_lt_of_cell? W _ y0;clear hW hIW
       have hgS:¬t.S g:=fun h=>by have:=hlowr.out g h;omega
       have hgB:t.bt≠g:=fun h=>by have:=HI.out.ltB;omega
       have HVL:=Lib.hid fun (j:Nat) (hj:vx.ownBlock=some j)=>World.ownsRow.lt HO.out j hj
       have hzW:wr.heap.size≤W.heap.size:=HW.out.size
       have HV:Hid (∀o:Obj,Frm t.S W2 (((W.setCell ⟨g,0,none⟩ (.int .i64 xn)).setCell ⟨g,1,none⟩ (.int .i64 (xd:Int))).alloc o)∧TabI t (((W.setCell ⟨g,0,none⟩ (.int .i64 xn)).setCell ⟨g,1,none⟩ (.int .i64 (xd:Int))).alloc o)):=fun o=>
        ⟨((((HFw.out.trans HW.out).ownSet (by omega) _).ownSet (by omega) _).alloc o),((HIw.out.stored _ hgS hgB).stored _ hgS hgB).alloc o⟩
       have HROW:Hid ((((W.setCell ⟨g,0,none⟩ (.int .i64 xn)).setCell ⟨g,1,none⟩ (.int .i64 (xd:Int))).alloc (.cells #[.int .i64 xn,.int .i64 (xd:Int)] 35)).ownsRow W2.heap.size 35 2 vx xs.length (exC xs)):=by
        refine row_alloc ?_ _
        refine Frm.row (S:=fun x=>x=g) ((Frm.set _ _ _ _).trans (Frm.set _ _ _ _)) (HW.out.row HO.out fun j hj h=>?_) (fun j hj h=>?_)
        ·have:=(HVL.out j hj).1;have:=HLOW.out j h;omega
        ·have:=(HVL.out j hj).2;omega
       have hTN:Hid (∀j u,[Value.int .i64 xn,.int .i64 (xd:Int)][j]? = some u→(((W.setCell ⟨g,0,none⟩ (.int .i64 xn)).setCell ⟨g,1,none⟩ (.int .i64 (xd:Int))).alloc (.cells #[.int .i64 xn,.int .i64 (xd:Int)] 35)).cell? ((⟨W.heap.size,0,none⟩:Addr).add j)=some u):=by
        have h:=two_new ((W.setCell ⟨g,0,none⟩ (.int .i64 xn)).setCell ⟨g,1,none⟩ (.int .i64 (xd:Int))) xn (xd:Int) 35
        rw[show ((W.setCell ⟨g,0,none⟩ (.int .i64 xn)).setCell ⟨g,1,none⟩ (.int .i64 (xd:Int))).heap.size=W.heap.size by simp]at h
        exact h
       clear HO HW HIw HI
       go_wp2_with (at_builtin;(refine wpList_append_own_at _ rfl _ _ 29 rfl W2.heap.size 35 i0 (.agg #[.int .i64 0,.int .i64 0]) 2 16 Tryz.underlying29 hi hz0 hz1 hz2 rfl (by decide) _ _ _ rfl HROW.out ⟨W.heap.size,0,none⟩ 1 1 [.int .i64 xn,.int .i64 (xd:Int)] rfl rfl hTN.out (two_cells _ _) (by have:=HXK.out;unfold maxLen;omega) (by have:=HXK.out;omega) (by simp;omega) ?_);intro v' w4 hown hgrow _ hat)
       have hgO:∀x,some x=vx.ownBlock→W2.heap.size≤x:=fun x hx=>(HVL.out x hx.symm).1
       have HFw4:Hid (Frm t.S W2 w4):=(HV.out _).1.outs (Frm.of_grown hgrow) hgO
       have HI4:Hid (TabI t w4):=(HV.out _).2.frm (Frm.of_grown hgrow) (fun x hx h=>by have:=hgO x hx;have:=HLOW.out x h;omega) (fun h=>by have:=hgO _ h;have:=HI2.out.ltB;omega)
       have HO4:Hid (OwnE w4 W2.heap.size v' (xs++[⟨xn,xd⟩])):=by
        unfold Hid OwnE;rw[exC_snoc,List.length_append]
        exact hown
       have HL4:Hid ((xs++[(⟨xn,xd⟩:E)]).length=k+1):=by unfold Hid;rw[List.length_append,HXK.out];rfl
       clear hown hgrow hat HROW HV hgO
       go_wp2_with (fail)
       go_roundw
       case rel=>exact⟨k+1,xs++[⟨xn,xd⟩],by omega,by go_num,⟨HXS.out,HL4.out⟩,⟨_,rfl,HO4⟩,HI4,HFw4⟩
       case measure=>(simp[intOf])<;>omega
     ·have hke:k=(rollsN t.s).length:=by omega
      have HALL:Hid (allS (rollE t.s own other) (rollsN t.s)=some xs):=by
       have h:=hxs.out.1
       rwa [List.take_of_length_le (by omega)]at h
      have HRE0:Hid (win t.s own other=meanE (sq t.s) (rollsN t.s) xs):=by
       unfold Hid
       rw[HWIN.out,HALL.out];rfl
      obtain⟨Av,cv,hvx,hel,_⟩:=HO.out.el
      have hxl:xs.length=(rollsN t.s).length:=by rw[HXK.out,hke]
      rw[hxl]at hvx hel;have MEAN:=Lib.hid (l09Mean_any t.p t.c t.h t.s (rollsN t.s).length cv Av xs wr hs1 hs6 hel rfl (allS_val HRV.out HALL.out));subst hvx;have e0:=HI.out.tb 0 _ rfl;have e1:=HI.out.tb 1 _ rfl;have e2:=HI.out.tb 2 _ rfl;have e3:=HI.out.tb 3 _ rfl;have hbt:=HI.out.ltB;have HFr:=Lib.hid (HF2.out.frm HFw.out);have hzwr:W2.heap.size≤wr.heap.size:=HFw.out.size;clear hel hxl HO hxs HRL HF2 HI2 HA2 HB2 HFw;generalize meanE (sq t.s) (rollsN t.s) xs=o at *
      rcases o with _|⟨m,d⟩
      ·go_wp2_with (fail)
       refine MEAN.out.mono ?_
       rintro e w5 ⟨rfl,hb5⟩
       simp only[Option.getD_none,Option.isSome_none]
       have HF5:=Lib.hid (HFr.out.below hb5);have HI5:=Lib.hid (HI.out.below hb5);clear HFr HI hb5 e0 e1 e2 e3 hbt MEAN;obtain⟨z0,c00,f00,c01,f01⟩:=HF5.out.xf3
       go_wp2_with (fail)
       refine bodyPost_ret (v:=.tuple #[.agg #[.int .i64 0,.int .i64 0],.bool false]) (by simp[results,Tryz.results144,go_sem,c00,c01,z0,f00,f01]) rfl (RetTn.mkN HRE0.out ?_ ?_)
       ·repeat (first|exact HI5.out|refine TabI.alloc ?_ _|refine TabI.drew ?_|refine TabI.stored ?_ _ HNS.out HNB.out)
       ·repeat (first|exact HF5.out.f|refine Frm.alloc ?_ _|refine Frm.drew ?_|refine Frm.ownSet ?_ (by omega) _)
      ·go_wp2_with (fail)
       refine MEAN.out.mono ?_
       rintro e w5 ⟨rfl,hb5⟩
       simp only[Option.getD_some,Option.isSome_some]
       have HFx:Hid (FrS t.S w (w5.alloc (.cells #[.int .i64 m,.int .i64 (d:Int)] 35)) [[.int .i64 0,.int .i64 0]]):=(HFr.out.below hb5).alloc _;have HIx:Hid (TabI t (w5.alloc (.cells #[.int .i64 m,.int .i64 (d:Int)] 35))):=(HI.out.below hb5).alloc _;have hz5:wr.heap.size≤w5.heap.size:=hb5.size
       have g0:(w5.alloc (.cells #[.int .i64 m,.int .i64 (d:Int)] 35)).cell? ⟨w5.heap.size,0,none⟩=some (.int .i64 m):=by simp[go_sem]
       have g1:(w5.alloc (.cells #[.int .i64 m,.int .i64 (d:Int)] 35)).cell? ⟨w5.heap.size,1,none⟩=some (.int .i64 (d:Int)):=by simp[go_sem]
       have gz:w5.heap.size<(w5.alloc (.cells #[.int .i64 m,.int .i64 (d:Int)] 35)).heap.size:=by simp
       clear HFr HI hb5 e0 e1 e2 e3 hbt MEAN
       go_upto_region 18 with (fail)
       generalize w5.alloc (.cells #[.int .i64 m,.int .i64 (d:Int)] 35)=X at *;obtain⟨kf,ef,hC,hM2⟩:=HIx.out;have HM2:=Lib.hid hM2;have HC:=Lib.hid hC;have HC1:=Lib.hid (hC.setK hKM);have e5:=hC.tb 5 _ rfl;have ek:=hC.k K hKM;have fk:=hC.fk K;have hbk:=hC.ltK;have hbt:=hC.ltB
       have hgk:¬w5.heap.size=t.bk:=fun h=>by have:=HLOW.out t.bk (.inl rfl);omega
       have hgk2:¬t.bk=w5.heap.size:=fun h=>hgk h.symm
       have hgS:¬t.S w5.heap.size:=fun h=>by have:=HLOW.out _ h;omega
       have hbb:¬t.bt=t.bk:=fun h=>hC.nt (.inl h)
       have hbb2:¬t.bk=t.bt:=fun h=>hbb h.symm
       have k0:=(Frm.set X t.bk K (.bool true)).cell' g0 hgk;have k1:=(Frm.set X t.bk K (.bool true)).cell' g1 hgk
       have kz:w5.heap.size<(X.setCell ⟨t.bk,K,none⟩ (.bool true)).heap.size:=by simpa using gz
       have HFk:Hid (Frm t.S w (X.setCell ⟨t.bk,K,none⟩ (.bool true))):=HFx.out.f.trans ((Frm.set X t.bk K (.bool true)).mono fun x hx=>by rw[hx];exact .inl rfl)
       have HFk2:Hid (FrS t.S w (X.setCell ⟨t.bk,K,none⟩ (.bool true)) [[.int .i64 0,.int .i64 0]]):=HFx.out.frm ((Frm.set X t.bk K (.bool true)).mono fun x hx=>by rw[hx];exact .inl rfl)
       clear hC hM2
       go_wp2_with (fail)
       clear g0 g1 gz e5 ek fk hbk;generalize X.setCell ⟨t.bk,K,none⟩ (.bool true)=X1 at *;have e6:=HC1.out.tb 6 _ rfl;have hbt1:=HC1.out.ltB
       first|refine wp_region_tail_more2 7 (by kernel_rfl) (by kernel_rfl) ?_|refine wp_region_tail_more 7 (by kernel_rfl) (by kernel_rfl) ?_
       simp only[List.take_succ_cons,List.take_zero,List.drop_succ_cons,List.drop_zero]
       repeat (first|go_big_quiet_step (fail)|quiet_step (fail))
       refine wpQuiet_nil ?_
       intro _ hw'
       obtain⟨tr,hw''⟩:=hw';subst hw'';have HC2:=Lib.hid (HC1.out.below (below_more _ tr));have HF6:=Lib.hid (HFk2.out.more tr);have j0:=keep_cell k0 (below_more _ tr);have j1:=keep_cell k1 (below_more _ tr);have jz:=Nat.lt_of_lt_of_le kz (size_more _ tr);clear k0 k1 kz e6 hbt1 hbt HC1 HFk HFk2 HFx HIx HC;generalize more X1 tr=Z at *;obtain⟨v1,v2⟩:=HC2.out.e K hKM;have fv1:=HC2.out.fv (K*2);have fv2:=HC2.out.fv (K*2+1);have hbv:=HC2.out.ltV
       have hgv:¬w5.heap.size=t.bv:=fun h=>hgS (.inr h)
       have hgv2:¬t.bv=w5.heap.size:=fun h=>hgv h.symm
       have hwv:¬w.heap.size=t.bv:=fun h=>HNS.out (.inr h)
       have hwv2:¬t.bv=w.heap.size:=fun h=>hwv h.symm
       have HI7:Hid (TabI t ((Z.setCell ⟨t.bv,K*2,none⟩ (.int .i64 m)).setCell ⟨t.bv,K*2+1,none⟩ (.int .i64 (d:Int)))):=by
        refine⟨_,_,HC2.out.setV hKM m (d:Int),?_⟩
        have:=HM2.out.put HQ.out HQ2.out (e:=⟨m,d⟩) HRE0.out;rw[HK2.out]at this
        exact this
       have HF7:Hid (FrS t.S w ((Z.setCell ⟨t.bv,K*2,none⟩ (.int .i64 m)).setCell ⟨t.bv,K*2+1,none⟩ (.int .i64 (d:Int))) [[.int .i64 0,.int .i64 0]]):=HF6.out.frm (((Frm.set _ _ _ _).trans (Frm.set _ _ _ _)).mono fun x hx=>by rw[hx];exact .inr rfl)
       have h2:∀(c:Nat) (v:Value),Z.cell? ⟨w5.heap.size,c,none⟩=some v→((Z.setCell ⟨t.bv,K*2,none⟩ (.int .i64 m)).setCell ⟨t.bv,K*2+1,none⟩ (.int .i64 (d:Int))).cell? ⟨w5.heap.size,c,none⟩=some v:=fun c v h=>(Frm.set _ _ _ _).cell' ((Frm.set _ _ _ _).cell' h hgv) hgv
       have q0:=h2 0 _ j0;have q1:=h2 1 _ j1;have e6:=HC2.out.tb 6 _ rfl;clear h2 HF6 HM2
       have z0:=HF7.out.ltA (b:=w.heap.size) 0 rfl (by simp)
       have c00:=HF7.out.cellA (b:=w.heap.size) 0 0 rfl rfl;have f00:=HF7.out.frozA (b:=w.heap.size) 0 0 rfl rfl;have c01:=HF7.out.cellA (b:=w.heap.size) 0 1 rfl rfl;have f01:=HF7.out.frozA (b:=w.heap.size) 0 1 rfl rfl
       go_wp2_with (fail)
       refine bodyPost_ret (v:=.tuple #[.agg #[.int .i64 m,.int .i64 (d:Int)],.bool true]) (by simp[results,Tryz.results144,go_sem,c00,c01,z0,f00,f01]) rfl (RetTn.mkY HRE0.out ?_ ?_)
       ·repeat (first|exact HI7.out|refine TabI.alloc ?_ _|refine TabI.drew ?_|refine TabI.stored ?_ _ HNS.out HNB.out)
       ·repeat (first|exact HF7.out.f|refine Frm.alloc ?_ _|refine Frm.drew ?_|refine Frm.ownSet ?_ (by omega) _)
   ·obtain⟨⟨m,d⟩,hwe,hee⟩:=HM2.out own other HQ.out HQ2.out (by rw[HK2.out];exact hkf)
    rw[HK2.out]at hee;obtain⟨ev1,ev2⟩:=HC.out.e K hKM;rw[hee]at ev1 ev2;rw[hkf]at ek;have HRE:=Lib.hid hwe;have hbv:=HC.out.ltV;have hbk:=HC.out.ltK;clear hkf hwe hee HC HM2;obtain⟨z0,c00,f00,c01,f01⟩:=HF1.out.xf3
    go_wp2_with (fail)
    refine bodyPost_ret (v:=.tuple #[.agg #[.int .i64 m,.int .i64 (d:Int)],.bool true]) (by simp[results,Tryz.results144,go_sem,c00,c01,z0,f00,f01]) rfl (RetTn.mkY HRE.out ?_ ?_)
    ·repeat (first|exact HI1.out|refine TabI.alloc ?_ _|refine TabI.drew ?_|refine TabI.stored ?_ _ HNS.out HNB.out)
    ·repeat (first|exact HF1.out.f|refine Frm.alloc ?_ _|refine Frm.drew ?_|refine Frm.ownSet ?_ (by omega) _)
end Go.Proofs.YtkaiilmgemaljaaGreat
/- Contract of the check of a variant and a position, the program's. There are no conditions. -/
namespace Go.Proofs.YtkaiilmgemaljaaGreat
open Go.RowKit Ps
end Go.Proofs.YtkaiilmgemaljaaGreat

/- Contract of an expected number, by the program's table. There are no conditions beyond those that it states. -/
import Derived.Test.YtkaiilmgemaljaaGreatPR4
set_option linter.unusedVariables false
set_option linter.unusedSimpArgs false
namespace Go.Proofs.YtkaiilmgemaljaaGreat
open Go.RowKit Ps Ra Ex Go.Maps
set_option maxRecDepth 100000 in
set_option maxHeartbeats 4000000 in
theorem expected_step (t:OT) (ht:t.Ok) {q:List Int} (hq:PosP t.h t.c q) (hexp:q.sum≠0→∀x,PosP t.h t.c x→pips x<pips q→ExpC t x):ExpC t q:=by
 intro A ca w hI hA hca
 have hv:=isVar_yes ht.v
 have hh24:t.h≤24:=by omega
 have hc15:t.c≤15:=by omega
 have hlow:=hI.ltS;have HBT:Hid (t.bt<w.heap.size):=hI.ltB
 have HNS:Hid (¬t.S w.heap.size):=fun h=>by have:=hlow _ h;omega
 have HNB:Hid (t.bt≠w.heap.size):=fun h=>by have:=hI.ltB;omega
 have HF0:Hid (FrS t.S w (w.alloc (.cells #[.int .i64 0,.int .i64 0] 35)) [[.int .i64 0,.int .i64 0]]):=(FrS.start w hlow).allocT (by simp) _ _
 have hb0:Below w.heap.size w (w.alloc (.cells #[.int .i64 0,.int .i64 0] 35)):=(Below.refl _ _).alloc (Nat.le_refl _) _;have HI0:=Lib.hid (hI.below hb0);have HA:=Lib.hid (hA.below hb0);have HIW:=Lib.hid hI
 have TOA:=Lib.hid (total_any A t.h ca q _ HA.out.1 hq.2.1 (by have:=hq.2.2;omega) (by omega))
 by_cases hs0:q.sum=0
 ·have HRE:Hid (xp t.s q=some ⟨0,0⟩):=xp_zero hs0
  have b0:(q.sum == 0)=true:=by simp[hs0]
  clear hI hA hv hlow hb0 hq hexp hs0 ht HA
  go_enter Tryz.func214,Tryz.ntmps214
  go_wp2_with (go_at_call 74;(with_reducible refine TOA.out.mono ?_);rintro e w' ⟨rfl,rfl⟩)
  refine bodyPost_ret (v:=.tuple #[.agg #[.int .i64 0,.int .i64 ((0:Nat):Int)],.bool true]) (by simp[results,Tryz.results214,go_sem]) rfl (RetX.mkY HRE.out ?_ ?_)
  ·repeat (with_reducible first|exact HIW.out|refine OneI.alloc ?_ _|refine OneI.stored ?_ _ HNS.out HNB.out)
  ·repeat (with_reducible first|exact Frm.refl _ _|refine Frm.alloc ?_ _|refine Frm.ownSet ?_ (by omega) _)
 ·have b0:(q.sum == 0)=false:=by simp[hs0]
  have HQ:=Lib.hid hq
  have COMP:=Lib.hid fun (W:World)=>ocompute_any t ht hq hs0 (hexp hs0) A ca W
  have CN:=Lib.hid fun (W:World) (hx:SL W A t.h q)=>bearoffNumber_any t.p t.s t.c t.h A t.h ca q W hx hq hc15 hh24
  have hn1:num t.c q<t.N:=num_lt hq;have hN5:=ht.n
  have HKU:Hid (Lit.int .i64 (num t.c q:Int)∈keysU t.N):=mem_keysU (by have h1:1≤t.N:=wys_pos _ _;have:t.N*1≤t.N*t.N:=Nat.mul_le_mul_left _ h1;omega)
  have HN5:=Lib.hid hN5;have HK1:Hid (t.k1 q=Lit.int .i64 (num t.c q:Int)):=rfl
  have hkb:num t.c q≤1000000:=by omega
  generalize num t.c q=K at *;clear hI hA hv hlow hb0 hq hexp hs0 ht hn1 hN5;have e0:=HI0.out.tb 0 _ rfl;have e1:=HI0.out.tb 1 _ rfl;have e2:=HI0.out.tb 2 _ rfl;have e3:=HI0.out.tb 3 _ rfl;have hbt:=HI0.out.ltB
  go_enter Tryz.func214,Tryz.ntmps214
  go_wp2_with (go_at_call 74;(with_reducible refine TOA.out.mono ?_);rintro e w' ⟨rfl,rfl⟩)
  clear TOA
  refine (CN.out _ HA.out.1).mono ?_
  rintro e W1 ⟨rfl,hb1⟩
  have HF1:=Lib.hid (HF0.out.below hb1);have HI1:=Lib.hid (HI0.out.below hb1);have HA1:=Lib.hid (HA.out.below hb1)
  have hz1:w.heap.size+1≤W1.heap.size:=by have:=HF1.out.z;simpa using this
  clear HF0 HI0 HA e0 e1 e2 e3 hbt CN hb1;have hbt:=HI1.out.ltB;obtain⟨f2,f3,hm⟩:=HI1.out.maps;have HM:=Lib.hid hm;clear hm;have e5:=HI1.out.tb 5 _ rfl
  have hlook:=HM.out.1.look_ok keyI Tryz.underlying106 (z:=.agg #[.int .i64 0,.int .i64 0]) (by kernel_rfl) (key_wf (k:=K) (by omega))
  rcases hf:f2 (t.k1 q) with _|u
  ·have hlk:(Instr.lookup 106 (.map (some t.b2)) (.int .i64 (K:Int)) true).run Tryz.prog W1 = .ok (.tuple #[.agg #[.int .i64 0,.int .i64 0],.bool false]) W1:=by
    have h:=hlook;rw[← HK1.out,hf]at h
    exact h
   clear hlook hf HM;have hbx:Below W1.heap.size W1 (W1.alloc (.cells #[.int .i64 0,.int .i64 0] 35)):=(Below.refl _ _).alloc (Nat.le_refl _) _;have COMP2:=Lib.hid (COMP.out (W1.alloc (.cells #[.int .i64 0,.int .i64 0] 35)) (HI1.out.alloc _) (HA1.out.below hbx) hca);clear COMP hbx
   go_wp2_with (fail)
   refine COMP2.out.mono ?_
   rintro e w2 ⟨rfl,hI2,hf2⟩
   have HF2:=Lib.hid ((HF1.out.alloc (.cells #[.int .i64 0,.int .i64 0] 35)).frm hf2);have HI2:=Lib.hid hI2
   have hz2:W1.heap.size+1≤w2.heap.size:=by have:=hf2.size;simpa using this
   clear hI2 hf2 COMP2 HF1 HI1 HA1 e5 hbt hlk
   rcases hwo:xp t.s q with _|⟨m,d⟩
   ·have HRE:=Lib.hid hwo
    clear hwo;unfold exV
    simp only[Option.getD_none,Option.isSome_none]
    go_wp2_with (fail)
    have HF3:Hid (FrS t.S w (w2.alloc (.cells #[.int .i64 (0),.int .i64 (0)] 35)) [[.int .i64 0,.int .i64 0]]):=HF2.out.alloc _;have HI3:Hid (OneI t (w2.alloc (.cells #[.int .i64 (0),.int .i64 (0)] 35))):=HI2.out.alloc _
    have g0:(w2.alloc (.cells #[.int .i64 (0),.int .i64 (0)] 35)).cell? ⟨w2.heap.size,0,none⟩=some (.int .i64 (0)):=by simp[go_sem]
    have g1:(w2.alloc (.cells #[.int .i64 (0),.int .i64 (0)] 35)).cell? ⟨w2.heap.size,1,none⟩=some (.int .i64 (0)):=by simp[go_sem]
    have gz:w2.heap.size<(w2.alloc (.cells #[.int .i64 (0),.int .i64 (0)] 35)).heap.size:=by simp
    clear HF2 HI2;generalize w2.alloc (.cells #[.int .i64 (0),.int .i64 (0)] 35)=X at *;have e5:=HI3.out.tb 5 _ rfl;have hbt:=HI3.out.ltB
    first|refine wp_region_tail_more2 6 (by kernel_rfl) (by kernel_rfl) ?_|refine wp_region_tail_more 6 (by kernel_rfl) (by kernel_rfl) ?_
    simp only[List.take_succ_cons,List.take_zero,List.drop_succ_cons,List.drop_zero]
    repeat (first|go_big_quiet_step (fail)|quiet_step (fail))
    refine wpQuiet_nil ?_
    intro _ hw'
    obtain⟨tr,hw''⟩:=hw';subst hw'';have HFz:=Lib.hid (HF3.out.more tr);have HIz:=Lib.hid (HI3.out.more tr);have k0:=keep_cell g0 (below_more _ tr);have k1:=keep_cell g1 (below_more _ tr);have kz:=Nat.lt_of_lt_of_le gz (size_more _ tr);clear HF3 HI3 g0 g1 gz e5 hbt;generalize more X tr=Z at *;obtain⟨f2',f3',hm⟩:=HIz.out.maps
    obtain⟨Z1,hrun1,hst1,hg1⟩:=hm.1.store keyI Tryz.underlying106 (keysU_len HN5.out) (key:=.int .i64 (K:Int)) (val:=.agg #[.int .i64 (0),.int .i64 (0)]) (key_wf (by omega)) HKU.out
    have hfz1:Frm (fun k=>k=t.b2) Z Z1:=(Frm.of_grown hg1).mono fun k hk=>by injection hk
    obtain⟨Z2,hrun2,hst2,hg2⟩:=(hm.2.1.frm hfz1 (Ne.symm HIz.out.d23)).store keyI Tryz.underlying107 (keysU_len HN5.out) (key:=.int .i64 (K:Int)) (val:=.bool (true)) (key_wf (by omega)) HKU.out
    have hst1':MapV Tryz.prog 2 Z1 t.b2 (keysU t.N) (putF f2' (t.k1 q) (exV (xp t.s q))):=by rw[HRE.out,HK1.out];exact hst1
    have hst2':MapV Tryz.prog 2 Z2 t.b3 (keysU t.N) (putF f3' (t.k1 q) (.bool (xp t.s q).isNone)):=by rw[HRE.out,HK1.out];exact hst2
    have HIf:Hid (OneI t Z2):=HIz.out.put hm HQ.out hst1' hg1 hst2' hg2
    have hs1:Frm t.S Z Z1:=hfz1.mono fun k hk=>.inl hk
    have hs2:Frm t.S Z1 Z2:=((Frm.of_grown hg2).mono fun k hk=>by injection hk with hk;rw[hk];exact .inr rfl)
    have HFf:Hid (FrS t.S w Z2 [[.int .i64 0,.int .i64 0]]):=(HFz.out.frm hs1).frm hs2
    have hgS:¬t.S w2.heap.size:=fun h=>by have:=HFz.out.low _ h;omega
    have e5:=HIz.out.tb 5 _ rfl;have e6:=hs1.cell' (HIz.out.tb 6 _ rfl) HIz.out.nt;have k0':=hs2.cell' (hs1.cell' k0 hgS) hgS;have k1':=hs2.cell' (hs1.cell' k1 hgS) hgS;have kz':=Nat.lt_of_lt_of_le (Nat.lt_of_lt_of_le kz hs1.size) hs2.size;have hbt:=HIz.out.ltB;have hbt1:=Nat.lt_of_lt_of_le hbt hs1.size;clear hm hst1 hg1 hst2 hg2 hst1' hst2' hfz1 hs1 hs2 HIz HFz hgS k0 k1 kz;obtain⟨z0,c00,f00,c01,f01⟩:=HFf.out.xf3
    go_wp2_with (fail)
    refine bodyPost_ret (v:=.tuple #[.agg #[.int .i64 0,.int .i64 0],.bool false]) (by simp[results,Tryz.results214,go_sem,c00,c01,z0,f00,f01]) rfl (RetX.mkN HRE.out ?_ ?_)
    ·repeat (with_reducible first|exact HIf.out|refine OneI.alloc ?_ _|refine OneI.drew ?_|refine OneI.stored ?_ _ HNS.out HNB.out)
    ·repeat (with_reducible first|exact HFf.out.f|refine Frm.alloc ?_ _|refine Frm.drew ?_|refine Frm.ownSet ?_ (by omega) _)
   ·have HRE:=Lib.hid hwo
    clear hwo;unfold exV
    simp only[Option.getD_some,Option.isSome_some]
    go_wp2_with (fail)
    have HF3:Hid (FrS t.S w (w2.alloc (.cells #[.int .i64 (m),.int .i64 ((d:Int))] 35)) [[.int .i64 0,.int .i64 0]]):=HF2.out.alloc _;have HI3:Hid (OneI t (w2.alloc (.cells #[.int .i64 (m),.int .i64 ((d:Int))] 35))):=HI2.out.alloc _
    have g0:(w2.alloc (.cells #[.int .i64 (m),.int .i64 ((d:Int))] 35)).cell? ⟨w2.heap.size,0,none⟩=some (.int .i64 (m)):=by simp[go_sem]
    have g1:(w2.alloc (.cells #[.int .i64 (m),.int .i64 ((d:Int))] 35)).cell? ⟨w2.heap.size,1,none⟩=some (.int .i64 ((d:Int))):=by simp[go_sem]
    have gz:w2.heap.size<(w2.alloc (.cells #[.int .i64 (m),.int .i64 ((d:Int))] 35)).heap.size:=by simp
    clear HF2 HI2;generalize w2.alloc (.cells #[.int .i64 (m),.int .i64 ((d:Int))] 35)=X at *;have e5:=HI3.out.tb 5 _ rfl;have hbt:=HI3.out.ltB
    first|refine wp_region_tail_more2 6 (by kernel_rfl) (by kernel_rfl) ?_|refine wp_region_tail_more 6 (by kernel_rfl) (by kernel_rfl) ?_
    simp only[List.take_succ_cons,List.take_zero,List.drop_succ_cons,List.drop_zero]
    repeat (first|go_big_quiet_step (fail)|quiet_step (fail))
    refine wpQuiet_nil ?_
    intro _ hw'
    obtain⟨tr,hw''⟩:=hw';subst hw'';have HFz:=Lib.hid (HF3.out.more tr);have HIz:=Lib.hid (HI3.out.more tr);have k0:=keep_cell g0 (below_more _ tr);have k1:=keep_cell g1 (below_more _ tr);have kz:=Nat.lt_of_lt_of_le gz (size_more _ tr);clear HF3 HI3 g0 g1 gz e5 hbt;generalize more X tr=Z at *;obtain⟨f2',f3',hm⟩:=HIz.out.maps
    obtain⟨Z1,hrun1,hst1,hg1⟩:=hm.1.store keyI Tryz.underlying106 (keysU_len HN5.out) (key:=.int .i64 (K:Int)) (val:=.agg #[.int .i64 (m),.int .i64 ((d:Int))]) (key_wf (by omega)) HKU.out
    have hfz1:Frm (fun k=>k=t.b2) Z Z1:=(Frm.of_grown hg1).mono fun k hk=>by injection hk
    obtain⟨Z2,hrun2,hst2,hg2⟩:=(hm.2.1.frm hfz1 (Ne.symm HIz.out.d23)).store keyI Tryz.underlying107 (keysU_len HN5.out) (key:=.int .i64 (K:Int)) (val:=.bool (false)) (key_wf (by omega)) HKU.out
    have hst1':MapV Tryz.prog 2 Z1 t.b2 (keysU t.N) (putF f2' (t.k1 q) (exV (xp t.s q))):=by rw[HRE.out,HK1.out];exact hst1
    have hst2':MapV Tryz.prog 2 Z2 t.b3 (keysU t.N) (putF f3' (t.k1 q) (.bool (xp t.s q).isNone)):=by rw[HRE.out,HK1.out];exact hst2
    have HIf:Hid (OneI t Z2):=HIz.out.put hm HQ.out hst1' hg1 hst2' hg2
    have hs1:Frm t.S Z Z1:=hfz1.mono fun k hk=>.inl hk
    have hs2:Frm t.S Z1 Z2:=((Frm.of_grown hg2).mono fun k hk=>by injection hk with hk;rw[hk];exact .inr rfl)
    have HFf:Hid (FrS t.S w Z2 [[.int .i64 0,.int .i64 0]]):=(HFz.out.frm hs1).frm hs2
    have hgS:¬t.S w2.heap.size:=fun h=>by have:=HFz.out.low _ h;omega
    have e5:=HIz.out.tb 5 _ rfl;have e6:=hs1.cell' (HIz.out.tb 6 _ rfl) HIz.out.nt;have k0':=hs2.cell' (hs1.cell' k0 hgS) hgS;have k1':=hs2.cell' (hs1.cell' k1 hgS) hgS;have kz':=Nat.lt_of_lt_of_le (Nat.lt_of_lt_of_le kz hs1.size) hs2.size;have hbt:=HIz.out.ltB;have hbt1:=Nat.lt_of_lt_of_le hbt hs1.size;clear hm hst1 hg1 hst2 hg2 hst1' hst2' hfz1 hs1 hs2 HIz HFz hgS k0 k1 kz;obtain⟨z0,c00,f00,c01,f01⟩:=HFf.out.xf3
    go_wp2_with (fail)
    refine bodyPost_ret (v:=.tuple #[.agg #[.int .i64 m,.int .i64 (d:Int)],.bool true]) (by simp[results,Tryz.results214,go_sem,c00,c01,z0,f00,f01]) rfl (RetX.mkY HRE.out ?_ ?_)
    ·repeat (with_reducible first|exact HIf.out|refine OneI.alloc ?_ _|refine OneI.drew ?_|refine OneI.stored ?_ _ HNS.out HNB.out)
    ·repeat (with_reducible first|exact HFf.out.f|refine Frm.alloc ?_ _|refine Frm.drew ?_|refine Frm.ownSet ?_ (by omega) _)
  ·obtain⟨hu1,hu2⟩:=HM.out.2.2 q HQ.out u hf
   have hlk:(Instr.lookup 106 (.map (some t.b2)) (.int .i64 (K:Int)) true).run Tryz.prog W1 = .ok (.tuple #[u,.bool true]) W1:=by
    have h:=hlook;rw[← HK1.out,hf]at h
    exact h
   have HL3:Hid (∀(W:World) (O:Nat→Prop),(∀k,O k→¬t.S k)→Frm O W1 W→(Instr.lookup 107 (.map (some t.b3)) (.int .i64 (K:Int)) false).run Tryz.prog W = .ok (.bool (xp t.s q).isNone) W):=fun W O hO hW=>by
    have h:=(HM.out.2.1.frm hW (fun h=>hO _ h (.inr rfl))).look keyI Tryz.underlying107 (z:=.bool false) (by kernel_rfl) (key_wf (k:=K) (by omega))
    rw[← HK1.out,hu2]at h
    exact h
   subst hu1;clear hlook hf hu2 COMP
   rcases hwo:xp t.s q with _|⟨m,d⟩
   ·have HRE:=Lib.hid hwo
    rw[hwo]at hlk HL3;have hlk':(Instr.lookup 106 (.map (some t.b2)) (.int .i64 (K:Int)) true).run Tryz.prog W1 = .ok (.tuple #[.agg #[.int .i64 0,.int .i64 0],.bool true]) W1:=hlk;clear hwo hlk
    go_wp2_with (fail)
    have HF2:Hid (FrS t.S w (W1.alloc (.cells #[.int .i64 (0),.int .i64 (0)] 35)) [[.int .i64 0,.int .i64 0]]):=HF1.out.alloc _;have HI2:Hid (OneI t (W1.alloc (.cells #[.int .i64 (0),.int .i64 (0)] 35))):=HI1.out.alloc _
    have g0:(W1.alloc (.cells #[.int .i64 (0),.int .i64 (0)] 35)).cell? ⟨W1.heap.size,0,none⟩=some (.int .i64 (0)):=by simp[go_sem]
    have g1:(W1.alloc (.cells #[.int .i64 (0),.int .i64 (0)] 35)).cell? ⟨W1.heap.size,1,none⟩=some (.int .i64 (0)):=by simp[go_sem]
    have gz:W1.heap.size<(W1.alloc (.cells #[.int .i64 (0),.int .i64 (0)] 35)).heap.size:=by simp
    have e6:=HI2.out.tb 6 _ rfl;have hbt2:=HI2.out.ltB
    have hne:¬t.bt=w.heap.size:=fun h=>by have:=HBT.out;omega
    have hne2:¬w.heap.size=t.bt:=fun h=>hne h.symm
    have hne3:¬W1.heap.size=w.heap.size:=by omega
    have hne4:¬w.heap.size=W1.heap.size:=by omega
    have hl1:=HL3.out (W1.alloc (.cells #[.int .i64 (0),.int .i64 (0)] 35)).drew (fun k=>k=w.heap.size) (fun k hk=>by rw[hk];exact HNS.out) (((Frm.refl _ W1).alloc _).drew)
    have hl2:=HL3.out (((W1.alloc (.cells #[.int .i64 (0),.int .i64 (0)] 35)).setCell ⟨w.heap.size,0,none⟩ (.int .i64 (0))).setCell ⟨w.heap.size,1,none⟩ (.int .i64 (0))).drew (fun k=>k=w.heap.size) (fun k hk=>by rw[hk];exact HNS.out) ((((Frm.refl _ W1).alloc _).trans ((Frm.set _ _ _ _).trans (Frm.set _ _ _ _))).drew)
    clear HF1 HI1 e5 hbt hlk' HL3 HM;generalize W1.alloc (.cells #[.int .i64 (0),.int .i64 (0)] 35)=X at *;obtain⟨z0,c00,f00,c01,f01⟩:=HF2.out.xf3
    go_region
    all_goals go_wp2_with (fail)
    all_goals
     refine bodyPost_ret (v:=.tuple #[.agg #[.int .i64 0,.int .i64 0],.bool false]) (by simp[results,Tryz.results214,go_sem,c00,c01,z0,f00,f01]) rfl (RetX.mkN HRE.out ?_ ?_)
     ·repeat (with_reducible first|exact HI2.out|refine OneI.alloc ?_ _|refine OneI.drew ?_|refine OneI.stored ?_ _ HNS.out HNB.out)
     ·repeat (with_reducible first|exact HF2.out.f|refine Frm.alloc ?_ _|refine Frm.drew ?_|refine Frm.ownSet ?_ (by omega) _)
   ·have HRE:=Lib.hid hwo
    rw[hwo]at hlk HL3;have hlk':(Instr.lookup 106 (.map (some t.b2)) (.int .i64 (K:Int)) true).run Tryz.prog W1 = .ok (.tuple #[.agg #[.int .i64 m,.int .i64 (d:Int)],.bool true]) W1:=hlk;clear hwo hlk
    go_wp2_with (fail)
    have HF2:Hid (FrS t.S w (W1.alloc (.cells #[.int .i64 (m),.int .i64 ((d:Int))] 35)) [[.int .i64 0,.int .i64 0]]):=HF1.out.alloc _;have HI2:Hid (OneI t (W1.alloc (.cells #[.int .i64 (m),.int .i64 ((d:Int))] 35))):=HI1.out.alloc _
    have g0:(W1.alloc (.cells #[.int .i64 (m),.int .i64 ((d:Int))] 35)).cell? ⟨W1.heap.size,0,none⟩=some (.int .i64 (m)):=by simp[go_sem]
    have g1:(W1.alloc (.cells #[.int .i64 (m),.int .i64 ((d:Int))] 35)).cell? ⟨W1.heap.size,1,none⟩=some (.int .i64 ((d:Int))):=by simp[go_sem]
    have gz:W1.heap.size<(W1.alloc (.cells #[.int .i64 (m),.int .i64 ((d:Int))] 35)).heap.size:=by simp
    have e6:=HI2.out.tb 6 _ rfl;have hbt2:=HI2.out.ltB
    have hne:¬t.bt=w.heap.size:=fun h=>by have:=HBT.out;omega
    have hne2:¬w.heap.size=t.bt:=fun h=>hne h.symm
    have hne3:¬W1.heap.size=w.heap.size:=by omega
    have hne4:¬w.heap.size=W1.heap.size:=by omega
    have hl1:=HL3.out (W1.alloc (.cells #[.int .i64 (m),.int .i64 ((d:Int))] 35)).drew (fun k=>k=w.heap.size) (fun k hk=>by rw[hk];exact HNS.out) (((Frm.refl _ W1).alloc _).drew)
    have hl2:=HL3.out (((W1.alloc (.cells #[.int .i64 (m),.int .i64 ((d:Int))] 35)).setCell ⟨w.heap.size,0,none⟩ (.int .i64 (m))).setCell ⟨w.heap.size,1,none⟩ (.int .i64 ((d:Int)))).drew (fun k=>k=w.heap.size) (fun k hk=>by rw[hk];exact HNS.out) ((((Frm.refl _ W1).alloc _).trans ((Frm.set _ _ _ _).trans (Frm.set _ _ _ _))).drew)
    clear HF1 HI1 e5 hbt hlk' HL3 HM;generalize W1.alloc (.cells #[.int .i64 (m),.int .i64 ((d:Int))] 35)=X at *;obtain⟨z0,c00,f00,c01,f01⟩:=HF2.out.xf3
    go_region
    all_goals go_wp2_with (fail)
    all_goals
     refine bodyPost_ret (v:=.tuple #[.agg #[.int .i64 m,.int .i64 (d:Int)],.bool true]) (by simp[results,Tryz.results214,go_sem,c00,c01,z0,f00,f01]) rfl (RetX.mkY HRE.out ?_ ?_)
     ·repeat (with_reducible first|exact HI2.out|refine OneI.alloc ?_ _|refine OneI.drew ?_|refine OneI.stored ?_ _ HNS.out HNB.out)
     ·repeat (with_reducible first|exact HF2.out.f|refine Frm.alloc ?_ _|refine Frm.drew ?_|refine Frm.ownSet ?_ (by omega) _)
theorem expected_any (t:OT) (ht:t.Ok):∀(f:Nat) {q:List Int},PosP t.h t.c q→pips q<f→ExpC t q
 | 0,q,hq,h=>by have:=pips_nonneg hq.2.1;omega
 | f+1,q,hq,h=>expected_step t ht hq fun _ x hx hlt=>expected_any t ht f hx (by omega)
theorem expected_all (t:OT) (ht:t.Ok) {q:List Int} (hq:PosP t.h t.c q):ExpC t q:=by
 have h1:=pips_nonneg hq.2.1
 exact expected_any t ht ((pips q).toNat+1) hq (by omega)
end Go.Proofs.YtkaiilmgemaljaaGreat

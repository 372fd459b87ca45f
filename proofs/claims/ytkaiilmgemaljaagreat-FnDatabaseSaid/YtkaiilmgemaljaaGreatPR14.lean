/- Contract of the true database, the reference's. There are no conditions. -/
import Derived.Test.YtkaiilmgemaljaaGreatPR13
set_option linter.unusedVariables false
set_option linter.unusedSimpArgs false
namespace Go.Proofs.YtkaiilmgemaljaaGreat
open Go.RowKit Ps Ra Ex
theorem Cel.duo {W:World} {b:Nat} {x0 x1:Value} (h:Cel W b [x0,x1]) (v0 v1:Value):Cel ((W.setCell ⟨b,0,none⟩ v0).setCell ⟨b,1,none⟩ v1) b [v0,v1]:=(h.st (i:=0) (v:=v0) (by simp)).st (i:=1) (v:=v1) (by simp)
def d20d (i:Nat):Nat:=if i≤11 then 57+i else if i=12 then 56 else 56+i
theorem d20_ge (i:Nat):56≤d20d i:=by
 unfold d20d
 split
 ·omega
 ·split<;>omega
def d20G (t:RT2) (k a b:Nat) (P Q:List Int) (R x0 x1:Value) (i:Nat) (v:Value) (W:World):Prop:=
 match i with
 | 0=>v = .pointer (some ⟨t.bt,0,none⟩)
 | 1=>v = .agg #[.int .i64 t.p,.int .i64 t.c,.int .i64 t.h,.int .i64 t.s]
 | 2=>v = .int .i64 (k:Int)
 | 3=>v = .int .i64 (t.N:Int)
 | 4=>v = .int .i64 (a:Int)
 | 5=>∃A c,v = .slice A t.h c∧SQ t.S W A t.h (P)∧t.h≤c
 | 6=>v = .agg #[.int .i64 t.p,.int .i64 t.c,.int .i64 t.h,.int .i64 t.s]
 | 7=>v = .int .i64 (k:Int)
 | 8=>v = .int .i64 (t.N:Int)
 | 9=>v = .int .i64 (b:Int)
 | 10=>∃A c,v = .slice A t.h c∧SQ t.S W A t.h (Q)∧t.h≤c
 | 11=>v=R
 | 12=>v=R
 | 13=>v=x0
 | _=>v=x1
theorem d20_stab {t:RT2} {k a b:Nat} {P Q:List Int} {R x0 x1:Value} (i:Nat) (v:Value) (W W':World) (hg:d20G t k a b P Q R x0 x1 i v W) (hr:Frm t.S W W'):d20G t k a b P Q R x0 x1 i v W':=by
 unfold d20G at *
 split at hg
 all_goals first
  | exact hg
  | (obtain⟨A,c,h1,h2,h3⟩:=hg;exact⟨A,c,h1,h2.frm hr,h3⟩)
set_option maxRecDepth 100000 in
set_option maxHeartbeats 8000000 in
theorem sBuildRolls_any (p:Int) (c' h' s' N:Nat) (w:World) (hv:isVar p c' h' s'=true) (h5:wys h' c'≤500) (hN5:N≤2500) (hNN:wys h' c'=N) (hok:dbOk h' c' 1):
  Calls Tryz.prog 62 #[.agg #[.int .i64 p,.int .i64 c',.int .i64 h',.int .i64 s'],.int .i64 1] w (RetDB p c' h' s' 1 w):=by
 obtain⟨i0,hi,iz0,iz1,iz2⟩:=info_parts Tryz.infoE;have hvv:=isVar_yes hv;have HNN:=Lib.hid hNN
 have hdn:dbN h' c' 1=N:=by unfold dbN;rw[if_neg (by omega)];exact hNN
 have CV:Hid (∀W:World,Calls Tryz.prog 80 #[.agg #[.int .i64 p,.int .i64 c',.int .i64 h',.int .i64 s']] W fun e w'=>e = .returned (.bool true)∧Below W.heap.size W w'):=fun W=>by have:=sIsVariant_any p c' h' s' W;rwa [hv]at this
 have CK:Hid (∀W:World,Calls Tryz.prog 138 #[.int .i64 1] W fun e w'=>e = .returned (.bool true)∧W=w'):=fun W=>by have:=l13Kind_any 1 W;rwa [show decide ((1:Int)=1∨(1:Int)=2)=true from rfl]at this
 have CS:Hid (∀W:World,Calls Tryz.prog 139 #[.agg #[.int .i64 p,.int .i64 c',.int .i64 h',.int .i64 s'],.int .i64 1] W fun e w'=>e = .returned (.int .i64 (N:Int))∧Below W.heap.size W w'):=fun W=>by have:=l13Size_any p 1 c' h' s' W hv (by omega);unfold szD at this;rwa [if_pos hok,hdn]at this
 have CN:Hid (∀W:World,Calls Tryz.prog 140 #[.agg #[.int .i64 p,.int .i64 c',.int .i64 h',.int .i64 s']] W fun e w'=>e = .returned (.int .i64 (wys h' c':Int))∧Below W.heap.size W w'):=fun W=>by have:=sBearoffCount_any p s' c' h' W hv;rwa [wysC_ok (by omega)]at this
 have C1:=Lib.hid fun (W:World)=>l11New_any p c' h' s' W hv h5
 have C2:=Lib.hid fun (W:World)=>l12New_any p c' h' s' W hv h5
 have CAT:=Lib.hid fun (k:Nat) (W:World) (hk:k<wys h' c')=>(show Calls Tryz.prog 143 #[.agg #[.int .i64 p,.int .i64 c',.int .i64 h',.int .i64 s'],.int .i64 (k:Int)] W (RetO W 2 (atP h' c' k)) from by have h1:=l10At_any p s' c' h' (atP h' c' k) W (atP_pos (by omega)).1 (by omega) (by omega) (by omega);rw[(atP_pos (by omega)).2]at h1;exact h1)
 have HPP:Hid (∀k,k<wys h' c'→PosP h' c' (atP h' c' k)):=fun k hk=>(atP_pos (by omega)).1
 have HEQ:Hid (dbE h' c' s' 1=allN (rollsF h' c' s') N):=by unfold Hid dbE;rw[if_neg (by omega)];rw[hdn]
 have HR0:Hid (allN (rollsF h' c' s') N=none→dbC p c' h' s' 1=3):=fun h4=>dbC_4 hv (by omega) hok (HEQ.out.trans h4)
 have HR1:Hid (∀xs,allN (rollsF h' c' s') N=some xs→dbC p c' h' s' 1=0):=fun xs h4=>dbC_0 hv (by omega) hok (HEQ.out.trans h4)
 have HV0:Hid (Cel ((w.alloc (.cells #[.int .i64 p,.int .i64 c',.int .i64 h',.int .i64 s'] 25)).alloc (.cells #[.int .i64 0,.int .i64 0,.int .i64 0,.int .i64 0,.int .i64 0,.slice none 0 0] 85)) w.heap.size [.int .i64 p,.int .i64 c',.int .i64 h',.int .i64 s']):=(Cel.new w #[.int .i64 p,.int .i64 c',.int .i64 h',.int .i64 s'] 25).alloc _
 have HD0:Hid (Cel ((w.alloc (.cells #[.int .i64 p,.int .i64 c',.int .i64 h',.int .i64 s'] 25)).alloc (.cells #[.int .i64 0,.int .i64 0,.int .i64 0,.int .i64 0,.int .i64 0,.slice none 0 0] 85)) (w.heap.size+1) [.int .i64 0,.int .i64 0,.int .i64 0,.int .i64 0,.int .i64 0,.slice none 0 0]):=Cel.new' _ #[.int .i64 0,.int .i64 0,.int .i64 0,.int .i64 0,.int .i64 0,.slice none 0 0] _ (by simp)
 have HB0:Hid (Below w.heap.size w ((w.alloc (.cells #[.int .i64 p,.int .i64 c',.int .i64 h',.int .i64 s'] 25)).alloc (.cells #[.int .i64 0,.int .i64 0,.int .i64 0,.int .i64 0,.int .i64 0,.slice none 0 0] 85))):=((Below.refl _ _).alloc (Nat.le_refl _) _).alloc (by simp) _
 have HF0:Hid True:=trivial;clear hv hNN hvv hdn hok
 go_enter Tryz.func62,Tryz.ntmps62
 go_wp2_with (fail)
 generalize (w.alloc (.cells #[.int .i64 p,.int .i64 c',.int .i64 h',.int .i64 s'] 25)).alloc (.cells #[.int .i64 0,.int .i64 0,.int .i64 0,.int .i64 0,.int .i64 0,.slice none 0 0] 85)=W0 at *
 refine (CV.out _).mono ?_
 rintro e w1 ⟨rfl,hb⟩
 have HV1:=Lib.hid (HV0.out.below hb);have HD1:=Lib.hid (HD0.out.below hb);have HB1:=Lib.hid (HB0.out.trans (hb.mono HB0.out.size));clear hb HV0 HD0 HB0 HF0;have c0:=HV1.out.cell 0 _ rfl;have c1:=HV1.out.cell 1 _ rfl;have c2:=HV1.out.cell 2 _ rfl;have c3:=HV1.out.cell 3 _ rfl;have cz:=HV1.out.lt
 go_wp2_with (go_at_call 138;refine (CK.out _).mono ?_;rintro e w' ⟨rfl,rfl⟩)
 refine (CS.out _).mono ?_
 rintro e w2 ⟨rfl,hb⟩
 have HV2:=Lib.hid (HV1.out.below hb);have HD2:=Lib.hid (HD1.out.below hb);have HB2:=Lib.hid (HB1.out.trans (hb.mono HB1.out.size));clear hb HV1 HD1 HB1 c0 c1 c2 c3 cz;have hz2:w.heap.size+1<w2.heap.size:=HD2.out.lt
 have hnn:decide ((N:Int)<0)=false:=decide_eq_false (by omega)
 go_wp2_with (
  at_make
  refine wpList_make_full _ rfl _ _ 29 rfl w.heap.size 35 i0 (.agg #[.int .i64 0,.int .i64 0]) 2 Tryz.underlying29 hi iz0 iz1 _ _ _ _ N rfl rfl (by omega) (by omega) (by rw[iz2];omega) (by unfold maxLen;omega) (by omega) ?_
  intro w3 hown hgrow
  have hb:Below w2.heap.size w2 w3:=(Below.refl _ _).grown hgrow (by simp) (by simp)
  have HO3:Hid (OwnE w3 w.heap.size (.slice (some ⟨w2.heap.size,0,none⟩) N N) ([]++List.replicate (N-0) zeroE')):=by
   unfold Hid OwnE;rw[List.nil_append,Nat.sub_zero,List.length_replicate,← made_exC]
   exact hown
  have hg3:w2.heap.size<w3.heap.size:=(World.ownsRow.lt hown w2.heap.size rfl).2;have HV3:=Lib.hid (HV2.out.below hb);have HD3:=Lib.hid (HD2.out.below hb);have HB3:=Lib.hid (HB2.out.trans (hb.mono HB2.out.size));obtain⟨g,hg⟩:∃g,g=w2.heap.size:=⟨_,rfl⟩;rw[← hg]at HO3 hg3 hz2 ⊢;clear hown hgrow hb hg HV2 HD2 HB2;have c0:=HV3.out.cell 0 _ rfl;have c1:=HV3.out.cell 1 _ rfl;have c2:=HV3.out.cell 2 _ rfl;have c3:=HV3.out.cell 3 _ rfl;have cz:=HV3.out.lt
  )
 refine (CN.out _).mono ?_
 rintro e w4 ⟨rfl,hb⟩
 have HV4:=Lib.hid (HV3.out.below hb);have HD4:=Lib.hid (HD3.out.below hb);have HB4:=Lib.hid (HB3.out.trans (hb.mono HB3.out.size));have HO4:=Lib.hid (HO3.out.below hb);have hg4:g<w4.heap.size:=Nat.lt_of_lt_of_le hg3 hb.size;clear hb HV3 HD3 HB3 HO3 c0 c1 c2 c3 cz hg3;have c0:=HV4.out.cell 0 _ rfl;have c1:=HV4.out.cell 1 _ rfl;have c2:=HV4.out.cell 2 _ rfl;have c3:=HV4.out.cell 3 _ rfl;have cz:=HV4.out.lt
 go_wp2_with (fail)
 refine (C1.out _).mono ?_
 rintro e w5 ⟨t,rfl,rfl,rfl,rfl,rfl,hok,hI,hlow,hbt,hb⟩
 have HV5:=Lib.hid (HV4.out.below hb);have HD5:=Lib.hid (HD4.out.below hb);have HB5:=Lib.hid (HB4.out.trans (hb.mono HB4.out.size));have HO5:=Lib.hid (HO4.out.below hb);have HOK:=Lib.hid hok
 have HLO:Hid (∀k,t.S k→g<k):=fun k hk=>by have:=hlow k hk;omega
 have HBT:Hid (g<t.bt∧t.bt<w5.heap.size):=⟨by omega,hI.ltB⟩
 have HI5':=Lib.hid hI;clear hb hI hlow hbt hok HV4 HD4 HB4 HO4 c0 c1 c2 c3 cz;have c0:=HV5.out.cell 0 _ rfl;have c1:=HV5.out.cell 1 _ rfl;have c2:=HV5.out.cell 2 _ rfl;have c3:=HV5.out.cell 3 _ rfl;have cz:=HV5.out.lt
 go_wp2_with (fail)
 refine (C2.out _).mono ?_
 rintro e w6 ⟨t2,_,_,_,_,rfl,_,_,_,_,hb⟩
 have HV6:=Lib.hid (HV5.out.below hb);have HD6:=Lib.hid (HD5.out.below hb);have HB6:=Lib.hid (HB5.out.trans (hb.mono HB5.out.size));have HO6:=Lib.hid (HO5.out.below hb);have HI6:=Lib.hid (HI5'.out.below hb)
 have hg6:g<w6.heap.size:=by have:=hb.size;have:=HBT.out;omega
 have HBT6:Hid (t.bt<w6.heap.size):=HI6.out.ltB;clear hb HV5 HD5 HB5 HO5 HI5' c0 c1 c2 c3 cz hg4
 obtain⟨T0,hT0⟩:∃T0,T0=fun k=>t.S k∨k=g:=⟨_,rfl⟩
 have HTS:Hid (∀k,t.S k→T0 k):=fun k hk=>by rw[hT0];exact .inl hk
 have HTG:Hid (T0 g):=by rw[hT0];exact .inr rfl
 have HTW:Hid (∀k,T0 k→w.heap.size+1<k):=fun k hk=>by rw[hT0]at hk;rcases hk with h|h;have:=HLO.out k h;omega;omega
 have HTL2:Hid (∀k,T0 k→k<w6.heap.size):=fun k hk=>by rw[hT0]at hk;rcases hk with h|h;exact HI6.out.ltS k h;omega
 have HGS:Hid (¬t.S g):=fun h=>by have:=HLO.out g h;omega
 have HGB:Hid (¬t.bt=g):=by have:=HBT.out;unfold Hid;omega
 clear hT0
 go_wp2_with (fail)
 go_loopw [11] (fun v11 wr=>∃k:Nat,k≤N∧v11 = .int .i64 k∧Hid (∃ts,allN (rollsF t.h t.c t.s) k=some ts∧OwnE wr w.heap.size (.slice (some ⟨g,0,none⟩) N N) (ts++List.replicate (N-k) zeroE'))∧Hid (UtI t wr)∧Hid (Frm T0 w6 wr)) (fun v11 _=>N-(intOf v11).toNat)
 case atStart=>exact⟨0,by omega,rfl,⟨[],rfl,HO6.out⟩,HI6.out,Frm.refl _ _⟩
 case round=>
  clear HO6 HI6;obtain⟨k,hk,rfl,hts,HI,HF⟩:=hrel;obtain⟨ts,hall,ho⟩:=hts.out;have HALL:=Lib.hid hall;have HO:=Lib.hid ho;have hzr:w6.heap.size≤wr.heap.size:=HF.out.size
  have HV:=Lib.hid (HV6.out.frm HF.out (fun h=>by have:=HTW.out _ h;omega))
  have HD:=Lib.hid (HD6.out.frm HF.out (fun h=>by have:=HTW.out _ h;omega))
  have HB:=Lib.hid (HB6.out.trans (HF.out.below HB6.out.size (fun j hj=>by have:=HTW.out _ hj;omega)))
  clear hall ho hts
  by_cases hlt:k<N
  ·have hki:(k:Int)<(N:Int):=by omega
   have HTL:=Lib.hid (allN_len HALL.out)
   have hx:(ts++List.replicate (N-k) (zeroE':E)).length=N:=by rw[List.length_append,List.length_replicate,HTL.out];omega
   have HWS:Hid (¬t.S w.heap.size):=fun h=>by have:=HTW.out _ (HTS.out _ h);omega
   have HWS2:Hid (¬t.S (w.heap.size+1)):=fun h=>by have:=HTW.out _ (HTS.out _ h);omega
   have hbS:¬t.S wr.heap.size:=fun h=>by have:=HTL2.out _ (HTS.out _ h);omega
   have hne:¬wr.heap.size=w.heap.size+1:=by have:=HD.out.lt;omega
   have hne2:¬w.heap.size+1=wr.heap.size:=fun h=>hne h.symm
   have hgr:g<wr.heap.size:=by omega
   have HXy:=Lib.hid (Cel.new wr #[.int .i64 0,.int .i64 0] 35);have HVy:=Lib.hid (HV.out.alloc (.cells #[.int .i64 0,.int .i64 0] 35));have HDy:=Lib.hid (HD.out.alloc (.cells #[.int .i64 0,.int .i64 0] 35));have HIy:=Lib.hid (HI.out.alloc (.cells #[.int .i64 0,.int .i64 0] 35));have HOy:=Lib.hid (HO.out.below ((Below.refl wr.heap.size wr).alloc (Nat.le_refl _) (.cells #[.int .i64 0,.int .i64 0] 35)));have HFy:=Lib.hid (HF.out.alloc (.cells #[.int .i64 0,.int .i64 0] 35))
   have HBy:=Lib.hid (HB.out.alloc (show w.heap.size≤wr.heap.size from HB.out.size) (.cells #[.int .i64 0,.int .i64 0] 35))
   have hyz:(wr.alloc (.cells #[.int .i64 0,.int .i64 0] 35)).heap.size=wr.heap.size+1:=by simp
   have hla:k<wys t.h t.c:=by rw[HNN.out];exact hlt
   have hpp:=HPP.out k hla;have HXF:Hid (rollsF t.h t.c t.s k=xp t.s (atP t.h t.c k)):=rfl;have c0:=HV.out.cell 0 _ rfl;have c1:=HV.out.cell 1 _ rfl;have c2:=HV.out.cell 2 _ rfl;have c3:=HV.out.cell 3 _ rfl;have cz:=HV.out.lt
   go_wp2_with (fail)
   clear c0 c1 c2 c3 cz
   refine (CAT.out k _ hla).mono ?_
   rintro e w3 ⟨A,ca,rfl,hoa,hba⟩
   have hsq:SQ t.S w3 A (atP t.h t.c k).length (atP t.h t.c k):=ownE_sq hoa (fun j hj=>by have:=HIy.out.ltS j hj;omega)
   have hca:=(hoa.sl rfl).2;rw[hpp.1]at hsq hca ⊢;have CE:=Lib.hid (l11Value_all t HOK.out hpp A ca w3 (HIy.out.below hba) hsq hca);have HX3:=Lib.hid (HXy.out.below hba);have HD3':=Lib.hid (HDy.out.below hba);have HO3':=Lib.hid (HOy.out.below hba);have HF3:=Lib.hid (HFy.out.trans (Frm.of_below' _ hba));have HB3':=Lib.hid (HBy.out.trans (hba.mono HBy.out.size))
   have hz3:wr.heap.size≤w3.heap.size:=by have:=hba.size;omega
   clear hsq hca hoa hba hpp HI HO HF HXy HVy HDy HIy HOy HFy HBy hyz
   go_wp2_with (fail)
   refine CE.out.mono ?_
   rintro e w4' ⟨rfl,hI4,hf4⟩
   have HX4:=Lib.hid (HX3.out.frm hf4 hbS);have HD4':=Lib.hid (HD3'.out.frm hf4 HWS2.out)
   have HO4:=Lib.hid (hf4.rowE HO3'.out (fun j hj h=>by have h2:g=j:=Option.some.inj hj;rw[← h2]at h;exact HGS.out h))
   have HF4:=Lib.hid (HF3.out.trans (hf4.mono HTS.out))
   have HB4':=Lib.hid (HB3'.out.trans (hf4.below HB3'.out.size (fun j hj=>by have:=HTW.out _ (HTS.out _ hj);omega)))
   have HI4:=Lib.hid hI4;have hz4:wr.heap.size≤w4'.heap.size:=Nat.le_trans hz3 hf4.size;clear hI4 hf4 CE HX3 HD3' HO3' HF3 HB3'
   rcases hxo:xp t.s (atP t.h t.c k) with _|⟨m,d⟩
   ·have HREN:=Lib.hid (HR0.out (allN_stop hlt HALL.out (HXF.out.trans hxo)))
    unfold exV
    simp only[Option.getD_none,Option.isSome_none]
    clear hxo HO4 HF4 HI4;have x0:=HX4.out.cell 0 _ rfl;have x1:=HX4.out.cell 1 _ rfl;have x0':=HX4.out.froz 0 _ rfl;have x1':=HX4.out.froz 1 _ rfl;have xz:=HX4.out.lt;have c10:=HD4'.out.cell 0 _ rfl;have c11:=HD4'.out.cell 1 _ rfl;have c12:=HD4'.out.cell 2 _ rfl;have c13:=HD4'.out.cell 3 _ rfl;have c14:=HD4'.out.cell 4 _ rfl;have c15:=HD4'.out.cell 5 _ rfl;have f10:=HD4'.out.froz 0 _ rfl;have f11:=HD4'.out.froz 1 _ rfl;have f12:=HD4'.out.froz 2 _ rfl;have f13:=HD4'.out.froz 3 _ rfl;have f14:=HD4'.out.froz 4 _ rfl;have f15:=HD4'.out.froz 5 _ rfl;have z1:=HD4'.out.lt
    go_wp2_with (fail)
    refine bodyPost_ret (v:=.tuple #[.agg #[.int .i64 0,.int .i64 0,.int .i64 0,.int .i64 0,.int .i64 0,.slice none 0 0],.int .i64 3]) (by simp[results,Tryz.results62,go_sem,c10,c11,c12,c13,c14,c15,z1,f10,f11,f12,f13,f14,f15,hne,hne2,x0,x1,x0',x1',xz]) rfl (RetDB.no HREN.out (by decide) ?_)
    repeat (with_reducible first|exact HB4'.out|refine bd_set ?_ (by omega) _)
   ·have HAL2:=Lib.hid (allN_go HALL.out (HXF.out.trans hxo))
    unfold exV
    simp only[Option.getD_some,Option.isSome_some]
    clear hxo HD4' HB4' HB HD HV;have HX5:=Lib.hid (HX4.out.duo (.int .i64 m) (.int .i64 (d:Int)))
    have hs2:Frm (fun x=>x=wr.heap.size) w4' ((w4'.setCell ⟨wr.heap.size,0,none⟩ (.int .i64 m)).setCell ⟨wr.heap.size,1,none⟩ (.int .i64 (d:Int))):=(Frm.set _ _ _ _).trans (Frm.set _ _ _ _)
    have HO5:=Lib.hid (hs2.rowE HO4.out (fun j hj h=>by have h2:g=j:=Option.some.inj hj;have h3:j=wr.heap.size:=h;omega))
    have HI5:=Lib.hid (HI4.out.frm hs2 (fun x hx=>by rw[hx];exact hbS) (fun h=>by have:=HBT6.out;have h3:t.bt=wr.heap.size:=h;omega))
    have HF5:=Lib.hid (HF4.out.outs hs2 (fun x hx=>by rw[hx];omega))
    have hgX:g<((w4'.setCell ⟨wr.heap.size,0,none⟩ (.int .i64 m)).setCell ⟨wr.heap.size,1,none⟩ (.int .i64 (d:Int))).heap.size:=by simp;omega
    have x0:=HX4.out.cell 0 _ rfl;have x1:=HX4.out.cell 1 _ rfl;have x0':=HX4.out.froz 0 _ rfl;have x1':=HX4.out.froz 1 _ rfl;have xz:=HX4.out.lt;clear hs2 HX4 HO4 HI4 HF4
    go_upto_region 23 with (fail)
    generalize (w4'.setCell ⟨wr.heap.size,0,none⟩ (.int .i64 m)).setCell ⟨wr.heap.size,1,none⟩ (.int .i64 (d:Int))=X at *;clear x0 x1 x0' x1' xz
    obtain⟨gg,hg',_,_,hcl,hfr⟩:=own_formE HO5.out (by omega)
    injection hg' with hg';injection hg' with hg' _ _;subst hg'
    obtain⟨y0,y1⟩:=hcl k (by omega)
    have f0:=hfr (k*2);have f1:=hfr (k*2+1);have HO6:=Lib.hid (HO5.out.stored k m d);rw[fill_step HTL.out hlt]at HO6
    have hfg:Frm (fun x=>x=g) X ((X.setCell ⟨g,k*2,none⟩ (.int .i64 m)).setCell ⟨g,k*2+1,none⟩ (.int .i64 (d:Int))):=(Frm.set _ g (k*2) _).trans (Frm.set _ g (k*2+1) _)
    have hfs:Frm T0 X ((X.setCell ⟨g,k*2,none⟩ (.int .i64 m)).setCell ⟨g,k*2+1,none⟩ (.int .i64 (d:Int))):=hfg.mono fun j hj=>by rw[hj];exact HTG.out
    have HF6:=Lib.hid (HF5.out.trans hfs)
    have HI6':=Lib.hid (HI5.out.frm hfg (fun x hx=>by rw[hx];exact HGS.out) HGB.out)
    have x0:=HX5.out.cell 0 _ rfl;have x1:=HX5.out.cell 1 _ rfl;have x0':=HX5.out.froz 0 _ rfl;have x1':=HX5.out.froz 1 _ rfl;have xz:=HX5.out.lt;clear hx hcl hfr hfs hfg HO5 HF5 HI5 HX5;generalize (ts++List.replicate (N-k) (zeroE':E)).getD k ⟨0,0⟩=el at *
    go_wp2_with (fail)
    have hw1:IntKind.i64.wrap ((k:Int)+1)=((k+1:Nat):Int):=IntWalk.i64_in _ (by omega)
    go_roundw
    case rel=>exact⟨k+1,by omega,by go_num,⟨_,HAL2.out,HO6.out⟩,HI6'.out,HF6.out⟩
    case measure=>(simp[intOf])<;>omega
  ·clear HI HF
   have hke:k=N:=by omega
   subst hke;have HALL2:=Lib.hid HALL.out
   have HOz:Hid (OwnE wr w.heap.size (.slice (some ⟨g,0,none⟩) k k) ts):=by
    have h:=HO.out
    rwa [Nat.sub_self,List.replicate_zero,List.append_nil]at h
   clear HO HALL;have HRc:=Lib.hid (HR1.out ts HALL2.out)
   have HOL:=Lib.hid fun j hj=>(World.ownsRow.lt HOz.out j hj).1
   have hgo:(Value.slice (some ⟨g,0,none⟩) k k).ownBlock≠some (w.heap.size+1):=fun h=>by have h2:g=w.heap.size+1:=Option.some.inj h;omega
   have c0:=HV.out.cell 0 _ rfl;have c1:=HV.out.cell 1 _ rfl;have c2:=HV.out.cell 2 _ rfl;have c3:=HV.out.cell 3 _ rfl;have cz:=HV.out.lt;have c10:=HD.out.cell 0 _ rfl;have c11:=HD.out.cell 1 _ rfl;have c12:=HD.out.cell 2 _ rfl;have c13:=HD.out.cell 3 _ rfl;have c14:=HD.out.cell 4 _ rfl;have c15:=HD.out.cell 5 _ rfl;have f10:=HD.out.froz 0 _ rfl;have f11:=HD.out.froz 1 _ rfl;have f12:=HD.out.froz 2 _ rfl;have f13:=HD.out.froz 3 _ rfl;have f14:=HD.out.froz 4 _ rfl;have f15:=HD.out.froz 5 _ rfl;have z1:=HD.out.lt
   go_wp2_with (fail)
   refine bodyPost_ret (v:=.tuple #[.agg #[.int .i64 t.p,.int .i64 t.c,.int .i64 t.h,.int .i64 t.s,.int .i64 1,.slice (some ⟨g,0,none⟩) k k],.int .i64 0]) (by simp[results,Tryz.results62,go_sem,c10,c11,c12,c13,c14,c15,z1,f10,f11,f12,f13,f14,f15]) rfl ⟨?_,.inr ⟨HRc.out,_,ts,HEQ.out.trans HALL2.out,?_,rfl⟩⟩
   ·repeat (with_reducible first|exact HB.out|refine bd_set ?_ (by omega) _)
   ·repeat (with_reducible first|exact HOz.out|refine rowE_setne ?_ hgo _)
set_option maxRecDepth 100000 in
set_option maxHeartbeats 8000000 in
theorem sBuildWins_any (p:Int) (c' h' s' N:Nat) (w:World) (hv:isVar p c' h' s'=true) (h5:wys h' c'≤500) (hN5:N≤2500) (hNN:wys h' c'*wys h' c'=N) (hok:dbOk h' c' 2):
  Calls Tryz.prog 62 #[.agg #[.int .i64 p,.int .i64 c',.int .i64 h',.int .i64 s'],.int .i64 2] w (RetDB p c' h' s' 2 w):=by
 obtain⟨i0,hi,iz0,iz1,iz2⟩:=info_parts Tryz.infoE;have hvv:=isVar_yes hv;have HNN:=Lib.hid hNN
 have hdn:dbN h' c' 2=N:=by unfold dbN;rw[if_pos rfl];exact hNN
 have CV:Hid (∀W:World,Calls Tryz.prog 80 #[.agg #[.int .i64 p,.int .i64 c',.int .i64 h',.int .i64 s']] W fun e w'=>e = .returned (.bool true)∧Below W.heap.size W w'):=fun W=>by have:=sIsVariant_any p c' h' s' W;rwa [hv]at this
 have CK:Hid (∀W:World,Calls Tryz.prog 138 #[.int .i64 2] W fun e w'=>e = .returned (.bool true)∧W=w'):=fun W=>by have:=l13Kind_any 2 W;rwa [show decide ((2:Int)=1∨(2:Int)=2)=true from rfl]at this
 have CS:Hid (∀W:World,Calls Tryz.prog 139 #[.agg #[.int .i64 p,.int .i64 c',.int .i64 h',.int .i64 s'],.int .i64 2] W fun e w'=>e = .returned (.int .i64 (N:Int))∧Below W.heap.size W w'):=fun W=>by have:=l13Size_any p 2 c' h' s' W hv (by omega);unfold szD at this;rwa [if_pos hok,hdn]at this
 have CN:Hid (∀W:World,Calls Tryz.prog 140 #[.agg #[.int .i64 p,.int .i64 c',.int .i64 h',.int .i64 s']] W fun e w'=>e = .returned (.int .i64 (wys h' c':Int))∧Below W.heap.size W w'):=fun W=>by have:=sBearoffCount_any p s' c' h' W hv;rwa [wysC_ok (by omega)]at this
 have C1:=Lib.hid fun (W:World)=>l11New_any p c' h' s' W hv h5
 have C2:=Lib.hid fun (W:World)=>l12New_any p c' h' s' W hv h5
 have CAT:=Lib.hid fun (k:Nat) (W:World) (hk:k<wys h' c')=>(show Calls Tryz.prog 143 #[.agg #[.int .i64 p,.int .i64 c',.int .i64 h',.int .i64 s'],.int .i64 (k:Int)] W (RetO W 2 (atP h' c' k)) from by have h1:=l10At_any p s' c' h' (atP h' c' k) W (atP_pos (by omega)).1 (by omega) (by omega) (by omega);rw[(atP_pos (by omega)).2]at h1;exact h1)
 have HPP:Hid (∀k,k<wys h' c'→PosP h' c' (atP h' c' k)):=fun k hk=>(atP_pos (by omega)).1
 have HEQ:Hid (dbE h' c' s' 2=allN (winsF h' c' s') N):=by unfold Hid dbE;rw[if_pos rfl];rw[hdn]
 have HR0:Hid (allN (winsF h' c' s') N=none→dbC p c' h' s' 2=3):=fun h4=>dbC_4 hv (by omega) hok (HEQ.out.trans h4)
 have HR1:Hid (∀xs,allN (winsF h' c' s') N=some xs→dbC p c' h' s' 2=0):=fun xs h4=>dbC_0 hv (by omega) hok (HEQ.out.trans h4)
 have HWF:Hid (∀k,0<k→winsF h' c' s' k=win s' (atP h' c' (k / wys h' c')) (atP h' c' (k % wys h' c'))):=fun k hk=>by unfold winsF;rw[if_neg (by omega)]
 have HWZ:Hid (winsF h' c' s' 0=some ⟨0,0⟩):=by unfold Hid winsF;rw[if_pos rfl];rfl
 have HV0:Hid (Cel ((w.alloc (.cells #[.int .i64 p,.int .i64 c',.int .i64 h',.int .i64 s'] 25)).alloc (.cells #[.int .i64 0,.int .i64 0,.int .i64 0,.int .i64 0,.int .i64 0,.slice none 0 0] 85)) w.heap.size [.int .i64 p,.int .i64 c',.int .i64 h',.int .i64 s']):=(Cel.new w #[.int .i64 p,.int .i64 c',.int .i64 h',.int .i64 s'] 25).alloc _
 have HD0:Hid (Cel ((w.alloc (.cells #[.int .i64 p,.int .i64 c',.int .i64 h',.int .i64 s'] 25)).alloc (.cells #[.int .i64 0,.int .i64 0,.int .i64 0,.int .i64 0,.int .i64 0,.slice none 0 0] 85)) (w.heap.size+1) [.int .i64 0,.int .i64 0,.int .i64 0,.int .i64 0,.int .i64 0,.slice none 0 0]):=Cel.new' _ #[.int .i64 0,.int .i64 0,.int .i64 0,.int .i64 0,.int .i64 0,.slice none 0 0] _ (by simp)
 have HB0:Hid (Below w.heap.size w ((w.alloc (.cells #[.int .i64 p,.int .i64 c',.int .i64 h',.int .i64 s'] 25)).alloc (.cells #[.int .i64 0,.int .i64 0,.int .i64 0,.int .i64 0,.int .i64 0,.slice none 0 0] 85))):=((Below.refl _ _).alloc (Nat.le_refl _) _).alloc (by simp) _
 have HF0:Hid True:=trivial;clear hv hNN hvv hdn hok
 go_enter Tryz.func62,Tryz.ntmps62
 go_wp2_with (fail)
 generalize (w.alloc (.cells #[.int .i64 p,.int .i64 c',.int .i64 h',.int .i64 s'] 25)).alloc (.cells #[.int .i64 0,.int .i64 0,.int .i64 0,.int .i64 0,.int .i64 0,.slice none 0 0] 85)=W0 at *
 refine (CV.out _).mono ?_
 rintro e w1 ⟨rfl,hb⟩
 have HV1:=Lib.hid (HV0.out.below hb);have HD1:=Lib.hid (HD0.out.below hb);have HB1:=Lib.hid (HB0.out.trans (hb.mono HB0.out.size));clear hb HV0 HD0 HB0 HF0;have c0:=HV1.out.cell 0 _ rfl;have c1:=HV1.out.cell 1 _ rfl;have c2:=HV1.out.cell 2 _ rfl;have c3:=HV1.out.cell 3 _ rfl;have cz:=HV1.out.lt
 go_wp2_with (go_at_call 138;refine (CK.out _).mono ?_;rintro e w' ⟨rfl,rfl⟩)
 refine (CS.out _).mono ?_
 rintro e w2 ⟨rfl,hb⟩
 have HV2:=Lib.hid (HV1.out.below hb);have HD2:=Lib.hid (HD1.out.below hb);have HB2:=Lib.hid (HB1.out.trans (hb.mono HB1.out.size));clear hb HV1 HD1 HB1 c0 c1 c2 c3 cz;have hz2:w.heap.size+1<w2.heap.size:=HD2.out.lt
 have hnn:decide ((N:Int)<0)=false:=decide_eq_false (by omega)
 go_wp2_with (
  at_make
  refine wpList_make_full _ rfl _ _ 29 rfl w.heap.size 35 i0 (.agg #[.int .i64 0,.int .i64 0]) 2 Tryz.underlying29 hi iz0 iz1 _ _ _ _ N rfl rfl (by omega) (by omega) (by rw[iz2];omega) (by unfold maxLen;omega) (by omega) ?_
  intro w3 hown hgrow
  have hb:Below w2.heap.size w2 w3:=(Below.refl _ _).grown hgrow (by simp) (by simp)
  have HO3:Hid (OwnE w3 w.heap.size (.slice (some ⟨w2.heap.size,0,none⟩) N N) ([]++List.replicate (N-0) zeroE')):=by
   unfold Hid OwnE;rw[List.nil_append,Nat.sub_zero,List.length_replicate,← made_exC]
   exact hown
  have hg3:w2.heap.size<w3.heap.size:=(World.ownsRow.lt hown w2.heap.size rfl).2;have HV3:=Lib.hid (HV2.out.below hb);have HD3:=Lib.hid (HD2.out.below hb);have HB3:=Lib.hid (HB2.out.trans (hb.mono HB2.out.size));obtain⟨g,hg⟩:∃g,g=w2.heap.size:=⟨_,rfl⟩;rw[← hg]at HO3 hg3 hz2 ⊢;clear hown hgrow hb hg HV2 HD2 HB2;have c0:=HV3.out.cell 0 _ rfl;have c1:=HV3.out.cell 1 _ rfl;have c2:=HV3.out.cell 2 _ rfl;have c3:=HV3.out.cell 3 _ rfl;have cz:=HV3.out.lt
  )
 refine (CN.out _).mono ?_
 rintro e w4 ⟨rfl,hb⟩
 have HV4:=Lib.hid (HV3.out.below hb);have HD4:=Lib.hid (HD3.out.below hb);have HB4:=Lib.hid (HB3.out.trans (hb.mono HB3.out.size));have HO4:=Lib.hid (HO3.out.below hb);have hg4:g<w4.heap.size:=Nat.lt_of_lt_of_le hg3 hb.size;clear hb HV3 HD3 HB3 HO3 c0 c1 c2 c3 cz hg3;have c0:=HV4.out.cell 0 _ rfl;have c1:=HV4.out.cell 1 _ rfl;have c2:=HV4.out.cell 2 _ rfl;have c3:=HV4.out.cell 3 _ rfl;have cz:=HV4.out.lt
 go_wp2_with (fail)
 refine (C1.out _).mono ?_
 rintro e w5 ⟨t1,_,_,_,_,rfl,_,_,_,_,hb⟩
 have HV5:=Lib.hid (HV4.out.below hb);have HD5:=Lib.hid (HD4.out.below hb);have HB5:=Lib.hid (HB4.out.trans (hb.mono HB4.out.size));have HO5:=Lib.hid (HO4.out.below hb)
 have hg5:g<w5.heap.size:=by have:=hb.size;omega
 clear hb HV4 HD4 HB4 HO4 c0 c1 c2 c3 cz hg4;have c0:=HV5.out.cell 0 _ rfl;have c1:=HV5.out.cell 1 _ rfl;have c2:=HV5.out.cell 2 _ rfl;have c3:=HV5.out.cell 3 _ rfl;have cz:=HV5.out.lt
 go_wp2_with (fail)
 refine (C2.out _).mono ?_
 rintro e w6 ⟨t,rfl,rfl,rfl,rfl,rfl,hok,hI,hlow,hbt,hb⟩
 have HV6:=Lib.hid (HV5.out.below hb);have HD6:=Lib.hid (HD5.out.below hb);have HB6:=Lib.hid (HB5.out.trans (hb.mono HB5.out.size));have HO6:=Lib.hid (HO5.out.below hb);have HOK:=Lib.hid hok
 have HLO:Hid (∀k,t.S k→g<k):=fun k hk=>by have:=hlow k hk;omega
 have HBT:Hid (g<t.bt∧t.bt<w6.heap.size):=⟨by omega,hI.ltB⟩
 have HI6:=Lib.hid hI
 have hg6:g<w6.heap.size:=by have:=hb.size;omega
 have HBT6:Hid (t.bt<w6.heap.size):=HI6.out.ltB;have HWN:Hid (wys t.h t.c=t.N):=rfl;clear hb hI hlow hbt hok HV5 HD5 HB5 HO5 c0 c1 c2 c3 cz hg5;generalize wys t.h t.c=wy at *;have HWN':=HWN.out;subst HWN'
 obtain⟨T0,hT0⟩:∃T0,T0=fun k=>t.S k∨k=g:=⟨_,rfl⟩
 have HTS:Hid (∀k,t.S k→T0 k):=fun k hk=>by rw[hT0];exact .inl hk
 have HTG:Hid (T0 g):=by rw[hT0];exact .inr rfl
 have HTW:Hid (∀k,T0 k→w.heap.size+1<k):=fun k hk=>by rw[hT0]at hk;rcases hk with h|h;have:=HLO.out k h;omega;omega
 have HTL2:Hid (∀k,T0 k→k<w6.heap.size):=fun k hk=>by rw[hT0]at hk;rcases hk with h|h;exact HI6.out.ltS k h;omega
 have HGS:Hid (¬t.S g):=fun h=>by have:=HLO.out g h;omega
 have HGB:Hid (¬t.bt=g):=by have:=HBT.out;unfold Hid;omega
 clear hT0
 go_wp2_with (fail)
 go_loopw [11] (fun v11 wr=>∃k:Nat,k≤N∧v11 = .int .i64 k∧Hid (∃ts,allN (winsF t.h t.c t.s) k=some ts∧OwnE wr w.heap.size (.slice (some ⟨g,0,none⟩) N N) (ts++List.replicate (N-k) zeroE'))∧Hid (TabI t wr)∧Hid (Frm T0 w6 wr)) (fun v11 _=>N-(intOf v11).toNat)
 case atStart=>exact⟨0,by omega,rfl,⟨[],rfl,HO6.out⟩,HI6.out,Frm.refl _ _⟩
 case round=>
  clear HO6 HI6;obtain⟨k,hk,rfl,hts,HI,HF⟩:=hrel;obtain⟨ts,hall,ho⟩:=hts.out;have HALL:=Lib.hid hall;have HO:=Lib.hid ho;have hzr:w6.heap.size≤wr.heap.size:=HF.out.size
  have HV:=Lib.hid (HV6.out.frm HF.out (fun h=>by have:=HTW.out _ h;omega))
  have HD:=Lib.hid (HD6.out.frm HF.out (fun h=>by have:=HTW.out _ h;omega))
  have HB:=Lib.hid (HB6.out.trans (HF.out.below HB6.out.size (fun j hj=>by have:=HTW.out _ hj;omega)))
  clear hall ho hts
  by_cases hlt:k<N
  ·have hki:(k:Int)<(N:Int):=by omega
   have HTL:=Lib.hid (allN_len HALL.out)
   have hx:(ts++List.replicate (N-k) (zeroE':E)).length=N:=by rw[List.length_append,List.length_replicate,HTL.out];omega
   have HWS:Hid (¬t.S w.heap.size):=fun h=>by have:=HTW.out _ (HTS.out _ h);omega
   have HWS2:Hid (¬t.S (w.heap.size+1)):=fun h=>by have:=HTW.out _ (HTS.out _ h);omega
   have hbS:¬t.S wr.heap.size:=fun h=>by have:=HTL2.out _ (HTS.out _ h);omega
   have hne:¬wr.heap.size=w.heap.size+1:=by have:=HD.out.lt;omega
   have hne2:¬w.heap.size+1=wr.heap.size:=fun h=>hne h.symm
   have hgr:g<wr.heap.size:=by omega
   have HXy:=Lib.hid (Cel.new wr #[.int .i64 0,.int .i64 0] 35);have HVy:=Lib.hid (HV.out.alloc (.cells #[.int .i64 0,.int .i64 0] 35));have HDy:=Lib.hid (HD.out.alloc (.cells #[.int .i64 0,.int .i64 0] 35));have HIy:=Lib.hid (HI.out.alloc (.cells #[.int .i64 0,.int .i64 0] 35));have HOy:=Lib.hid (HO.out.below ((Below.refl wr.heap.size wr).alloc (Nat.le_refl _) (.cells #[.int .i64 0,.int .i64 0] 35)));have HFy:=Lib.hid (HF.out.alloc (.cells #[.int .i64 0,.int .i64 0] 35))
   have HBy:=Lib.hid (HB.out.alloc (show w.heap.size≤wr.heap.size from HB.out.size) (.cells #[.int .i64 0,.int .i64 0] 35))
   have hyz:(wr.alloc (.cells #[.int .i64 0,.int .i64 0] 35)).heap.size=wr.heap.size+1:=by simp
   by_cases hk0:k=0
   ·have HAL2:=Lib.hid (allN_go HALL.out (show winsF t.h t.c t.s k=some ⟨0,0⟩ by rw[hk0];exact HWZ.out))
    have b9:decide ((0:Int)<(k:Int))=false:=decide_eq_false (by omega)
    have b9':¬0<k:=by omega
    have HX5:=HXy;have HO5:=HOy;have HI5:=HIy;have HF5:=HFy
    have hgX:g<(wr.alloc (.cells #[.int .i64 0,.int .i64 0] 35)).heap.size:=by omega
    clear hk0 HXy HVy HDy HIy HOy HFy HBy HI HO HF
    go_upto_region 23 with (fail)
    generalize wr.alloc (.cells #[.int .i64 0,.int .i64 0] 35)=X at *
    obtain⟨gg,hg',_,_,hcl,hfr⟩:=own_formE HO5.out (by omega)
    injection hg' with hg';injection hg' with hg' _ _;subst hg'
    obtain⟨y0,y1⟩:=hcl k (by omega)
    have f0:=hfr (k*2);have f1:=hfr (k*2+1);have HO6:=Lib.hid (HO5.out.stored k 0 0);rw[fill_step HTL.out hlt]at HO6
    have hfg:Frm (fun x=>x=g) X ((X.setCell ⟨g,k*2,none⟩ (.int .i64 0)).setCell ⟨g,k*2+1,none⟩ (.int .i64 (0:Int))):=(Frm.set _ g (k*2) _).trans (Frm.set _ g (k*2+1) _)
    have hfs:Frm T0 X ((X.setCell ⟨g,k*2,none⟩ (.int .i64 0)).setCell ⟨g,k*2+1,none⟩ (.int .i64 (0:Int))):=hfg.mono fun j hj=>by rw[hj];exact HTG.out
    have HF6:=Lib.hid (HF5.out.trans hfs)
    have HI6':=Lib.hid (HI5.out.frm hfg (fun x hx=>by rw[hx];exact HGS.out) HGB.out)
    have x0:=HX5.out.cell 0 _ rfl;have x1:=HX5.out.cell 1 _ rfl;have x0':=HX5.out.froz 0 _ rfl;have x1':=HX5.out.froz 1 _ rfl;have xz:=HX5.out.lt;clear hx hcl hfr hfs hfg HO5 HF5 HI5 HX5;generalize (ts++List.replicate (N-k) (zeroE':E)).getD k ⟨0,0⟩=el at *
    go_wp2_with (fail)
    have hw1:IntKind.i64.wrap ((k:Int)+1)=((k+1:Nat):Int):=IntWalk.i64_in _ (by omega)
    go_roundw
    case rel=>exact⟨k+1,by omega,by go_num,⟨_,HAL2.out,HO6.out⟩,HI6'.out,HF6.out⟩
    case measure=>(simp[intOf])<;>omega
   ·have b9:decide ((0:Int)<(k:Int))=true:=decide_eq_true (by omega)
    have hN0:0<t.N:=wys_pos _ _
    have hla:k / t.N<t.N:=Nat.div_lt_of_lt_mul (by rw[HNN.out];exact hlt)
    have hlb:k % t.N<t.N:=Nat.mod_lt _ hN0
    have HXF:=HWF.out k (by omega)
    have hcw:=l12Value_all t HOK.out (HPP.out _ hla) (HPP.out _ hlb);unfold ValC at hcw
    have hnz:¬(t.N:Int)=0:=by omega
    have hqa:(k:Int) / (t.N:Int)=((k / t.N:Nat):Int):=(Int.natCast_ediv k t.N).symm;have HRE:Hid ((k:Int).tmod (t.N:Int)=((k % t.N:Nat):Int)):=rfl;generalize k / t.N=a at *
    have HQU:Hid (IntKind.i64.wrap ((k:Int) / (t.N:Int))=(a:Int)):=by unfold Hid;rw[hqa];exact IntWalk.i64_in _ (by omega)
    clear hqa;generalize k % t.N=b at *
    rcases hxo:win t.s (atP t.h t.c a) (atP t.h t.c b) with _|⟨m,d⟩
    ·have HREN:=Lib.hid (HR0.out (allN_stop hlt HALL.out (HXF.trans hxo)))
     rw[hxo]at hcw;have CW:=Lib.hid hcw;clear hxo HXF hcw
     go_upto_region 20 with (fail)
     generalize wr.alloc (.cells #[.int .i64 0,.int .i64 0] 35)=Y at *
     refine wp_region_early 15 (fun i=>i == 14) d20d (Frm t.S) (TabI t) (d20G t k a b (atP t.h t.c a) (atP t.h t.c b) (.tuple #[.agg #[.int .i64 0,.int .i64 0],.bool false]) (.agg #[.int .i64 0,.int .i64 0]) (.bool false)) (by kernel_rfl) (by kernel_rfl) (fun _ _ _ _ _ h=>h) (fun _ _ _ h1 h2=>h1.trans h2) (fun _=>Frm.refl _ _) d20_stab (Frm.refl _ _).drew HIy.out.drew ?_ ?_ ?_
     ·intro i o hi hX ho a' W hW hIW hfar hdep
      have dep:∀j,j<15→Region.waitsFor .any _ i j=true→d20G t k a b (atP t.h t.c a) (atP t.h t.c b) (.tuple #[.agg #[.int .i64 0,.int .i64 0],.bool false]) (.agg #[.int .i64 0,.int .i64 0]) (.bool false) j (a'.tmps.getD (d20d j) undef) W:=hdep
      have hi8:i=14:=by simpa using hX
      clear hfar;subst hi8
      simp at ho
      subst ho
      have d1:a'.tmps.getD 56 undef = .tuple #[.agg #[.int .i64 0,.int .i64 0],.bool false]:=dep 12 (by omega) (by kernel_rfl)
      exact⟨.bool false,fun W'=>by simp only[execOp,Act.eval,d1];go_simp,rfl⟩
     ·intro i o hi hX ho a' W hW hIW hfar hdep
      have e2:a'.tmps.getD 2 undef = .pointer (some ⟨w.heap.size,0,none⟩):=(hfar 2 (fun j _=>by have:=d20_ge j;omega)).trans rfl
      have e8:a'.tmps.getD 8 undef = .int .i64 (t.N:Int):=(hfar 8 (fun j _=>by have:=d20_ge j;omega)).trans rfl
      have e10:a'.tmps.getD 10 undef = .pointer (some ⟨t.bt,0,none⟩):=(hfar 10 (fun j _=>by have:=d20_ge j;omega)).trans rfl
      have e11:a'.tmps.getD 11 undef = .int .i64 (k:Int):=(hfar 11 (fun j _=>by have:=d20_ge j;omega)).trans rfl
      have dep:∀j,j<15→Region.waitsFor .any _ i j=true→d20G t k a b (atP t.h t.c a) (atP t.h t.c b) (.tuple #[.agg #[.int .i64 0,.int .i64 0],.bool false]) (.agg #[.int .i64 0,.int .i64 0]) (.bool false) j (a'.tmps.getD (d20d j) undef) W:=hdep
      have hX2:i≠14:=by simpa using hX
      have hi8:i=0∨i=1∨i=2∨i=3∨i=4∨i=5∨i=6∨i=7∨i=8∨i=9∨i=10∨i=11∨i=12∨i=13:=by omega
      clear hfar
      rcases hi8 with rfl|rfl|rfl|rfl|rfl|rfl|rfl|rfl|rfl|rfl|rfl|rfl|rfl|rfl
      all_goals
       simp at ho
       subst ho
      ·exact .inl ⟨.pointer (some ⟨t.bt,0,none⟩),W,by simp only[execOp,Act.eval,e10];go_simp,Frm.refl _ _,hIW,rfl⟩
      ·have q0:=hW.cell' (HVy.out.cell 0 _ rfl) HWS.out
       have q1:=hW.cell' (HVy.out.cell 1 _ rfl) HWS.out;have q2:=hW.cell' (HVy.out.cell 2 _ rfl) HWS.out;have q3:=hW.cell' (HVy.out.cell 3 _ rfl) HWS.out
       exact .inl ⟨.agg #[.int .i64 t.p,.int .i64 t.c,.int .i64 t.h,.int .i64 t.s],W,by simp only[execOp,Act.eval,e2];go_simp,Frm.refl _ _,hIW,rfl⟩
      ·exact .inl ⟨.int .i64 (k:Int),W,by simp only[execOp,Act.eval,e11];go_simp,Frm.refl _ _,hIW,rfl⟩
      ·exact .inl ⟨.int .i64 (t.N:Int),W,by simp only[execOp,Act.eval,e8];go_simp,Frm.refl _ _,hIW,rfl⟩
      ·have d1:a'.tmps.getD 59 undef = .int .i64 (k:Int):=dep 2 (by omega) (by kernel_rfl)
       have d2:a'.tmps.getD 60 undef = .int .i64 (t.N:Int):=dep 3 (by omega) (by kernel_rfl)
       have hqu:=HQU.out
       exact .inl ⟨.int .i64 (a:Int),W,by simp only[execOp,Act.eval,d1,d2];go_simp;omega,Frm.refl _ _,hIW,rfl⟩
      ·have d1:a'.tmps.getD 58 undef = .agg #[.int .i64 t.p,.int .i64 t.c,.int .i64 t.h,.int .i64 t.s]:=dep 1 (by omega) (by kernel_rfl)
       have d2:a'.tmps.getD 61 undef = .int .i64 (a:Int):=dep 4 (by omega) (by kernel_rfl)
       refine .inr ⟨143,#[.agg #[.int .i64 t.p,.int .i64 t.c,.int .i64 t.h,.int .i64 t.s],.int .i64 (a:Int)],by simp only[execOp,Act.eval,d1,d2];go_simp,?_⟩
       refine (CAT.out a W hla).mono ?_
       rintro e W' ⟨A,ca,rfl,hoa,hba⟩
       have hsq:SQ t.S W' A (atP t.h t.c a).length (atP t.h t.c a):=ownE_sq hoa (fun j hj=>hIW.ltS j hj)
       have hca:=(hoa.sl rfl).2;rw[(HPP.out a hla).1]at hsq hca ⊢
       exact⟨_,rfl,Frm.of_below' _ hba,hIW.below hba,A,ca,rfl,hsq,hca⟩
      ·have q0:=hW.cell' (HVy.out.cell 0 _ rfl) HWS.out
       have q1:=hW.cell' (HVy.out.cell 1 _ rfl) HWS.out;have q2:=hW.cell' (HVy.out.cell 2 _ rfl) HWS.out;have q3:=hW.cell' (HVy.out.cell 3 _ rfl) HWS.out
       exact .inl ⟨.agg #[.int .i64 t.p,.int .i64 t.c,.int .i64 t.h,.int .i64 t.s],W,by simp only[execOp,Act.eval,e2];go_simp,Frm.refl _ _,hIW,rfl⟩
      ·exact .inl ⟨.int .i64 (k:Int),W,by simp only[execOp,Act.eval,e11];go_simp,Frm.refl _ _,hIW,rfl⟩
      ·exact .inl ⟨.int .i64 (t.N:Int),W,by simp only[execOp,Act.eval,e8];go_simp,Frm.refl _ _,hIW,rfl⟩
      ·have d1:a'.tmps.getD 64 undef = .int .i64 (k:Int):=dep 7 (by omega) (by kernel_rfl)
       have d2:a'.tmps.getD 65 undef = .int .i64 (t.N:Int):=dep 8 (by omega) (by kernel_rfl)
       have hqu:=HRE.out
       exact .inl ⟨.int .i64 (b:Int),W,by simp only[execOp,Act.eval,d1,d2];go_simp;omega,Frm.refl _ _,hIW,rfl⟩
      ·have d1:a'.tmps.getD 63 undef = .agg #[.int .i64 t.p,.int .i64 t.c,.int .i64 t.h,.int .i64 t.s]:=dep 6 (by omega) (by kernel_rfl)
       have d2:a'.tmps.getD 66 undef = .int .i64 (b:Int):=dep 9 (by omega) (by kernel_rfl)
       refine .inr ⟨143,#[.agg #[.int .i64 t.p,.int .i64 t.c,.int .i64 t.h,.int .i64 t.s],.int .i64 (b:Int)],by simp only[execOp,Act.eval,d1,d2];go_simp,?_⟩
       refine (CAT.out b W hlb).mono ?_
       rintro e W' ⟨A,ca,rfl,hoa,hba⟩
       have hsq:SQ t.S W' A (atP t.h t.c b).length (atP t.h t.c b):=ownE_sq hoa (fun j hj=>hIW.ltS j hj)
       have hca:=(hoa.sl rfl).2;rw[(HPP.out b hlb).1]at hsq hca ⊢
       exact⟨_,rfl,Frm.of_below' _ hba,hIW.below hba,A,ca,rfl,hsq,hca⟩
      ·have d1:a'.tmps.getD 57 undef = .pointer (some ⟨t.bt,0,none⟩):=dep 0 (by omega) (by kernel_rfl)
       obtain⟨A,ca,d2,hA,hca⟩:∃A c,a'.tmps.getD 62 undef = .slice A t.h c∧SQ t.S W A t.h (atP t.h t.c a)∧t.h≤c:=dep 5 (by omega) (by kernel_rfl)
       obtain⟨B,cb,d3,hB,hcb⟩:∃A c,a'.tmps.getD 67 undef = .slice A t.h c∧SQ t.S W A t.h (atP t.h t.c b)∧t.h≤c:=dep 10 (by omega) (by kernel_rfl)
       refine .inr ⟨144,#[.pointer (some ⟨t.bt,0,none⟩),.slice A t.h ca,.slice B t.h cb],by simp only[execOp,Act.eval,d1,d2,d3];go_simp,?_⟩
       refine (CW.out A B ca cb W hIW hA hca hB hcb).mono ?_
       rintro e W' ⟨rfl,hI',hf'⟩
       exact⟨_,rfl,hf',hI',rfl⟩
      ·have d1:a'.tmps.getD 68 undef = .tuple #[.agg #[.int .i64 0,.int .i64 0],.bool false]:=dep 11 (by omega) (by kernel_rfl)
       exact .inl ⟨.tuple #[.agg #[.int .i64 0,.int .i64 0],.bool false],W,by simp only[execOp,Act.eval,d1];go_simp,Frm.refl _ _,hIW,rfl⟩
      ·have d1:a'.tmps.getD 56 undef = .tuple #[.agg #[.int .i64 0,.int .i64 0],.bool false]:=dep 12 (by omega) (by kernel_rfl)
       exact .inl ⟨.agg #[.int .i64 0,.int .i64 0],W,by simp only[execOp,Act.eval,d1];go_simp,Frm.refl _ _,hIW,rfl⟩
     intro v w4' hW hIW hg
     have g0:v 0 = .pointer (some ⟨t.bt,0,none⟩):=hg 0 (by omega)
     have g1:v 1 = .agg #[.int .i64 t.p,.int .i64 t.c,.int .i64 t.h,.int .i64 t.s]:=hg 1 (by omega)
     have g2:v 2 = .int .i64 (k:Int):=hg 2 (by omega)
     have g3:v 3 = .int .i64 (t.N:Int):=hg 3 (by omega)
     have g4:v 4 = .int .i64 (a:Int):=hg 4 (by omega)
     obtain⟨_,_,g5,_,_⟩:∃A c,v 5 = .slice A t.h c∧SQ t.S w4' A t.h (atP t.h t.c a)∧t.h≤c:=hg 5 (by omega)
     have g6:v 6 = .agg #[.int .i64 t.p,.int .i64 t.c,.int .i64 t.h,.int .i64 t.s]:=hg 6 (by omega)
     have g7:v 7 = .int .i64 (k:Int):=hg 7 (by omega)
     have g8:v 8 = .int .i64 (t.N:Int):=hg 8 (by omega)
     have g9:v 9 = .int .i64 (b:Int):=hg 9 (by omega)
     obtain⟨_,_,g10,_,_⟩:∃A c,v 10 = .slice A t.h c∧SQ t.S w4' A t.h (atP t.h t.c b)∧t.h≤c:=hg 10 (by omega)
     have g11:v 11 = .tuple #[.agg #[.int .i64 0,.int .i64 0],.bool false]:=hg 11 (by omega)
     have g12:v 12 = .tuple #[.agg #[.int .i64 0,.int .i64 0],.bool false]:=hg 12 (by omega)
     have g13:v 13 = .agg #[.int .i64 0,.int .i64 0]:=hg 13 (by omega)
     have g14:v 14 = .bool false:=hg 14 (by omega)
     simp only[List.drop_succ_cons,List.drop_zero,putV,d20d,g0,g1,g2,g3,g4,g5,g6,g7,g8,g9,g10,g11,g12,g13,g14,Act.put]
     clear g0 g1 g2 g3 g4 g5 g6 g7 g8 g9 g10 g11 g12 g13 g14 hg;have hf4:=hW;have hI4:=hIW;clear hW hIW;have HX4:=Lib.hid (HXy.out.frm hf4 hbS);have HD4':=Lib.hid (HDy.out.frm hf4 HWS2.out)
     have HO4:=Lib.hid (hf4.rowE HOy.out (fun j hj h=>by have h2:g=j:=Option.some.inj hj;rw[← h2]at h;exact HGS.out h))
     have HF4:=Lib.hid (HFy.out.trans (hf4.mono HTS.out))
     have HB4':=Lib.hid (HBy.out.trans (hf4.below HBy.out.size (fun j hj=>by have:=HTW.out _ (HTS.out _ hj);omega)))
     have HI4:=Lib.hid hI4;clear hI4 hf4 HXy HVy HDy HIy HOy HFy HBy HI HO HF HO4 HF4 HI4;have x0:=HX4.out.cell 0 _ rfl;have x1:=HX4.out.cell 1 _ rfl;have x0':=HX4.out.froz 0 _ rfl;have x1':=HX4.out.froz 1 _ rfl;have xz:=HX4.out.lt;have c10:=HD4'.out.cell 0 _ rfl;have c11:=HD4'.out.cell 1 _ rfl;have c12:=HD4'.out.cell 2 _ rfl;have c13:=HD4'.out.cell 3 _ rfl;have c14:=HD4'.out.cell 4 _ rfl;have c15:=HD4'.out.cell 5 _ rfl;have f10:=HD4'.out.froz 0 _ rfl;have f11:=HD4'.out.froz 1 _ rfl;have f12:=HD4'.out.froz 2 _ rfl;have f13:=HD4'.out.froz 3 _ rfl;have f14:=HD4'.out.froz 4 _ rfl;have f15:=HD4'.out.froz 5 _ rfl;have z1:=HD4'.out.lt
     go_wp2_with (fail)
     refine bodyPost_ret (v:=.tuple #[.agg #[.int .i64 0,.int .i64 0,.int .i64 0,.int .i64 0,.int .i64 0,.slice none 0 0],.int .i64 3]) (by simp[results,Tryz.results62,go_sem,c10,c11,c12,c13,c14,c15,z1,f10,f11,f12,f13,f14,f15,hne,hne2,x0,x1,x0',x1',xz]) rfl (RetDB.no HREN.out (by decide) ?_)
     repeat (with_reducible first|exact HB4'.out|refine bd_set ?_ (by omega) _)
    ·have HAL2:=Lib.hid (allN_go HALL.out (HXF.trans hxo))
     rw[hxo]at hcw;have CW:=Lib.hid hcw;clear hxo HXF hcw
     go_upto_region 20 with (fail)
     generalize wr.alloc (.cells #[.int .i64 0,.int .i64 0] 35)=Y at *
     refine wp_region_early 15 (fun i=>i == 14) d20d (Frm t.S) (TabI t) (d20G t k a b (atP t.h t.c a) (atP t.h t.c b) (.tuple #[.agg #[.int .i64 m,.int .i64 (d:Int)],.bool true]) (.agg #[.int .i64 m,.int .i64 (d:Int)]) (.bool true)) (by kernel_rfl) (by kernel_rfl) (fun _ _ _ _ _ h=>h) (fun _ _ _ h1 h2=>h1.trans h2) (fun _=>Frm.refl _ _) d20_stab (Frm.refl _ _).drew HIy.out.drew ?_ ?_ ?_
     ·intro i o hi hX ho a' W hW hIW hfar hdep
      have dep:∀j,j<15→Region.waitsFor .any _ i j=true→d20G t k a b (atP t.h t.c a) (atP t.h t.c b) (.tuple #[.agg #[.int .i64 m,.int .i64 (d:Int)],.bool true]) (.agg #[.int .i64 m,.int .i64 (d:Int)]) (.bool true) j (a'.tmps.getD (d20d j) undef) W:=hdep
      have hi8:i=14:=by simpa using hX
      clear hfar;subst hi8
      simp at ho
      subst ho
      have d1:a'.tmps.getD 56 undef = .tuple #[.agg #[.int .i64 m,.int .i64 (d:Int)],.bool true]:=dep 12 (by omega) (by kernel_rfl)
      exact⟨.bool true,fun W'=>by simp only[execOp,Act.eval,d1];go_simp,rfl⟩
     ·intro i o hi hX ho a' W hW hIW hfar hdep
      have e2:a'.tmps.getD 2 undef = .pointer (some ⟨w.heap.size,0,none⟩):=(hfar 2 (fun j _=>by have:=d20_ge j;omega)).trans rfl
      have e8:a'.tmps.getD 8 undef = .int .i64 (t.N:Int):=(hfar 8 (fun j _=>by have:=d20_ge j;omega)).trans rfl
      have e10:a'.tmps.getD 10 undef = .pointer (some ⟨t.bt,0,none⟩):=(hfar 10 (fun j _=>by have:=d20_ge j;omega)).trans rfl
      have e11:a'.tmps.getD 11 undef = .int .i64 (k:Int):=(hfar 11 (fun j _=>by have:=d20_ge j;omega)).trans rfl
      have dep:∀j,j<15→Region.waitsFor .any _ i j=true→d20G t k a b (atP t.h t.c a) (atP t.h t.c b) (.tuple #[.agg #[.int .i64 m,.int .i64 (d:Int)],.bool true]) (.agg #[.int .i64 m,.int .i64 (d:Int)]) (.bool true) j (a'.tmps.getD (d20d j) undef) W:=hdep
      have hX2:i≠14:=by simpa using hX
      have hi8:i=0∨i=1∨i=2∨i=3∨i=4∨i=5∨i=6∨i=7∨i=8∨i=9∨i=10∨i=11∨i=12∨i=13:=by omega
      clear hfar
      rcases hi8 with rfl|rfl|rfl|rfl|rfl|rfl|rfl|rfl|rfl|rfl|rfl|rfl|rfl|rfl
      all_goals
       simp at ho
       subst ho
      ·exact .inl ⟨.pointer (some ⟨t.bt,0,none⟩),W,by simp only[execOp,Act.eval,e10];go_simp,Frm.refl _ _,hIW,rfl⟩
      ·have q0:=hW.cell' (HVy.out.cell 0 _ rfl) HWS.out
       have q1:=hW.cell' (HVy.out.cell 1 _ rfl) HWS.out;have q2:=hW.cell' (HVy.out.cell 2 _ rfl) HWS.out;have q3:=hW.cell' (HVy.out.cell 3 _ rfl) HWS.out
       exact .inl ⟨.agg #[.int .i64 t.p,.int .i64 t.c,.int .i64 t.h,.int .i64 t.s],W,by simp only[execOp,Act.eval,e2];go_simp,Frm.refl _ _,hIW,rfl⟩
      ·exact .inl ⟨.int .i64 (k:Int),W,by simp only[execOp,Act.eval,e11];go_simp,Frm.refl _ _,hIW,rfl⟩
      ·exact .inl ⟨.int .i64 (t.N:Int),W,by simp only[execOp,Act.eval,e8];go_simp,Frm.refl _ _,hIW,rfl⟩
      ·have d1:a'.tmps.getD 59 undef = .int .i64 (k:Int):=dep 2 (by omega) (by kernel_rfl)
       have d2:a'.tmps.getD 60 undef = .int .i64 (t.N:Int):=dep 3 (by omega) (by kernel_rfl)
       have hqu:=HQU.out
       exact .inl ⟨.int .i64 (a:Int),W,by simp only[execOp,Act.eval,d1,d2];go_simp;omega,Frm.refl _ _,hIW,rfl⟩
      ·have d1:a'.tmps.getD 58 undef = .agg #[.int .i64 t.p,.int .i64 t.c,.int .i64 t.h,.int .i64 t.s]:=dep 1 (by omega) (by kernel_rfl)
       have d2:a'.tmps.getD 61 undef = .int .i64 (a:Int):=dep 4 (by omega) (by kernel_rfl)
       refine .inr ⟨143,#[.agg #[.int .i64 t.p,.int .i64 t.c,.int .i64 t.h,.int .i64 t.s],.int .i64 (a:Int)],by simp only[execOp,Act.eval,d1,d2];go_simp,?_⟩
       refine (CAT.out a W hla).mono ?_
       rintro e W' ⟨A,ca,rfl,hoa,hba⟩
       have hsq:SQ t.S W' A (atP t.h t.c a).length (atP t.h t.c a):=ownE_sq hoa (fun j hj=>hIW.ltS j hj)
       have hca:=(hoa.sl rfl).2;rw[(HPP.out a hla).1]at hsq hca ⊢
       exact⟨_,rfl,Frm.of_below' _ hba,hIW.below hba,A,ca,rfl,hsq,hca⟩
      ·have q0:=hW.cell' (HVy.out.cell 0 _ rfl) HWS.out
       have q1:=hW.cell' (HVy.out.cell 1 _ rfl) HWS.out;have q2:=hW.cell' (HVy.out.cell 2 _ rfl) HWS.out;have q3:=hW.cell' (HVy.out.cell 3 _ rfl) HWS.out
       exact .inl ⟨.agg #[.int .i64 t.p,.int .i64 t.c,.int .i64 t.h,.int .i64 t.s],W,by simp only[execOp,Act.eval,e2];go_simp,Frm.refl _ _,hIW,rfl⟩
      ·exact .inl ⟨.int .i64 (k:Int),W,by simp only[execOp,Act.eval,e11];go_simp,Frm.refl _ _,hIW,rfl⟩
      ·exact .inl ⟨.int .i64 (t.N:Int),W,by simp only[execOp,Act.eval,e8];go_simp,Frm.refl _ _,hIW,rfl⟩
      ·have d1:a'.tmps.getD 64 undef = .int .i64 (k:Int):=dep 7 (by omega) (by kernel_rfl)
       have d2:a'.tmps.getD 65 undef = .int .i64 (t.N:Int):=dep 8 (by omega) (by kernel_rfl)
       have hqu:=HRE.out
       exact .inl ⟨.int .i64 (b:Int),W,by simp only[execOp,Act.eval,d1,d2];go_simp;omega,Frm.refl _ _,hIW,rfl⟩
      ·have d1:a'.tmps.getD 63 undef = .agg #[.int .i64 t.p,.int .i64 t.c,.int .i64 t.h,.int .i64 t.s]:=dep 6 (by omega) (by kernel_rfl)
       have d2:a'.tmps.getD 66 undef = .int .i64 (b:Int):=dep 9 (by omega) (by kernel_rfl)
       refine .inr ⟨143,#[.agg #[.int .i64 t.p,.int .i64 t.c,.int .i64 t.h,.int .i64 t.s],.int .i64 (b:Int)],by simp only[execOp,Act.eval,d1,d2];go_simp,?_⟩
       refine (CAT.out b W hlb).mono ?_
       rintro e W' ⟨A,ca,rfl,hoa,hba⟩
       have hsq:SQ t.S W' A (atP t.h t.c b).length (atP t.h t.c b):=ownE_sq hoa (fun j hj=>hIW.ltS j hj)
       have hca:=(hoa.sl rfl).2;rw[(HPP.out b hlb).1]at hsq hca ⊢
       exact⟨_,rfl,Frm.of_below' _ hba,hIW.below hba,A,ca,rfl,hsq,hca⟩
      ·have d1:a'.tmps.getD 57 undef = .pointer (some ⟨t.bt,0,none⟩):=dep 0 (by omega) (by kernel_rfl)
       obtain⟨A,ca,d2,hA,hca⟩:∃A c,a'.tmps.getD 62 undef = .slice A t.h c∧SQ t.S W A t.h (atP t.h t.c a)∧t.h≤c:=dep 5 (by omega) (by kernel_rfl)
       obtain⟨B,cb,d3,hB,hcb⟩:∃A c,a'.tmps.getD 67 undef = .slice A t.h c∧SQ t.S W A t.h (atP t.h t.c b)∧t.h≤c:=dep 10 (by omega) (by kernel_rfl)
       refine .inr ⟨144,#[.pointer (some ⟨t.bt,0,none⟩),.slice A t.h ca,.slice B t.h cb],by simp only[execOp,Act.eval,d1,d2,d3];go_simp,?_⟩
       refine (CW.out A B ca cb W hIW hA hca hB hcb).mono ?_
       rintro e W' ⟨rfl,hI',hf'⟩
       exact⟨_,rfl,hf',hI',rfl⟩
      ·have d1:a'.tmps.getD 68 undef = .tuple #[.agg #[.int .i64 m,.int .i64 (d:Int)],.bool true]:=dep 11 (by omega) (by kernel_rfl)
       exact .inl ⟨.tuple #[.agg #[.int .i64 m,.int .i64 (d:Int)],.bool true],W,by simp only[execOp,Act.eval,d1];go_simp,Frm.refl _ _,hIW,rfl⟩
      ·have d1:a'.tmps.getD 56 undef = .tuple #[.agg #[.int .i64 m,.int .i64 (d:Int)],.bool true]:=dep 12 (by omega) (by kernel_rfl)
       exact .inl ⟨.agg #[.int .i64 m,.int .i64 (d:Int)],W,by simp only[execOp,Act.eval,d1];go_simp,Frm.refl _ _,hIW,rfl⟩
     intro v w4' hW hIW hg
     have g0:v 0 = .pointer (some ⟨t.bt,0,none⟩):=hg 0 (by omega)
     have g1:v 1 = .agg #[.int .i64 t.p,.int .i64 t.c,.int .i64 t.h,.int .i64 t.s]:=hg 1 (by omega)
     have g2:v 2 = .int .i64 (k:Int):=hg 2 (by omega)
     have g3:v 3 = .int .i64 (t.N:Int):=hg 3 (by omega)
     have g4:v 4 = .int .i64 (a:Int):=hg 4 (by omega)
     obtain⟨_,_,g5,_,_⟩:∃A c,v 5 = .slice A t.h c∧SQ t.S w4' A t.h (atP t.h t.c a)∧t.h≤c:=hg 5 (by omega)
     have g6:v 6 = .agg #[.int .i64 t.p,.int .i64 t.c,.int .i64 t.h,.int .i64 t.s]:=hg 6 (by omega)
     have g7:v 7 = .int .i64 (k:Int):=hg 7 (by omega)
     have g8:v 8 = .int .i64 (t.N:Int):=hg 8 (by omega)
     have g9:v 9 = .int .i64 (b:Int):=hg 9 (by omega)
     obtain⟨_,_,g10,_,_⟩:∃A c,v 10 = .slice A t.h c∧SQ t.S w4' A t.h (atP t.h t.c b)∧t.h≤c:=hg 10 (by omega)
     have g11:v 11 = .tuple #[.agg #[.int .i64 m,.int .i64 (d:Int)],.bool true]:=hg 11 (by omega)
     have g12:v 12 = .tuple #[.agg #[.int .i64 m,.int .i64 (d:Int)],.bool true]:=hg 12 (by omega)
     have g13:v 13 = .agg #[.int .i64 m,.int .i64 (d:Int)]:=hg 13 (by omega)
     have g14:v 14 = .bool true:=hg 14 (by omega)
     simp only[List.drop_succ_cons,List.drop_zero,putV,d20d,g0,g1,g2,g3,g4,g5,g6,g7,g8,g9,g10,g11,g12,g13,g14,Act.put]
     clear g0 g1 g2 g3 g4 g5 g6 g7 g8 g9 g10 g11 g12 g13 g14 hg;have hf4:=hW;have hI4:=hIW;clear hW hIW;have HX4:=Lib.hid (HXy.out.frm hf4 hbS);have HD4':=Lib.hid (HDy.out.frm hf4 HWS2.out)
     have HO4:=Lib.hid (hf4.rowE HOy.out (fun j hj h=>by have h2:g=j:=Option.some.inj hj;rw[← h2]at h;exact HGS.out h))
     have HF4:=Lib.hid (HFy.out.trans (hf4.mono HTS.out))
     have HB4':=Lib.hid (HBy.out.trans (hf4.below HBy.out.size (fun j hj=>by have:=HTW.out _ (HTS.out _ hj);omega)))
     have HI4:=Lib.hid hI4
     have hz4:wr.heap.size≤w4'.heap.size:=by have:=hf4.size;omega
     clear hI4 hf4 HXy HVy HDy HIy HOy HFy HBy HI HO HF HD4' HB4' HB HD HV;have HX5:=Lib.hid (HX4.out.duo (.int .i64 m) (.int .i64 (d:Int)))
     have hs2:Frm (fun x=>x=wr.heap.size) w4' ((w4'.setCell ⟨wr.heap.size,0,none⟩ (.int .i64 m)).setCell ⟨wr.heap.size,1,none⟩ (.int .i64 (d:Int))):=(Frm.set _ _ _ _).trans (Frm.set _ _ _ _)
     have HO5:=Lib.hid (hs2.rowE HO4.out (fun j hj h=>by have h2:g=j:=Option.some.inj hj;have h3:j=wr.heap.size:=h;omega))
     have HI5:=Lib.hid (HI4.out.frm hs2 (fun x hx=>by rw[hx];exact hbS) (fun h=>by have:=HBT6.out;have h3:t.bt=wr.heap.size:=h;omega))
     have HF5:=Lib.hid (HF4.out.outs hs2 (fun x hx=>by rw[hx];omega))
     have hgX:g<((w4'.setCell ⟨wr.heap.size,0,none⟩ (.int .i64 m)).setCell ⟨wr.heap.size,1,none⟩ (.int .i64 (d:Int))).heap.size:=by simp;omega
     have x0:=HX4.out.cell 0 _ rfl;have x1:=HX4.out.cell 1 _ rfl;have x0':=HX4.out.froz 0 _ rfl;have x1':=HX4.out.froz 1 _ rfl;have xz:=HX4.out.lt;clear hs2 HX4 HO4 HI4 HF4
     go_upto_region 23 with (fail)
     generalize (w4'.setCell ⟨wr.heap.size,0,none⟩ (.int .i64 m)).setCell ⟨wr.heap.size,1,none⟩ (.int .i64 (d:Int))=X at *;clear x0 x1 x0' x1' xz
     obtain⟨gg,hg',_,_,hcl,hfr⟩:=own_formE HO5.out (by omega)
     injection hg' with hg';injection hg' with hg' _ _;subst hg'
     obtain⟨y0,y1⟩:=hcl k (by omega)
     have f0:=hfr (k*2);have f1:=hfr (k*2+1);have HO6:=Lib.hid (HO5.out.stored k m d);rw[fill_step HTL.out hlt]at HO6
     have hfg:Frm (fun x=>x=g) X ((X.setCell ⟨g,k*2,none⟩ (.int .i64 m)).setCell ⟨g,k*2+1,none⟩ (.int .i64 (d:Int))):=(Frm.set _ g (k*2) _).trans (Frm.set _ g (k*2+1) _)
     have hfs:Frm T0 X ((X.setCell ⟨g,k*2,none⟩ (.int .i64 m)).setCell ⟨g,k*2+1,none⟩ (.int .i64 (d:Int))):=hfg.mono fun j hj=>by rw[hj];exact HTG.out
     have HF6:=Lib.hid (HF5.out.trans hfs)
     have HI6':=Lib.hid (HI5.out.frm hfg (fun x hx=>by rw[hx];exact HGS.out) HGB.out)
     have x0:=HX5.out.cell 0 _ rfl;have x1:=HX5.out.cell 1 _ rfl;have x0':=HX5.out.froz 0 _ rfl;have x1':=HX5.out.froz 1 _ rfl;have xz:=HX5.out.lt;clear hx hcl hfr hfs hfg HO5 HF5 HI5 HX5;generalize (ts++List.replicate (N-k) (zeroE':E)).getD k ⟨0,0⟩=el at *
     go_wp2_with (fail)
     have hw1:IntKind.i64.wrap ((k:Int)+1)=((k+1:Nat):Int):=IntWalk.i64_in _ (by omega)
     go_roundw
     case rel=>exact⟨k+1,by omega,by go_num,⟨_,HAL2.out,HO6.out⟩,HI6'.out,HF6.out⟩
     case measure=>(simp[intOf])<;>omega
  ·clear HI HF
   have hke:k=N:=by omega
   subst hke;have HALL2:=Lib.hid HALL.out
   have HOz:Hid (OwnE wr w.heap.size (.slice (some ⟨g,0,none⟩) k k) ts):=by
    have h:=HO.out
    rwa [Nat.sub_self,List.replicate_zero,List.append_nil]at h
   clear HO HALL;have HRc:=Lib.hid (HR1.out ts HALL2.out)
   have HOL:=Lib.hid fun j hj=>(World.ownsRow.lt HOz.out j hj).1
   have hgo:(Value.slice (some ⟨g,0,none⟩) k k).ownBlock≠some (w.heap.size+1):=fun h=>by have h2:g=w.heap.size+1:=Option.some.inj h;omega
   have c0:=HV.out.cell 0 _ rfl;have c1:=HV.out.cell 1 _ rfl;have c2:=HV.out.cell 2 _ rfl;have c3:=HV.out.cell 3 _ rfl;have cz:=HV.out.lt;have c10:=HD.out.cell 0 _ rfl;have c11:=HD.out.cell 1 _ rfl;have c12:=HD.out.cell 2 _ rfl;have c13:=HD.out.cell 3 _ rfl;have c14:=HD.out.cell 4 _ rfl;have c15:=HD.out.cell 5 _ rfl;have f10:=HD.out.froz 0 _ rfl;have f11:=HD.out.froz 1 _ rfl;have f12:=HD.out.froz 2 _ rfl;have f13:=HD.out.froz 3 _ rfl;have f14:=HD.out.froz 4 _ rfl;have f15:=HD.out.froz 5 _ rfl;have z1:=HD.out.lt
   go_wp2_with (fail)
   refine bodyPost_ret (v:=.tuple #[.agg #[.int .i64 t.p,.int .i64 t.c,.int .i64 t.h,.int .i64 t.s,.int .i64 2,.slice (some ⟨g,0,none⟩) k k],.int .i64 0]) (by simp[results,Tryz.results62,go_sem,c10,c11,c12,c13,c14,c15,z1,f10,f11,f12,f13,f14,f15]) rfl ⟨?_,.inr ⟨HRc.out,_,ts,HEQ.out.trans HALL2.out,?_,rfl⟩⟩
   ·repeat (with_reducible first|exact HB.out|refine bd_set ?_ (by omega) _)
   ·repeat (with_reducible first|exact HOz.out|refine rowE_setne ?_ hgo _)
set_option maxRecDepth 100000 in
set_option maxHeartbeats 4000000 in
theorem sBuildDatabase_any (p c h s k:Int) (w:World):
  Calls Tryz.prog 62 #[.agg #[.int .i64 p,.int .i64 c,.int .i64 h,.int .i64 s],.int .i64 k] w (RetDB p c h s k w):=by
 have HF0:Hid (FrS (fun _=>False) w ((w.alloc (.cells #[.int .i64 p,.int .i64 c,.int .i64 h,.int .i64 s] 25)).alloc (.cells #[.int .i64 0,.int .i64 0,.int .i64 0,.int .i64 0,.int .i64 0,.slice none 0 0] 85)) [[.int .i64 p,.int .i64 c,.int .i64 h,.int .i64 s],[.int .i64 0,.int .i64 0,.int .i64 0,.int .i64 0,.int .i64 0,.slice none 0 0]]):=((FrS.start w (fun _ h=>h.elim)).allocT (by simp) _ _).allocT (by simp) _ _
 have CV:=Lib.hid fun W=>sIsVariant_any p c h s W
 rcases hvv:isVar p c h s with _|_
 ·rw[hvv]at CV
  have HR:=Lib.hid (dbC_1 (k:=k) hvv);clear hvv
  go_enter Tryz.func62,Tryz.ntmps62
  go_wp2_with (fail)
  generalize (w.alloc (.cells #[.int .i64 p,.int .i64 c,.int .i64 h,.int .i64 s] 25)).alloc (.cells #[.int .i64 0,.int .i64 0,.int .i64 0,.int .i64 0,.int .i64 0,.slice none 0 0] 85)=W0 at *
  refine (CV.out _).mono ?_
  rintro e w1 ⟨rfl,hb⟩
  have HF1:=Lib.hid (HF0.out.below hb);clear hb HF0;obtain⟨z0,c00,f00,c01,f01,c02,f02,c03,f03,z1,c10,f10,c11,f11,c12,f12,c13,f13,c14,f14,c15,f15⟩:=HF1.out.xf6
  go_wp2_with (fail)
  have HFz:=Lib.hid (((((((HF1.out.set 1 0 rfl rfl (.int .i64 0)).set 1 1 rfl rfl (.int .i64 0)).set 1 2 rfl rfl (.int .i64 0)).set 1 3 rfl rfl (.int .i64 0)).set 1 4 rfl rfl (.int .i64 0)).set 1 5 rfl rfl (.slice none 0 0)))
  refine bodyPost_ret (v:=.tuple #[.agg #[.int .i64 0,.int .i64 0,.int .i64 0,.int .i64 0,.int .i64 0,.slice none 0 0],.int .i64 1]) (by simp[results,Tryz.results62,go_sem,c10,c11,c12,c13,c14,c15,z1,f10,f11,f12,f13,f14,f15]) rfl (RetDB.no HR.out (by decide) ?_)
  exact HFz.out.belowW
 ·rw[hvv]at CV
  have CK:=Lib.hid fun W=>l13Kind_any k W
  by_cases hk:k=1∨k=2
  ·have hvv':=isVar_yes hvv
   obtain⟨c',rfl⟩:∃c':Nat,c=c':=⟨c.toNat,by omega⟩
   obtain⟨h',rfl⟩:∃h':Nat,h=h':=⟨h.toNat,by omega⟩
   obtain⟨s',rfl⟩:∃s':Nat,s=s':=⟨s.toNat,by omega⟩
   by_cases hok:dbOk h' c' k
   ·rcases hk with rfl|rfl
    ·exact sBuildRolls_any p c' h' s' _ w hvv hok.1 hok.2 (by unfold dbN;rw[if_neg (by omega)]) hok
    ·exact sBuildWins_any p c' h' s' _ w hvv hok.1 hok.2 (by unfold dbN;rw[if_pos rfl]) hok
   ·have CS:Hid (∀W:World,Calls Tryz.prog 139 #[.agg #[.int .i64 p,.int .i64 c',.int .i64 h',.int .i64 s'],.int .i64 k] W fun e w'=>e = .returned (.int .i64 (-1))∧Below W.heap.size W w'):=fun W=>by have:=l13Size_any p k c' h' s' W hvv hk;unfold szD at this;rwa [if_neg hok]at this
    have HR:=Lib.hid (dbC_3 hvv hk hok)
    rw[show decide (k=1∨k=2)=true from decide_eq_true hk]at CK
    clear hvv hvv' hok hk
    go_enter Tryz.func62,Tryz.ntmps62
    go_wp2_with (fail)
    generalize (w.alloc (.cells #[.int .i64 p,.int .i64 c',.int .i64 h',.int .i64 s'] 25)).alloc (.cells #[.int .i64 0,.int .i64 0,.int .i64 0,.int .i64 0,.int .i64 0,.slice none 0 0] 85)=W0 at *
    refine (CV.out _).mono ?_
    rintro e w1 ⟨rfl,hb⟩
    have HF1:=Lib.hid (HF0.out.below hb);clear hb HF0;obtain⟨z0,c00,f00,c01,f01,c02,f02,c03,f03,z1,c10,f10,c11,f11,c12,f12,c13,f13,c14,f14,c15,f15⟩:=HF1.out.xf6
    go_wp2_with (go_at_call 138;refine (CK.out _).mono ?_;rintro e w' ⟨rfl,rfl⟩)
    clear z0 c00 f00 c01 f01 c02 f02 c03 f03 z1 c10 f10 c11 f11 c12 f12 c13 f13 c14 f14 c15 f15
    refine (CS.out _).mono ?_
    rintro e w2 ⟨rfl,hb⟩
    have HF2:=Lib.hid (HF1.out.below hb);clear hb HF1;obtain⟨z0,c00,f00,c01,f01,c02,f02,c03,f03,z1,c10,f10,c11,f11,c12,f12,c13,f13,c14,f14,c15,f15⟩:=HF2.out.xf6
    go_wp2_with (fail)
    have HFz:=Lib.hid (((((((HF2.out.set 1 0 rfl rfl (.int .i64 0)).set 1 1 rfl rfl (.int .i64 0)).set 1 2 rfl rfl (.int .i64 0)).set 1 3 rfl rfl (.int .i64 0)).set 1 4 rfl rfl (.int .i64 0)).set 1 5 rfl rfl (.slice none 0 0)))
    refine bodyPost_ret (v:=.tuple #[.agg #[.int .i64 0,.int .i64 0,.int .i64 0,.int .i64 0,.int .i64 0,.slice none 0 0],.int .i64 3]) (by simp[results,Tryz.results62,go_sem,c10,c11,c12,c13,c14,c15,z1,f10,f11,f12,f13,f14,f15]) rfl (RetDB.no HR.out (by decide) ?_)
    exact HFz.out.belowW
  ·have HR:=Lib.hid (dbC_2 hvv hk)
   rw[show decide (k=1∨k=2)=false from decide_eq_false hk]at CK
   clear hvv hk
   go_enter Tryz.func62,Tryz.ntmps62
   go_wp2_with (fail)
   generalize (w.alloc (.cells #[.int .i64 p,.int .i64 c,.int .i64 h,.int .i64 s] 25)).alloc (.cells #[.int .i64 0,.int .i64 0,.int .i64 0,.int .i64 0,.int .i64 0,.slice none 0 0] 85)=W0 at *
   refine (CV.out _).mono ?_
   rintro e w1 ⟨rfl,hb⟩
   have HF1:=Lib.hid (HF0.out.below hb);clear hb HF0;obtain⟨z0,c00,f00,c01,f01,c02,f02,c03,f03,z1,c10,f10,c11,f11,c12,f12,c13,f13,c14,f14,c15,f15⟩:=HF1.out.xf6
   go_wp2_with (go_at_call 138;refine (CK.out _).mono ?_;rintro e w' ⟨rfl,rfl⟩)
   clear z0 c00 f00 c01 f01 c02 f02 c03 f03 z1 c10 f10 c11 f11 c12 f12 c13 f13 c14 f14 c15 f15;obtain⟨z0,c00,f00,c01,f01,c02,f02,c03,f03,z1,c10,f10,c11,f11,c12,f12,c13,f13,c14,f14,c15,f15⟩:=HF1.out.xf6
   go_wp2_with (fail)
   have HFz:=Lib.hid (((((((HF1.out.set 1 0 rfl rfl (.int .i64 0)).set 1 1 rfl rfl (.int .i64 0)).set 1 2 rfl rfl (.int .i64 0)).set 1 3 rfl rfl (.int .i64 0)).set 1 4 rfl rfl (.int .i64 0)).set 1 5 rfl rfl (.slice none 0 0)))
   refine bodyPost_ret (v:=.tuple #[.agg #[.int .i64 0,.int .i64 0,.int .i64 0,.int .i64 0,.int .i64 0,.slice none 0 0],.int .i64 2]) (by simp[results,Tryz.results62,go_sem,c10,c11,c12,c13,c14,c15,z1,f10,f11,f12,f13,f14,f15]) rfl (RetDB.no HR.out (by decide) ?_)
   exact HFz.out.belowW
end Go.Proofs.YtkaiilmgemaljaaGreat

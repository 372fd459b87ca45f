/- The law's walk for a true database. There are no conditions. -/
import Derived.Test.YtkaiilmgemaljaaGreatJR14
import Derived.Test.YtkaiilmgemaljaaGreatJL6
import Derived.Test.YtkaiilmgemaljaaGreatJZl
set_option linter.unusedVariables false
set_option linter.unusedSimpArgs false
namespace Go.Proofs.YtkaiilmgemaljaaGreat
open Go.RowKit Ps Ra Ex
theorem dbC_zero {p c h s k:Int} (h0:dbC p c h s k=0):dbOk h.toNat c.toNat k:=by
 unfold dbC at h0
 split at h0
 ·cases h0
 ·split at h0
  ·cases h0
  ·split at h0
   ·cases h0
   ·rename_i h3;exact Decidable.not_not.1 h3
theorem dbE_len {h c s:Nat} {k:Int} {xs:List E} (he:dbE h c s k=some xs):xs.length=dbN h c k:=by
 unfold dbE at he
 split at he<;>exact allN_len he
theorem db_uni (p c h s k:Int):∃(a0 a1 a2 a3 a4:Int) (X:List E) (n:Nat),X.length=n∧n≤2500∧∀w e w',RetDB p c h s k w e w'→∃A cv,e = .returned (.tuple #[.agg #[.int .i64 a0,.int .i64 a1,.int .i64 a2,.int .i64 a3,.int .i64 a4,.slice A n cv],.int .i64 (dbC p c h s k)])∧OwnE w' w.heap.size (.slice A n cv) X∧Below w.heap.size w w':=by
 by_cases h0:dbC p c h s k=0
 ·cases hE:dbE h.toNat c.toNat s.toNat k with
  | none =>
    refine ⟨0, 0, 0, 0, 0, [], 0, rfl, by omega, ?_⟩
    rintro w e w' ⟨_, ⟨h1, _⟩ | ⟨_, v, xs, h2, _⟩⟩
    · exact absurd h0 h1
    · rw [hE] at h2; cases h2
  | some X =>
    refine ⟨p, c, h, s, k, X, X.length, rfl, ?_, ?_⟩
    · rw [dbE_len hE]; exact (dbC_zero h0).2
    · rintro w e w' ⟨hb, ⟨h1, _⟩ | ⟨_, v, xs, h2, ho, rfl⟩⟩
      · exact absurd h0 h1
      · rw [hE] at h2
        injection h2 with h2; subst h2; obtain ⟨A, cv, rfl, _, _⟩ := ho.el
        exact ⟨A, cv, by rw [h0], ho, hb⟩
 ·refine⟨0,0,0,0,0,[],0,rfl,by omega,?_⟩
  rintro w e w' ⟨hb,⟨_,rfl⟩|⟨h1,_⟩⟩
  ·exact⟨none,0,rfl,World.ownsRow_nil _ _ _ _,hb⟩
  ·exact absurd h1 h0
set_option maxRecDepth 100000 in
set_option maxHeartbeats 1000000 in
theorem eqDatabase_yes (a0 a1 a2 a3 a4:Int) (A1 A2:Option Addr) (n c1 c2:Nat) (xs:List E) (w:World) (h1:EL (fun _=>False) w A1 n xs) (h2:EL (fun _=>False) w A2 n xs) (hn:n≤2000000):
  Calls Tryz.prog 64 #[.agg #[.int .i64 a0,.int .i64 a1,.int .i64 a2,.int .i64 a3,.int .i64 a4,.slice A1 n c1],.agg #[.int .i64 a0,.int .i64 a1,.int .i64 a2,.int .i64 a3,.int .i64 a4,.slice A2 n c2]] w fun e w'=>e = .returned (.bool true)∧Below w.heap.size w w':=by
 have HF0:Hid (FrS (fun _=>False) w ((w.alloc (.cells #[.int .i64 a0,.int .i64 a1,.int .i64 a2,.int .i64 a3,.int .i64 a4,.slice A1 n c1] 85)).alloc (.cells #[.int .i64 a0,.int .i64 a1,.int .i64 a2,.int .i64 a3,.int .i64 a4,.slice A2 n c2] 85)) [[.int .i64 a0,.int .i64 a1,.int .i64 a2,.int .i64 a3,.int .i64 a4,.slice A1 n c1],[.int .i64 a0,.int .i64 a1,.int .i64 a2,.int .i64 a3,.int .i64 a4,.slice A2 n c2]]):=((FrS.start w (fun _ h=>h.elim)).allocT (by simp) _ _).allocT (by simp) _ _
 have EV:=Lib.hid fun (W:World)=>eqVariant_yes a0 a1 a2 a3 W
 have ES:=Lib.hid fun (W:World) (hf:Frm (fun _=>False) w W)=>eqExactS_yes A1 A2 n c1 c2 xs W (h1.frm hf) (h2.frm hf) hn
 clear h1 h2 hn
 go_enter Tryz.func64,Tryz.ntmps64
 go_wp2_with (fail)
 generalize (w.alloc (.cells #[.int .i64 a0,.int .i64 a1,.int .i64 a2,.int .i64 a3,.int .i64 a4,.slice A1 n c1] 85)).alloc (.cells #[.int .i64 a0,.int .i64 a1,.int .i64 a2,.int .i64 a3,.int .i64 a4,.slice A2 n c2] 85)=W0 at *
 refine (EV.out _).mono ?_
 rintro e w1 ⟨rfl,hb⟩
 have HF1:=Lib.hid (HF0.out.below hb);clear hb HF0
 have z0:=HF1.out.l0 (by simp)
 have c00:=HF1.out.c0 0 rfl;have f00:=HF1.out.f0 0 rfl;have c01:=HF1.out.c0 1 rfl;have f01:=HF1.out.f0 1 rfl;have c02:=HF1.out.c0 2 rfl;have f02:=HF1.out.f0 2 rfl;have c03:=HF1.out.c0 3 rfl;have f03:=HF1.out.f0 3 rfl;have c04:=HF1.out.c0 4 rfl;have f04:=HF1.out.f0 4 rfl;have c05:=HF1.out.c0 5 rfl;have f05:=HF1.out.f0 5 rfl
 have z1:=HF1.out.l1 (by simp)
 have c10:=HF1.out.c1 0 rfl;have f10:=HF1.out.f1 0 rfl;have c11:=HF1.out.c1 1 rfl;have f11:=HF1.out.f1 1 rfl;have c12:=HF1.out.c1 2 rfl;have f12:=HF1.out.f1 2 rfl;have c13:=HF1.out.c1 3 rfl;have f13:=HF1.out.f1 3 rfl;have c14:=HF1.out.c1 4 rfl;have f14:=HF1.out.f1 4 rfl;have c15:=HF1.out.c1 5 rfl;have f15:=HF1.out.f1 5 rfl
 go_wp2_with (fail)
 clear z0 c00 f00 c01 f01 c02 f02 c03 f03 c04 f04 c05 f05 z1 c10 f10 c11 f11 c12 f12 c13 f13 c14 f14 c15 f15
 refine (ES.out _ HF1.out.f).mono ?_
 rintro e w2 ⟨rfl,hb⟩
 have HF2:=Lib.hid (HF1.out.below hb);clear hb HF1
 go_wp2_with (fail)
 go_ret
 exact⟨rfl,HF2.out.belowW⟩
set_option maxRecDepth 100000 in
set_option maxHeartbeats 1000000 in
theorem markDatabase_one (a0 a1 a2 a3 a4:Int) (A:Option Addr) (n c base:Nat) (xs:List E) (w:World) (hown:OwnE w base (.slice A n c) xs) (hn:n≤2000000):
  Calls Tryz.prog 65 #[.agg #[.int .i64 a0,.int .i64 a1,.int .i64 a2,.int .i64 a3,.int .i64 a4,.slice A n c],.int .i64 1] w fun e w'=>e = .returned (.int .i64 ((1+n*2:Nat):Int))∧OwnE w' base (.slice A n c) (seqE 1 n)∧Frm (fun j=>some j=(Value.slice A n c).ownBlock) w w':=by
 have HO0:=Lib.hid (hown.below ((Below.refl w.heap.size w).alloc (Nat.le_refl _) (.cells #[.int .i64 a0,.int .i64 a1,.int .i64 a2,.int .i64 a3,.int .i64 a4,.slice A n c] 85)))
 have HF0:Hid (Frm (fun j=>some j=(Value.slice A n c).ownBlock) w (w.alloc (.cells #[.int .i64 a0,.int .i64 a1,.int .i64 a2,.int .i64 a3,.int .i64 a4,.slice A n c] 85))):=(Frm.refl _ _).alloc _
 have CM:=Lib.hid (markExactS_any A n c base xs 1 _ HO0.out hn (by omega))
 clear hown hn
 go_enter Tryz.func65,Tryz.ntmps65
 go_wp2_with (fail)
 refine CM.out.mono ?_
 rintro e w1 ⟨rfl,ho,hg⟩
 have HO1:=Lib.hid ho;have HF1:=Lib.hid (HF0.out.trans (Frm.of_grown hg));clear ho hg
 go_wp2_with (fail)
 go_ret
 exact⟨rfl,HO1.out,HF1.out⟩
set_option maxRecDepth 100000 in
set_option maxHeartbeats 1000000 in
theorem heldDatabase_one (a0 a1 a2 a3 a4:Int) (A:Option Addr) (n c:Nat) (w:World) (hx:EL (fun _=>False) w A n (seqE 1 n)) (hn:n≤2500):
  Calls Tryz.prog 66 #[.agg #[.int .i64 a0,.int .i64 a1,.int .i64 a2,.int .i64 a3,.int .i64 a4,.slice A n c],.int .i64 1] w fun e w'=>e = .returned (.int .i64 ((1+n*2:Nat):Int))∧Below w.heap.size w w':=by
 have hfa:Frm (fun _=>False) w (w.alloc (.cells #[.int .i64 a0,.int .i64 a1,.int .i64 a2,.int .i64 a3,.int .i64 a4,.slice A n c] 85)):=(Frm.refl _ _).alloc _
 have CM:=Lib.hid (heldExactS_yes A n c 1 _ (hx.frm hfa) (by omega) (by omega))
 have HB:Hid (Below w.heap.size w (w.alloc (.cells #[.int .i64 a0,.int .i64 a1,.int .i64 a2,.int .i64 a3,.int .i64 a4,.slice A n c] 85))):=(Below.refl _ _).alloc (Nat.le_refl _) _
 have b1:decide (((1+n*2:Nat):Int)<0)=false:=decide_eq_false (by omega)
 obtain⟨z,hz⟩:∃z:Int,z=((1+n*2:Nat):Int):=⟨_,rfl⟩;rw[← hz]at CM b1 ⊢;clear hx hfa hz
 go_enter Tryz.func66,Tryz.ntmps66
 go_wp2_with (fail)
 refine CM.out.mono ?_
 rintro e w1 ⟨rfl,rfl⟩
 go_wp2_with (fail)
 go_ret
 exact⟨rfl,HB.out⟩
set_option maxRecDepth 100000 in
set_option maxHeartbeats 4000000 in
theorem buildDatabase_law (p c h s k:Int) (w:World):
  Calls Tryz.prog 12 #[.agg #[.int .i64 p,.int .i64 c,.int .i64 h,.int .i64 s],.int .i64 k] w fun e w'=>e = .returned (.bool true)∧Below w.heap.size w w':=by
 obtain⟨a0,a1,a2,a3,a4,X,n,hX,hn,hU⟩:=db_uni p c h s k
 have CS:Hid (∀W:World,Calls Tryz.prog 62 #[.agg #[.int .i64 p,.int .i64 c,.int .i64 h,.int .i64 s],.int .i64 k] W fun e w'=>∃A cv,e = .returned (.tuple #[.agg #[.int .i64 a0,.int .i64 a1,.int .i64 a2,.int .i64 a3,.int .i64 a4,.slice A n cv],.int .i64 (dbC p c h s k)])∧OwnE w' W.heap.size (.slice A n cv) X∧Below W.heap.size W w'):=fun W=>(sBuildDatabase_any p c h s k W).mono fun e w' hr=>hU _ _ _ hr
 have CI:Hid (∀W:World,Calls Tryz.prog 63 #[.agg #[.int .i64 p,.int .i64 c,.int .i64 h,.int .i64 s],.int .i64 k] W fun e w'=>∃A cv,e = .returned (.tuple #[.agg #[.int .i64 a0,.int .i64 a1,.int .i64 a2,.int .i64 a3,.int .i64 a4,.slice A n cv],.int .i64 (dbC p c h s k)])∧OwnE w' W.heap.size (.slice A n cv) X∧Below W.heap.size W w'):=fun W=>(BuildDatabase_any p c h s k W).mono fun e w' hr=>hU _ _ _ hr
 have CT:=Lib.hid fun W=>toVariant_any p c h s W
 have HX:=Lib.hid hX
 have CEQ:=Lib.hid fun (A1 A2:Option Addr) (c1 c2:Nat) (W:World) (h1:EL (fun _=>False) W A1 n X) (h2:EL (fun _=>False) W A2 n X)=>eqDatabase_yes a0 a1 a2 a3 a4 A1 A2 n c1 c2 X W h1 h2 (by omega)
 have CMK:=Lib.hid fun (A:Option Addr) (cv base:Nat) (W:World) (ho:OwnE W base (.slice A n cv) X)=>markDatabase_one a0 a1 a2 a3 a4 A n cv base X W ho (by omega)
 have CHE:=Lib.hid fun (A:Option Addr) (cv:Nat) (W:World) (ho:EL (fun _=>False) W A n (seqE 1 n))=>heldDatabase_one a0 a1 a2 a3 a4 A n cv W ho (by omega)
 have HV0:Hid (Cel (w.alloc (.cells #[.int .i64 p,.int .i64 c,.int .i64 h,.int .i64 s] 75)) w.heap.size [.int .i64 p,.int .i64 c,.int .i64 h,.int .i64 s]):=Cel.new w #[.int .i64 p,.int .i64 c,.int .i64 h,.int .i64 s] _;have HB0:Hid (Below w.heap.size w (w.alloc (.cells #[.int .i64 p,.int .i64 c,.int .i64 h,.int .i64 s] 75))):=(Below.refl _ _).alloc (Nat.le_refl _) _
 have hmz:decide (((1+n*2:Nat):Int)<0)=false:=decide_eq_false (by omega)
 obtain⟨z,hz⟩:∃z:Int,z=((1+n*2:Nat):Int):=⟨_,rfl⟩;rw[← hz]at CMK CHE hmz;clear hX hU hz;generalize dbC p c h s k=cd at *
 go_enter Tryz.func12,Tryz.ntmps12
 go_wp2_with (fail)
 generalize w.alloc (.cells #[.int .i64 p,.int .i64 c,.int .i64 h,.int .i64 s] 75)=W0 at *
 refine (CT.out _).mono ?_
 rintro e w1 ⟨rfl,hb⟩
 have HV1:=Lib.hid (HV0.out.below hb);have HB1:=Lib.hid (HB0.out.trans (hb.mono HB0.out.size));clear hb HV0 HB0
 go_wp2_with (fail)
 refine (CS.out _).mono ?_
 rintro e w2 ⟨A5,c5,rfl,ho5,hb⟩
 have HV2:=Lib.hid (HV1.out.below hb);have HB2:=Lib.hid (HB1.out.trans (hb.mono HB1.out.size));have HO2:=Lib.hid ho5;clear hb ho5 HV1 HB1;obtain⟨W3,hW3⟩:∃W3,W3=w2.alloc (.cells #[.int .i64 a0,.int .i64 a1,.int .i64 a2,.int .i64 a3,.int .i64 a4,.slice A5 n c5] 85):=⟨_,rfl⟩
 have HC5:Hid (Cel W3 w2.heap.size [.int .i64 a0,.int .i64 a1,.int .i64 a2,.int .i64 a3,.int .i64 a4,.slice A5 n c5]):=by rw[hW3];exact Cel.new w2 #[.int .i64 a0,.int .i64 a1,.int .i64 a2,.int .i64 a3,.int .i64 a4,.slice A5 n c5] _
 have hb3:Below w2.heap.size w2 W3:=by rw[hW3];exact (Below.refl _ _).alloc (Nat.le_refl _) _
 have HV:=Lib.hid (HV2.out.below hb3);have HB3:=Lib.hid (HB2.out.trans (hb3.mono HB2.out.size));have HO3:=Lib.hid (HO2.out.below hb3)
 have hl5:∀j,(Value.slice A5 n c5).ownBlock=some j→j<w2.heap.size:=fun j hj=>(World.ownsRow.lt HO2.out j hj).2
 have HL5:=Lib.hid hl5;have HB1w:Hid (w.heap.size<w2.heap.size):=HV2.out.lt;clear hl5 hb3 HV2 HB2 HO2;subst hW3;have c0:=HV.out.cell 0 _ rfl;have c1:=HV.out.cell 1 _ rfl;have c2:=HV.out.cell 2 _ rfl;have c3:=HV.out.cell 3 _ rfl;have cz:=HV.out.lt
 go_wp2_with (fail)
 generalize w2.alloc (.cells #[.int .i64 a0,.int .i64 a1,.int .i64 a2,.int .i64 a3,.int .i64 a4,.slice A5 n c5] 85)=W3 at *;clear c0 c1 c2 c3 cz
 refine (CT.out _).mono ?_
 rintro e w4 ⟨rfl,hb⟩
 have hz34:W3.heap.size≤w4.heap.size:=hb.size;have HV4:=Lib.hid (HV.out.below hb);have HB4:=Lib.hid (HB3.out.trans (hb.mono HB3.out.size));have HC54:=Lib.hid (HC5.out.below hb);have HO4:=Lib.hid (HO3.out.below hb);have h53:=HC5.out.lt;clear hb HV HB3 HC5 HO3
 go_wp2_with (fail)
 refine (CI.out _).mono ?_
 rintro e w5 ⟨A7,c7,rfl,ho7,hb⟩
 have hz45:w4.heap.size≤w5.heap.size:=hb.size;have HV5:=Lib.hid (HV4.out.below hb);have HB5:=Lib.hid (HB4.out.trans (hb.mono HB4.out.size));have HC55:=Lib.hid (HC54.out.below hb);have HO5:=Lib.hid (HO4.out.below hb);have HO75:=Lib.hid ho7
 have HL7:Hid (∀j,some j=(Value.slice A7 n c7).ownBlock→w4.heap.size≤j∧j<w5.heap.size):=fun j hj=>World.ownsRow.lt ho7 j hj.symm
 clear hb ho7 HV4 HB4 HC54 HO4;obtain⟨W6,hW6⟩:∃W6,W6=w5.alloc (.cells #[.int .i64 a0,.int .i64 a1,.int .i64 a2,.int .i64 a3,.int .i64 a4,.slice A7 n c7] 85):=⟨_,rfl⟩
 have HC7:Hid (Cel W6 w5.heap.size [.int .i64 a0,.int .i64 a1,.int .i64 a2,.int .i64 a3,.int .i64 a4,.slice A7 n c7]):=by rw[hW6];exact Cel.new w5 #[.int .i64 a0,.int .i64 a1,.int .i64 a2,.int .i64 a3,.int .i64 a4,.slice A7 n c7] _
 have hb6:Below w5.heap.size w5 W6:=by rw[hW6];exact (Below.refl _ _).alloc (Nat.le_refl _) _
 have HV6:=Lib.hid (HV5.out.below hb6);have HB6:=Lib.hid (HB5.out.trans (hb6.mono HB5.out.size));have HC56:=Lib.hid (HC55.out.below hb6);have HO6:=Lib.hid (HO5.out.below hb6);have HO76:=Lib.hid (HO75.out.below hb6);clear hb6 HV5 HB5 HC55 HO5 HO75
 go_upto_region 3 with (fail)
 rw[← hW6];clear hW6;have q0:=HC56.out.cell 0 _ rfl;have q1:=HC56.out.cell 1 _ rfl;have q2:=HC56.out.cell 2 _ rfl;have q3:=HC56.out.cell 3 _ rfl;have q4:=HC56.out.cell 4 _ rfl;have q5:=HC56.out.cell 5 _ rfl;have qz:=HC56.out.lt;have r0:=HC7.out.cell 0 _ rfl;have r1:=HC7.out.cell 1 _ rfl;have r2:=HC7.out.cell 2 _ rfl;have r3:=HC7.out.cell 3 _ rfl;have r4:=HC7.out.cell 4 _ rfl;have r5:=HC7.out.cell 5 _ rfl;have rz:=HC7.out.lt
 go_wp2_with (fail)
 have hel7:=HO76.out.elv.1;have hel5:=HO6.out.elv.1
 refine (CEQ.out A7 A5 c7 c5 _ hel7 hel5).mono ?_
 rintro e w7 ⟨rfl,hb⟩
 have HV7:=Lib.hid (HV6.out.below hb);have HB7:=Lib.hid (HB6.out.trans (hb.mono HB6.out.size));have HC57:=Lib.hid (HC56.out.below hb);have HC77:=Lib.hid (HC7.out.below hb);have HO7:=Lib.hid (HO6.out.below hb);have HO77:=Lib.hid (HO76.out.below hb);clear hb hel7 hel5 HV6 HB6 HC56 HO6 HO76 HC7 q0 q1 q2 q3 q4 q5 qz r0 r1 r2 r3 r4 r5 rz;have r0:=HC77.out.cell 0 _ rfl;have r1:=HC77.out.cell 1 _ rfl;have r2:=HC77.out.cell 2 _ rfl;have r3:=HC77.out.cell 3 _ rfl;have r4:=HC77.out.cell 4 _ rfl;have r5:=HC77.out.cell 5 _ rfl;have rz:=HC77.out.lt
 go_wp2_with (fail)
 clear r0 r1 r2 r3 r4 r5 rz
 refine (CMK.out A7 c7 _ _ HO77.out).mono ?_
 rintro e w8 ⟨rfl,ho8,hf8⟩
 have hsep:∀j,some j=(Value.slice A7 n c7).ownBlock→w2.heap.size<j∧j<w5.heap.size:=fun j hj=>by have:=HL7.out j hj;omega
 have hwz:=HB7.out.size
 have HV8:=Lib.hid (HV7.out.frm hf8 (fun h=>by have:=hsep _ h;have:=HB1w.out;omega))
 have HB8:=Lib.hid (HB7.out.trans (hf8.below HB7.out.size (fun j hj=>by have:=hsep j hj;have:=HB1w.out;omega)))
 have HC58:=Lib.hid (HC57.out.frm hf8 (fun h=>by have:=hsep _ h;omega))
 have HC78:=Lib.hid (HC77.out.frm hf8 (fun h=>by have:=hsep _ h;omega))
 have HO8:=Lib.hid (hf8.rowE HO7.out (fun j hj h=>by have:=hsep j h;have:=HL5.out j hj;omega))
 have HO78:=Lib.hid ho8;clear hsep hwz ho8 hf8 HV7 HB7 HC57 HC77 HO7 HO77;have r0:=HC78.out.cell 0 _ rfl;have r1:=HC78.out.cell 1 _ rfl;have r2:=HC78.out.cell 2 _ rfl;have r3:=HC78.out.cell 3 _ rfl;have r4:=HC78.out.cell 4 _ rfl;have r5:=HC78.out.cell 5 _ rfl;have rz:=HC78.out.lt
 go_wp2_with (fail)
 clear r0 r1 r2 r3 r4 r5 rz;have hel7:=HO78.out.elv.1
 refine (CHE.out A7 c7 _ hel7).mono ?_
 rintro e w9 ⟨rfl,hb⟩
 have HV9:=Lib.hid (HV8.out.below hb);have HB9:=Lib.hid (HB8.out.trans (hb.mono HB8.out.size));have HC59:=Lib.hid (HC58.out.below hb);have HC79:=Lib.hid (HC78.out.below hb);have HO9:=Lib.hid (HO8.out.below hb);have HO79:=Lib.hid (HO78.out.below hb);clear hb hel7 HV8 HB8 HC58 HC78 HO8 HO78;have c0:=HV9.out.cell 0 _ rfl;have c1:=HV9.out.cell 1 _ rfl;have c2:=HV9.out.cell 2 _ rfl;have c3:=HV9.out.cell 3 _ rfl;have cz:=HV9.out.lt
 go_wp2_with (fail)
 clear c0 c1 c2 c3 cz
 refine (CT.out _).mono ?_
 rintro e w10 ⟨rfl,hb⟩
 have HBA:=Lib.hid (HB9.out.trans (hb.mono HB9.out.size));have HC5A:=Lib.hid (HC59.out.below hb);have HC7A:=Lib.hid (HC79.out.below hb);have HOA:=Lib.hid (HO9.out.below hb);have HO7A:=Lib.hid (HO79.out.below hb);clear hb HV9 HB9 HC59 HC79 HO9 HO79
 go_wp2_with (fail)
 refine (CI.out _).mono ?_
 rintro e w11 ⟨A9,c9,rfl,ho9,hb⟩
 have HBB:=Lib.hid (HBA.out.trans (hb.mono HBA.out.size));have HC5B:=Lib.hid (HC5A.out.below hb);have HC7B:=Lib.hid (HC7A.out.below hb);have HOB:=Lib.hid (HOA.out.below hb);have HO7B:=Lib.hid (HO7A.out.below hb);have HO9B:=Lib.hid ho9;clear hb ho9 HBA HC5A HC7A HOA HO7A;obtain⟨W12,hW12⟩:∃W12,W12=w11.alloc (.cells #[.int .i64 a0,.int .i64 a1,.int .i64 a2,.int .i64 a3,.int .i64 a4,.slice A9 n c9] 85):=⟨_,rfl⟩
 have HC9:Hid (Cel W12 w11.heap.size [.int .i64 a0,.int .i64 a1,.int .i64 a2,.int .i64 a3,.int .i64 a4,.slice A9 n c9]):=by rw[hW12];exact Cel.new w11 #[.int .i64 a0,.int .i64 a1,.int .i64 a2,.int .i64 a3,.int .i64 a4,.slice A9 n c9] _
 have hb12:Below w11.heap.size w11 W12:=by rw[hW12];exact (Below.refl _ _).alloc (Nat.le_refl _) _
 have HBC:=Lib.hid (HBB.out.trans (hb12.mono HBB.out.size));have HC5C:=Lib.hid (HC5B.out.below hb12);have HC7C:=Lib.hid (HC7B.out.below hb12);have HOC:=Lib.hid (HOB.out.below hb12);have HO7C:=Lib.hid (HO7B.out.below hb12);have HO9C:=Lib.hid (HO9B.out.below hb12);clear hb12 HBB HC5B HC7B HOB HO7B HO9B
 go_upto_region 14 with (fail)
 rw[← hW12];clear hW12;have q0:=HC5C.out.cell 0 _ rfl;have q1:=HC5C.out.cell 1 _ rfl;have q2:=HC5C.out.cell 2 _ rfl;have q3:=HC5C.out.cell 3 _ rfl;have q4:=HC5C.out.cell 4 _ rfl;have q5:=HC5C.out.cell 5 _ rfl;have qz:=HC5C.out.lt;have r0:=HC9.out.cell 0 _ rfl;have r1:=HC9.out.cell 1 _ rfl;have r2:=HC9.out.cell 2 _ rfl;have r3:=HC9.out.cell 3 _ rfl;have r4:=HC9.out.cell 4 _ rfl;have r5:=HC9.out.cell 5 _ rfl;have rz:=HC9.out.lt
 go_wp2_with (fail)
 clear q0 q1 q2 q3 q4 q5 qz r0 r1 r2 r3 r4 r5 rz;have hel9:=HO9C.out.elv.1;have hel5:=HOC.out.elv.1
 refine (CEQ.out A9 A5 c9 c5 _ hel9 hel5).mono ?_
 rintro e w13 ⟨rfl,hb⟩
 have HBD:=Lib.hid (HBC.out.trans (hb.mono HBC.out.size));have HC7D:=Lib.hid (HC7C.out.below hb);have HO7D:=Lib.hid (HO7C.out.below hb);clear hb hel9 hel5 HBC HC5C HC7C HOC HO7C HO9C HC9;have r0:=HC7D.out.cell 0 _ rfl;have r1:=HC7D.out.cell 1 _ rfl;have r2:=HC7D.out.cell 2 _ rfl;have r3:=HC7D.out.cell 3 _ rfl;have r4:=HC7D.out.cell 4 _ rfl;have r5:=HC7D.out.cell 5 _ rfl;have rz:=HC7D.out.lt
 go_wp2_with (fail)
 clear r0 r1 r2 r3 r4 r5 rz;have hel7:=HO7D.out.elv.1
 refine (CHE.out A7 c7 _ hel7).mono ?_
 rintro e w14 ⟨rfl,hb⟩
 have HBE:=Lib.hid (HBD.out.trans (hb.mono HBD.out.size));clear hb hel7 HBD HC7D HO7D
 go_wp2_with (fail)
 go_ret
 exact⟨rfl,HBE.out⟩
end Go.Proofs.YtkaiilmgemaljaaGreat

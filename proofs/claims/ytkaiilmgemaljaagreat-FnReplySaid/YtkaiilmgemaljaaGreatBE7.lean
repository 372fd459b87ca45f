/- Part of one proof. There are no conditions. -/
import Derived.Test.YtkaiilmgemaljaaGreatBM21
import Derived.Test.YtkaiilmgemaljaaGreatBO0
set_option maxHeartbeats 0
set_option linter.unusedVariables false
set_option linter.unusedSimpArgs false
set_option maxRecDepth 100000
namespace Go.Proofs.YtkaiilmgemaljaaGreat
open Go.RowKit Mo Ps Ra Ex
theorem l17Both_any (p c h s m:Int) (b j:Bool) (A B:Option Addr) (n k ca cb:Nat) (own other:List Int) (v o:Int) (w:World) (hA:SL w A n own) (hB:SL w B k other):
  Calls Tryz.prog 111 #[.agg #[.int .i64 p,.int .i64 c,.int .i64 h,.int .i64 s],.agg #[.int .i64 m,.bool b,.bool j],.slice A n ca,.slice B k cb,.agg #[.int .i64 v,.int .i64 o]] w fun e w'=>e = .returned (.int .i64 (codeM p c h s m own other v o true))∧Below w.heap.size w w':=by
 have HB:Hid (Below w.heap.size w (((w.alloc (.cells #[.int .i64 p,.int .i64 c,.int .i64 h,.int .i64 s] 25)).alloc (.cells #[.int .i64 m,.bool b,.bool j] 53)).alloc (.cells #[.int .i64 v,.int .i64 o] 55))):=(((Below.refl _ _).alloc (Nat.le_refl _) _).alloc (by simp) _).alloc (by simp;omega) _
 have HX:=h_ (hA.below HB.out);have HY:=h_ (hB.below HB.out);have HAL:=h_ hA.1;have HBL:=h_ hB.1;have CK:=h_ (l17Code_any p c h s m b j A B n k ca cb own other v o _ HX.out HY.out);clear hA hB
 by_cases hcl:codeL p c h s m own other v o true=0
 ·obtain⟨hv,hr,hp1,hp2,hcu,_,hgi⟩:=zci hcl
  have hvv:=zak hv;have HP1:=h_ (zhe hp1);have HP2:=h_ (zhe hp2)
  have hn:n≤2000000:=by have:=HAL.out;have:=HP1.out.1;omega
  have hk:k≤2000000:=by have:=HBL.out;have:=HP2.out.1;omega
  have TOA:=h_ fun (W:World) (hx:SL W A n own)=>zcJ A n ca own W hx HP1.out.2.1 hn
  have TOB:=h_ fun (W:World) (hx:SL W B k other)=>zcJ B k cb other W hx HP2.out.2.1 hk
  have HRB:Hid (codeM p c h s m own other v o true=if (decide (own.sum=0)||decide (other.sum=0))=true then 5 else 0):=by
   unfold Hid codeM;rw[if_pos hcl];simp
  rw[hcl]at CK;clear hcl hv hr hp1 hp2 hcu hgi hvv HP1 HP2 hn hk HAL HBL
  rcases b1:decide (own.sum=0) with _|_
  all_goals
   rcases b2:decide (other.sum=0) with _|_
   all_goals
    have HR:=HRB;rw[b1,b2]at HR;rw[b1]at TOA;rw[b2]at TOB
    simp only[Bool.or_true,Bool.or_false,Bool.or_self,Bool.true_or,Bool.false_or,if_true,if_false,Bool.false_eq_true]at HR
    clear HRB b1 b2
    go_enter Tryz.func111,Tryz.ntmps111
    go_wp2_with (first
     | (go_at_call 105;(with_reducible refine (more_first CK.out).mono ?_);rintro e w' ⟨rfl,t,rfl⟩)
     | (go_at_call_of 106 A;(refine (TOA.out _ (HX.out.more _)).mono ?_);rintro e w' ⟨rfl,rfl⟩)
     | (go_at_call_of 106 B;(refine (TOB.out _ (HY.out.more _)).mono ?_);rintro e w' ⟨rfl,rfl⟩))
    go_ret
    exact⟨by rw[HR.out];rfl,by first|exact blw HB.out (Nat.le_refl _)|exact HB.out⟩
 ·have HR:Hid (codeM p c h s m own other v o true=codeL p c h s m own other v o true):=by unfold Hid codeM;rw[if_neg hcl]
  generalize codeM p c h s m own other v o true=kk2 at *;generalize codeL p c h s m own other v o true=kk at *
  have b0:(kk == 0)=false:=by simp[hcl]
  clear hcl
  go_enter Tryz.func111,Tryz.ntmps111
  go_wp2_with (go_at_call 105;(with_reducible refine (more_first CK.out).mono ?_);rintro e w' ⟨rfl,t,rfl⟩)
  go_ret
  exact⟨by rw[HR.out];rfl,by first|exact blw HB.out (Nat.le_refl _)|exact HB.out⟩
end Go.Proofs.YtkaiilmgemaljaaGreat
namespace Go.Proofs.YtkaiilmgemaljaaGreat
open Go.RowKit Mo Ps Ra Ex
def codeD (p c h s m:Int) (bv:Bool) (own other:List Int) (v o:Int):Int:=
 if codeM p c h s m own other v o true=0 then (if may ⟨m,bv⟩ (v,o)=true then 0 else 5) else codeM p c h s m own other v o true
noncomputable def dbR (p c h s m:Int) (bv:Bool) (own other:List Int) (v o:Int):Int×Int×Int:=
 if codeD p c h s m bv own other v o=0 then numR ((dbl s.toNat ⟨m,bv⟩ own other (v,o)).map fun y=>y.1) else (0,0,codeD p c h s m bv own other v o)
theorem zhw {p c h s m:Int} {bv:Bool} {own other:List Int} {v o:Int} (H:codeD p c h s m bv own other v o=0):codeM p c h s m own other v o true=0∧may ⟨m,bv⟩ (v,o)=true:=by
 unfold codeD at H
 by_cases h0:codeM p c h s m own other v o true=0
 ·rw[if_pos h0]at H
  by_cases h1:may ⟨m,bv⟩ (v,o)=true
  ·exact⟨h0,h1⟩
  ·rw[if_neg h1]at H;cases H
 ·rw[if_neg h0]at H;exact absurd H h0
theorem zcP (p c h s m:Int) (b j:Bool) (A B:Option Addr) (n k ca cb:Nat) (own other:List Int) (v o:Int) (w:World) (hA:SL w A n own) (hB:SL w B k other):
  Calls Tryz.prog 117 #[.agg #[.int .i64 p,.int .i64 c,.int .i64 h,.int .i64 s],.agg #[.int .i64 m,.bool b,.bool j],.slice A n ca,.slice B k cb,.agg #[.int .i64 v,.int .i64 o]] w fun e w'=>e = .returned (.int .i64 (codeD p c h s m b own other v o))∧Below w.heap.size w w':=by
 have HB:Hid (Below w.heap.size w (((w.alloc (.cells #[.int .i64 p,.int .i64 c,.int .i64 h,.int .i64 s] 25)).alloc (.cells #[.int .i64 m,.bool b,.bool j] 53)).alloc (.cells #[.int .i64 v,.int .i64 o] 55))):=(((Below.refl _ _).alloc (Nat.le_refl _) _).alloc (by simp) _).alloc (by simp;omega) _
 have CK:=h_ (zdD p c h s m b j A B n k ca cb own other v o true _ (hA.below HB.out) (hB.below HB.out));clear hA hB
 by_cases hcm:codeM p c h s m own other v o true=0
 ·obtain⟨hcl,_,_⟩:=zex hcm
  obtain⟨_,hr,_,_,hcu,_,_⟩:=zci hcl;obtain⟨K,hK,rfl⟩:=zbL hr;have hcv:=(zdQ hcu).v1 hK
  have MA0:=h_ fun (W:World)=>zan (two K) b j v o W (by have:=hcv.1;simp only at this;omega) (by have:=hcv.2.1;simp only at this;omega)
  have HRB:Hid (codeD p c h s (two K) b own other v o=if may ⟨two K,b⟩ (v,o)=true then 0 else 5):=by unfold Hid codeD;rw[if_pos hcm]
  rw[hcm]at CK;clear hcm hcl hr hcu hcv;generalize may ⟨two K,b⟩ (v,o)=my at *;generalize codeD p c h s (two K) b own other v o=kk at *;generalize two K=m at *
  cases my
  ·have HR:Hid (kk=5):=HRB.out
   clear HRB
   go_enter Tryz.func117,Tryz.ntmps117
   go_wp2_with (first
    | (go_at_call 102;(with_reducible refine (more_first CK.out).mono ?_);rintro e w' ⟨rfl,t,rfl⟩)
    | (go_at_call 120;(with_reducible refine (more_call (MA0.out _)).mono ?_);rintro e w' ⟨rfl,t2,rfl⟩))
   go_ret
   exact⟨by rw[HR.out];rfl,by first|exact blw HB.out (Nat.le_refl _)|exact HB.out⟩
  ·have HR:Hid (kk=0):=HRB.out
   clear HRB
   go_enter Tryz.func117,Tryz.ntmps117
   go_wp2_with (first
    | (go_at_call 102;(with_reducible refine (more_first CK.out).mono ?_);rintro e w' ⟨rfl,t,rfl⟩)
    | (go_at_call 120;(with_reducible refine (more_call (MA0.out _)).mono ?_);rintro e w' ⟨rfl,t2,rfl⟩))
   go_ret
   exact⟨by rw[HR.out];rfl,by first|exact blw HB.out (Nat.le_refl _)|exact HB.out⟩
 ·have HR:Hid (codeD p c h s m b own other v o=codeM p c h s m own other v o true):=by unfold Hid codeD;rw[if_neg hcm]
  generalize codeD p c h s m b own other v o=kk2 at *;generalize codeM p c h s m own other v o true=kk at *
  have b0:(kk == 0)=false:=by simp[hcm]
  clear hcm
  go_enter Tryz.func117,Tryz.ntmps117
  go_wp2_with (go_at_call 102;(with_reducible refine (more_first CK.out).mono ?_);rintro e w' ⟨rfl,t,rfl⟩)
  go_ret
  exact⟨by rw[HR.out];rfl,by first|exact blw HB.out (Nat.le_refl _)|exact HB.out⟩
theorem zeR (p c h s m:Int) (bv j:Bool) (A B:Option Addr) (n k ca cb:Nat) (own other:List Int) (v o:Int) (w:World) (hA:SL w A n own) (hB:SL w B k other) (hca:n≤ca) (hcb:k≤cb):
  Calls Tryz.prog 39 #[.agg #[.int .i64 p,.int .i64 c,.int .i64 h,.int .i64 s],.agg #[.int .i64 m,.bool bv,.bool j],.slice A n ca,.slice B k cb,.agg #[.int .i64 v,.int .i64 o]] w (RetN w (dbR p c h s m bv own other v o)):=by
 have HF0:Hid (Fr w ((((w.alloc (.cells #[.int .i64 p,.int .i64 c,.int .i64 h,.int .i64 s] 25)).alloc (.cells #[.int .i64 m,.bool bv,.bool j] 53)).alloc (.cells #[.int .i64 v,.int .i64 o] 55)).alloc (.cells #[.int .i64 0,.int .i64 0] 35)) [[.int .i64 p,.int .i64 c,.int .i64 h,.int .i64 s],[.int .i64 m,.bool bv,.bool j],[.int .i64 v,.int .i64 o],[.int .i64 0,.int .i64 0]]):=((((Fr.start w).allocT (by simp) _ _).allocT (by simp) _ _).allocT (by simp) _ _).allocT (by simp) _ _
 have HA0:=h_ (hA.below HF0.out.b);have HB0:=h_ (hB.below HF0.out.b);have HAL:=h_ hA.1;have HBL:=h_ hB.1;have CK:=h_ (zcP p c h s m bv j A B n k ca cb own other v o _ HA0.out HB0.out);clear hA hB
 by_cases hcd:codeD p c h s m bv own other v o=0
 ·obtain⟨hcm,hmay⟩:=zhw hcd
  obtain⟨hcl,hz1,hz2⟩:=zex hcm;rw[hcd]at CK;obtain⟨hv,hr,hp1,hp2,hcu,_,hgi⟩:=zci hcl;have hvv:=zak hv;obtain⟨K,hK,rfl⟩:=zbL hr
  obtain⟨c',rfl⟩:∃c':Nat,c=c':=⟨c.toNat,by omega⟩
  obtain⟨h',rfl⟩:∃h':Nat,h=h':=⟨h.toNat,by omega⟩
  obtain⟨s',rfl⟩:∃s':Nat,s=s':=⟨s.toNat,by omega⟩
  rw[zdq hK]at hgi;obtain⟨hN,_⟩:=zeu hgi;have HP1:=h_ (zba hp1);have HP2:=h_ (zba hp2);have hcb0:=zdQ hcu
  have hnh:h'=n:=by rw[← HAL.out];exact (HP1.out.1).symm
  have hmh:h'=k:=by rw[← HBL.out];exact (HP2.out.1).symm
  subst hnh;subst hmh
  have CNEW:=h_ fun (W:World)=>zcZ p c' h' s' K bv j W hv hN hK
  obtain⟨ov,hov⟩:∃ov,ov=(dbl s' ⟨two K,bv⟩ own other (v,o)).map fun y=>y.1:=⟨_,rfl⟩
  have HWR:Hid (dbR p c' h' s' (two K) bv own other v o=numR ov):=by
   unfold Hid dbR;rw[if_pos hcd,hov]
   simp only[Int.toNat_natCast]
  have HALL:Hid (∀(m:MT),m.t.c=c'→m.t.h=h'→m.t.s=s'→m.K=K→m.bv=bv→m.Ok→∀W:World,MonI m m.S W→SQ m.S W A h' own→SQ m.S W B h' other→Calls Tryz.prog 118 #[.pointer (some ⟨m.bm,0,none⟩),.slice A h' ca,.slice B h' cb,.agg #[.int .i64 v,.int .i64 o]] W (RetMo m m.S W ov)):=by
   intro m e1 e2 e3 e4 e5 hok W hI h1 h2
   subst e1 e2 e3 e4 e5;rw[hov]
   exact zfW m hok HP1.out HP2.out hz1 hcb0 hmay m.S A B ca cb W (fun k hk hs=>by have:=hI.ltS k hs;omega) hI h1 hca h2 hcb
  clear hcd hmay hcm hcl hv hr hp1 hp2 hcu hgi hvv hov HAL HBL;generalize dbR p c' h' s' (two K) bv own other v o=rr at *
  go_enter Tryz.func39,Tryz.ntmps39
  go_wp2_with (fail)
  refine CK.out.mono ?_
  rintro e w1 ⟨rfl,hb1⟩
  have HFX:=h_ (HF0.out.below hb1);have HAX:=h_ (HA0.out.below hb1);have HBX:=h_ (HB0.out.below hb1);clear CK hb1 HF0 HA0 HB0;obtain⟨z0,c00,f00,c01,f01,c02,f02,c03,f03,z1,c10,f10,c11,f11,c12,f12,z2,c20,f20,c21,f21,z3,c30,f30,c31,f31⟩:=HFX.out.xf9
  go_wp2_with (fail)
  clear z0 c00 f00 c01 f01 c02 f02 c03 f03 z1 c10 f10 c11 f11 c12 f12 z2 c20 f20 c21 f21 z3 c30 f30 c31 f31
  refine zdX 11 (fun i=>i == 9) (fun i=>if i=7 then 25 else if i<7 then i+26 else if i=10 then 13 else i+25) 2 6 (moG p c' h' s' K bv j A B ca cb v o ov) (by kernel_rfl) (by kernel_rfl) (fun _ _ _ _ _ h=>h) (by omega) (by omega) rfl (by kernel_rfl) moG_stab moG_conv ?_ ?_ ?_ ?_
  ·intro fl i op hi hX ho a' X hbX hfar hdep
   have hi8:i=9:=by simpa using hX
   subst hi8
   simp at ho
   subst ho
   obtain⟨_,_,d0⟩:=hdep 7 (by omega) (by kernel_rfl)
   replace d0:a'.tmps.getD 25 undef = .tuple #[exV ov,.bool ov.isSome]:=d0
   exact⟨.bool ov.isSome,fun W'=>by simp only[execOp,Act.eval,d0];go_simp,rfl⟩
  ·intro fl i op hi hX hne ho a' X hbX hfar hdep
   have e2:a'.tmps.getD 2 undef = .slice A h' ca:=(hfar 2 (by decide)).trans rfl
   have e3:a'.tmps.getD 3 undef = .slice B h' cb:=(hfar 3 (by decide)).trans rfl
   have e5:a'.tmps.getD 5 undef = .pointer (some ⟨w.heap.size,0,none⟩):=(hfar 5 (by decide)).trans rfl
   have e6:a'.tmps.getD 6 undef = .pointer (some ⟨w.heap.size+1,0,none⟩):=(hfar 6 (by decide)).trans rfl
   have e9:a'.tmps.getD 9 undef = .pointer (some ⟨w.heap.size+1+1,0,none⟩):=(hfar 9 (by decide)).trans rfl
   have HFh:=h_ (HFX.out.below hbX);obtain⟨z0,c00,f00,c01,f01,c02,f02,c03,f03,z1,c10,f10,c11,f11,c12,f12,z2,c20,f20,c21,f21,z3,c30,f30,c31,f31⟩:=HFh.out.xf9
   have hi9:i=0∨i=1∨i=2∨i=3∨i=4∨i=5∨i=7∨i=8∨i=10:=by simp at hX;omega
   clear hne hX
   rcases hi9 with rfl|rfl|rfl|rfl|rfl|rfl|rfl|rfl|rfl
   all_goals
    simp at ho
    subst ho
   ·exact .inl ⟨.agg #[.int .i64 p,.int .i64 c',.int .i64 h',.int .i64 s'],X,by simp only[execOp,Act.eval,e5];go_simp,Below.refl _ _,rfl⟩
   ·exact .inl ⟨.agg #[.int .i64 (two K),.bool bv,.bool j],X,by simp only[execOp,Act.eval,e6];go_simp,Below.refl _ _,rfl⟩
   ·obtain⟨_,_,d0⟩:=hdep 0 (by omega) (by kernel_rfl)
    obtain⟨_,_,d1⟩:=hdep 1 (by omega) (by kernel_rfl)
    replace d0:a'.tmps.getD 26 undef = .agg #[.int .i64 p,.int .i64 c',.int .i64 h',.int .i64 s']:=d0;replace d1:a'.tmps.getD 27 undef = .agg #[.int .i64 (two K),.bool bv,.bool j]:=d1
    refine .inr ⟨103,#[.agg #[.int .i64 p,.int .i64 c',.int .i64 h',.int .i64 s'],.agg #[.int .i64 (two K),.bool bv,.bool j]],by simp only[execOp,Act.eval,d0,d1];go_simp,?_⟩
    refine (CNEW.out X).mono ?_
    rintro e X' ⟨m,m1,m2,m3,m4,m5,m6,rfl,hok,hI,hlow,hb'⟩
    exact⟨_,rfl,hb',m,m1,m2,m3,m4,m5,m6,rfl,hok,fun _=>⟨hI,fun k hk=>⟨hlow k hk,hI.ltS k hk⟩⟩⟩
   ·exact .inl ⟨.slice A h' ca,X,by simp only[execOp,Act.eval,e2];go_simp,Below.refl _ _,rfl⟩
   ·exact .inl ⟨.slice B h' cb,X,by simp only[execOp,Act.eval,e3];go_simp,Below.refl _ _,rfl⟩
   ·exact .inl ⟨.agg #[.int .i64 v,.int .i64 o],X,by simp only[execOp,Act.eval,e9];go_simp,Below.refl _ _,rfl⟩
   ·obtain⟨_,_,d0⟩:=hdep 6 (by omega) (by kernel_rfl)
    replace d0:a'.tmps.getD 32 undef = .tuple #[exV ov,.bool ov.isSome]:=d0
    exact .inl ⟨.tuple #[exV ov,.bool ov.isSome],X,by simp only[execOp,Act.eval,d0];go_simp,Below.refl _ _,rfl⟩
   ·obtain⟨_,_,d0⟩:=hdep 7 (by omega) (by kernel_rfl)
    replace d0:a'.tmps.getD 25 undef = .tuple #[exV ov,.bool ov.isSome]:=d0
    exact .inl ⟨exV ov,X,by simp only[execOp,Act.eval,d0];go_simp,Below.refl _ _,rfl⟩
   ·refine .inl ⟨.pointer (some ⟨X.heap.size,0,none⟩),X.alloc (.cells #[.int .i64 0,.int .i64 0] 35),by kernel_rfl,(Below.refl _ _).alloc (Nat.le_refl _) _,rfl,by simp,⟨by simp[go_sem],by simp[go_sem]⟩,fun j hj=>?_⟩
    have:j=0∨j=1:=by omega
    rcases this with rfl|rfl<;>simp[go_sem]
  ·intro op ho a' X lo hi hbX hlo hhi hgd hfar hdep
   simp at ho
   subst ho;obtain⟨m,m1,m2,m3,m4,m5,m6,d2,hok,hI⟩:=hgd;replace d2:a'.tmps.getD 28 undef = .pointer (some ⟨m.bm,0,none⟩):=d2;obtain⟨hI,hrng⟩:=hI rfl
   obtain⟨_,_,d3⟩:=hdep 3 (by omega) (by kernel_rfl)
   obtain⟨_,_,d4⟩:=hdep 4 (by omega) (by kernel_rfl)
   obtain⟨_,_,d5⟩:=hdep 5 (by omega) (by kernel_rfl)
   replace d3:a'.tmps.getD 29 undef = .slice A h' ca:=d3;replace d4:a'.tmps.getD 30 undef = .slice B h' cb:=d4;replace d5:a'.tmps.getD 31 undef = .agg #[.int .i64 v,.int .i64 o]:=d5
   refine .inr ⟨118,#[.pointer (some ⟨m.bm,0,none⟩),.slice A h' ca,.slice B h' cb,.agg #[.int .i64 v,.int .i64 o]],by simp only[execOp,Act.eval,d2,d3,d4,d5];go_simp,?_⟩
   refine (HALL.out m m2 m3 m4 m5 m6 hok X hI ((SQ.of_sl HAX.out fun k hk=>Nat.le_trans hlo (hrng k hk).1).below hbX) ((SQ.of_sl HBX.out fun k hk=>Nat.le_trans hlo (hrng k hk).1).below hbX)).mono ?_
   rintro e X' ⟨rfl,_,hf'⟩
   exact⟨_,rfl,hf'.mono hrng,rfl⟩
  intro u X lo hh hbX hg hd
  have g0:u 0 = .agg #[.int .i64 p,.int .i64 c',.int .i64 h',.int .i64 s']:=(hg 0 (by omega)).1
  have g1:u 1 = .agg #[.int .i64 (two K),.bool bv,.bool j]:=(hg 1 (by omega)).1
  obtain⟨mm,_,_,_,_,_,_,g2,_,_⟩:moG p c' h' s' K bv j A B ca cb v o ov true 2 (u 2) (lo 2) (hh 2) X:=(hg 2 (by omega)).1
  have g3:u 3 = .slice A h' ca:=(hg 3 (by omega)).1
  have g4:u 4 = .slice B h' cb:=(hg 4 (by omega)).1
  have g5:u 5 = .agg #[.int .i64 v,.int .i64 o]:=(hg 5 (by omega)).1
  have g6:u 6 = .tuple #[exV ov,.bool ov.isSome]:=(hg 6 (by omega)).1
  have g7:u 7 = .tuple #[exV ov,.bool ov.isSome]:=(hg 7 (by omega)).1
  have g8:u 8=exV ov:=(hg 8 (by omega)).1
  have g9:u 9 = .bool ov.isSome:=(hg 9 (by omega)).1
  obtain⟨g10,l10,⟨k10,k11⟩,f10'⟩:moG p c' h' s' K bv j A B ca cb v o ov true 10 (u 10) (lo 10) (hh 10) X:=(hg 10 (by omega)).1
  have hlo:=(hg 10 (by omega)).2.1
  clear hg hd;obtain⟨b13,hb13⟩:∃b13,b13=lo 10:=⟨_,rfl⟩;rw[← hb13]at g10 l10 k10 k11 f10' hlo
  have fa0:=f10' 0 (by omega)
  have fa1:=f10' 1 (by omega)
  have kz:=World.block_lt_of_cell? X _ k10;have HF3:=h_ (HFX.out.below hbX)
  have hz4:w.heap.size+4≤b13:=by have:=HFX.out.z;simp at this;omega
  have n1:¬b13=w.heap.size+1+1+1:=by omega
  have n2:¬w.heap.size+1+1+1=b13:=by omega
  clear hbX HFX f10' hlo CNEW HALL HAX HBX l10
  simp only[List.drop_succ_cons,List.drop_zero,putV,g0,g1,g2,g3,g4,g5,g6,g7,g8,g9,g10,Act.put]
  clear g0 g1 g2 g3 g4 g5 g6 g7 g8 g9 g10 hb13
  rcases ov with _|⟨xn,xd⟩
  ·have HRR:Hid (rr=(0,0,3)):=HWR.out
   unfold exV
   simp only[Option.getD_none,Option.isSome_none]
   obtain⟨z0,c00,f00,c01,f01,c02,f02,c03,f03,z1,c10,f10,c11,f11,c12,f12,z2,c20,f20,c21,f21,z3,c30,f30,c31,f31⟩:=HF3.out.xf9
   go_wp2_with (fail)
   refine bodyPost_ret (v:=.tuple #[.agg #[.int .i64 0,.int .i64 0],.int .i64 3]) (by simp[results,Tryz.results39,go_sem,c30,c31,z3,f30,f31]) rfl (RetN.mk' HRR.out ?_)
   repeat (first|exact HF3.out.b|refine stw ?_ (by omega)|refine alw ?_ (by omega))
  ·have HRR:Hid (rr=(xn,(xd:Int),0)):=HWR.out
   unfold exV
   simp only[Option.getD_some,Option.isSome_some]
   obtain⟨z0,c00,f00,c01,f01,c02,f02,c03,f03,z1,c10,f10,c11,f11,c12,f12,z2,c20,f20,c21,f21,z3,c30,f30,c31,f31⟩:=HF3.out.xf9
   go_wp2_with (fail)
   refine bodyPost_ret (v:=.tuple #[.agg #[.int .i64 xn,.int .i64 (xd:Int)],.int .i64 0]) (by simp[results,Tryz.results39,go_sem,c30,c31,z3,f30,f31]) rfl (RetN.mk' HRR.out ?_)
   repeat (first|exact HF3.out.b|refine stw ?_ (by omega)|refine alw ?_ (by omega))
 ·have HWR:Hid (dbR p c h s m bv own other v o=(0,0,codeD p c h s m bv own other v o)):=by
   unfold Hid dbR;rw[if_neg hcd]
  generalize codeD p c h s m bv own other v o=kk at *
  have b0:(kk != 0)=true:=by simp[hcd]
  clear hcd
  go_enter Tryz.func39,Tryz.ntmps39
  go_wp2_with (fail)
  refine CK.out.mono ?_
  rintro e w1 ⟨rfl,hb1⟩
  have HF2:=h_ (HF0.out.below hb1);clear CK hb1 HF0 HA0 HB0;obtain⟨z0,c00,f00,c01,f01,c02,f02,c03,f03,z1,c10,f10,c11,f11,c12,f12,z2,c20,f20,c21,f21,z3,c30,f30,c31,f31⟩:=HF2.out.xf9
  go_wp2_with (fail)
  refine bodyPost_ret (v:=.tuple #[.agg #[.int .i64 0,.int .i64 0],.int .i64 kk]) (by simp[results,Tryz.results39,go_sem,c30,c31,z3,f30,f31]) rfl (RetN.mk' HWR.out ?_)
  repeat (first|exact HF2.out.b|refine stw ?_ (by omega)|refine alw ?_ (by omega))
end Go.Proofs.YtkaiilmgemaljaaGreat
namespace Go.Proofs.YtkaiilmgemaljaaGreat
open Go.RowKit Mo Ps Ra Ex
theorem two_1024' {K:Nat} (hK:K≤10):two K≤1024:=Int.le_trans (zbn hK) (by decide)
end Go.Proofs.YtkaiilmgemaljaaGreat

/- Part of one proof. There are no conditions. -/
import Derived.Test.YtkaiilmgemaljaaGreatRM14
import Derived.Test.YtkaiilmgemaljaaGreatRM22
import Derived.Test.YtkaiilmgemaljaaGreatRQO
set_option maxHeartbeats 0
set_option linter.unusedVariables false
set_option linter.unusedSimpArgs false
set_option maxRecDepth 100000
namespace Go.Proofs.YtkaiilmgemaljaaGreat
open Go.RowKit Mo Ps Ra Ex
def codeE (p c h s m:Int) (own other:List Int) (v o:Int):Int:=
 if codeL p c h s m own other v o true=0 then (if own.sum=0/\other.sum=0 then 5 else 0) else codeL p c h s m own other v o true
noncomputable def eqR (p c h s m:Int) (bv:Bool) (own other:List Int) (v o:Int):Int×Int×Int:=
 if codeE p c h s m own other v o=0 then numR (eqv s.toNat ⟨m,bv⟩ own other (v,o)) else (0,0,codeE p c h s m own other v o)
noncomputable def rlR (p c h s m:Int) (bv:Bool) (own other:List Int) (v o:Int):Int×Int×Int:=
 if codeM p c h s m own other v o true=0 then numR (rol s.toNat ⟨m,bv⟩ own other (v,o)) else (0,0,codeM p c h s m own other v o true)
theorem ja (p c h s m:Int) (own other:List Int) (v o:Int) (more:Bool):0<=codeL p c h s m own other v o more/\codeL p c h s m own other v o more<=3:=by
 unfold codeL
 split
 ·split
  ·split<;>omega
  ·omega
 ·omega
def moG (p:Int) (c h s K:Nat) (bv j:Bool) (A B:Option Addr) (ca cb:Nat) (v o:Int) (ov:Option E) (fl:Bool) (i:Nat) (u:Value) (lo hi:Nat) (W:World):Prop:=
 match i with
 | 0=>u = .agg #[.int .i64 p,.int .i64 c,.int .i64 h,.int .i64 s]
 | 1=>u = .agg #[.int .i64 (two K),.bool bv,.bool j]
 | 2=>∃m:MT,m.t.p=p/\m.t.c=c/\m.t.h=h/\m.t.s=s/\m.K=K/\m.bv=bv/\u = .pointer (some ⟨m.bm,0,none⟩)/\m.Ok/\(fl=false->MonI m m.S W/\∀k,m.S k->lo<=k/\k<hi)
 | 3=>u = .slice A h ca
 | 4=>u = .slice B h cb
 | 5=>u = .agg #[.int .i64 v,.int .i64 o]
 | 6=>u = .tuple #[exV ov,.bool ov.isSome]
 | 7=>u = .tuple #[exV ov,.bool ov.isSome]
 | 8=>u=exV ov
 | 9=>u = .bool ov.isSome
 | _=>u = .pointer (some ⟨lo,0,none⟩)/\lo<hi/\(W.cell? ⟨lo,0,none⟩=some (.int .i64 0)/\W.cell? ⟨lo,1,none⟩=some (.int .i64 0))/\∀j,j<2->W.frozen? ⟨lo,j,none⟩=false
theorem kr {w:World} {p:Int} {c h s K:Nat} {bv j:Bool} {A B:Option Addr} {ca cb:Nat} {v o:Int} {ov:Option E} (fl:Bool) (i:Nat) (u:Value) (lo hi:Nat) (W W':World) (_:w.heap.size<=lo) (_:hi<=W.heap.size) (hg:moG p c h s K bv j A B ca cb v o ov fl i u lo hi W) (hb:Below W.heap.size W W'):moG p c h s K bv j A B ca cb v o ov fl i u lo hi W':=by
 unfold moG at *
 split at hg<;>first
  | exact hg
  | (obtain ⟨m, h1, h2, h3, h4, h5, h6, h7, h8, h9⟩ := hg
     exact ⟨m, h1, h2, h3, h4, h5, h6, h7, h8, fun hf => ⟨(h9 hf).1.below hb, (h9 hf).2⟩⟩)
  | (obtain ⟨h1, h2, ⟨h3, h4⟩, h5⟩ := hg
     exact ⟨h1, h2, ⟨keep_cell h3 hb, keep_cell h4 hb⟩, fun j hj => (hb.frozen (p := ⟨lo, j, none⟩) (World.block_lt_of_cell? W ⟨lo, 0, none⟩ h3)).trans (h5 j hj)⟩)
theorem kt {w:World} {p:Int} {c h s K:Nat} {bv j:Bool} {A B:Option Addr} {ca cb:Nat} {v o:Int} {ov:Option E} (i:Nat) (u:Value) (lo hi:Nat) (W W':World) (_:w.heap.size<=lo) (_:hi<=W.heap.size) (hg:moG p c h s K bv j A B ca cb v o ov false i u lo hi W) (hf:i≠2->Frm (fun k=>w.heap.size<=k/\¬(lo<=k/\k<hi)) W W'):moG p c h s K bv j A B ca cb v o ov true i u lo hi W':=by
 unfold moG at *
 split at hg<;>first
  | exact hg
  | (obtain ⟨m, h1, h2, h3, h4, h5, h6, h7, h8, h9⟩ := hg
     exact ⟨m, h1, h2, h3, h4, h5, h6, h7, h8, fun hx => by cases hx⟩)
  | (obtain ⟨h1, h2, ⟨h3, h4⟩, h5⟩ := hg
     have hf' := hf (by assumption)
     have hn : ¬ (w.heap.size <= lo /\ ¬ (lo <= lo /\ lo < hi)) := fun hx => hx.2 ⟨Nat.le_refl _, h2⟩
     exact ⟨h1, h2, ⟨hf'.cell' h3 hn, hf'.cell' h4 hn⟩, fun j hj => (aV hf' (World.block_lt_of_cell? W ⟨lo, 0, none⟩ h3) hn).trans (h5 j hj)⟩)
theorem iG {xs:List Int} (hp:∀x∈xs,0<=x):0<=xs.sum:=by
 induction xs with
 | nil=>simp
 | cons a l ih=>rw[List.sum_cons];have:=hp a (by simp);have:=ih fun x hx=>hp x (by simp[hx]);omega
theorem gu {p c h s m:Int} {own other:List Int} {v o:Int} {more:Bool} (H:codeM p c h s m own other v o more=0):codeL p c h s m own other v o more=0/\own.sum≠0/\other.sum≠0:=by
 unfold codeM at H
 by_cases h0:codeL p c h s m own other v o more=0
 ·rw[if_pos h0]at H
  by_cases h1:own.sum=0\/other.sum=0
  ·rw[if_pos h1]at H;cases H
  ·exact⟨h0,fun h=>h1 (.inl h),fun h=>h1 (.inr h)⟩
 ·rw[if_neg h0]at H;exact absurd H h0
theorem eK (p c h s m:Int) (bv j:Bool) (A B:Option Addr) (n k ca cb:Nat) (own other:List Int) (v o:Int) (w:World) (hA:SL w A n own) (hB:SL w B k other) (hca:n<=ca) (hcb:k<=cb):
  Calls Tryz.prog 30 #[.agg #[.int .i64 p,.int .i64 c,.int .i64 h,.int .i64 s],.agg #[.int .i64 m,.bool bv,.bool j],.slice A n ca,.slice B k cb,.agg #[.int .i64 v,.int .i64 o]] w (RetN w (eqR p c h s m bv own other v o)):=by
 have HF0:Hid (Fr w ((((w.alloc (.cells #[.int .i64 p,.int .i64 c,.int .i64 h,.int .i64 s] 25)).alloc (.cells #[.int .i64 m,.bool bv,.bool j] 53)).alloc (.cells #[.int .i64 v,.int .i64 o] 55)).alloc (.cells #[.int .i64 0,.int .i64 0] 35)) [[.int .i64 p,.int .i64 c,.int .i64 h,.int .i64 s],[.int .i64 m,.bool bv,.bool j],[.int .i64 v,.int .i64 o],[.int .i64 0,.int .i64 0]]):=((((Fr.start w).allocT (by simp) _ _).allocT (by simp) _ _).allocT (by simp) _ _).allocT (by simp) _ _
 have HA0:=h_ (hA.below HF0.out.b);have HB0:=h_ (hB.below HF0.out.b);have HAL:=h_ hA.1;have HBL:=h_ hB.1;have CK:=h_ (dy p c h s m bv j A B n k ca cb own other v o true _ HA0.out HB0.out);clear hA hB
 by_cases hcl:codeL p c h s m own other v o true=0
 focus
  obtain⟨hv,hr,hp1,hp2,hcu,_,hgi⟩:=dq hcl;have hvv:=aj hv;obtain⟨K,hK,rfl⟩:=dh hr
  obtain⟨c',rfl⟩:∃c':Nat,c=c':=⟨c.toNat,by omega⟩
  obtain⟨h',rfl⟩:∃h':Nat,h=h':=⟨h.toNat,by omega⟩
  obtain⟨s',rfl⟩:∃s':Nat,s=s':=⟨s.toNat,by omega⟩
  rw[d7 hK]at hgi;obtain⟨hN,_⟩:=eV hgi;have HP1:=h_ (bA hp1);have HP2:=h_ (bA hp2);have hcb0:=gN hcu
  have hnh:h'=n:=by rw[<- HAL.out];exact (HP1.out.1).symm
  have hmh:h'=k:=by rw[<- HBL.out];exact (HP2.out.1).symm
  subst hnh;subst hmh
  have CNEW:=h_ fun (W:World)=>hY p c' h' s' K bv j W hv hN hK
  have HCM:Hid (codeM p c' h' s' (two K) own other v o true=if own.sum=0\/other.sum=0 then 5 else 0):=by unfold Hid codeM;rw[if_pos hcl]
  have HWC:Hid (eqR p c' h' s' (two K) bv own other v o=if own.sum=0/\other.sum=0 then (0,0,5) else numR (eqv s' ⟨two K,bv⟩ own other (v,o))):=by
   unfold Hid eqR codeE;rw[if_pos hcl]
   simp only[Int.toNat_natCast]
   split<;>rfl
  obtain⟨ov,hov⟩:∃ov,ov=eqv s' ⟨two K,bv⟩ own other (v,o):=⟨_,rfl⟩;rw[<- hov]at HWC
  have HALL:Hid (∀(m:MT),m.t.c=c'->m.t.h=h'->m.t.s=s'->m.K=K->m.bv=bv->m.Ok->∀W:World,MonI m m.S W->SQ m.S W A h' own->SQ m.S W B h' other->Calls Tryz.prog 104 #[.pointer (some ⟨m.bm,0,none⟩),.slice A h' ca,.slice B h' cb,.agg #[.int .i64 v,.int .i64 o]] W (RetMo m m.S W ov)):=by
   intro m e1 e2 e3 e4 e5 hok W hI h1 h2
   subst e1 e2 e3 e4 e5;rw[hov]
   exact jP m hok HP1.out HP2.out hcb0 m.S A B ca cb W (fun k hk hs=>by have:=hI.ltS k hs;omega) hI h1 hca h2 hcb
  have TOA:=h_ fun (W:World) (hx:SL W A h' own)=>cP A h' ca own W hx HP1.out.2.1 (by have:=HP1.out.2.2;omega) (by omega)
  have TOB:=h_ fun (W:World) (hx:SL W B h' other)=>cP B h' cb other W hx HP2.out.2.1 (by have:=HP2.out.2.2;omega) (by omega)
  have hs1:0<=own.sum:=iG HP1.out.2.1;have hs2:0<=other.sum:=iG HP2.out.2.1
  have hs3:own.sum<=15:=by have:=HP1.out.2.2;omega
  have hs4:other.sum<=15:=by have:=HP2.out.2.2;omega
  have hws:IntKind.i64.wrap (own.sum+other.sum)=own.sum+other.sum:=IntWalk.i64_in _ (by omega)
  clear hcl hv hr hp1 hp2 hcu hgi hvv hov HAL HBL;generalize eqR p c' h' s' (two K) bv own other v o=rr at *;generalize own.sum=x1 at *;generalize other.sum=x2 at *
  by_cases hz:x1=0\/x2=0
  focus
   rw[if_pos hz]at HCM
   rw[HCM.out]at CK
   by_cases hz2:x1+x2 > 0
   focus
    have HWR:Hid (rr=numR ov):=by unfold Hid;rw[HWC.out,if_neg (by omega)]
    have b1:decide (0<x1+x2)=true:=decide_eq_true hz2;clear HWC HCM hz
    refine ?zd
   rotate_left
   focus
    have HWR:Hid (rr=(0,0,5)):=by unfold Hid;rw[HWC.out,if_pos (by omega)]
    have b1:decide (0<x1+x2)=false:=decide_eq_false hz2;clear HWC HCM hz HALL CNEW
    refine ?zf
  rotate_left 2
  focus
   rw[if_neg hz]at HCM
   rw[HCM.out]at CK
   have HWR:Hid (rr=numR ov):=by unfold Hid;rw[HWC.out,if_neg fun h=>hz (.inl h.1)]
   clear HWC HCM hz
   refine ?zc
 rotate_left 3
 focus
  have HCM:codeM p c h s m own other v o true=codeL p c h s m own other v o true:=by unfold codeM;rw[if_neg hcl]
  have HWR:Hid (eqR p c h s m bv own other v o=(0,0,codeL p c h s m own other v o true)):=by
   unfold Hid eqR codeE;rw[if_neg hcl,if_neg hcl]
  have hsm:=ja p c h s m own other v o true;rw[HCM]at CK;clear HCM;generalize codeL p c h s m own other v o true=kk at *
  have b0:(kk != 0)=true:=by simp[hcl]
  have b5:(kk == 5)=false:=by simp;omega
  clear hcl hsm
  refine ?ze
 rotate_left
 case' ze|zf|zc|zd=>
  go_enter Tryz.func30,Tryz.ntmps30
  go_wp2_with (fail)
  refine CK.out.mono ?_
  rintro e w1 ⟨rfl,hb1⟩
 case' zc|zd=>
  have HFX:=h_ (HF0.out.below hb1);have HAX:=h_ (HA0.out.below hb1);have HBX:=h_ (HB0.out.below hb1);clear CK hb1 HF0 HA0 HB0;obtain⟨z0,c00,f00,c01,f01,c02,f02,c03,f03,z1,c10,f10,c11,f11,c12,f12,z2,c20,f20,c21,f21,z3,c30,f30,c31,f31⟩:=HFX.out.xf7
 case' zc=>
  go_wp2_with (fail)
  clear z0 c00 f00 c01 f01 c02 f02 c03 f03 z1 c10 f10 c11 f11 c12 f12 z2 c20 f20 c21 f21 z3 c30 f30 c31 f31
 case' zd=>
  go_wp2_with (first|(go_at_call_of 74 A;refine (TOA.out _ HAX.out).mono ?_;rintro e w' ⟨rfl,rfl⟩)|(go_at_call_of 74 B;refine (TOB.out _ HBX.out).mono ?_;rintro e w' ⟨rfl,rfl⟩))
  clear z0 c00 f00 c01 f01 c02 f02 c03 f03 z1 c10 f10 c11 f11 c12 f12 z2 c20 f20 c21 f21 z3 c30 f30 c31 f31
 case zc|zd=>
  refine dQ 11 (fun i=>i == 9) (fun i=>if i=7 then 35 else if i<7 then i+36 else if i=10 then 13 else i+35) 2 6 (moG p c' h' s' K bv j A B ca cb v o ov) (by kernel_rfl) (by kernel_rfl) (fun _ _ _ _ _ h=>h) (by omega) (by omega) rfl (by kernel_rfl) kr kt ?_ ?_ ?_ ?_
  ·intro fl i op hi hX ho a' X hbX hfar hdep
   have hi8:i=9:=by simpa using hX
   subst hi8
   simp at ho
   subst ho
   obtain⟨_,_,d0⟩:=hdep 7 (by omega) (by kernel_rfl)
   replace d0:a'.tmps.getD 35 undef = .tuple #[exV ov,.bool ov.isSome]:=d0
   exact⟨.bool ov.isSome,fun W'=>by simp only[execOp,Act.eval,d0];go_simp,rfl⟩
  ·intro fl i op hi hX hne ho a' X hbX hfar hdep
   have e2:a'.tmps.getD 2 undef = .slice A h' ca:=(hfar 2 (by decide)).trans rfl
   have e3:a'.tmps.getD 3 undef = .slice B h' cb:=(hfar 3 (by decide)).trans rfl
   have e5:a'.tmps.getD 5 undef = .pointer (some ⟨w.heap.size,0,none⟩):=(hfar 5 (by decide)).trans rfl
   have e6:a'.tmps.getD 6 undef = .pointer (some ⟨w.heap.size+1,0,none⟩):=(hfar 6 (by decide)).trans rfl
   have e9:a'.tmps.getD 9 undef = .pointer (some ⟨w.heap.size+1+1,0,none⟩):=(hfar 9 (by decide)).trans rfl
   have HFh:=h_ (HFX.out.below hbX);obtain⟨z0,c00,f00,c01,f01,c02,f02,c03,f03,z1,c10,f10,c11,f11,c12,f12,z2,c20,f20,c21,f21,z3,c30,f30,c31,f31⟩:=HFh.out.xf7
   have hi9:i=0\/i=1\/i=2\/i=3\/i=4\/i=5\/i=7\/i=8\/i=10:=by simp at hX;omega
   clear hne hX
   rcases hi9 with rfl|rfl|rfl|rfl|rfl|rfl|rfl|rfl|rfl
   all_goals
    simp at ho
    subst ho
   ·exact .inl ⟨.agg #[.int .i64 p,.int .i64 c',.int .i64 h',.int .i64 s'],X,by simp only[execOp,Act.eval,e5];go_simp,Below.refl _ _,rfl⟩
   ·exact .inl ⟨.agg #[.int .i64 (two K),.bool bv,.bool j],X,by simp only[execOp,Act.eval,e6];go_simp,Below.refl _ _,rfl⟩
   ·obtain⟨_,_,d0⟩:=hdep 0 (by omega) (by kernel_rfl)
    obtain⟨_,_,d1⟩:=hdep 1 (by omega) (by kernel_rfl)
    replace d0:a'.tmps.getD 36 undef = .agg #[.int .i64 p,.int .i64 c',.int .i64 h',.int .i64 s']:=d0;replace d1:a'.tmps.getD 37 undef = .agg #[.int .i64 (two K),.bool bv,.bool j]:=d1
    refine .inr ⟨103,#[.agg #[.int .i64 p,.int .i64 c',.int .i64 h',.int .i64 s'],.agg #[.int .i64 (two K),.bool bv,.bool j]],by simp only[execOp,Act.eval,d0,d1];go_simp,?_⟩
    refine (CNEW.out X).mono ?_
    rintro e X' ⟨m,m1,m2,m3,m4,m5,m6,rfl,hok,hI,hlow,hb'⟩
    exact⟨_,rfl,hb',m,m1,m2,m3,m4,m5,m6,rfl,hok,fun _=>⟨hI,fun k hk=>⟨hlow k hk,hI.ltS k hk⟩⟩⟩
   ·exact .inl ⟨.slice A h' ca,X,by simp only[execOp,Act.eval,e2];go_simp,Below.refl _ _,rfl⟩
   ·exact .inl ⟨.slice B h' cb,X,by simp only[execOp,Act.eval,e3];go_simp,Below.refl _ _,rfl⟩
   ·exact .inl ⟨.agg #[.int .i64 v,.int .i64 o],X,by simp only[execOp,Act.eval,e9];go_simp,Below.refl _ _,rfl⟩
   ·obtain⟨_,_,d0⟩:=hdep 6 (by omega) (by kernel_rfl)
    replace d0:a'.tmps.getD 42 undef = .tuple #[exV ov,.bool ov.isSome]:=d0
    exact .inl ⟨.tuple #[exV ov,.bool ov.isSome],X,by simp only[execOp,Act.eval,d0];go_simp,Below.refl _ _,rfl⟩
   ·obtain⟨_,_,d0⟩:=hdep 7 (by omega) (by kernel_rfl)
    replace d0:a'.tmps.getD 35 undef = .tuple #[exV ov,.bool ov.isSome]:=d0
    exact .inl ⟨exV ov,X,by simp only[execOp,Act.eval,d0];go_simp,Below.refl _ _,rfl⟩
   ·refine .inl ⟨.pointer (some ⟨X.heap.size,0,none⟩),X.alloc (.cells #[.int .i64 0,.int .i64 0] 35),by kernel_rfl,(Below.refl _ _).alloc (Nat.le_refl _) _,rfl,by simp,⟨by simp[go_sem],by simp[go_sem]⟩,fun j hj=>?_⟩
    have:j=0\/j=1:=by omega
    rcases this with rfl|rfl<;>simp[go_sem]
  ·intro op ho a' X lo hi hbX hlo hhi hgd hfar hdep
   simp at ho
   subst ho;obtain⟨m,m1,m2,m3,m4,m5,m6,d2,hok,hI⟩:=hgd;replace d2:a'.tmps.getD 38 undef = .pointer (some ⟨m.bm,0,none⟩):=d2;obtain⟨hI,hrng⟩:=hI rfl
   obtain⟨_,_,d3⟩:=hdep 3 (by omega) (by kernel_rfl)
   obtain⟨_,_,d4⟩:=hdep 4 (by omega) (by kernel_rfl)
   obtain⟨_,_,d5⟩:=hdep 5 (by omega) (by kernel_rfl)
   replace d3:a'.tmps.getD 39 undef = .slice A h' ca:=d3;replace d4:a'.tmps.getD 40 undef = .slice B h' cb:=d4;replace d5:a'.tmps.getD 41 undef = .agg #[.int .i64 v,.int .i64 o]:=d5
   refine .inr ⟨104,#[.pointer (some ⟨m.bm,0,none⟩),.slice A h' ca,.slice B h' cb,.agg #[.int .i64 v,.int .i64 o]],by simp only[execOp,Act.eval,d2,d3,d4,d5];go_simp,?_⟩
   refine (HALL.out m m2 m3 m4 m5 m6 hok X hI ((SQ.of_sl HAX.out fun k hk=>Nat.le_trans hlo (hrng k hk).1).below hbX) ((SQ.of_sl HBX.out fun k hk=>Nat.le_trans hlo (hrng k hk).1).below hbX)).mono ?_
   rintro e X' ⟨rfl,_,hf'⟩
   exact⟨_,rfl,hf'.mono hrng,rfl⟩
  intro u X lo hh hbX hg hd
  have g0:u 0 = .agg #[.int .i64 p,.int .i64 c',.int .i64 h',.int .i64 s']:=(hg 0 (by omega)).1
  have g1:u 1 = .agg #[.int .i64 (two K),.bool bv,.bool j]:=(hg 1 (by omega)).1
  obtain⟨mm,_,_,_,_,_,_,g2,_,_⟩:moG p c' h' s' K bv j A B ca cb v o ov true 2 (u 2) (lo 2) (hh 2) X:=(hg 2 (by omega)).1
  have g3:u 3 = .slice A h' ca:=(hg 3 (by omega)).1
  have g4:u 4 = .slice B h' cb:=(hg 4 (by omega)).1
  have g5:u 5 = .agg #[.int .i64 v,.int .i64 o]:=(hg 5 (by omega)).1
  have g6:u 6 = .tuple #[exV ov,.bool ov.isSome]:=(hg 6 (by omega)).1
  have g7:u 7 = .tuple #[exV ov,.bool ov.isSome]:=(hg 7 (by omega)).1
  have g8:u 8=exV ov:=(hg 8 (by omega)).1
  have g9:u 9 = .bool ov.isSome:=(hg 9 (by omega)).1
  obtain⟨g10,l10,⟨k10,k11⟩,f10'⟩:moG p c' h' s' K bv j A B ca cb v o ov true 10 (u 10) (lo 10) (hh 10) X:=(hg 10 (by omega)).1
  have hlo:=(hg 10 (by omega)).2.1
  clear hg hd;obtain⟨b13,hb13⟩:∃b13,b13=lo 10:=⟨_,rfl⟩;rw[<- hb13]at g10 l10 k10 k11 f10' hlo
  have fa0:=f10' 0 (by omega)
  have fa1:=f10' 1 (by omega)
  have kz:=World.block_lt_of_cell? X _ k10;have HF3:=h_ (HFX.out.below hbX)
  have hz4:w.heap.size+4<=b13:=by have:=HFX.out.z;simp at this;omega
  have n1:¬b13=w.heap.size+1+1+1:=by omega
  have n2:¬w.heap.size+1+1+1=b13:=by omega
  clear hbX HFX f10' hlo CNEW HALL HAX HBX l10
  simp only[List.drop_succ_cons,List.drop_zero,putV,g0,g1,g2,g3,g4,g5,g6,g7,g8,g9,g10,Act.put]
  clear g0 g1 g2 g3 g4 g5 g6 g7 g8 g9 g10 hb13
  rcases ov with _|⟨xn,xd⟩
  ·have HRR:Hid (rr=(0,0,3)):=HWR.out
   unfold exV
   simp only[Option.getD_none,Option.isSome_none]
   obtain⟨z0,c00,f00,c01,f01,c02,f02,c03,f03,z1,c10,f10,c11,f11,c12,f12,z2,c20,f20,c21,f21,z3,c30,f30,c31,f31⟩:=HF3.out.xf7
   go_wp2_with (fail)
   refine bodyPost_ret (v:=.tuple #[.agg #[.int .i64 0,.int .i64 0],.int .i64 3]) (by simp[results,Tryz.results30,go_sem,c30,c31,z3,f30,f31]) rfl (RetN.mk' HRR.out ?_)
   repeat (first|exact HF3.out.b|refine stw ?_ (by omega)|refine alw ?_ (by omega))
  ·have HRR:Hid (rr=(xn,(xd:Int),0)):=HWR.out
   unfold exV
   simp only[Option.getD_some,Option.isSome_some]
   obtain⟨z0,c00,f00,c01,f01,c02,f02,c03,f03,z1,c10,f10,c11,f11,c12,f12,z2,c20,f20,c21,f21,z3,c30,f30,c31,f31⟩:=HF3.out.xf7
   go_wp2_with (fail)
   refine bodyPost_ret (v:=.tuple #[.agg #[.int .i64 xn,.int .i64 (xd:Int)],.int .i64 0]) (by simp[results,Tryz.results30,go_sem,c30,c31,z3,f30,f31]) rfl (RetN.mk' HRR.out ?_)
   repeat (first|exact HF3.out.b|refine stw ?_ (by omega)|refine alw ?_ (by omega))
 case' ze=>
  have HF2:=h_ (HF0.out.below hb1);clear CK hb1 HF0 HA0 HB0;obtain⟨z0,c00,f00,c01,f01,c02,f02,c03,f03,z1,c10,f10,c11,f11,c12,f12,z2,c20,f20,c21,f21,z3,c30,f30,c31,f31⟩:=HF2.out.xf7
  go_wp2_with (fail)
  refine bodyPost_ret (v:=.tuple #[.agg #[.int .i64 0,.int .i64 0],.int .i64 kk]) (by simp[results,Tryz.results30,go_sem,c30,c31,z3,f30,f31]) rfl (RetN.mk' HWR.out ?_)
 case' zf=>
  have HF2:=h_ (HF0.out.below hb1);have HAX:=h_ (HA0.out.below hb1);have HBX:=h_ (HB0.out.below hb1);clear CK hb1 HF0 HA0 HB0;obtain⟨z0,c00,f00,c01,f01,c02,f02,c03,f03,z1,c10,f10,c11,f11,c12,f12,z2,c20,f20,c21,f21,z3,c30,f30,c31,f31⟩:=HF2.out.xf7
  go_wp2_with (first|(go_at_call_of 74 A;refine (TOA.out _ HAX.out).mono ?_;rintro e w' ⟨rfl,rfl⟩)|(go_at_call_of 74 B;refine (TOB.out _ HBX.out).mono ?_;rintro e w' ⟨rfl,rfl⟩))
  refine bodyPost_ret (v:=.tuple #[.agg #[.int .i64 0,.int .i64 0],.int .i64 5]) (by simp[results,Tryz.results30,go_sem,c30,c31,z3,f30,f31]) rfl (RetN.mk' HWR.out ?_)
 case ze|zf=>
  repeat (first|exact HF2.out.b|refine stw ?_ (by omega)|refine alw ?_ (by omega))
theorem jt (p c h s m:Int) (bv j:Bool) (A B:Option Addr) (n k ca cb:Nat) (own other:List Int) (v o:Int) (w:World) (hA:SL w A n own) (hB:SL w B k other) (hca:n<=ca) (hcb:k<=cb):
  Calls Tryz.prog 34 #[.agg #[.int .i64 p,.int .i64 c,.int .i64 h,.int .i64 s],.agg #[.int .i64 m,.bool bv,.bool j],.slice A n ca,.slice B k cb,.agg #[.int .i64 v,.int .i64 o]] w (RetN w (rlR p c h s m bv own other v o)):=by
 have HF0:Hid (Fr w ((((w.alloc (.cells #[.int .i64 p,.int .i64 c,.int .i64 h,.int .i64 s] 25)).alloc (.cells #[.int .i64 m,.bool bv,.bool j] 53)).alloc (.cells #[.int .i64 v,.int .i64 o] 55)).alloc (.cells #[.int .i64 0,.int .i64 0] 35)) [[.int .i64 p,.int .i64 c,.int .i64 h,.int .i64 s],[.int .i64 m,.bool bv,.bool j],[.int .i64 v,.int .i64 o],[.int .i64 0,.int .i64 0]]):=((((Fr.start w).allocT (by simp) _ _).allocT (by simp) _ _).allocT (by simp) _ _).allocT (by simp) _ _
 have HA0:=h_ (hA.below HF0.out.b);have HB0:=h_ (hB.below HF0.out.b);have HAL:=h_ hA.1;have HBL:=h_ hB.1;have CK:=h_ (dy p c h s m bv j A B n k ca cb own other v o true _ HA0.out HB0.out);clear hA hB
 by_cases hcm:codeM p c h s m own other v o true=0
 ·obtain⟨hcl,hz1,hz2⟩:=gu hcm
  rw[hcm]at CK;obtain⟨hv,hr,hp1,hp2,hcu,_,hgi⟩:=dq hcl;have hvv:=aj hv;obtain⟨K,hK,rfl⟩:=dh hr
  obtain⟨c',rfl⟩:∃c':Nat,c=c':=⟨c.toNat,by omega⟩
  obtain⟨h',rfl⟩:∃h':Nat,h=h':=⟨h.toNat,by omega⟩
  obtain⟨s',rfl⟩:∃s':Nat,s=s':=⟨s.toNat,by omega⟩
  rw[d7 hK]at hgi;obtain⟨hN,_⟩:=eV hgi;have HP1:=h_ (bA hp1);have HP2:=h_ (bA hp2);have hcb0:=gN hcu
  have hnh:h'=n:=by rw[<- HAL.out];exact (HP1.out.1).symm
  have hmh:h'=k:=by rw[<- HBL.out];exact (HP2.out.1).symm
  subst hnh;subst hmh
  have CNEW:=h_ fun (W:World)=>hY p c' h' s' K bv j W hv hN hK
  obtain⟨ov,hov⟩:∃ov,ov=rol s' ⟨two K,bv⟩ own other (v,o):=⟨_,rfl⟩
  have HWR:Hid (rlR p c' h' s' (two K) bv own other v o=numR ov):=by
   unfold Hid rlR;rw[if_pos hcm,hov]
   simp only[Int.toNat_natCast]
  have HALL:Hid (∀(m:MT),m.t.c=c'->m.t.h=h'->m.t.s=s'->m.K=K->m.bv=bv->m.Ok->∀W:World,MonI m m.S W->SQ m.S W A h' own->SQ m.S W B h' other->Calls Tryz.prog 110 #[.pointer (some ⟨m.bm,0,none⟩),.slice A h' ca,.slice B h' cb,.agg #[.int .i64 v,.int .i64 o]] W (RetMo m m.S W ov)):=by
   intro m e1 e2 e3 e4 e5 hok W hI h1 h2
   subst e1 e2 e3 e4 e5;rw[hov]
   exact mroll_all m hok HP1.out HP2.out hz1 hcb0 m.S A B ca cb W (fun k hk hs=>by have:=hI.ltS k hs;omega) hI h1 hca h2 hcb
  clear hcm hcl hv hr hp1 hp2 hcu hgi hvv hov HAL HBL;generalize rlR p c' h' s' (two K) bv own other v o=rr at *
  go_enter Tryz.func34,Tryz.ntmps34
  go_wp2_with (fail)
  refine CK.out.mono ?_
  rintro e w1 ⟨rfl,hb1⟩
  have HFX:=h_ (HF0.out.below hb1);have HAX:=h_ (HA0.out.below hb1);have HBX:=h_ (HB0.out.below hb1);clear CK hb1 HF0 HA0 HB0;obtain⟨z0,c00,f00,c01,f01,c02,f02,c03,f03,z1,c10,f10,c11,f11,c12,f12,z2,c20,f20,c21,f21,z3,c30,f30,c31,f31⟩:=HFX.out.xf7
  go_wp2_with (fail)
  clear z0 c00 f00 c01 f01 c02 f02 c03 f03 z1 c10 f10 c11 f11 c12 f12 z2 c20 f20 c21 f21 z3 c30 f30 c31 f31
  refine dQ 11 (fun i=>i == 9) (fun i=>if i=7 then 25 else if i<7 then i+26 else if i=10 then 13 else i+25) 2 6 (moG p c' h' s' K bv j A B ca cb v o ov) (by kernel_rfl) (by kernel_rfl) (fun _ _ _ _ _ h=>h) (by omega) (by omega) rfl (by kernel_rfl) kr kt ?_ ?_ ?_ ?_
  ·intro fl i op hi hX ho a' X hbX hfar hdep
   have hi8:i=9:=by simpa using hX
   subst hi8
   simp at ho
   subst ho
   obtain⟨_,_,d0⟩:=hdep 7 (by omega) (by kernel_rfl)
   replace d0:a'.tmps.getD 25 undef = .tuple #[exV ov,.bool ov.isSome]:=d0
   exact⟨.bool ov.isSome,fun W'=>by simp only[execOp,Act.eval,d0];go_simp,rfl⟩
  ·intro fl i op hi hX hne ho a' X hbX hfar hdep
   have e2:a'.tmps.getD 2 undef = .slice A h' ca:=(hfar 2 (by decide)).trans rfl
   have e3:a'.tmps.getD 3 undef = .slice B h' cb:=(hfar 3 (by decide)).trans rfl
   have e5:a'.tmps.getD 5 undef = .pointer (some ⟨w.heap.size,0,none⟩):=(hfar 5 (by decide)).trans rfl
   have e6:a'.tmps.getD 6 undef = .pointer (some ⟨w.heap.size+1,0,none⟩):=(hfar 6 (by decide)).trans rfl
   have e9:a'.tmps.getD 9 undef = .pointer (some ⟨w.heap.size+1+1,0,none⟩):=(hfar 9 (by decide)).trans rfl
   have HFh:=h_ (HFX.out.below hbX);obtain⟨z0,c00,f00,c01,f01,c02,f02,c03,f03,z1,c10,f10,c11,f11,c12,f12,z2,c20,f20,c21,f21,z3,c30,f30,c31,f31⟩:=HFh.out.xf7
   have hi9:i=0\/i=1\/i=2\/i=3\/i=4\/i=5\/i=7\/i=8\/i=10:=by simp at hX;omega
   clear hne hX
   rcases hi9 with rfl|rfl|rfl|rfl|rfl|rfl|rfl|rfl|rfl
   all_goals
    simp at ho
    subst ho
   ·exact .inl ⟨.agg #[.int .i64 p,.int .i64 c',.int .i64 h',.int .i64 s'],X,by simp only[execOp,Act.eval,e5];go_simp,Below.refl _ _,rfl⟩
   ·exact .inl ⟨.agg #[.int .i64 (two K),.bool bv,.bool j],X,by simp only[execOp,Act.eval,e6];go_simp,Below.refl _ _,rfl⟩
   ·obtain⟨_,_,d0⟩:=hdep 0 (by omega) (by kernel_rfl)
    obtain⟨_,_,d1⟩:=hdep 1 (by omega) (by kernel_rfl)
    replace d0:a'.tmps.getD 26 undef = .agg #[.int .i64 p,.int .i64 c',.int .i64 h',.int .i64 s']:=d0;replace d1:a'.tmps.getD 27 undef = .agg #[.int .i64 (two K),.bool bv,.bool j]:=d1
    refine .inr ⟨103,#[.agg #[.int .i64 p,.int .i64 c',.int .i64 h',.int .i64 s'],.agg #[.int .i64 (two K),.bool bv,.bool j]],by simp only[execOp,Act.eval,d0,d1];go_simp,?_⟩
    refine (CNEW.out X).mono ?_
    rintro e X' ⟨m,m1,m2,m3,m4,m5,m6,rfl,hok,hI,hlow,hb'⟩
    exact⟨_,rfl,hb',m,m1,m2,m3,m4,m5,m6,rfl,hok,fun _=>⟨hI,fun k hk=>⟨hlow k hk,hI.ltS k hk⟩⟩⟩
   ·exact .inl ⟨.slice A h' ca,X,by simp only[execOp,Act.eval,e2];go_simp,Below.refl _ _,rfl⟩
   ·exact .inl ⟨.slice B h' cb,X,by simp only[execOp,Act.eval,e3];go_simp,Below.refl _ _,rfl⟩
   ·exact .inl ⟨.agg #[.int .i64 v,.int .i64 o],X,by simp only[execOp,Act.eval,e9];go_simp,Below.refl _ _,rfl⟩
   ·obtain⟨_,_,d0⟩:=hdep 6 (by omega) (by kernel_rfl)
    replace d0:a'.tmps.getD 32 undef = .tuple #[exV ov,.bool ov.isSome]:=d0
    exact .inl ⟨.tuple #[exV ov,.bool ov.isSome],X,by simp only[execOp,Act.eval,d0];go_simp,Below.refl _ _,rfl⟩
   ·obtain⟨_,_,d0⟩:=hdep 7 (by omega) (by kernel_rfl)
    replace d0:a'.tmps.getD 25 undef = .tuple #[exV ov,.bool ov.isSome]:=d0
    exact .inl ⟨exV ov,X,by simp only[execOp,Act.eval,d0];go_simp,Below.refl _ _,rfl⟩
   ·refine .inl ⟨.pointer (some ⟨X.heap.size,0,none⟩),X.alloc (.cells #[.int .i64 0,.int .i64 0] 35),by kernel_rfl,(Below.refl _ _).alloc (Nat.le_refl _) _,rfl,by simp,⟨by simp[go_sem],by simp[go_sem]⟩,fun j hj=>?_⟩
    have:j=0\/j=1:=by omega
    rcases this with rfl|rfl<;>simp[go_sem]
  ·intro op ho a' X lo hi hbX hlo hhi hgd hfar hdep
   simp at ho
   subst ho;obtain⟨m,m1,m2,m3,m4,m5,m6,d2,hok,hI⟩:=hgd;replace d2:a'.tmps.getD 28 undef = .pointer (some ⟨m.bm,0,none⟩):=d2;obtain⟨hI,hrng⟩:=hI rfl
   obtain⟨_,_,d3⟩:=hdep 3 (by omega) (by kernel_rfl)
   obtain⟨_,_,d4⟩:=hdep 4 (by omega) (by kernel_rfl)
   obtain⟨_,_,d5⟩:=hdep 5 (by omega) (by kernel_rfl)
   replace d3:a'.tmps.getD 29 undef = .slice A h' ca:=d3;replace d4:a'.tmps.getD 30 undef = .slice B h' cb:=d4;replace d5:a'.tmps.getD 31 undef = .agg #[.int .i64 v,.int .i64 o]:=d5
   refine .inr ⟨110,#[.pointer (some ⟨m.bm,0,none⟩),.slice A h' ca,.slice B h' cb,.agg #[.int .i64 v,.int .i64 o]],by simp only[execOp,Act.eval,d2,d3,d4,d5];go_simp,?_⟩
   refine (HALL.out m m2 m3 m4 m5 m6 hok X hI ((SQ.of_sl HAX.out fun k hk=>Nat.le_trans hlo (hrng k hk).1).below hbX) ((SQ.of_sl HBX.out fun k hk=>Nat.le_trans hlo (hrng k hk).1).below hbX)).mono ?_
   rintro e X' ⟨rfl,_,hf'⟩
   exact⟨_,rfl,hf'.mono hrng,rfl⟩
  intro u X lo hh hbX hg hd
  have g0:u 0 = .agg #[.int .i64 p,.int .i64 c',.int .i64 h',.int .i64 s']:=(hg 0 (by omega)).1
  have g1:u 1 = .agg #[.int .i64 (two K),.bool bv,.bool j]:=(hg 1 (by omega)).1
  obtain⟨mm,_,_,_,_,_,_,g2,_,_⟩:moG p c' h' s' K bv j A B ca cb v o ov true 2 (u 2) (lo 2) (hh 2) X:=(hg 2 (by omega)).1
  have g3:u 3 = .slice A h' ca:=(hg 3 (by omega)).1
  have g4:u 4 = .slice B h' cb:=(hg 4 (by omega)).1
  have g5:u 5 = .agg #[.int .i64 v,.int .i64 o]:=(hg 5 (by omega)).1
  have g6:u 6 = .tuple #[exV ov,.bool ov.isSome]:=(hg 6 (by omega)).1
  have g7:u 7 = .tuple #[exV ov,.bool ov.isSome]:=(hg 7 (by omega)).1
  have g8:u 8=exV ov:=(hg 8 (by omega)).1
  have g9:u 9 = .bool ov.isSome:=(hg 9 (by omega)).1
  obtain⟨g10,l10,⟨k10,k11⟩,f10'⟩:moG p c' h' s' K bv j A B ca cb v o ov true 10 (u 10) (lo 10) (hh 10) X:=(hg 10 (by omega)).1
  have hlo:=(hg 10 (by omega)).2.1
  clear hg hd;obtain⟨b13,hb13⟩:∃b13,b13=lo 10:=⟨_,rfl⟩;rw[<- hb13]at g10 l10 k10 k11 f10' hlo
  have fa0:=f10' 0 (by omega)
  have fa1:=f10' 1 (by omega)
  have kz:=World.block_lt_of_cell? X _ k10;have HF3:=h_ (HFX.out.below hbX)
  have hz4:w.heap.size+4<=b13:=by have:=HFX.out.z;simp at this;omega
  have n1:¬b13=w.heap.size+1+1+1:=by omega
  have n2:¬w.heap.size+1+1+1=b13:=by omega
  clear hbX HFX f10' hlo CNEW HALL HAX HBX l10
  simp only[List.drop_succ_cons,List.drop_zero,putV,g0,g1,g2,g3,g4,g5,g6,g7,g8,g9,g10,Act.put]
  clear g0 g1 g2 g3 g4 g5 g6 g7 g8 g9 g10 hb13
  rcases ov with _|⟨xn,xd⟩
  ·have HRR:Hid (rr=(0,0,3)):=HWR.out
   unfold exV
   simp only[Option.getD_none,Option.isSome_none]
   obtain⟨z0,c00,f00,c01,f01,c02,f02,c03,f03,z1,c10,f10,c11,f11,c12,f12,z2,c20,f20,c21,f21,z3,c30,f30,c31,f31⟩:=HF3.out.xf7
   go_wp2_with (fail)
   refine bodyPost_ret (v:=.tuple #[.agg #[.int .i64 0,.int .i64 0],.int .i64 3]) (by simp[results,Tryz.results34,go_sem,c30,c31,z3,f30,f31]) rfl (RetN.mk' HRR.out ?_)
   repeat (first|exact HF3.out.b|refine stw ?_ (by omega)|refine alw ?_ (by omega))
  ·have HRR:Hid (rr=(xn,(xd:Int),0)):=HWR.out
   unfold exV
   simp only[Option.getD_some,Option.isSome_some]
   obtain⟨z0,c00,f00,c01,f01,c02,f02,c03,f03,z1,c10,f10,c11,f11,c12,f12,z2,c20,f20,c21,f21,z3,c30,f30,c31,f31⟩:=HF3.out.xf7
   go_wp2_with (fail)
   refine bodyPost_ret (v:=.tuple #[.agg #[.int .i64 xn,.int .i64 (xd:Int)],.int .i64 0]) (by simp[results,Tryz.results34,go_sem,c30,c31,z3,f30,f31]) rfl (RetN.mk' HRR.out ?_)
   repeat (first|exact HF3.out.b|refine stw ?_ (by omega)|refine alw ?_ (by omega))
 ·have HWR:Hid (rlR p c h s m bv own other v o=(0,0,codeM p c h s m own other v o true)):=by
   unfold Hid rlR;rw[if_neg hcm]
  generalize codeM p c h s m own other v o true=kk at *
  have b0:(kk != 0)=true:=by simp[hcm]
  clear hcm
  go_enter Tryz.func34,Tryz.ntmps34
  go_wp2_with (fail)
  refine CK.out.mono ?_
  rintro e w1 ⟨rfl,hb1⟩
  have HF2:=h_ (HF0.out.below hb1);clear CK hb1 HF0 HA0 HB0;obtain⟨z0,c00,f00,c01,f01,c02,f02,c03,f03,z1,c10,f10,c11,f11,c12,f12,z2,c20,f20,c21,f21,z3,c30,f30,c31,f31⟩:=HF2.out.xf7
  go_wp2_with (fail)
  refine bodyPost_ret (v:=.tuple #[.agg #[.int .i64 0,.int .i64 0],.int .i64 kk]) (by simp[results,Tryz.results34,go_sem,c30,c31,z3,f30,f31]) rfl (RetN.mk' HWR.out ?_)
  repeat (first|exact HF2.out.b|refine stw ?_ (by omega)|refine alw ?_ (by omega))
end Go.Proofs.YtkaiilmgemaljaaGreat

/- Contract of the program's decision with the cube. There are no conditions. -/
import Derived.Test.YtgjapehpkakkbaaGreatLM23
import Derived.Test.YtgjapehpkakkbaaGreatLM39
set_option linter.unusedVariables false
set_option linter.unusedSimpArgs false
namespace Go.Proofs.YtgjapehpkakkbaaGreat
open Go.RowKit Mo Ps Ra Ex
theorem Fr.xg1 {w wr:World} {a0_0 a0_1 a0_2 a0_3 a1_0 a1_1 a1_2 a2_0 a2_1 a3_0 a3_1 a3_2 a3_3 a3_4 a3_5 a3_6 a3_7:Value} {t0 t1 t2 t3:List Value} {tt:List (List Value)} (h:Fr w wr ((a0_0::a0_1::a0_2::a0_3::t0)::(a1_0::a1_1::a1_2::t1)::(a2_0::a2_1::t2)::(a3_0::a3_1::a3_2::a3_3::a3_4::a3_5::a3_6::a3_7::t3)::tt)):w.heap.size<wr.heap.size∧wr.cell? ⟨w.heap.size,0,none⟩=some a0_0∧wr.frozen? ⟨w.heap.size,0,none⟩=false∧wr.cell? ⟨w.heap.size,1,none⟩=some a0_1∧wr.frozen? ⟨w.heap.size,1,none⟩=false∧wr.cell? ⟨w.heap.size,2,none⟩=some a0_2∧wr.frozen? ⟨w.heap.size,2,none⟩=false∧wr.cell? ⟨w.heap.size,3,none⟩=some a0_3∧wr.frozen? ⟨w.heap.size,3,none⟩=false∧w.heap.size+1<wr.heap.size∧wr.cell? ⟨w.heap.size+1,0,none⟩=some a1_0∧wr.frozen? ⟨w.heap.size+1,0,none⟩=false∧wr.cell? ⟨w.heap.size+1,1,none⟩=some a1_1∧wr.frozen? ⟨w.heap.size+1,1,none⟩=false∧wr.cell? ⟨w.heap.size+1,2,none⟩=some a1_2∧wr.frozen? ⟨w.heap.size+1,2,none⟩=false∧w.heap.size+1+1<wr.heap.size∧wr.cell? ⟨w.heap.size+1+1,0,none⟩=some a2_0∧wr.frozen? ⟨w.heap.size+1+1,0,none⟩=false∧wr.cell? ⟨w.heap.size+1+1,1,none⟩=some a2_1∧wr.frozen? ⟨w.heap.size+1+1,1,none⟩=false∧w.heap.size+1+1+1<wr.heap.size∧wr.cell? ⟨w.heap.size+1+1+1,0,none⟩=some a3_0∧wr.frozen? ⟨w.heap.size+1+1+1,0,none⟩=false∧wr.cell? ⟨w.heap.size+1+1+1,1,none⟩=some a3_1∧wr.frozen? ⟨w.heap.size+1+1+1,1,none⟩=false∧wr.cell? ⟨w.heap.size+1+1+1,2,none⟩=some a3_2∧wr.frozen? ⟨w.heap.size+1+1+1,2,none⟩=false∧wr.cell? ⟨w.heap.size+1+1+1,3,none⟩=some a3_3∧wr.frozen? ⟨w.heap.size+1+1+1,3,none⟩=false∧wr.cell? ⟨w.heap.size+1+1+1,4,none⟩=some a3_4∧wr.frozen? ⟨w.heap.size+1+1+1,4,none⟩=false∧wr.cell? ⟨w.heap.size+1+1+1,5,none⟩=some a3_5∧wr.frozen? ⟨w.heap.size+1+1+1,5,none⟩=false∧wr.cell? ⟨w.heap.size+1+1+1,6,none⟩=some a3_6∧wr.frozen? ⟨w.heap.size+1+1+1,6,none⟩=false∧wr.cell? ⟨w.heap.size+1+1+1,7,none⟩=some a3_7∧wr.frozen? ⟨w.heap.size+1+1+1,7,none⟩=false:=
 ⟨h.l0 (by simp),h.c0 0 rfl,h.f0 0 rfl,h.c0 1 rfl,h.f0 1 rfl,h.c0 2 rfl,h.f0 2 rfl,h.c0 3 rfl,h.f0 3 rfl,h.l1 (by simp),h.c1 0 rfl,h.f1 0 rfl,h.c1 1 rfl,h.f1 1 rfl,h.c1 2 rfl,h.f1 2 rfl,h.l2 (by simp),h.c2 0 rfl,h.f2 0 rfl,h.c2 1 rfl,h.f2 1 rfl,h.l3 (by simp),h.c3 0 rfl,h.f3 0 rfl,h.c3 1 rfl,h.f3 1 rfl,h.c3 2 rfl,h.f3 2 rfl,h.c3 3 rfl,h.f3 3 rfl,h.c3 4 rfl,h.f3 4 rfl,h.c3 5 rfl,h.f3 5 rfl,h.c3 6 rfl,h.f3 6 rfl,h.c3 7 rfl,h.f3 7 rfl⟩
theorem FrS.xg1 {S:Nat→Prop} {w wr:World} {a0_0 a0_1 a0_2 a0_3 a1_0 a1_1 a1_2 a2_0 a2_1 a3_0 a3_1 a3_2 a3_3 a3_4 a3_5 a3_6 a3_7:Value} {t0 t1 t2 t3:List Value} {tt:List (List Value)} (h:FrS S w wr ((a0_0::a0_1::a0_2::a0_3::t0)::(a1_0::a1_1::a1_2::t1)::(a2_0::a2_1::t2)::(a3_0::a3_1::a3_2::a3_3::a3_4::a3_5::a3_6::a3_7::t3)::tt)):w.heap.size<wr.heap.size∧wr.cell? ⟨w.heap.size,0,none⟩=some a0_0∧wr.frozen? ⟨w.heap.size,0,none⟩=false∧wr.cell? ⟨w.heap.size,1,none⟩=some a0_1∧wr.frozen? ⟨w.heap.size,1,none⟩=false∧wr.cell? ⟨w.heap.size,2,none⟩=some a0_2∧wr.frozen? ⟨w.heap.size,2,none⟩=false∧wr.cell? ⟨w.heap.size,3,none⟩=some a0_3∧wr.frozen? ⟨w.heap.size,3,none⟩=false∧w.heap.size+1<wr.heap.size∧wr.cell? ⟨w.heap.size+1,0,none⟩=some a1_0∧wr.frozen? ⟨w.heap.size+1,0,none⟩=false∧wr.cell? ⟨w.heap.size+1,1,none⟩=some a1_1∧wr.frozen? ⟨w.heap.size+1,1,none⟩=false∧wr.cell? ⟨w.heap.size+1,2,none⟩=some a1_2∧wr.frozen? ⟨w.heap.size+1,2,none⟩=false∧w.heap.size+1+1<wr.heap.size∧wr.cell? ⟨w.heap.size+1+1,0,none⟩=some a2_0∧wr.frozen? ⟨w.heap.size+1+1,0,none⟩=false∧wr.cell? ⟨w.heap.size+1+1,1,none⟩=some a2_1∧wr.frozen? ⟨w.heap.size+1+1,1,none⟩=false∧w.heap.size+1+1+1<wr.heap.size∧wr.cell? ⟨w.heap.size+1+1+1,0,none⟩=some a3_0∧wr.frozen? ⟨w.heap.size+1+1+1,0,none⟩=false∧wr.cell? ⟨w.heap.size+1+1+1,1,none⟩=some a3_1∧wr.frozen? ⟨w.heap.size+1+1+1,1,none⟩=false∧wr.cell? ⟨w.heap.size+1+1+1,2,none⟩=some a3_2∧wr.frozen? ⟨w.heap.size+1+1+1,2,none⟩=false∧wr.cell? ⟨w.heap.size+1+1+1,3,none⟩=some a3_3∧wr.frozen? ⟨w.heap.size+1+1+1,3,none⟩=false∧wr.cell? ⟨w.heap.size+1+1+1,4,none⟩=some a3_4∧wr.frozen? ⟨w.heap.size+1+1+1,4,none⟩=false∧wr.cell? ⟨w.heap.size+1+1+1,5,none⟩=some a3_5∧wr.frozen? ⟨w.heap.size+1+1+1,5,none⟩=false∧wr.cell? ⟨w.heap.size+1+1+1,6,none⟩=some a3_6∧wr.frozen? ⟨w.heap.size+1+1+1,6,none⟩=false∧wr.cell? ⟨w.heap.size+1+1+1,7,none⟩=some a3_7∧wr.frozen? ⟨w.heap.size+1+1+1,7,none⟩=false:=
 ⟨h.l0 (by simp),h.c0 0 rfl,h.f0 0 rfl,h.c0 1 rfl,h.f0 1 rfl,h.c0 2 rfl,h.f0 2 rfl,h.c0 3 rfl,h.f0 3 rfl,h.l1 (by simp),h.c1 0 rfl,h.f1 0 rfl,h.c1 1 rfl,h.f1 1 rfl,h.c1 2 rfl,h.f1 2 rfl,h.l2 (by simp),h.c2 0 rfl,h.f2 0 rfl,h.c2 1 rfl,h.f2 1 rfl,h.l3 (by simp),h.c3 0 rfl,h.f3 0 rfl,h.c3 1 rfl,h.f3 1 rfl,h.c3 2 rfl,h.f3 2 rfl,h.c3 3 rfl,h.f3 3 rfl,h.c3 4 rfl,h.f3 4 rfl,h.c3 5 rfl,h.f3 5 rfl,h.c3 6 rfl,h.f3 6 rfl,h.c3 7 rfl,h.f3 7 rfl⟩
def dcN:Option (Int×E×E×Int×E)→Int×Int×Int×Int×Int×Int×Int×Int×Int
 | none=>(0,0,0,0,0,0,0,0,3)
 | some (a,x,y,b,z)=>(a,x.num,(x.depth:Int),y.num,(y.depth:Int),b,z.num,(z.depth:Int),0)
noncomputable def dcR (p c h s m:Int) (bv:Bool) (own other:List Int) (v o:Int):Int×Int×Int×Int×Int×Int×Int×Int×Int:=
 if codeM p c h s m own other v o true=0 then dcN (dcd s.toNat ⟨m,bv⟩ own other (v,o)) else (0,0,0,0,0,0,0,0,codeM p c h s m own other v o true)
def RetDK (w:World) (r:Int×Int×Int×Int×Int×Int×Int×Int×Int) (e:Ending) (w':World):Prop:=e = .returned (.tuple #[.agg #[.int .i64 r.1,.int .i64 r.2.1,.int .i64 r.2.2.1,.int .i64 r.2.2.2.1,.int .i64 r.2.2.2.2.1,.int .i64 r.2.2.2.2.2.1,.int .i64 r.2.2.2.2.2.2.1,.int .i64 r.2.2.2.2.2.2.2.1],.int .i64 r.2.2.2.2.2.2.2.2])∧Below w.heap.size w w'
theorem RetDK.mk' {w w':World} {r:Int×Int×Int×Int×Int×Int×Int×Int×Int} {a b c d e f g h k:Int} (hr:r=(a,b,c,d,e,f,g,h,k)) (hb:Below w.heap.size w w'):RetDK w r (.returned (.tuple #[.agg #[.int .i64 a,.int .i64 b,.int .i64 c,.int .i64 d,.int .i64 e,.int .i64 f,.int .i64 g,.int .i64 h],.int .i64 k])) w':=by subst hr;exact⟨rfl,hb⟩
def moD (p:Int) (c h s K:Nat) (bv j:Bool) (A B:Option Addr) (ca cb:Nat) (v o:Int) (ov:Option (Int×E×E×Int×E)) (fl:Bool) (i:Nat) (u:Value) (lo hi:Nat) (W:World):Prop:=
 match i with
 | 0=>u = .agg #[.int .i64 p,.int .i64 c,.int .i64 h,.int .i64 s]
 | 1=>u = .agg #[.int .i64 (two K),.bool bv,.bool j]
 | 2=>∃m:MT,m.t.p=p∧m.t.c=c∧m.t.h=h∧m.t.s=s∧m.K=K∧m.bv=bv∧u = .pointer (some ⟨m.bm,0,none⟩)∧m.Ok∧(fl=false→MonI m m.S W∧∀k,m.S k→lo≤k∧k<hi)
 | 3=>u = .slice A h ca
 | 4=>u = .slice B h cb
 | 5=>u = .agg #[.int .i64 v,.int .i64 o]
 | 6=>u = .tuple #[dcV ov,.bool ov.isSome]
 | 7=>u = .tuple #[dcV ov,.bool ov.isSome]
 | 8=>u=dcV ov
 | 9=>u = .bool ov.isSome
 | _=>u = .pointer (some ⟨lo,0,none⟩)∧lo<hi∧(∀j,j<8→W.cell? ⟨lo,j,none⟩=some (.int .i64 0))∧∀j,j<8→W.frozen? ⟨lo,j,none⟩=false
theorem moD_stab {w:World} {p:Int} {c h s K:Nat} {bv j:Bool} {A B:Option Addr} {ca cb:Nat} {v o:Int} {ov:Option (Int×E×E×Int×E)} (fl:Bool) (i:Nat) (u:Value) (lo hi:Nat) (W W':World) (_:w.heap.size≤lo) (_:hi≤W.heap.size) (hg:moD p c h s K bv j A B ca cb v o ov fl i u lo hi W) (hb:Below W.heap.size W W'):moD p c h s K bv j A B ca cb v o ov fl i u lo hi W':=by
 unfold moD at *
 split at hg<;>first
  | exact hg
  | (obtain ⟨m, h1, h2, h3, h4, h5, h6, h7, h8, h9⟩ := hg
     exact ⟨m, h1, h2, h3, h4, h5, h6, h7, h8, fun hf => ⟨(h9 hf).1.below hb, (h9 hf).2⟩⟩)
  | (obtain ⟨h1, h2, h3, h5⟩ := hg
     exact ⟨h1, h2, fun j hj => keep_cell (h3 j hj) hb, fun j hj => (hb.frozen (p := ⟨lo, j, none⟩) (World.block_lt_of_cell? W ⟨lo, 0, none⟩ (h3 0 (by omega)))).trans (h5 j hj)⟩)
theorem moD_conv {w:World} {p:Int} {c h s K:Nat} {bv j:Bool} {A B:Option Addr} {ca cb:Nat} {v o:Int} {ov:Option (Int×E×E×Int×E)} (i:Nat) (u:Value) (lo hi:Nat) (W W':World) (_:w.heap.size≤lo) (_:hi≤W.heap.size) (hg:moD p c h s K bv j A B ca cb v o ov false i u lo hi W) (hf:i≠2→Frm (fun k=>w.heap.size≤k∧¬(lo≤k∧k<hi)) W W'):moD p c h s K bv j A B ca cb v o ov true i u lo hi W':=by
 unfold moD at *
 split at hg<;>first
  | exact hg
  | (obtain ⟨m, h1, h2, h3, h4, h5, h6, h7, h8, h9⟩ := hg
     exact ⟨m, h1, h2, h3, h4, h5, h6, h7, h8, fun hx => by cases hx⟩)
  | (obtain ⟨h1, h2, h3, h5⟩ := hg
     have hf' := hf (by assumption)
     have hn : ¬ (w.heap.size ≤ lo ∧ ¬ (lo ≤ lo ∧ lo < hi)) := fun hx => hx.2 ⟨Nat.le_refl _, h2⟩
     exact ⟨h1, h2, fun j hj => hf'.cell' (h3 j hj) hn, fun j hj => (frm_froz hf' (World.block_lt_of_cell? W ⟨lo, 0, none⟩ (h3 0 (by omega))) hn).trans (h5 j hj)⟩)
set_option maxRecDepth 100000 in
set_option maxHeartbeats 4000000 in
theorem DecideCube_any (p c h s m:Int) (bv j:Bool) (A B:Option Addr) (n k ca cb:Nat) (own other:List Int) (v o:Int) (w:World) (hA:SL w A n own) (hB:SL w B k other) (hca:n≤ca) (hcb:k≤cb):
  Calls Tryz.prog 54 #[.agg #[.int .i64 p,.int .i64 c,.int .i64 h,.int .i64 s],.agg #[.int .i64 m,.bool bv,.bool j],.slice A n ca,.slice B k cb,.agg #[.int .i64 v,.int .i64 o]] w (RetDK w (dcR p c h s m bv own other v o)):=by
 have HF0:Hid (Fr w ((((w.alloc (.cells #[.int .i64 p,.int .i64 c,.int .i64 h,.int .i64 s] 25)).alloc (.cells #[.int .i64 m,.bool bv,.bool j] 59)).alloc (.cells #[.int .i64 v,.int .i64 o] 62)).alloc (.cells #[.int .i64 0,.int .i64 0,.int .i64 0,.int .i64 0,.int .i64 0,.int .i64 0,.int .i64 0,.int .i64 0] 79)) [[.int .i64 p,.int .i64 c,.int .i64 h,.int .i64 s],[.int .i64 m,.bool bv,.bool j],[.int .i64 v,.int .i64 o],[.int .i64 0,.int .i64 0,.int .i64 0,.int .i64 0,.int .i64 0,.int .i64 0,.int .i64 0,.int .i64 0]]):=((((Fr.start w).allocT (by simp) _ _).allocT (by simp) _ _).allocT (by simp) _ _).allocT (by simp) _ _
 have HA0:=Lib.hid (hA.below HF0.out.b);have HB0:=Lib.hid (hB.below HF0.out.b);have HAL:=Lib.hid hA.1;have HBL:=Lib.hid hB.1;have CK:=Lib.hid (checkMoney_any p c h s m bv j A B n k ca cb own other v o true _ HA0.out HB0.out);clear hA hB
 by_cases hcm:codeM p c h s m own other v o true=0
 ·obtain⟨hcl,hz1,hz2⟩:=codeM_ok hcm
  rw[hcm]at CK;obtain⟨hv,hr,hp1,hp2,hcu,_,hgi⟩:=codeL_ok hcl;have hvv:=isVar_yes hv;obtain⟨K,hK,rfl⟩:=rulB_two hr
  obtain⟨c',rfl⟩:∃c':Nat,c=c':=⟨c.toNat,by omega⟩
  obtain⟨h',rfl⟩:∃h':Nat,h=h':=⟨h.toNat,by omega⟩
  obtain⟨s',rfl⟩:∃s':Nat,s=s':=⟨s.toNat,by omega⟩
  rw[gamI_two hK]at hgi;obtain⟨hN,_⟩:=gamB_yes hgi;have HP1:=Lib.hid (posB_pos hp1);have HP2:=Lib.hid (posB_pos hp2);have hcb0:=cubB_ok hcu
  have hnh:h'=n:=by rw[← HAL.out];exact (HP1.out.1).symm
  have hmh:h'=k:=by rw[← HBL.out];exact (HP2.out.1).symm
  subst hnh;subst hmh
  have CNEW:=Lib.hid fun (W:World)=>newMoney_any p c' h' s' K bv j W hv hN hK
  obtain⟨ov,hov⟩:∃ov,ov=dcd s' ⟨two K,bv⟩ own other (v,o):=⟨_,rfl⟩
  have HWR:Hid (dcR p c' h' s' (two K) bv own other v o=dcN ov):=by
   unfold Hid dcR;rw[if_pos hcm,hov]
   simp only[Int.toNat_natCast]
  have HALL:Hid (∀(m:MT),m.t.c=c'→m.t.h=h'→m.t.s=s'→m.K=K→m.bv=bv→m.Ok→∀W:World,MonI m m.S W→SQ m.S W A h' own→SQ m.S W B h' other→Calls Tryz.prog 113 #[.pointer (some ⟨m.bm,0,none⟩),.slice A h' ca,.slice B h' cb,.agg #[.int .i64 v,.int .i64 o]] W (RetDc m m.S W ov)):=by
   intro m e1 e2 e3 e4 e5 hok W hI h1 h2
   subst e1 e2 e3 e4 e5;rw[hov]
   exact decide_any m hok HP1.out HP2.out hz1 hcb0 m.S A B ca cb W (fun k hk hs=>by have:=hI.ltS k hs;omega) hI h1 hca h2 hcb
  clear hcm hcl hv hr hp1 hp2 hcu hgi hvv hov HAL HBL;generalize dcR p c' h' s' (two K) bv own other v o=rr at *
  go_enter Tryz.func54,Tryz.ntmps54
  go_wp2_with (fail)
  refine CK.out.mono ?_
  rintro e w1 ⟨rfl,hb1⟩
  have HFX:=Lib.hid (HF0.out.below hb1);have HAX:=Lib.hid (HA0.out.below hb1);have HBX:=Lib.hid (HB0.out.below hb1);clear CK hb1 HF0 HA0 HB0;obtain⟨z0,c00,f00,c01,f01,c02,f02,c03,f03,z1,c10,f10,c11,f11,c12,f12,z2,c20,f20,c21,f21,z3,c30,f30,c31,f31,c32,f32,c33,f33,c34,f34,c35,f35,c36,f36,c37,f37⟩:=HFX.out.xg1
  go_wp2_with (fail)
  clear z0 c00 f00 c01 f01 c02 f02 c03 f03 z1 c10 f10 c11 f11 c12 f12 z2 c20 f20 c21 f21 z3 c30 f30 c31 f31 c32 f32 c33 f33 c34 f34 c35 f35 c36 f36 c37 f37
  refine wp_region_two 11 (fun i=>i == 9) (fun i=>if i=7 then 25 else if i<7 then i+26 else if i=10 then 13 else i+25) 2 6 (moD p c' h' s' K bv j A B ca cb v o ov) (by kernel_rfl) (by kernel_rfl) (fun _ _ _ _ _ h=>h) (by omega) (by omega) rfl (by kernel_rfl) moD_stab moD_conv ?_ ?_ ?_ ?_
  ·intro fl i op hi hX ho a' X hbX hfar hdep
   have hi8:i=9:=by simpa using hX
   subst hi8
   simp at ho
   subst ho
   obtain⟨_,_,d0⟩:=hdep 7 (by omega) (by kernel_rfl)
   replace d0:a'.tmps.getD 25 undef = .tuple #[dcV ov,.bool ov.isSome]:=d0
   exact⟨.bool ov.isSome,fun W'=>by simp only[execOp,Act.eval,d0];go_simp,rfl⟩
  ·intro fl i op hi hX hne ho a' X hbX hfar hdep
   have e2:a'.tmps.getD 2 undef = .slice A h' ca:=(hfar 2 (by decide)).trans rfl
   have e3:a'.tmps.getD 3 undef = .slice B h' cb:=(hfar 3 (by decide)).trans rfl
   have e5:a'.tmps.getD 5 undef = .pointer (some ⟨w.heap.size,0,none⟩):=(hfar 5 (by decide)).trans rfl
   have e6:a'.tmps.getD 6 undef = .pointer (some ⟨w.heap.size+1,0,none⟩):=(hfar 6 (by decide)).trans rfl
   have e9:a'.tmps.getD 9 undef = .pointer (some ⟨w.heap.size+1+1,0,none⟩):=(hfar 9 (by decide)).trans rfl
   have HFh:=Lib.hid (HFX.out.below hbX);obtain⟨z0,c00,f00,c01,f01,c02,f02,c03,f03,z1,c10,f10,c11,f11,c12,f12,z2,c20,f20,c21,f21,z3,c30,f30,c31,f31,c32,f32,c33,f33,c34,f34,c35,f35,c36,f36,c37,f37⟩:=HFh.out.xg1
   have hi9:i=0∨i=1∨i=2∨i=3∨i=4∨i=5∨i=7∨i=8∨i=10:=by simp at hX;omega
   clear hne hX
   rcases hi9 with rfl|rfl|rfl|rfl|rfl|rfl|rfl|rfl|rfl
   all_goals
    simp at ho
    subst ho
   ·exact .inl ⟨.agg #[.int .i64 p,.int .i64 c',.int .i64 h',.int .i64 s'],X,by simp only[execOp,Act.eval,e5];go_simp,Below.refl _ _,rfl⟩
   ·exact .inl ⟨.agg #[.int .i64 (two K),.bool bv,.bool j],X,by simp only[execOp,Act.eval,e6];go_simp,Below.refl _ _,rfl⟩
   ·obtain⟨_,_,d0⟩:=hdep 0 (by omega) (by kernel_rfl)
    obtain⟨_,_,d1⟩:=hdep 1 (by omega) (by kernel_rfl)
    replace d0:a'.tmps.getD 26 undef = .agg #[.int .i64 p,.int .i64 c',.int .i64 h',.int .i64 s']:=d0;replace d1:a'.tmps.getD 27 undef = .agg #[.int .i64 (two K),.bool bv,.bool j]:=d1
    refine .inr ⟨95,#[.agg #[.int .i64 p,.int .i64 c',.int .i64 h',.int .i64 s'],.agg #[.int .i64 (two K),.bool bv,.bool j]],by simp only[execOp,Act.eval,d0,d1];go_simp,?_⟩
    refine (CNEW.out X).mono ?_
    rintro e X' ⟨m,m1,m2,m3,m4,m5,m6,rfl,hok,hI,hlow,hb'⟩
    exact⟨_,rfl,hb',m,m1,m2,m3,m4,m5,m6,rfl,hok,fun _=>⟨hI,fun k hk=>⟨hlow k hk,hI.ltS k hk⟩⟩⟩
   ·exact .inl ⟨.slice A h' ca,X,by simp only[execOp,Act.eval,e2];go_simp,Below.refl _ _,rfl⟩
   ·exact .inl ⟨.slice B h' cb,X,by simp only[execOp,Act.eval,e3];go_simp,Below.refl _ _,rfl⟩
   ·exact .inl ⟨.agg #[.int .i64 v,.int .i64 o],X,by simp only[execOp,Act.eval,e9];go_simp,Below.refl _ _,rfl⟩
   ·obtain⟨_,_,d0⟩:=hdep 6 (by omega) (by kernel_rfl)
    replace d0:a'.tmps.getD 32 undef = .tuple #[dcV ov,.bool ov.isSome]:=d0
    exact .inl ⟨.tuple #[dcV ov,.bool ov.isSome],X,by simp only[execOp,Act.eval,d0];go_simp,Below.refl _ _,rfl⟩
   ·obtain⟨_,_,d0⟩:=hdep 7 (by omega) (by kernel_rfl)
    replace d0:a'.tmps.getD 25 undef = .tuple #[dcV ov,.bool ov.isSome]:=d0
    exact .inl ⟨dcV ov,X,by simp only[execOp,Act.eval,d0];go_simp,Below.refl _ _,rfl⟩
   ·refine .inl ⟨.pointer (some ⟨X.heap.size,0,none⟩),X.alloc (.cells #[.int .i64 0,.int .i64 0,.int .i64 0,.int .i64 0,.int .i64 0,.int .i64 0,.int .i64 0,.int .i64 0] 79),by kernel_rfl,(Below.refl _ _).alloc (Nat.le_refl _) _,rfl,by simp,fun j hj=>?_,fun j hj=>?_⟩
    all_goals
     have:j=0∨j=1∨j=2∨j=3∨j=4∨j=5∨j=6∨j=7:=by omega
     rcases this with rfl|rfl|rfl|rfl|rfl|rfl|rfl|rfl<;>simp[go_sem]
  ·intro op ho a' X lo hi hbX hlo hhi hgd hfar hdep
   simp at ho
   subst ho;obtain⟨m,m1,m2,m3,m4,m5,m6,d2,hok,hI⟩:=hgd;replace d2:a'.tmps.getD 28 undef = .pointer (some ⟨m.bm,0,none⟩):=d2;obtain⟨hI,hrng⟩:=hI rfl
   obtain⟨_,_,d3⟩:=hdep 3 (by omega) (by kernel_rfl)
   obtain⟨_,_,d4⟩:=hdep 4 (by omega) (by kernel_rfl)
   obtain⟨_,_,d5⟩:=hdep 5 (by omega) (by kernel_rfl)
   replace d3:a'.tmps.getD 29 undef = .slice A h' ca:=d3;replace d4:a'.tmps.getD 30 undef = .slice B h' cb:=d4;replace d5:a'.tmps.getD 31 undef = .agg #[.int .i64 v,.int .i64 o]:=d5
   refine .inr ⟨113,#[.pointer (some ⟨m.bm,0,none⟩),.slice A h' ca,.slice B h' cb,.agg #[.int .i64 v,.int .i64 o]],by simp only[execOp,Act.eval,d2,d3,d4,d5];go_simp,?_⟩
   refine (HALL.out m m2 m3 m4 m5 m6 hok X hI ((SQ.of_sl HAX.out fun k hk=>Nat.le_trans hlo (hrng k hk).1).below hbX) ((SQ.of_sl HBX.out fun k hk=>Nat.le_trans hlo (hrng k hk).1).below hbX)).mono ?_
   rintro e X' ⟨rfl,_,hf'⟩
   exact⟨_,rfl,hf'.mono hrng,rfl⟩
  intro u X lo hh hbX hg hd
  have g0:u 0 = .agg #[.int .i64 p,.int .i64 c',.int .i64 h',.int .i64 s']:=(hg 0 (by omega)).1
  have g1:u 1 = .agg #[.int .i64 (two K),.bool bv,.bool j]:=(hg 1 (by omega)).1
  obtain⟨mm,_,_,_,_,_,_,g2,_,_⟩:moD p c' h' s' K bv j A B ca cb v o ov true 2 (u 2) (lo 2) (hh 2) X:=(hg 2 (by omega)).1
  have g3:u 3 = .slice A h' ca:=(hg 3 (by omega)).1
  have g4:u 4 = .slice B h' cb:=(hg 4 (by omega)).1
  have g5:u 5 = .agg #[.int .i64 v,.int .i64 o]:=(hg 5 (by omega)).1
  have g6:u 6 = .tuple #[dcV ov,.bool ov.isSome]:=(hg 6 (by omega)).1
  have g7:u 7 = .tuple #[dcV ov,.bool ov.isSome]:=(hg 7 (by omega)).1
  have g8:u 8=dcV ov:=(hg 8 (by omega)).1
  have g9:u 9 = .bool ov.isSome:=(hg 9 (by omega)).1
  obtain⟨g10,l10,kk10,f10'⟩:moD p c' h' s' K bv j A B ca cb v o ov true 10 (u 10) (lo 10) (hh 10) X:=(hg 10 (by omega)).1
  have hlo:=(hg 10 (by omega)).2.1
  clear hg hd;obtain⟨b13,hb13⟩:∃b13,b13=lo 10:=⟨_,rfl⟩;rw[← hb13]at g10 l10 kk10 f10' hlo
  have fa0:=f10' 0 (by omega)
  have k10:=kk10 0 (by omega)
  have fa1:=f10' 1 (by omega)
  have k11:=kk10 1 (by omega)
  have fa2:=f10' 2 (by omega)
  have k12:=kk10 2 (by omega)
  have fa3:=f10' 3 (by omega)
  have k13:=kk10 3 (by omega)
  have fa4:=f10' 4 (by omega)
  have k14:=kk10 4 (by omega)
  have fa5:=f10' 5 (by omega)
  have k15:=kk10 5 (by omega)
  have fa6:=f10' 6 (by omega)
  have k16:=kk10 6 (by omega)
  have fa7:=f10' 7 (by omega)
  have k17:=kk10 7 (by omega)
  have kz:=World.block_lt_of_cell? X _ k10;have HF3:=Lib.hid (HFX.out.below hbX)
  have hz4:w.heap.size+4≤b13:=by have:=HFX.out.z;simp at this;omega
  have n1:¬b13=w.heap.size+1+1+1:=by omega
  have n2:¬w.heap.size+1+1+1=b13:=by omega
  clear hbX HFX f10' kk10 hlo CNEW HALL HAX HBX l10
  simp only[List.drop_succ_cons,List.drop_zero,putV,g0,g1,g2,g3,g4,g5,g6,g7,g8,g9,g10,Act.put]
  clear g0 g1 g2 g3 g4 g5 g6 g7 g8 g9 g10 hb13
  rcases ov with _|⟨ac,⟨xn,xd⟩,⟨yn,yd⟩,rp,⟨zn,zd⟩⟩
  ·have HRR:Hid (rr=(0,0,0,0,0,0,0,0,3)):=HWR.out
   simp only[dcV,Option.isSome_none]
   obtain⟨z0,c00,f00,c01,f01,c02,f02,c03,f03,z1,c10,f10,c11,f11,c12,f12,z2,c20,f20,c21,f21,z3,c30,f30,c31,f31,c32,f32,c33,f33,c34,f34,c35,f35,c36,f36,c37,f37⟩:=HF3.out.xg1
   go_wp2_with (fail)
   refine bodyPost_ret (v:=.tuple #[.agg #[.int .i64 0,.int .i64 0,.int .i64 0,.int .i64 0,.int .i64 0,.int .i64 0,.int .i64 0,.int .i64 0],.int .i64 3]) (by simp[results,Tryz.results54,go_sem,c30,c31,c32,c33,c34,c35,c36,c37,z3,f30,f31,f32,f33,f34,f35,f36,f37]) rfl (RetDK.mk' HRR.out ?_)
   repeat (first|with_reducible exact HF3.out.b|with_reducible refine stw ?_ (by omega)|with_reducible refine alw ?_ (by omega))
  ·have HRR:Hid (rr=(ac,xn,(xd:Int),yn,(yd:Int),rp,zn,(zd:Int),0)):=HWR.out
   simp only[dcV,Option.isSome_some]
   obtain⟨z0,c00,f00,c01,f01,c02,f02,c03,f03,z1,c10,f10,c11,f11,c12,f12,z2,c20,f20,c21,f21,z3,c30,f30,c31,f31,c32,f32,c33,f33,c34,f34,c35,f35,c36,f36,c37,f37⟩:=HF3.out.xg1
   go_wp2_with (fail)
   refine bodyPost_ret (v:=.tuple #[.agg #[.int .i64 ac,.int .i64 xn,.int .i64 (xd:Int),.int .i64 yn,.int .i64 (yd:Int),.int .i64 rp,.int .i64 zn,.int .i64 (zd:Int)],.int .i64 0]) (by simp[results,Tryz.results54,go_sem,c30,c31,c32,c33,c34,c35,c36,c37,z3,f30,f31,f32,f33,f34,f35,f36,f37]) rfl (RetDK.mk' HRR.out ?_)
   repeat (first|with_reducible exact HF3.out.b|with_reducible refine stw ?_ (by omega)|with_reducible refine alw ?_ (by omega))
 ·have HWR:Hid (dcR p c h s m bv own other v o=(0,0,0,0,0,0,0,0,codeM p c h s m own other v o true)):=by
   unfold Hid dcR;rw[if_neg hcm]
  generalize codeM p c h s m own other v o true=kk at *
  have b0:(kk != 0)=true:=by simp[hcm]
  clear hcm
  go_enter Tryz.func54,Tryz.ntmps54
  go_wp2_with (fail)
  refine CK.out.mono ?_
  rintro e w1 ⟨rfl,hb1⟩
  have HF2:=Lib.hid (HF0.out.below hb1);clear CK hb1 HF0 HA0 HB0;obtain⟨z0,c00,f00,c01,f01,c02,f02,c03,f03,z1,c10,f10,c11,f11,c12,f12,z2,c20,f20,c21,f21,z3,c30,f30,c31,f31,c32,f32,c33,f33,c34,f34,c35,f35,c36,f36,c37,f37⟩:=HF2.out.xg1
  go_wp2_with (fail)
  refine bodyPost_ret (v:=.tuple #[.agg #[.int .i64 0,.int .i64 0,.int .i64 0,.int .i64 0,.int .i64 0,.int .i64 0,.int .i64 0,.int .i64 0],.int .i64 kk]) (by simp[results,Tryz.results54,go_sem,c30,c31,c32,c33,c34,c35,c36,c37,z3,f30,f31,f32,f33,f34,f35,f36,f37]) rfl (RetDK.mk' HWR.out ?_)
  repeat (first|with_reducible exact HF2.out.b|with_reducible refine stw ?_ (by omega)|with_reducible refine alw ?_ (by omega))
end Go.Proofs.YtgjapehpkakkbaaGreat
/- Part of one proof. There are no conditions. -/
import Derived.Test.YtkaiilmgemaljaaGreatRM13
import Derived.Test.YtkaiilmgemaljaaGreatRQL
set_option maxHeartbeats 0
set_option linter.unusedVariables false
set_option linter.unusedSimpArgs false
set_option maxRecDepth 100000
namespace Go.Proofs.YtkaiilmgemaljaaGreat
open Go.RowKit Ps Ra Ex Go.Maps Mo
structure KC (w:World) (b:Nat) (x0 x1 x2 x3:Int):Prop where
 c0:w.cell? ⟨b,0,none⟩=some (.int .i64 x0)
 c1:w.cell? ⟨b,1,none⟩=some (.int .i64 x1)
 c2:w.cell? ⟨b,2,none⟩=some (.int .i64 x2)
 c3:w.cell? ⟨b,3,none⟩=some (.int .i64 x3)
theorem KC.lt {w:World} {b:Nat} {x0 x1 x2 x3:Int} (h:KC w b x0 x1 x2 x3):b<w.heap.size:=World.block_lt_of_cell? w _ h.c0
theorem KC.frm {w w':World} {S:Nat->Prop} {b:Nat} {x0 x1 x2 x3:Int} (h:KC w b x0 x1 x2 x3) (hf:Frm S w w') (hn:¬S b):KC w' b x0 x1 x2 x3:=⟨hf.cell' h.c0 hn,hf.cell' h.c1 hn,hf.cell' h.c2 hn,hf.cell' h.c3 hn⟩
theorem KC.below {w w':World} {b:Nat} {x0 x1 x2 x3:Int} (h:KC w b x0 x1 x2 x3) (hb:Below w.heap.size w w'):KC w' b x0 x1 x2 x3:=h.frm (S:=fun _=>False) (Frm.of_below' _ hb) id
theorem KC.new (w:World) (x0 x1 x2 x3:Int) (T:TypeId):KC (w.alloc (.cells #[.int .i64 x0,.int .i64 x1,.int .i64 x2,.int .i64 x3] T)) w.heap.size x0 x1 x2 x3:=by
 refine⟨?_,?_,?_,?_⟩<;>simp[go_sem]
theorem MonI.put' {m:MT} {T:Nat->Prop} {w w1 w1' w2:World} {g1 g2:Lit->Option Value} {q r:List Int} {c:Cb} (hok:m.Ok) (h:MonI m T w) (hm:MonM m w g1 g2) (hq:PosP m.t.h m.t.c q) (hr:PosP m.t.h m.t.c r) (hc:CbOk m.K c)
  (hs1:MapV Tryz.prog 208 w1 m.m1 (keysM m.t.N) (putF g1 (m.key q r c) (exV (rol m.t.s m.ru q r c)))) (hg1:w.grownBy w1 (some m.m1)) (hb:Below w1.heap.size w1 w1')
  (hs2:MapV Tryz.prog 208 w2 m.m2 (keysM m.t.N) (putF g2 (m.key q r c) (.bool (rol m.t.s m.ru q r c).isNone))) (hg2:w1'.grownBy w2 (some m.m2)):MonI m T w2:=by
 have f1:Frm (fun k=>k=m.m1) w w1:=(Frm.of_grown hg1).mono fun k hk=>by injection hk
 have fb:Frm (fun k=>k=m.m2) w1 w1':=Frm.of_below' _ hb
 have f2:Frm (fun k=>k=m.m2) w1' w2:=(Frm.of_grown hg2).mono fun k hk=>by injection hk
 have f:Frm (fun k=>k=m.m1\/k=m.m2) w w2:=(f1.mono fun k hk=>.inl hk).trans ((fb.trans f2).mono fun k hk=>.inr hk)
 have hT:∀k,(k=m.m1\/k=m.m2)->T k:=fun k hk=>by rcases hk with rfl|rfl;exact h.s1;exact h.s2
 refine⟨h.ra.own f hT fun k hk=>by rcases hk with rfl|rfl;exact h.n1;exact h.n2,fun j v hv=>f.cell' (h.tb j v hv) fun ho=>h.nt (hT _ ho),h.nt,h.s1,h.s2,h.d,h.n1,h.n2,_,_,hs1.frm (fb.trans f2) h.d,hs2,fun q' r' c' hq' hr' hc' u hu=>?_⟩
 by_cases e:m.key q' r' c'=m.key q r c
 ·obtain⟨rfl,rfl,rfl⟩:=MT.key_inj hok hq' hr' hc' hq hr hc e
  rw[gb]at hu;injection hu with hu
  exact⟨hu.symm,gb _ _ _⟩
 ·rw[eR _ e]at hu
  rw[eR _ e]
  exact hm.2.2 q' r' c' hq' hr' hc' u hu
def keyG (m:MT) (A B:Option Addr) (ca cb:Nat) (v o:Int) (na nb:Nat) (i:Nat) (u:Value) (lo hi:Nat) (W:World):Prop:=
 match i with
 | 0=>u = .agg #[.int .i64 m.t.p,.int .i64 m.t.c,.int .i64 m.t.h,.int .i64 m.t.s]
 | 1=>u = .slice A m.t.h ca
 | 2=>u = .int .i64 (na:Int)
 | 3=>u = .agg #[.int .i64 m.t.p,.int .i64 m.t.c,.int .i64 m.t.h,.int .i64 m.t.s]
 | 4=>u = .slice B m.t.h cb
 | 5=>u = .int .i64 (nb:Int)
 | 6=>u = .agg #[.int .i64 v,.int .i64 o]
 | 7=>u=mkV na nb (v,o)
 | _=>u = .pointer (some ⟨lo,0,none⟩)/\lo<hi/\KC W lo 0 0 0 0/\∀j,j<4->W.frozen? ⟨lo,j,none⟩=false
theorem keyG_stab {m:MT} {A B:Option Addr} {ca cb:Nat} {v o:Int} {na nb:Nat} (i:Nat) (u:Value) (lo hi:Nat) (W W':World) (hg:keyG m A B ca cb v o na nb i u lo hi W) (hb:Below W.heap.size W W'):keyG m A B ca cb v o na nb i u lo hi W':=by
 unfold keyG at *
 split at hg<;>first|exact hg|(obtain⟨h1,h2,h3,h4⟩:=hg;exact⟨h1,h2,h3.below hb,fun j hj=>(hb.frozen (p:=⟨lo,j,none⟩) h3.lt).trans (h4 j hj)⟩)
def lookG (m:MT) (na nb:Nat) (v o zn zd:Int) (ub:Bool) (i:Nat) (u:Value) (lo hi:Nat) (W:World):Prop:=
 match i with
 | 0=>u = .pointer (some ⟨m.bm,0,none⟩)
 | 1=>u = .pointer (some ⟨m.bm,0,none⟩)
 | 2=>u = .pointer (some ⟨m.bm,4,none⟩)
 | 3=>u = .map (some m.m1)
 | 4=>u=mkV na nb (v,o)
 | 5=>u = .tuple #[.agg #[.int .i64 zn,.int .i64 zd],.bool ub]
 | 6=>u = .tuple #[.agg #[.int .i64 zn,.int .i64 zd],.bool ub]
 | 7=>u = .agg #[.int .i64 zn,.int .i64 zd]
 | 8=>u = .bool ub
 | _=>u = .pointer (some ⟨lo,0,none⟩)/\lo<hi/\(W.cell? ⟨lo,0,none⟩=some (.int .i64 0)/\W.cell? ⟨lo,1,none⟩=some (.int .i64 0))/\∀j,j<2->W.frozen? ⟨lo,j,none⟩=false
theorem lookG_stab {m:MT} {na nb:Nat} {v o zn zd:Int} {ub:Bool} (i:Nat) (u:Value) (lo hi:Nat) (W W':World) (hg:lookG m na nb v o zn zd ub i u lo hi W) (hb:Below W.heap.size W W'):lookG m na nb v o zn zd ub i u lo hi W':=by
 unfold lookG at *
 split at hg<;>first|exact hg|(obtain⟨h1,h2,⟨h3,h4⟩,h5⟩:=hg;exact⟨h1,h2,⟨keep_cell h3 hb,keep_cell h4 hb⟩,fun j hj=>(hb.frozen (p:=⟨lo,j,none⟩) (World.block_lt_of_cell? W ⟨lo,0,none⟩ h3)).trans (h5 j hj)⟩)
theorem mroll_any (m:MT) (hm:m.Ok) {own other:List Int} (hq:PosP m.t.h m.t.c own) (hq2:PosP m.t.h m.t.c other) (hs0:own.sum≠0) {c:Cb} (hc:CbOk m.K c) (heq:∀q,PosP m.t.h m.t.c q->pips q<pips own->EqvC m other q (swp c)):RolC m own other c:=by
 intro T A B ca cb w hT hI hA hca hB hcb
 obtain⟨i0,hi,hz0,hz1,hz2⟩:=info_parts Tryz.infoE;obtain⟨v,o⟩:=c;have ht:=hm.t;have hv:=aj ht.v
 have hs1:1<=m.t.s:=by omega
 have hs6:m.t.s<=6:=by omega
 have hh24:m.t.h<=24:=by omega
 have hc15:m.t.c<=15:=by omega
 obtain⟨hq1,hq36,_⟩:=sq_bd hs1 hs6;have hcv:1<=v/\v<=1024/\0<=o/\o<=2:=hc.v1 hm.k;have hlow:=hI.ltS;have HLOW:=h_ hlow;have HSUB:=h_ hI.sub
 have HNS:Hid (∀j,¬m.S (w.heap.size+j)):=fun j h=>by have:=hlow _ h;omega
 have HMB:=hI.ltB;have HMBh:=h_ HMB
 have hb0:Below w.heap.size w (((w.alloc (.cells #[.int .i64 v,.int .i64 o] 55)).alloc (.cells #[.int .i64 0,.int .i64 0] 35)).alloc (.cells #[.int .i64 m.t.p,.int .i64 m.t.c,.int .i64 m.t.h,.int .i64 m.t.s] 25)):=(((Below.refl _ _).alloc (Nat.le_refl _) _).alloc (by simp) _).alloc (by simp;omega) _
 have HF:Hid (FrS m.S w (((w.alloc (.cells #[.int .i64 v,.int .i64 o] 55)).alloc (.cells #[.int .i64 0,.int .i64 0] 35)).alloc (.cells #[.int .i64 m.t.p,.int .i64 m.t.c,.int .i64 m.t.h,.int .i64 m.t.s] 25)) [[.int .i64 v,.int .i64 o],[.int .i64 0,.int .i64 0],[.int .i64 m.t.p,.int .i64 m.t.c,.int .i64 m.t.h,.int .i64 m.t.s]]):=(((FrS.start w hlow).allocT (by simp) _ _).allocT (by simp) _ _).allocT (by simp) _ _
 have HI:=h_ ((hI.wide 3).below hb0);have HA:=h_ ((hA.wide 3).below hb0);have HB:=h_ ((hB.wide 3).below hb0)
 have HAW:=h_ (hA.set (S':=fun k=>T k\/w.heap.size<=k) fun k hk=>hk)
 have HBW:=h_ (hB.set (S':=fun k=>T k\/w.heap.size<=k) fun k hk=>hk)
 have HT:=h_ hT;have HQ:=h_ hq;have HQ2:=h_ hq2;have HC:=h_ hc;have HM:=h_ hm;have HROL:Hid (rol m.t.s m.ru own other (v,o)=(allS (mroll m.t.s m.ru own other (v,o)) (ad m.t.s)).bind (meanE (sq m.t.s) (ad m.t.s))):=rol_eq _ hq hq2 hs0
 have HVAL:Hid (∀r x,mroll m.t.s m.ru own other (v,o) r=some x->Val (sq m.t.s) x):=mroll_val hq1 (by show -100000<=v;omega) (by show v<=100000;omega)
 have HR:=h_ ht.r
 have hnr21:m.t.nr<=21:=by rw[<- ht.r];exact ch hs6
 have CBEST:Hid (∀(k a b:Nat),k<m.t.nr->(ad m.t.s).getD k (0,0)=(a,b)->BstC m own other (v,o) k a b):=fun k a b hk hab=>by
  have hr:=bJ.1 (ao (ad m.t.s) (0,0) (k:=k) (by rw[ht.r];exact hk))
  rw[hab]at hr;obtain⟨r1,r2,r3⟩:=hr
  simp only at r1 r2 r3
  exact mbest_any m hm hq hs0 hc k a b hk hab fun q hqm=>heq q (aN (by omega) r1 hq q hqm).1 ((aN (by omega) r1 hq q hqm).2.2 hs0)
 have MEAN:=h_ fun (W:World) (A:Option Addr) (c0:Nat) (xs:List E) (hx:EL (fun _=>False) W A m.t.nr xs) (hval:∀x∈xs,Val (sq m.t.s) x)=>kw m.t.p m.t.c m.t.h m.t.s m.t.nr c0 A xs W ht.v hx ht.r hval
 have CN1:=h_ fun (W:World) (hx:SL W A m.t.h own)=>cy m.t.p m.t.s m.t.c m.t.h A m.t.h ca own W hx hq hc15 hh24
 have CN2:=h_ fun (W:World) (hx:SL W B m.t.h other)=>cy m.t.p m.t.s m.t.c m.t.h B m.t.h cb other W hx hq2 hc15 hh24
 have HKO:Hid (Go.keyOf Tryz.prog 208 (mkV (num m.t.c own:Nat) (num m.t.c other:Nat) (v,o))=some (m.key own other (v,o))):=MT.keyOf_ok hm hq hq2 hc;have HKU:Hid (m.key own other (v,o)∈keysM m.t.N):=mem_keysM (dj hq) (dj hq2) hm.k hc;have HKL:=h_ (keysM_len hm.n);have e0:=(hI.wide 3).tb 0 _ rfl;have r0:=(hI.wide 3).ra.tb 0 _ rfl;have r1:=(hI.wide 3).ra.tb 1 _ rfl;have r2:=(hI.wide 3).ra.tb 2 _ rfl;have r3:=(hI.wide 3).ra.tb 3 _ rfl;have hbt:=hI.ra.ltB;clear hT hI hA hB hv hm hc heq hb0 hlow hq hq2 hs0 ht;generalize hTT:ownT T w 3=T' at *;replace hTT:=h_ hTT;have HTT:=hTT;have HTS:Hid (∀k,m.S k->T' k):=HI.out.sub;clear hTT;generalize hna:num m.t.c own=na at *;generalize hnb:num m.t.c other=nb at *;clear hna hnb
 go_enter Tryz.func110,Tryz.ntmps110
 go_wp2_with (fail)
 clear e0 r0 r1 r2 r3 hbt HMB;generalize ((w.alloc (.cells #[.int .i64 v,.int .i64 o] 55)).alloc (.cells #[.int .i64 0,.int .i64 0] 35)).alloc (.cells #[.int .i64 m.t.p,.int .i64 m.t.c,.int .i64 m.t.h,.int .i64 m.t.s] 25)=W0 at *
 have HW0:Hid (∀W,Below W0.heap.size W0 W->FrS m.S w W [[.int .i64 v,.int .i64 o],[.int .i64 0,.int .i64 0],[.int .i64 m.t.p,.int .i64 m.t.c,.int .i64 m.t.h,.int .i64 m.t.s]]):=fun W hb=>HF.out.below hb
 have HA0:=HA;have HB0:=HB
 refine cd 9 (fun i=>if i=8 then 11 else i+28) (keyG m A B ca cb v o na nb) (by kernel_rfl) (by kernel_rfl) (fun _ _ _ _ _ h=>h) keyG_stab ?_ ?_
 ·intro i op hi ho a' W hb hfar hdep
  have e1:a'.tmps.getD 1 undef = .slice A m.t.h ca:=(hfar 1 (by decide)).trans rfl
  have e2:a'.tmps.getD 2 undef = .slice B m.t.h cb:=(hfar 2 (by decide)).trans rfl
  have e7:a'.tmps.getD 7 undef = .pointer (some ⟨w.heap.size,0,none⟩):=(hfar 7 (by decide)).trans rfl
  have e10:a'.tmps.getD 10 undef = .pointer (some ⟨w.heap.size+1+1,0,none⟩):=(hfar 10 (by decide)).trans rfl
  have HFh:=h_ (HW0.out W hb);obtain⟨z0,c00,f00,c01,f01,z1,c10,f10,c11,f11,z2,c20,f20,c21,f21,c22,f22,c23,f23⟩:=HFh.out.xf6
  have hi9:i=0\/i=1\/i=2\/i=3\/i=4\/i=5\/i=6\/i=7\/i=8:=by omega
  rcases hi9 with rfl|rfl|rfl|rfl|rfl|rfl|rfl|rfl|rfl
  all_goals
   simp at ho
   subst ho
  ·refine .inl ⟨.agg #[.int .i64 m.t.p,.int .i64 m.t.c,.int .i64 m.t.h,.int .i64 m.t.s],W,?_,Below.refl _ _,rfl⟩
   simp only[execOp,Act.eval,e10]
   go_simp
  ·exact .inl ⟨.slice A m.t.h ca,W,by simp only[execOp,Act.eval,e1];go_simp,Below.refl _ _,rfl⟩
  ·obtain⟨_,_,d0⟩:=hdep 0 (by omega) (by kernel_rfl)
   obtain⟨_,_,d1⟩:=hdep 1 (by omega) (by kernel_rfl)
   replace d0:a'.tmps.getD 28 undef = .agg #[.int .i64 m.t.p,.int .i64 m.t.c,.int .i64 m.t.h,.int .i64 m.t.s]:=d0;replace d1:a'.tmps.getD 29 undef = .slice A m.t.h ca:=d1
   refine .inr ⟨169,#[.agg #[.int .i64 m.t.p,.int .i64 m.t.c,.int .i64 m.t.h,.int .i64 m.t.s],.slice A m.t.h ca],by simp only[execOp,Act.eval,d0,d1];go_simp,?_⟩
   refine (CN1.out W (HA0.out.1.below hb)).mono ?_
   rintro e W' ⟨rfl,hb'⟩
   exact⟨_,rfl,hb',rfl⟩
  ·refine .inl ⟨.agg #[.int .i64 m.t.p,.int .i64 m.t.c,.int .i64 m.t.h,.int .i64 m.t.s],W,?_,Below.refl _ _,rfl⟩
   simp only[execOp,Act.eval,e10]
   go_simp
  ·exact .inl ⟨.slice B m.t.h cb,W,by simp only[execOp,Act.eval,e2];go_simp,Below.refl _ _,rfl⟩
  ·obtain⟨_,_,d0⟩:=hdep 3 (by omega) (by kernel_rfl)
   obtain⟨_,_,d1⟩:=hdep 4 (by omega) (by kernel_rfl)
   replace d0:a'.tmps.getD 31 undef = .agg #[.int .i64 m.t.p,.int .i64 m.t.c,.int .i64 m.t.h,.int .i64 m.t.s]:=d0;replace d1:a'.tmps.getD 32 undef = .slice B m.t.h cb:=d1
   refine .inr ⟨169,#[.agg #[.int .i64 m.t.p,.int .i64 m.t.c,.int .i64 m.t.h,.int .i64 m.t.s],.slice B m.t.h cb],by simp only[execOp,Act.eval,d0,d1];go_simp,?_⟩
   refine (CN2.out W (HB0.out.1.below hb)).mono ?_
   rintro e W' ⟨rfl,hb'⟩
   exact⟨_,rfl,hb',rfl⟩
  ·refine .inl ⟨.agg #[.int .i64 v,.int .i64 o],W,?_,Below.refl _ _,rfl⟩
   simp only[execOp,Act.eval,e7]
   go_simp
  ·obtain⟨_,_,d0⟩:=hdep 2 (by omega) (by kernel_rfl)
   obtain⟨_,_,d1⟩:=hdep 5 (by omega) (by kernel_rfl)
   obtain⟨_,_,d2⟩:=hdep 6 (by omega) (by kernel_rfl)
   replace d0:a'.tmps.getD 30 undef = .int .i64 (na:Int):=d0;replace d1:a'.tmps.getD 33 undef = .int .i64 (nb:Int):=d1;replace d2:a'.tmps.getD 34 undef = .agg #[.int .i64 v,.int .i64 o]:=d2
   refine .inl ⟨mkV na nb (v,o),W,?_,Below.refl _ _,rfl⟩
   have t0:a'.tmps[30]?.getD undef = .int .i64 (na:Int):=by simpa using d0
   have t1:a'.tmps[33]?.getD undef = .int .i64 (nb:Int):=by simpa using d1
   have t2:a'.tmps[34]?.getD undef = .agg #[.int .i64 v,.int .i64 o]:=by simpa using d2
   simp only[execOp,Act.eval,mkV]
   go_simp
  ·refine .inl ⟨.pointer (some ⟨W.heap.size,0,none⟩),W.alloc (.cells #[.int .i64 0,.int .i64 0,.int .i64 0,.int .i64 0] 208),by kernel_rfl,(Below.refl _ _).alloc (Nat.le_refl _) _,rfl,by simp,KC.new _ _ _ _ _ _,fun j hj=>?_⟩
   have:j=0\/j=1\/j=2\/j=3:=by omega
   rcases this with rfl|rfl|rfl|rfl<;>simp[go_sem]
 ·intro u W lo hh hb hg hd
  have g0:u 0 = .agg #[.int .i64 m.t.p,.int .i64 m.t.c,.int .i64 m.t.h,.int .i64 m.t.s]:=(hg 0 (by omega)).1
  have g1:u 1 = .slice A m.t.h ca:=(hg 1 (by omega)).1
  have g2:u 2 = .int .i64 (na:Int):=(hg 2 (by omega)).1
  have g3:u 3 = .agg #[.int .i64 m.t.p,.int .i64 m.t.c,.int .i64 m.t.h,.int .i64 m.t.s]:=(hg 3 (by omega)).1
  have g4:u 4 = .slice B m.t.h cb:=(hg 4 (by omega)).1
  have g5:u 5 = .int .i64 (nb:Int):=(hg 5 (by omega)).1
  have g6:u 6 = .agg #[.int .i64 v,.int .i64 o]:=(hg 6 (by omega)).1
  have g7:u 7=mkV na nb (v,o):=(hg 7 (by omega)).1
  obtain⟨g8,l8,k8,f8⟩:keyG m A B ca cb v o na nb 8 (u 8) (lo 8) (hh 8) W:=(hg 8 (by omega)).1
  have hbk:W0.heap.size<=lo 8:=(hg 8 (by omega)).2.1
  clear hg hd;obtain⟨b3,hb3⟩:∃b3,b3=lo 8:=⟨_,rfl⟩;rw[<- hb3]at g8 l8 k8 f8 hbk
  have f80:=f8 0 (by omega)
  have f81:=f8 1 (by omega)
  have f82:=f8 2 (by omega)
  have f83:=f8 3 (by omega)
  have k80:=k8.c0;have k81:=k8.c1;have k82:=k8.c2;have k83:=k8.c3;have k8z:=k8.lt
  simp only[List.drop_succ_cons,List.drop_zero,putV,g0,g1,g2,g3,g4,g5,g6,g7,g8,Act.put,mkV]
  clear g0 g1 g2 g3 g4 g5 g6 g7 g8 hb3 f8 CN1 CN2 HW0
  go_wp2_with (fail)
  clear k80 k81 k82 k83 k8z f80 f81 f82 f83
  have hbk3:w.heap.size+3<=b3:=by have:=HF.out.z;simp at this;omega
  have hz0W:W0.heap.size<=W.heap.size:=hb.size
  have HK:Hid (KC ((((W.setCell ⟨b3,0,none⟩ (.int .i64 (na:Int))).setCell ⟨b3,1,none⟩ (.int .i64 (nb:Int))).setCell ⟨b3,2,none⟩ (.int .i64 v)).setCell ⟨b3,3,none⟩ (.int .i64 o)) b3 na nb v o):=by
   have k80:=k8.c0;have k81:=k8.c1;have k82:=k8.c2;have k83:=k8.c3
   refine⟨?_,?_,?_,?_⟩<;>simp[go_sem,k80,k81,k82,k83]
  have hfs:Frm (fun k=>k=b3) W ((((W.setCell ⟨b3,0,none⟩ (.int .i64 (na:Int))).setCell ⟨b3,1,none⟩ (.int .i64 (nb:Int))).setCell ⟨b3,2,none⟩ (.int .i64 v)).setCell ⟨b3,3,none⟩ (.int .i64 o)):=(((Frm.set _ _ _ _).trans (Frm.set _ _ _ _)).trans (Frm.set _ _ _ _)).trans (Frm.set _ _ _ _)
  generalize (((W.setCell ⟨b3,0,none⟩ (.int .i64 (na:Int))).setCell ⟨b3,1,none⟩ (.int .i64 (nb:Int))).setCell ⟨b3,2,none⟩ (.int .i64 v)).setCell ⟨b3,3,none⟩ (.int .i64 o)=W2 at *
  have hbS:¬m.S b3:=fun h=>by have:=HLOW.out _ h;omega
  replace HF:=h_ ((HF.out.below hb).out hfs fun k hk=>by rw[hk];exact hbk3)
  have hwide:∀k,(T' k\/k=b3)->T' k\/W0.heap.size<=k:=fun k hk=>hk.imp id fun h=>by rw[h];exact hbk
  replace HI:=h_ ((((HI.out.set (T':=fun k=>T' k\/k=b3) hwide fun k hk=>.inl (HTS.out k hk)).below hb).own hfs (fun k hk=>.inr hk) fun k hk=>by rw[hk];exact hbS).less (T':=T') (fun k hk=>.inl hk) HTS.out)
  replace HA:=h_ ((((HA.out.set (S':=fun k=>T' k\/k=b3) hwide).below hb).frm (hfs.mono fun k hk=>.inr hk)).less (T':=T') fun k hk=>.inl hk)
  replace HB:=h_ ((((HB.out.set (S':=fun k=>T' k\/k=b3) hwide).below hb).frm (hfs.mono fun k hk=>.inr hk)).less (T':=T') fun k hk=>.inl hk)
  clear hwide hfs k8 hb hbk HA0 HB0 l8 hz0W;obtain⟨g1,g2,hm⟩:=HI.out.maps;have HMM:=h_ hm;clear hm
  obtain⟨zn,zd,ub,hlook,hcase⟩:∃(zn zd:Int) (ub:Bool),Hid (∀W,Below W2.heap.size W2 W->(Instr.lookup 200 (.map (some m.m1)) (mkV na nb (v,o)) true).run Tryz.prog W = .ok (.tuple #[.agg #[.int .i64 zn,.int .i64 zd],.bool ub]) W)/\
    Hid ((ub=false/\zn=0/\zd=0)\/(ub=true/\exV (rol m.t.s m.ru own other (v,o)) = .agg #[.int .i64 zn,.int .i64 zd]/\g2 (m.key own other (v,o))=some (.bool (rol m.t.s m.ru own other (v,o)).isNone))):=by
   have hlook:∀W,Below W2.heap.size W2 W->(Instr.lookup 200 (.map (some m.m1)) (mkV na nb (v,o)) true).run Tryz.prog W = .ok (.tuple #[(g1 (m.key own other (v,o))).getD (.agg #[.int .i64 0,.int .i64 0]),.bool (g1 (m.key own other (v,o))).isSome]) W:=fun W hb=>
    (HMM.out.1.below hb).look_ok keyM Tryz.underlying200 (z:=.agg #[.int .i64 0,.int .i64 0]) (by kernel_rfl) HKO.out
   rcases hg:g1 (m.key own other (v,o)) with _|u
   ·rw[hg]at hlook
    exact⟨0,0,false,hlook,.inl ⟨rfl,rfl,rfl⟩⟩
   ·rw[hg]at hlook
    obtain⟨h1,h2⟩:=HMM.out.2.2 own other (v,o) HQ.out HQ2.out HC.out u hg
    rcases hr:rol m.t.s m.ru own other (v,o) with _|⟨n,d⟩
    ·rw[hr]at h1 h2
     subst h1
     exact⟨0,0,true,hlook,.inr ⟨rfl,rfl,h2⟩⟩
    ·rw[hr]at h1 h2
     subst h1
     exact⟨n,d,true,hlook,.inr ⟨rfl,rfl,h2⟩⟩
  have HI2:=HI;have HK2:=HK
  refine jm 10 (fun i=>i == 8) (fun i=>if i=9 then 12 else if i=6 then 36 else if 6<i then i+36 else i+37) (lookG m na nb v o zn zd ub) (by kernel_rfl) (by kernel_rfl) (fun _ _ _ _ _ h=>h) lookG_stab ?_ ?_ ?_
  ·intro i op hi hX ho a' W hb hfar hdep
   have hi8:i=8:=by simpa using hX
   subst hi8
   simp at ho
   subst ho
   obtain⟨_,_,d0⟩:=hdep 6 (by omega) (by kernel_rfl)
   replace d0:a'.tmps.getD 36 undef = .tuple #[.agg #[.int .i64 zn,.int .i64 zd],.bool ub]:=d0
   exact⟨.bool ub,fun W'=>by simp only[execOp,Act.eval,d0];go_simp,rfl⟩
  ·intro i op hi hX ho a' W hb hfar hdep
   have e0:a'.tmps.getD 0 undef = .pointer (some ⟨m.bm,0,none⟩):=(hfar 0 (by decide)).trans rfl
   have e11:a'.tmps.getD 11 undef = .pointer (some ⟨b3,0,none⟩):=(hfar 11 (by decide)).trans rfl
   have kk:=HK2.out.below hb;have q0:=kk.c0;have q1:=kk.c1;have q2:=kk.c2;have q3:=kk.c3;have qz:=kk.lt;have m2:=(HI2.out.below hb).tb 4 _ rfl
   have hi9:i=0\/i=1\/i=2\/i=3\/i=4\/i=5\/i=6\/i=7\/i=9:=by simp at hX;omega
   clear hX kk
   rcases hi9 with rfl|rfl|rfl|rfl|rfl|rfl|rfl|rfl|rfl
   all_goals
    simp at ho
    subst ho
   ·exact .inl ⟨_,W,by simp only[execOp,Act.eval,e0];go_simp,Below.refl _ _,rfl⟩
   ·obtain⟨_,_,d0⟩:=hdep 0 (by omega) (by kernel_rfl)
    replace d0:a'.tmps.getD 37 undef = .pointer (some ⟨m.bm,0,none⟩):=d0
    exact .inl ⟨.pointer (some ⟨m.bm,0,none⟩),W,by simp only[execOp,Act.eval,d0];go_simp,Below.refl _ _,rfl⟩
   ·obtain⟨_,_,d0⟩:=hdep 1 (by omega) (by kernel_rfl)
    replace d0:a'.tmps.getD 38 undef = .pointer (some ⟨m.bm,0,none⟩):=d0
    exact .inl ⟨.pointer (some ⟨m.bm,4,none⟩),W,by simp only[execOp,Act.eval,d0];go_simp,Below.refl _ _,rfl⟩
   ·obtain⟨_,_,d0⟩:=hdep 2 (by omega) (by kernel_rfl)
    replace d0:a'.tmps.getD 39 undef = .pointer (some ⟨m.bm,4,none⟩):=d0
    exact .inl ⟨.map (some m.m1),W,by simp only[execOp,Act.eval,d0];go_simp,Below.refl _ _,rfl⟩
   ·exact .inl ⟨mkV na nb (v,o),W,by simp only[execOp,Act.eval,e11,mkV];go_simp,Below.refl _ _,rfl⟩
   ·obtain⟨_,_,d0⟩:=hdep 3 (by omega) (by kernel_rfl)
    obtain⟨_,_,d1⟩:=hdep 4 (by omega) (by kernel_rfl)
    replace d0:a'.tmps.getD 40 undef = .map (some m.m1):=d0;replace d1:a'.tmps.getD 41 undef=mkV na nb (v,o):=d1;have hl:=hlook.out W hb
    exact .inl ⟨_,W,by simp only[execOp,Act.eval,d0,d1];go_simp,Below.refl _ _,rfl⟩
   ·obtain⟨_,_,d0⟩:=hdep 5 (by omega) (by kernel_rfl)
    replace d0:a'.tmps.getD 42 undef = .tuple #[.agg #[.int .i64 zn,.int .i64 zd],.bool ub]:=d0
    exact .inl ⟨_,W,by simp only[execOp,Act.eval,d0];go_simp,Below.refl _ _,rfl⟩
   ·obtain⟨_,_,d0⟩:=hdep 6 (by omega) (by kernel_rfl)
    replace d0:a'.tmps.getD 36 undef = .tuple #[.agg #[.int .i64 zn,.int .i64 zd],.bool ub]:=d0
    exact .inl ⟨.agg #[.int .i64 zn,.int .i64 zd],W,by simp only[execOp,Act.eval,d0];go_simp,Below.refl _ _,rfl⟩
   ·refine .inl ⟨.pointer (some ⟨W.heap.size,0,none⟩),W.alloc (.cells #[.int .i64 0,.int .i64 0] 35),by kernel_rfl,(Below.refl _ _).alloc (Nat.le_refl _) _,rfl,by simp,⟨by simp[go_sem],by simp[go_sem]⟩,fun j hj=>?_⟩
    have:j=0\/j=1:=by omega
    rcases this with rfl|rfl<;>simp[go_sem]
  ·intro u W lo hh hb hg hd
   have g0:u 0 = .pointer (some ⟨m.bm,0,none⟩):=(hg 0 (by omega)).1
   have g1':u 1 = .pointer (some ⟨m.bm,0,none⟩):=(hg 1 (by omega)).1
   have g2':u 2 = .pointer (some ⟨m.bm,4,none⟩):=(hg 2 (by omega)).1
   have g3:u 3 = .map (some m.m1):=(hg 3 (by omega)).1
   have g4:u 4=mkV na nb (v,o):=(hg 4 (by omega)).1
   have g5:u 5 = .tuple #[.agg #[.int .i64 zn,.int .i64 zd],.bool ub]:=(hg 5 (by omega)).1
   have g6:u 6 = .tuple #[.agg #[.int .i64 zn,.int .i64 zd],.bool ub]:=(hg 6 (by omega)).1
   have g7:u 7 = .agg #[.int .i64 zn,.int .i64 zd]:=(hg 7 (by omega)).1
   have g8:u 8 = .bool ub:=(hg 8 (by omega)).1
   obtain⟨g9,l9,⟨k90,k91⟩,f9⟩:lookG m na nb v o zn zd ub 9 (u 9) (lo 9) (hh 9) W:=(hg 9 (by omega)).1
   have hbx:W2.heap.size<=lo 9:=(hg 9 (by omega)).2.1
   clear hg hd;obtain⟨b4,hb4⟩:∃b4,b4=lo 9:=⟨_,rfl⟩;rw[<- hb4]at g9 l9 k90 k91 f9 hbx
   have f90:=f9 0 (by omega)
   have f91:=f9 1 (by omega)
   have k9z:=World.block_lt_of_cell? W _ k90
   simp only[List.drop_succ_cons,List.drop_zero,putV,g0,g1',g2',g3,g4,g5,g6,g7,g8,g9,Act.put,mkV]
   clear g0 g1' g2' g3 g4 g5 g6 g7 g8 g9 hb4 f9 HI2 HK2
   have hb4S:¬m.S b4:=fun h=>by have:=HLOW.out _ h;have:=HF.out.z;simp at this;omega
   have hbk4:w.heap.size+3<=b4:=by have:=HF.out.z;simp at this;omega
   have hn34:b3≠b4:=by have:=HK.out.lt;omega
   have HFw:=h_ (HF.out.below hb)
   have hwide:∀k,(T' k\/k=b4)->T' k\/W2.heap.size<=k:=fun k hk=>hk.imp id fun h=>by rw[h];exact hbx
   have hfs:Frm (fun k=>k=b4) W ((W.setCell ⟨b4,0,none⟩ (.int .i64 zn)).setCell ⟨b4,1,none⟩ (.int .i64 zd)):=(Frm.set _ _ _ _).trans (Frm.set _ _ _ _)
   have HIw:=h_ (HI.out.below hb)
   have HI4:=h_ ((((HI.out.set (T':=fun k=>T' k\/k=b4) hwide fun k hk=>.inl (HTS.out k hk)).below hb).own hfs (fun k hk=>.inr hk) fun k hk=>by rw[hk];exact hb4S).less (T':=T') (fun k hk=>.inl hk) HTS.out)
   have HF4:=h_ ((HF.out.below hb).out hfs fun k hk=>by rw[hk];exact hbk4)
   have HK4:=h_ ((HK.out.below hb).frm hfs fun h=>hn34 h)
   have hl2:Frm m.S W2 ((W.setCell ⟨b4,0,none⟩ (.int .i64 zn)).setCell ⟨b4,1,none⟩ (.int .i64 zd)):=(Frm.of_below' _ hb).outs hfs fun k hk=>by rw[hk];exact hbx
   clear hl2
   have HM2:=h_ ((HMM.out.2.1.below hb).frm hfs fun h=>hb4S (by rw[<- h];exact .inr (.inr rfl)))
   have x0:=HIw.out.tb 0 _ rfl;have x1:=HIw.out.ra.tb 5 _ rfl;have y1:=HIw.out.ltB;have y2:=HIw.out.ra.ltB
   have n1:¬m.bm=b4:=fun h=>by have:=HI.out.ltB;omega
   have n2:¬b4=m.bm:=fun h=>n1 h.symm
   have n3:¬m.t.bt=b4:=fun h=>by have:=HI.out.ra.ltB;omega
   have n4:¬b4=m.t.bt:=fun h=>n3 h.symm
   have hzb4:b4<W.heap.size:=k9z;have HB3:=h_ hbk3;clear hwide hfs HF HI HK hb hbx hn34 hbk3 l9
   cases ub
   ·clear hcase
    go_wp2_with (fail)
    clear x0 x1 y1 y2 n1 n2 n3 n4 k90 k91 f90 f91 k9z;clear HA HB hlook HMM HM2 HIw HFw;generalize (W.setCell ⟨b4,0,none⟩ (.int .i64 zn)).setCell ⟨b4,1,none⟩ (.int .i64 zd)=W4 at *
    have hz4:w.heap.size+3<=W4.heap.size:=by have:=HF4.out.z;simpa using this
    have HTN:Hid (∀(W:World) (u:Value) (xs:List E),W4.heap.size<=W.heap.size->OwnE W W4.heap.size u xs->∀k,W.heap.size<=k->¬wth T' u k):=fun W u xs hz ho k hk=>by
     rintro (h|h)
     ·rw[<- HTT.out]at h;exact dW HT.out (Nat.le_trans hz4 hz) k hk h
     ·have:=(World.ownsRow.lt ho k h).2;omega
    have hsl:∀j,m.S j->j<W4.heap.size:=fun j hj=>by have:=HLOW.out j hj;omega
    have HSL:=h_ hsl;clear hsl
    go_loopw [14,15,62] (fun v14 v15 v62 wr=>∃(k:Nat) (xs:List E),k<=m.t.nr/\v62 = .int .i64 k/\v15 = .bool true/\Hid (allS (mroll m.t.s m.ru own other (v,o)) ((ad m.t.s).take k)=some xs/\xs.length=k)/\(∃vx,vx=v14/\Hid (OwnE wr W4.heap.size vx xs/\MonI m (wth T' vx) wr))/\Hid (Frm m.S W4 wr)) (fun _ _ v62 _=>m.t.nr-(intOf v62).toNat)
    case atStart=>exact⟨0,[],by omega,rfl,rfl,⟨rfl,rfl⟩,⟨_,rfl,World.ownsRow_nil _ _ _ _,HI4.out.less (fun k hk=>hk.elim id fun h=>by cases h) fun k hk=>.inl (HTS.out k hk)⟩,Frm.refl _ _⟩
    case round=>
     obtain⟨k,xs,hk,rfl,rfl,hxs,⟨vx,rfl,hOI⟩,HFW⟩:=hrel;have HI:=h_ hOI.out.2;have HO:=h_ hOI.out.1;have HF:=h_ (HF4.out.frm HFW.out);have HK:=h_ (HK4.out.frm HFW.out hbS);clear hOI;have hxk:=hxs.out.2;have HXK:=h_ hxk;clear hxk;have hzr:W4.heap.size<=wr.heap.size:=HFW.out.size
     by_cases hlt:k<m.t.nr
     focus
      have hki:(k:Int)<(m.t.nr:Int):=by omega
      have hUU:∀j,wth T' vx j->T j\/w.heap.size<=j:=fun j hj=>by
       rcases hj with h|h
       ·rw[<- HTT.out]at h
        exact h.imp id fun h=>h.1
       ·have:=(World.ownsRow.lt HO.out j h).1;omega
      have hfu:Frm (fun k=>T k\/w.heap.size<=k) w wr:=HF.out.f.mono fun k hk=>.inl (HSUB.out k hk)
      have HLK:Hid (k<(ad m.t.s).length):=by unfold Hid;rw[HR.out];exact hlt
      have HNR:Hid (∀j,some j=vx.ownBlock->¬m.S j):=fun j hj h=>by
       have:=(World.ownsRow.lt HO.out j hj.symm).1;have:=HSL.out j h
       omega
      rcases hab:(ad m.t.s).getD k (0,0) with⟨a,b⟩
      have CB:=h_ (CBEST.out k a b hlt hab (wth T' vx) A B ca cb wr (HTN.out wr vx xs hzr HO.out) HI.out ((HAW.out.frm hfu).less hUU) hca ((HBW.out.frm hfu).less hUU) hcb)
      rcases hbs:bestS (sq m.t.s) (neqv m.t.s m.ru other (v,o)) (resultsL own a b) with _|⟨cnt,at',⟨xn,xd⟩⟩
      focus
       have HRE:Hid (rol m.t.s m.ru own other (v,o)=none):=by
        unfold Hid
        rw[HROL.out,allS_stop HLK.out hxs.out.1 (by rw[hab,gI,hbs];rfl)];rfl
       rw[hbs]at CB;clear hab hbs hfu hUU hi;obtain⟨z0,c00,f00,c01,f01,z1,c10,f10,c11,f11,z2,c20,f20,c21,f21,c22,f22,c23,f23⟩:=HF.out.xf6
       refine ?zi
      rotate_left
      focus
       have HXS:Hid (allS (mroll m.t.s m.ru own other (v,o)) ((ad m.t.s).take (k+1))=some (xs++[⟨xn,xd⟩])):=allS_go HLK.out hxs.out.1 (by rw[hab,gI,hbs];rfl)
       rw[hbs]at CB;clear hab hbs hfu hUU;obtain⟨z0,c00,f00,c01,f01,z1,c10,f10,c11,f11,z2,c20,f20,c21,f21,c22,f22,c23,f23⟩:=HF.out.xf6
       refine ?zj
     rotate_left 2
     focus
      have hke:k=m.t.nr:=by omega
      have HALL:Hid (allS (mroll m.t.s m.ru own other (v,o)) (ad m.t.s)=some xs):=by
       have h:=hxs.out.1
       rwa [List.take_of_length_le (by rw[HR.out];omega)]at h
      have HRE0:Hid (rol m.t.s m.ru own other (v,o)=meanE (sq m.t.s) (ad m.t.s) xs):=by
       unfold Hid
       rw[HROL.out,HALL.out];rfl
      obtain⟨Av,cv,hvx,hel,_⟩:=HO.out.el
      have hxl:xs.length=m.t.nr:=by rw[HXK.out,hke]
      rw[hxl]at hvx hel
      have hel2:EL (fun _=>False) (wr.alloc (.cells #[.int .i64 0,.int .i64 0] 35)) Av m.t.nr xs:=⟨hel.1,hel.2.frm ((Frm.refl _ _).alloc _)⟩
      have MEAN2:=h_ (MEAN.out _ Av cv xs hel2 (allS_val HVAL.out HALL.out));subst hvx;replace HF:=h_ (HF.out.alloc (.cells #[.int .i64 0,.int .i64 0] 35))
      have HIr:=h_ (HI.out.less (T':=T') (fun k hk=>.inl hk) HTS.out)
      clear HI;replace HK:=h_ (HK.out.below ((Below.refl _ _).alloc (Nat.le_refl _) (.cells #[.int .i64 0,.int .i64 0] 35)))
      have c50:(wr.alloc (.cells #[.int .i64 0,.int .i64 0] 35)).cell? ⟨wr.heap.size,0,none⟩=some (.int .i64 0):=by simp[go_sem]
      have c51:(wr.alloc (.cells #[.int .i64 0,.int .i64 0] 35)).cell? ⟨wr.heap.size,1,none⟩=some (.int .i64 0):=by simp[go_sem]
      have f50:(wr.alloc (.cells #[.int .i64 0,.int .i64 0] 35)).frozen? ⟨wr.heap.size,0,none⟩=false:=by simp[go_sem]
      have f51:(wr.alloc (.cells #[.int .i64 0,.int .i64 0] 35)).frozen? ⟨wr.heap.size,1,none⟩=false:=by simp[go_sem]
      have hb5:¬m.S wr.heap.size:=fun h=>by have:=HSL.out _ h;omega
      clear hel hxl HO hxs hel2 hi HALL;generalize meanE (sq m.t.s) (ad m.t.s) xs=om at *;obtain⟨z0,c00,f00,c01,f01,z1,c10,f10,c11,f11,z2,c20,f20,c21,f21,c22,f22,c23,f23⟩:=HF.out.xf6
      refine ?zh
     rotate_left
     case' zh|zi|zj=>
      go_wp2_with (fail)
      clear z0 c00 f00 c01 f01 z1 c10 f10 c11 f11 z2 c20 f20 c21 f21 c22 f22 c23 f23
     case' zh=>
      rcases om with _|⟨mn,md⟩
      focus
       refine ?zf
      rotate_left
      focus
       refine ?zg
     case' zf|zg=>
      have HRE:=HRE0
      refine MEAN2.out.mono ?_
      rintro e w5 ⟨rfl,hbm5⟩
      simp only[Option.getD_none,Option.isSome_none,Option.getD_some,Option.isSome_some]
      have c5z:=World.block_lt_of_cell? _ _ c50;replace f50:=(hbm5.frozen (p:=⟨wr.heap.size,0,none⟩) c5z).trans f50;replace f51:=(hbm5.frozen (p:=⟨wr.heap.size,1,none⟩) c5z).trans f51;replace c50:=keep_cell c50 hbm5;replace c51:=keep_cell c51 hbm5;replace c5z:=World.block_lt_of_cell? _ _ c50
      go_wp2_with (fail)
     case' zf=>
      have hfs:Frm (fun k=>k=wr.heap.size) w5 ((w5.setCell ⟨wr.heap.size,0,none⟩ (.int .i64 (0))).setCell ⟨wr.heap.size,1,none⟩ (.int .i64 (0))):=(Frm.set _ _ _ _).trans (Frm.set _ _ _ _)
     case' zg=>
      have hfs:Frm (fun k=>k=wr.heap.size) w5 ((w5.setCell ⟨wr.heap.size,0,none⟩ (.int .i64 (mn))).setCell ⟨wr.heap.size,1,none⟩ (.int .i64 ((md:Int)))):=(Frm.set _ _ _ _).trans (Frm.set _ _ _ _)
     case' zf|zg=>
      have hwide:∀k,(T' k\/k=wr.heap.size)->T' k\/wr.heap.size<=k:=fun k hk=>hk.imp id fun h=>Nat.le_of_eq h.symm
      have HI:=h_ (((((HIr.out.set (T':=fun k=>T' k\/k=wr.heap.size) hwide fun k hk=>.inl (HTS.out k hk)).alloc _).below hbm5).own hfs (fun k hk=>.inr hk) fun k hk=>by rw[hk];exact hb5).less (T':=T') (fun k hk=>.inl hk) HTS.out)
      have hn5:w.heap.size+3<=wr.heap.size:=Nat.le_trans hz4 hzr
      replace HF:=h_ ((HF.out.below hbm5).out hfs fun k hk=>by rw[hk];exact hn5)
      have hb35:¬b3=wr.heap.size:=fun h=>by have:=HK4.out.lt;omega
      replace HK:=h_ ((HK.out.below hbm5).frm hfs hb35)
     case' zf=>
      have c50':((w5.setCell ⟨wr.heap.size,0,none⟩ (.int .i64 (0))).setCell ⟨wr.heap.size,1,none⟩ (.int .i64 (0))).cell? ⟨wr.heap.size,0,none⟩=some (.int .i64 (0)):=by simp[go_sem,c50,c51]
      have c51':((w5.setCell ⟨wr.heap.size,0,none⟩ (.int .i64 (0))).setCell ⟨wr.heap.size,1,none⟩ (.int .i64 (0))).cell? ⟨wr.heap.size,1,none⟩=some (.int .i64 (0)):=by simp[go_sem,c50,c51]
      clear hbm5 c50 c51 f50 f51 c5z hfs hwide HIr MEAN2;have c50:=c50';have c51:=c51';clear c50' c51';generalize (w5.setCell ⟨wr.heap.size,0,none⟩ (.int .i64 (0))).setCell ⟨wr.heap.size,1,none⟩ (.int .i64 (0))=X at *;have q0:=HK.out.c0;have q1:=HK.out.c1;have q2:=HK.out.c2;have q3:=HK.out.c3;have qz:=HK.out.lt;have e4:=HI.out.tb 4 _ rfl;have hbm:=HI.out.ltB;have c5z:=World.block_lt_of_cell? _ _ c50
     case' zg=>
      have c50':((w5.setCell ⟨wr.heap.size,0,none⟩ (.int .i64 (mn))).setCell ⟨wr.heap.size,1,none⟩ (.int .i64 ((md:Int)))).cell? ⟨wr.heap.size,0,none⟩=some (.int .i64 (mn)):=by simp[go_sem,c50,c51]
      have c51':((w5.setCell ⟨wr.heap.size,0,none⟩ (.int .i64 (mn))).setCell ⟨wr.heap.size,1,none⟩ (.int .i64 ((md:Int)))).cell? ⟨wr.heap.size,1,none⟩=some (.int .i64 ((md:Int))):=by simp[go_sem,c50,c51]
      clear hbm5 c50 c51 f50 f51 c5z hfs hwide HIr MEAN2;have c50:=c50';have c51:=c51';clear c50' c51';generalize (w5.setCell ⟨wr.heap.size,0,none⟩ (.int .i64 (mn))).setCell ⟨wr.heap.size,1,none⟩ (.int .i64 ((md:Int)))=X at *;have q0:=HK.out.c0;have q1:=HK.out.c1;have q2:=HK.out.c2;have q3:=HK.out.c3;have qz:=HK.out.lt;have e4:=HI.out.tb 4 _ rfl;have hbm:=HI.out.ltB;have c5z:=World.block_lt_of_cell? _ _ c50
     case' zi=>
      refine CB.out.mono ?_
      rintro e w2 ⟨hI2,hf2,rfl⟩
      replace HF:=h_ (((HF.out.frm hf2).alloc (.cells #[.int .i64 0,.int .i64 0] 35)).alloc (.cells #[.int .i64 0,.int .i64 0] 35))
      replace HI:=h_ (((hI2.less (T':=T') (fun k hk=>.inl hk) HTS.out).alloc (.cells #[.int .i64 0,.int .i64 0] 35)).alloc (.cells #[.int .i64 0,.int .i64 0] 35))
      replace HK:=h_ ((HK.out.frm hf2 hbS).below (((Below.refl _ _).alloc (Nat.le_refl _) (.cells #[.int .i64 0,.int .i64 0] 35)).alloc (by simp) (.cells #[.int .i64 0,.int .i64 0] 35)))
      have c50:((w2.alloc (.cells #[.int .i64 0,.int .i64 0] 35)).alloc (.cells #[.int .i64 0,.int .i64 0] 35)).cell? ⟨w2.heap.size+1,0,none⟩=some (.int .i64 0):=by simp[go_sem]
      have c51:((w2.alloc (.cells #[.int .i64 0,.int .i64 0] 35)).alloc (.cells #[.int .i64 0,.int .i64 0] 35)).cell? ⟨w2.heap.size+1,1,none⟩=some (.int .i64 0):=by simp[go_sem]
      have hb5:¬m.S (w2.heap.size+1):=fun h=>by have:=HSL.out _ h;have:=hf2.size;omega
      clear hI2 hf2 HO CB HFW;obtain⟨z0,c00,f00,c01,f01,z1,c10,f10,c11,f11,z2,c20,f20,c21,f21,c22,f22,c23,f23⟩:=HF.out.xf6
      go_wp2_with (fail)
      clear z0 c00 f00 c01 f01 z1 c10 f10 c11 f11 z2 c20 f20 c21 f21 c22 f22 c23 f23;generalize (w2.alloc (.cells #[.int .i64 0,.int .i64 0] 35)).alloc (.cells #[.int .i64 0,.int .i64 0] 35)=X at *;have q0:=HK.out.c0;have q1:=HK.out.c1;have q2:=HK.out.c2;have q3:=HK.out.c3;have qz:=HK.out.lt;have e4:=HI.out.tb 4 _ rfl;have hbm:=HI.out.ltB;have c5z:=World.block_lt_of_cell? _ _ c50
     case' zg|zf|zi=>
      first|refine ag 6 (by kernel_rfl) (by kernel_rfl) ?_|refine ah 6 (by kernel_rfl) (by kernel_rfl) ?_
      simp only[List.take_succ_cons,List.take_zero,List.drop_succ_cons,List.drop_zero]
      repeat (first|go_big_quiet_step (fail)|quiet_step (fail))
      refine wpQuiet_nil ?_
      intro _ hw'
     case' zg=>
      obtain⟨tr,hw''⟩:=hw';subst hw'';replace HF:=h_ (HF.out.more tr);replace HI:=h_ (HI.out.below (aa _ tr));replace HK:=h_ (HK.out.below (aa _ tr));replace c50:=keep_cell c50 (aa _ tr);replace c51:=keep_cell c51 (aa _ tr);clear q0 q1 q2 q3 qz e4 hbm c5z;generalize more X tr=Z at *;obtain⟨g1',g2',hm⟩:=HI.out.maps;obtain⟨Z1,hrun1,hst1,hg1⟩:=hm.1.store keyM Tryz.underlying200 HKL.out (key:=mkV na nb (v,o)) (val:=.agg #[.int .i64 (mn),.int .i64 ((md:Int))]) HKO.out HKU.out;have hrun1':(Instr.mapUpdate 200 (.map (some m.m1)) (.agg #[.int .i64 (na:Int),.int .i64 (nb:Int),.int .i64 v,.int .i64 o]) (.agg #[.int .i64 (mn),.int .i64 ((md:Int))])).run Tryz.prog Z = .ok () Z1:=hrun1;have hf1:Frm m.S Z Z1:=frm_M hg1 (.inr (.inl rfl))
     case' zf|zi=>
      obtain⟨tr,hw''⟩:=hw';subst hw'';replace HF:=h_ (HF.out.more tr);replace HI:=h_ (HI.out.below (aa _ tr));replace HK:=h_ (HK.out.below (aa _ tr));replace c50:=keep_cell c50 (aa _ tr);replace c51:=keep_cell c51 (aa _ tr);clear q0 q1 q2 q3 qz e4 hbm c5z;generalize more X tr=Z at *;obtain⟨g1',g2',hm⟩:=HI.out.maps;obtain⟨Z1,hrun1,hst1,hg1⟩:=hm.1.store keyM Tryz.underlying200 HKL.out (key:=mkV na nb (v,o)) (val:=.agg #[.int .i64 (0),.int .i64 (0)]) HKO.out HKU.out;have hrun1':(Instr.mapUpdate 200 (.map (some m.m1)) (.agg #[.int .i64 (na:Int),.int .i64 (nb:Int),.int .i64 v,.int .i64 o]) (.agg #[.int .i64 (0),.int .i64 (0)])).run Tryz.prog Z = .ok () Z1:=hrun1;have hf1:Frm m.S Z Z1:=frm_M hg1 (.inr (.inl rfl))
     case' zg|zf|zi=>
      have fm1:Frm (fun k=>k=m.m1) Z Z1:=(Frm.of_grown hg1).mono fun k hk=>by injection hk
      have hst1':MapV Tryz.prog 208 Z1 m.m1 (keysM m.t.N) (putF g1' (m.key own other (v,o)) (exV (rol m.t.s m.ru own other (v,o)))):=by rw[HRE.out];exact hst1
      have HF1:=h_ (HF.out.frm hf1);have HK1:=h_ (HK.out.frm hf1 hbS)
      have e5:=hf1.cell' (HI.out.tb 5 _ rfl) fun h=>HI.out.nt (HI.out.sub _ h)
      have hbm1:=Nat.lt_of_lt_of_le HI.out.ltB hf1.size;replace c50:=hf1.cell' c50 hb5;replace c51:=hf1.cell' c51 hb5;have hm2:=h_ (hm.2.1.frm fm1 (Ne.symm HI.out.d));have HMON:=h_ hm;have HST1:=h_ hst1';have HG1:=h_ hg1;have HF12:=h_ hf1;clear hm hst1 hst1' hrun1 hg1 fm1 hf1
      go_wp2_with (fail)
      clear hrun1';have q0:=HK1.out.c0;have q1:=HK1.out.c1;have q2:=HK1.out.c2;have q3:=HK1.out.c3;have qz:=HK1.out.lt
      first|refine ag 7 (by kernel_rfl) (by kernel_rfl) ?_|refine ah 7 (by kernel_rfl) (by kernel_rfl) ?_
      simp only[List.take_succ_cons,List.take_zero,List.drop_succ_cons,List.drop_zero]
      repeat (first|go_big_quiet_step (fail)|quiet_step (fail))
      refine wpQuiet_nil ?_
      intro _ hw'
     case' zg=>
      obtain⟨tr2,hw''⟩:=hw';subst hw'';have hmY:=hm2.out.below (aa _ tr2);obtain⟨Z2,hrun2,hst2,hg2⟩:=hmY.store keyM Tryz.underlying201 HKL.out (key:=mkV na nb (v,o)) (val:=.bool (false)) HKO.out HKU.out
     case' zf|zi=>
      obtain⟨tr2,hw''⟩:=hw';subst hw'';have hmY:=hm2.out.below (aa _ tr2);obtain⟨Z2,hrun2,hst2,hg2⟩:=hmY.store keyM Tryz.underlying201 HKL.out (key:=mkV na nb (v,o)) (val:=.bool (true)) HKO.out HKU.out
     case' zg|zf|zi=>
      have hst2':MapV Tryz.prog 208 Z2 m.m2 (keysM m.t.N) (putF g2' (m.key own other (v,o)) (.bool (rol m.t.s m.ru own other (v,o)).isNone)):=by rw[HRE.out];exact hst2
     case zg=>
      have hrun2':(Instr.mapUpdate 201 (.map (some m.m2)) (.agg #[.int .i64 (na:Int),.int .i64 (nb:Int),.int .i64 v,.int .i64 o]) (.bool (false))).run Tryz.prog (more Z1 tr2) = .ok () Z2:=hrun2;have HIf:Hid (MonI m T' Z2):=MonI.put' HM.out HI.out HMON.out HQ.out HQ2.out HC.out HST1.out HG1.out (aa _ tr2) hst2' hg2;have hf2:Frm m.S (more Z1 tr2) Z2:=frm_M hg2 (.inr (.inr rfl));have HFf:=h_ ((HF1.out.more tr2).frm hf2);have k50:=hf2.cell' (keep_cell c50 (aa _ tr2)) hb5;have k51:=hf2.cell' (keep_cell c51 (aa _ tr2)) hb5;have k5z:=World.block_lt_of_cell? _ _ k50;clear hmY hrun2 hst2 hst2' hg2 hf2 hm2 HF1 HK1 e5 hbm1 c50 c51 HMON HST1 HG1 HF12 q0 q1 q2 q3 qz HI HF HK;obtain⟨z0,c00,f00,c01,f01,z1,c10,f10,c11,f11,z2,c20,f20,c21,f21,c22,f22,c23,f23⟩:=HFf.out.xf6
      go_wp2_with (fail)
      refine bodyPost_ret (v:=.tuple #[.agg #[.int .i64 mn,.int .i64 (md:Int)],.bool true]) (by simp[results,Tryz.results110,go_sem,c10,c11,z1,f10,f11]) rfl (RetMo.mkY HRE.out ?_ ?_)
      ·refine MonI.less (T:=T') ?_ (fun k hk=>by rw[<- HTT.out];exact .inl hk) HSUB.out
       repeat (first|exact HIf.out|refine MonI.alloc ?_ _|refine MonI.stored ?_ _ (by rw[<- HTT.out];exact aG 1 rfl (by omega)) (HNS.out 1))
      ·repeat (first|exact HFf.out.f|refine Frm.alloc ?_ _|refine Frm.ownSet ?_ (by omega) _)
     case zf|zi=>
      have hrun2':(Instr.mapUpdate 201 (.map (some m.m2)) (.agg #[.int .i64 (na:Int),.int .i64 (nb:Int),.int .i64 v,.int .i64 o]) (.bool (true))).run Tryz.prog (more Z1 tr2) = .ok () Z2:=hrun2;have HIf:Hid (MonI m T' Z2):=MonI.put' HM.out HI.out HMON.out HQ.out HQ2.out HC.out HST1.out HG1.out (aa _ tr2) hst2' hg2;have hf2:Frm m.S (more Z1 tr2) Z2:=frm_M hg2 (.inr (.inr rfl));have HFf:=h_ ((HF1.out.more tr2).frm hf2);have k50:=hf2.cell' (keep_cell c50 (aa _ tr2)) hb5;have k51:=hf2.cell' (keep_cell c51 (aa _ tr2)) hb5;have k5z:=World.block_lt_of_cell? _ _ k50;clear hmY hrun2 hst2 hst2' hg2 hf2 hm2 HF1 HK1 e5 hbm1 c50 c51 HMON HST1 HG1 HF12 q0 q1 q2 q3 qz HI HF HK;obtain⟨z0,c00,f00,c01,f01,z1,c10,f10,c11,f11,z2,c20,f20,c21,f21,c22,f22,c23,f23⟩:=HFf.out.xf6
      go_wp2_with (fail)
      refine bodyPost_ret (v:=.tuple #[.agg #[.int .i64 0,.int .i64 0],.bool false]) (by simp[results,Tryz.results110,go_sem,c10,c11,z1,f10,f11]) rfl (RetMo.mkN HRE.out ?_ ?_)
      ·refine MonI.less (T:=T') ?_ (fun k hk=>by rw[<- HTT.out];exact .inl hk) HSUB.out
       repeat (first|exact HIf.out|refine MonI.alloc ?_ _|refine MonI.stored ?_ _ (by rw[<- HTT.out];exact aG 1 rfl (by omega)) (HNS.out 1))
      ·repeat (first|exact HFf.out.f|refine Frm.alloc ?_ _|refine Frm.ownSet ?_ (by omega) _)
     case zj=>
      refine CB.out.mono ?_
      rintro e w2 ⟨hI2,hf2,vb,rfl,_⟩
      have HF3:=h_ (((HF.out.frm hf2).alloc (.cells #[.int .i64 xn,.int .i64 (xd:Int)] 35)).alloc (.cells #[.int .i64 xn,.int .i64 (xd:Int)] 35));have HI3:Hid (MonI m (wth T' vx) ((w2.alloc (.cells #[.int .i64 xn,.int .i64 (xd:Int)] 35)).alloc (.cells #[.int .i64 xn,.int .i64 (xd:Int)] 35))):=(hI2.alloc _).alloc _;have HFW3:Hid (Frm m.S W4 ((w2.alloc (.cells #[.int .i64 xn,.int .i64 (xd:Int)] 35)).alloc (.cells #[.int .i64 xn,.int .i64 (xd:Int)] 35))):=((HFW.out.trans hf2).alloc _).alloc _
      have HROW:Hid (((w2.alloc (.cells #[.int .i64 xn,.int .i64 (xd:Int)] 35)).alloc (.cells #[.int .i64 xn,.int .i64 (xd:Int)] 35)).ownsRow W4.heap.size 35 2 vx xs.length (exC xs)):=
       row_alloc (row_alloc (hf2.row HO.out fun j hj=>HNR.out j hj.symm) _) _
      have HVL:=h_ fun (j:Nat) (hj:vx.ownBlock=some j)=>World.ownsRow.lt HO.out j hj
      have hzs:=h_ (Nat.le_trans hzr hf2.size);clear hI2 hf2 HF HI HO CB HK;have hzq:W4.heap.size<=w2.heap.size:=hzs.out
      have hTN:Hid (∀j u,[Value.int .i64 xn,.int .i64 (xd:Int)][j]? = some u->((w2.alloc (.cells #[.int .i64 xn,.int .i64 (xd:Int)] 35)).alloc (.cells #[.int .i64 xn,.int .i64 (xd:Int)] 35)).cell? ((⟨w2.heap.size+1,0,none⟩:Addr).add j)=some u):=by
       have h:=gE (w2.alloc (.cells #[.int .i64 xn,.int .i64 (xd:Int)] 35)) xn (xd:Int) 35
       rw[show (w2.alloc (.cells #[.int .i64 xn,.int .i64 (xd:Int)] 35)).heap.size=w2.heap.size+1 by simp]at h
       exact h
      go_wp2_with (at_builtin;(refine wpList_append_own_at _ rfl _ _ 29 rfl W4.heap.size 35 i0 (.agg #[.int .i64 0,.int .i64 0]) 2 16 Tryz.underlying29 hi hz0 hz1 hz2 rfl (by decide) _ _ _ rfl HROW.out ⟨w2.heap.size+1,0,none⟩ 1 1 [.int .i64 xn,.int .i64 (xd:Int)] rfl rfl hTN.out (dB _ _) (by have:=HXK.out;unfold maxLen;omega) (by have:=HXK.out;omega) (by simp;omega) ?_);intro v' w4 hown hgrow _ hat)
      have HI5:Hid (MonI m (wth T' v') w4):=HI3.out.grew hgrow hat HNR.out
      have HFW5:Hid (Frm m.S W4 w4):=HFW3.out.outs (Frm.of_grown hgrow) (fun j hj=>(HVL.out j hj.symm).1)
      have HO5:Hid (OwnE w4 W4.heap.size v' (xs++[⟨xn,xd⟩])):=by
       unfold Hid OwnE;rw[kG,List.length_append]
       exact hown
      have HL5:Hid ((xs++[(⟨xn,xd⟩:E)]).length=k+1):=by unfold Hid;rw[List.length_append,HXK.out];rfl
      clear hown hgrow hat HI3 HF3 HROW HFW3
      go_wp2_with (fail)
      go_roundw
      case rel=>exact⟨k+1,xs++[⟨xn,xd⟩],by omega,by go_num,rfl,⟨HXS.out,HL5.out⟩,⟨_,rfl,HO5.out,HI5.out⟩,HFW5.out⟩
      case measure=>(simp[intOf])<;>omega
   ·have hx4:((W.setCell ⟨b4,0,none⟩ (.int .i64 zn)).setCell ⟨b4,1,none⟩ (.int .i64 zd)).cell? ⟨b4,0,none⟩=some (.int .i64 zn):=by simp[go_sem,k90,k91]
    have hx5:((W.setCell ⟨b4,0,none⟩ (.int .i64 zn)).setCell ⟨b4,1,none⟩ (.int .i64 zd)).cell? ⟨b4,1,none⟩=some (.int .i64 zd):=by simp[go_sem,k90,k91]
    have HX4:=h_ hx4;have HX5:=h_ hx5;clear hx4 hx5
    have hcs:exV (rol m.t.s m.ru own other (v,o)) = .agg #[.int .i64 zn,.int .i64 zd]/\g2 (m.key own other (v,o))=some (.bool (rol m.t.s m.ru own other (v,o)).isNone):=by
     rcases hcase.out with⟨h,_⟩|⟨_,h⟩
     ·cases h
     ·exact h
    obtain⟨hcs1,hcs2⟩:=hcs;have HC1:=h_ hcs1;have HC2:=h_ hcs2;clear hcs1 hcs2 hcase
    go_wp2_with (fail)
    clear x0 x1 y1 y2 n1 n2 n3 n4 k90 k91 f90 f91 k9z;clear HA HB hlook HMM HIw HFw CBEST MEAN HROL;generalize (W.setCell ⟨b4,0,none⟩ (.int .i64 zn)).setCell ⟨b4,1,none⟩ (.int .i64 zd)=W4 at *
    have hlf:Hid (∀(X:World) (O:Nat->Prop),Frm O W4 X->¬O m.m2->(Instr.lookup 201 (.map (some m.m2)) (.agg #[.int .i64 (na:Int),.int .i64 (nb:Int),.int .i64 v,.int .i64 o]) false).run Tryz.prog X = .ok (.bool (rol m.t.s m.ru own other (v,o)).isNone) X):=fun X O hX hO=>by
     have h:=(HM2.out.frm hX hO).look keyM Tryz.underlying201 (z:=.bool false) (by kernel_rfl) HKO.out
     rw[HC2.out]at h
     exact h
    have hm2lt:m.m2<w.heap.size:=HLOW.out _ (.inr (.inr rfl))
    have hl1:=hlf.out W4.drew (fun _=>False) (Frm.refl _ _).drew id
    have hl2:=hlf.out ((W4.setCell ⟨w.heap.size+1,0,none⟩ (.int .i64 zn)).setCell ⟨w.heap.size+1,1,none⟩ (.int .i64 zd)).drew (fun k=>k=w.heap.size+1) ((Frm.set _ _ _ _).trans (Frm.set _ _ _ _)).drew (by omega)
    have q0:=HK4.out.c0;have q1:=HK4.out.c1;have q2:=HK4.out.c2;have q3:=HK4.out.c3;have qz:=HK4.out.lt;have e5:=HI4.out.tb 5 _ rfl;have hbm:=HI4.out.ltB;have x4:=HX4.out;have x5:=HX5.out;have x4z:=World.block_lt_of_cell? _ _ x4
    have n1:¬b3=w.heap.size+1:=by have:=HB3.out;omega
    have n2:¬w.heap.size+1=b3:=by have:=HB3.out;omega
    have n3:¬b4=w.heap.size+1:=by omega
    have n4:¬w.heap.size+1=b4:=by omega
    have n5:¬m.bm=w.heap.size+1:=by have:=HMBh.out;omega
    have n6:¬w.heap.size+1=m.bm:=by have:=HMBh.out;omega
    clear hlf
    rcases hro:rol m.t.s m.ru own other (v,o) with _|⟨rn,rd⟩
    ·have HRE:=h_ hro
     rw[hro]at hl1 hl2
     have hz0:zn=0/\zd=0:=by
      have h:=HC1.out;rw[hro]at h
      simp[exV]at h
      omega
     obtain⟨rfl,rfl⟩:=hz0
     simp only[Option.isNone_none]at hl1 hl2
     clear hro;obtain⟨z0,c00,f00,c01,f01,z1,c10,f10,c11,f11,z2,c20,f20,c21,f21,c22,f22,c23,f23⟩:=HF4.out.xf6
     go_region
     all_goals go_wp2_with (fail)
     all_goals
      refine bodyPost_ret (v:=.tuple #[.agg #[.int .i64 0,.int .i64 0],.bool false]) (by simp[results,Tryz.results110,go_sem,c10,c11,z1,f10,f11]) rfl (RetMo.mkN HRE.out ?_ ?_)
      ·refine MonI.less (T:=T') ?_ (fun k hk=>by rw[<- HTT.out];exact .inl hk) HSUB.out
       repeat (first|exact HI4.out|refine MonI.alloc ?_ _|refine MonI.drew ?_|refine MonI.stored ?_ _ (by rw[<- HTT.out];exact aG 1 rfl (by omega)) (HNS.out 1))
      ·repeat (first|exact HF4.out.f|refine Frm.alloc ?_ _|refine Frm.drew ?_|refine Frm.ownSet ?_ (by omega) _)
    ·have HRE:=h_ hro
     rw[hro]at hl1 hl2
     have hz0:zn=rn/\zd=(rd:Int):=by
      have h:=HC1.out;rw[hro]at h
      simp[exV]at h
      omega
     obtain⟨rfl,rfl⟩:=hz0
     simp only[Option.isNone_some]at hl1 hl2
     clear hro;obtain⟨z0,c00,f00,c01,f01,z1,c10,f10,c11,f11,z2,c20,f20,c21,f21,c22,f22,c23,f23⟩:=HF4.out.xf6
     go_region
     all_goals go_wp2_with (fail)
     all_goals
      refine bodyPost_ret (v:=.tuple #[.agg #[.int .i64 zn,.int .i64 (rd:Int)],.bool true]) (by simp[results,Tryz.results110,go_sem,c10,c11,z1,f10,f11]) rfl (RetMo.mkY HRE.out ?_ ?_)
      ·refine MonI.less (T:=T') ?_ (fun k hk=>by rw[<- HTT.out];exact .inl hk) HSUB.out
       repeat (first|exact HI4.out|refine MonI.alloc ?_ _|refine MonI.drew ?_|refine MonI.stored ?_ _ (by rw[<- HTT.out];exact aG 1 rfl (by omega)) (HNS.out 1))
      ·repeat (first|exact HF4.out.f|refine Frm.alloc ?_ _|refine Frm.drew ?_|refine Frm.ownSet ?_ (by omega) _)
theorem jF (m:MT) (hm:m.Ok):∀(f:Nat) {own other:List Int},PosP m.t.h m.t.c own->PosP m.t.h m.t.c other->own.sum≠0->pips own+pips other<f->∀c,CbOk m.K c->RolC m own other c
 | 0,own,other,hq,hq2,_,h,_,_=>by have:=aC hq.2.1;have:=aC hq2.2.1;omega
 | f+1,own,other,hq,hq2,h0,h,c,hc=>mroll_any m hm hq hq2 h0 hc fun q hp hlt=>jO m hm hq2 hp hc.swp fun k0 _ cc hcc=>jF m hm f hq2 hp k0 (by omega) cc hcc
theorem mroll_all (m:MT) (hm:m.Ok) {own other:List Int} (hq:PosP m.t.h m.t.c own) (hq2:PosP m.t.h m.t.c other) (h0:own.sum≠0) {c:Cb} (hc:CbOk m.K c):RolC m own other c:=by
 have h1:=aC hq.2.1;have h2:=aC hq2.2.1
 exact jF m hm ((pips own+pips other).toNat+1) hq hq2 h0 (by omega) c hc
theorem jP (m:MT) (hm:m.Ok) {own other:List Int} (hq:PosP m.t.h m.t.c own) (hq2:PosP m.t.h m.t.c other) {c:Cb} (hc:CbOk m.K c):EqvC m own other c:=jO m hm hq hq2 hc fun h0 _ cc hcc=>mroll_all m hm hq hq2 h0 hcc
theorem mbest_all (m:MT) (hm:m.Ok) {own other:List Int} (hq:PosP m.t.h m.t.c own) (hq2:PosP m.t.h m.t.c other) (h0:own.sum≠0) {c:Cb} (hc:CbOk m.K c) {i a b:Nat} (hi:i<m.t.nr) (hab:(ad m.t.s).getD i (0,0)=(a,b)):BstC m own other c i a b:=by
 have hv:=aj hm.t.v
 have hr:=bJ.1 (ao (ad m.t.s) (0,0) (k:=i) (by rw[hm.t.r];exact hi))
 rw[hab]at hr;obtain⟨r1,r2,r3⟩:=hr
 simp only at r1 r2 r3
 exact mbest_any m hm hq h0 hc i a b hi hab fun q hqm=>jP m hm hq2 (aN (by omega) r1 hq q hqm).1 hc.swp
end Go.Proofs.YtkaiilmgemaljaaGreat

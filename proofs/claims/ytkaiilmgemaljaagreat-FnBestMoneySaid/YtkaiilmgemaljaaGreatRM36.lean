/- Part of one proof. There are no conditions. -/
import Derived.Test.YtkaiilmgemaljaaGreatRM35
set_option maxHeartbeats 0
set_option linter.unusedVariables false
set_option linter.unusedSimpArgs false
set_option maxRecDepth 100000
namespace Go.Proofs.YtkaiilmgemaljaaGreat
open Go.RowKit Mo Ps Ra Ex
noncomputable def bmR (p c h s km:Int) (bv:Bool) (own other:List Int) (v o ra rb:Int):List Int×Int×Int×Int:=
 if codeM p c h s km own other v o (isVar p c h s&&rollB s ra rb)=0 then (match bestS (sq s.toNat) (neqv s.toNat ⟨km,bv⟩ other (v,o)) (resultsL own ra.toNat rb.toNat) with
 | none=>([],0,0,3)
 | some (_,at',x)=>((resultsL own ra.toNat rb.toNat).getD at' [],x.num,(x.depth:Int),0)) else ([],0,0,codeM p c h s km own other v o (isVar p c h s&&rollB s ra rb))
def RetIX (w:World) (r:List Int×Int×Int×Int) (e:Ending) (w':World):Prop:=∃v base,e = .returned (.tuple #[v,.agg #[.int .i64 r.2.1,.int .i64 r.2.2.1],.int .i64 r.2.2.2])/\w.heap.size<=base/\OwnS w' base 2 v r.1/\Below w.heap.size w w'
theorem RetIX.no {w w':World} {r:List Int×Int×Int×Int} {k:Int} (hr:r=([],0,0,k)) (hb:Below w.heap.size w w'):RetIX w r (.returned (.tuple #[.slice none 0 0,.agg #[.int .i64 0,.int .i64 0],.int .i64 k])) w':=by
 subst hr;exact⟨_,w.heap.size,rfl,Nat.le_refl _,World.ownsRow_nil _ _ _ _,hb⟩
theorem RetIX.yes {w w':World} {r:List Int×Int×Int×Int} {xs:List Int} {x d:Int} {v:Value} {base:Nat} (hr:r=(xs,x,d,0)) (h0:w.heap.size<=base) (ho:OwnS w' base 2 v xs) (hb:Below w.heap.size w w'):RetIX w r (.returned (.tuple #[v,.agg #[.int .i64 x,.int .i64 d],.int .i64 0])) w':=by
 subst hr;exact⟨_,base,rfl,h0,ho,hb⟩
def dsBM:Nat->Nat
 | 0=>33
 | 1=>34
 | 2=>35
 | 3=>36
 | 4=>37
 | 5=>38
 | 6=>39
 | 7=>40
 | 8=>41
 | 9=>42
 | 10=>32
 | 11=>43
 | 12=>44
 | 13=>45
 | 14=>17
 | _=>0
def evBM (va cr ra ow ot cu n x k:Value):Nat->Option Value
 | 0=>some va
 | 1=>some cr
 | 3=>some ow
 | 4=>some ot
 | 5=>some cu
 | 6=>some va
 | 7=>some ra
 | 8=>some n
 | 12=>some x
 | 13=>some k
 | _=>none
theorem mbest_gen {m:MT} {W:World} {T:Nat->Prop} {c h s K a b:Nat} {bv:Bool} {own other:List Int} {v o:Int} {A B:Option Addr} {ca cb:Nat} (hc':m.t.c=c) (hh':m.t.h=h) (hs':m.t.s=s) (hK:m.K=K) (hbv:m.bv=bv) (hok:m.Ok) (hI:MonI m T W) (hT:∀k,W.heap.size<=k->¬T k)
  (hp1:PosP h c own) (hp2:PosP h c other) (hs0:own.sum≠0) (hcb0:CbOk K (v,o)) (ha1:1<=a) (ha2:a<=s) (hb1:1<=b) (hb2:b<=a) (hA:SQ T W A h own) (hB:SQ T W B h other) (hca:h<=ca) (hcb:h<=cb):
  Calls Tryz.prog 114 #[.pointer (some ⟨m.bm,0,none⟩),.slice A h ca,.slice B h cb,.agg #[.int .i64 v,.int .i64 o],.int .i64 (rollNo a b:Nat)] W (RetMB m T W (resultsL own a b) (bestS (sq s) (neqv s ⟨two K,bv⟩ other (v,o)) (resultsL own a b))):=by
 subst hc' hh' hs' hK hbv;have hv:=aj hok.t.v
 obtain⟨r1,r2⟩:=rollNo_at (s:=m.t.s) (by omega) ha1 ha2 hb1 hb2
 exact mbest_all m hok hp1 hp2 hs0 (c:=(v,o)) hcb0 (by rw[<- hok.t.r];exact r2) r1 T A B ca cb W hT hI hA hca hB hcb
theorem db (p c h s km:Int) (bv j:Bool) (A B:Option Addr) (n m ca cb:Nat) (own other:List Int) (v o ra rb:Int) (w:World) (hA:SL w A n own) (hB:SL w B m other) (hca:n<=ca) (hcb:m<=cb):
  Calls Tryz.prog 36 #[.agg #[.int .i64 p,.int .i64 c,.int .i64 h,.int .i64 s],.agg #[.int .i64 km,.bool bv,.bool j],.slice A n ca,.slice B m cb,.agg #[.int .i64 v,.int .i64 o],.agg #[.int .i64 ra,.int .i64 rb]] w (RetIX w (bmR p c h s km bv own other v o ra rb)):=by
 have HF1:Hid (Fr w (((((w.alloc (.cells #[.int .i64 p,.int .i64 c,.int .i64 h,.int .i64 s] 25)).alloc (.cells #[.int .i64 km,.bool bv,.bool j] 53)).alloc (.cells #[.int .i64 v,.int .i64 o] 55)).alloc (.cells #[.int .i64 ra,.int .i64 rb] 39)).alloc (.cells #[.int .i64 0,.int .i64 0] 35)) [[.int .i64 p,.int .i64 c,.int .i64 h,.int .i64 s],[.int .i64 km,.bool bv,.bool j],[.int .i64 v,.int .i64 o],[.int .i64 ra,.int .i64 rb],[.int .i64 0,.int .i64 0]]):=(((((Fr.start w).allocT (by simp) _ _).allocT (by simp) _ _).allocT (by simp) _ _).allocT (by simp) _ _).allocT (by simp) _ _
 have HA1:=h_ (hA.below HF1.out.b);have HB1:=h_ (hB.below HF1.out.b);have HAW:=h_ hA;have HBW:=h_ hB;obtain⟨mr,hmr⟩:∃mr,mr=(isVar p c h s&&rollB s ra rb):=⟨_,rfl⟩;obtain⟨W0,hW0⟩:∃W0,W0=(((((w.alloc (.cells #[.int .i64 p,.int .i64 c,.int .i64 h,.int .i64 s] 25)).alloc (.cells #[.int .i64 km,.bool bv,.bool j] 53)).alloc (.cells #[.int .i64 v,.int .i64 o] 55)).alloc (.cells #[.int .i64 ra,.int .i64 rb] 39)).alloc (.cells #[.int .i64 0,.int .i64 0] 35)):=⟨_,rfl⟩
 have CR:Hid (∀W:World,Calls Tryz.prog 113 #[.agg #[.int .i64 p,.int .i64 c,.int .i64 h,.int .i64 s],.agg #[.int .i64 ra,.int .i64 rb]] W fun e w'=>e = .returned (.bool mr)/\Below W.heap.size W w'):=fun W=>by
  have:=jT p c h s ra rb W;rw[<- hmr]at this;exact this
 have CT:Hid (∀W:World,SL W A n own->SL W B m other->Calls Tryz.prog 102 #[.agg #[.int .i64 p,.int .i64 c,.int .i64 h,.int .i64 s],.agg #[.int .i64 km,.bool bv,.bool j],.slice A n ca,.slice B m cb,.agg #[.int .i64 v,.int .i64 o],.bool mr] W fun e w'=>e = .returned (.int .i64 (codeM p c h s km own other v o mr))/\Below W.heap.size W w'):=fun W h1 h2=>dy p c h s km bv j A B n m ca cb own other v o mr W h1 h2
 clear hA hB
 by_cases hct:codeM p c h s km own other v o mr=0
 focus
  obtain⟨hcl,hz1,hz2⟩:=gu hct
  obtain⟨hv,hr,hp1,hp2,hcu,hmr2,hgi⟩:=dq hcl
  have hro:rollB s ra rb=true:=by rw[hmr]at hmr2;exact (Bool.and_eq_true_iff.1 hmr2).2
  have hvv:=aj hv;obtain⟨a,b,rfl,rfl,ha1,ha2,hb1,hb2⟩:=iO hro;obtain⟨K,hK,rfl⟩:=dh hr
  obtain⟨c',rfl⟩:∃c':Nat,c=c':=⟨c.toNat,by omega⟩
  obtain⟨h',rfl⟩:∃h':Nat,h=h':=⟨h.toNat,by omega⟩
  obtain⟨s',rfl⟩:∃s':Nat,s=s':=⟨s.toNat,by omega⟩
  rw[d7 hK]at hgi;obtain⟨hN,_⟩:=eV hgi
  have hh1:0<h':=by omega
  have hh24:h'<=24:=by omega
  have HP1:=h_ (bA hp1);have HP2:=h_ (bA hp2);have hcb0:=gN hcu
  have hnh:h'=n:=by rw[<- HAW.out.1];exact (HP1.out.1).symm
  have hmh:h'=m:=by rw[<- HBW.out.1];exact (HP2.out.1).symm
  subst hnh;subst hmh;have HPP:=HP1.out
  have CNEW:=h_ fun (W:World)=>newMoney_far p c' h' s' K bv j W hv hN hK
  have CROL:=h_ fun (W:World)=>js p c' h' s' a b W hv ha1 ha2 hb1 hb2
  have CBES:=h_ fun (t:MT) (T:Nat->Prop) (W:World) (hc':t.t.c=c') (hh':t.t.h=h') (hs':t.t.s=s') (hK':t.K=K) (hbv:t.bv=bv) (hok:t.Ok) (hI:MonI t T W) (hT:∀k,W.heap.size<=k->¬T k) (hA:SQ T W A h' own) (hB:SQ T W B h' other)=>mbest_gen hc' hh' hs' hK' hbv hok hI hT HP1.out HP2.out hz1 hcb0 ha1 (by omega) hb1 hb2 hA hB hca hcb
  have HNE:=h_ (bY (by omega:1<=a) hb1 HPP)
  have HW0:Hid (bmR p c' h' s' (two K) bv own other v o a b=match bestS (sq s') (neqv s' ⟨two K,bv⟩ other (v,o)) (resultsL own a b) with|none=>([],0,0,3)|some (_,at',x)=>((resultsL own a b).getD at' [],x.num,(x.depth:Int),0)):=by
   unfold Hid bmR;rw[<- hmr,if_pos hct]
   simp only[Int.toNat_natCast]
  rw[hct]at CT;clear hct hcl hro hv hr hp1 hp2 hcu hgi hN hvv HPP ha1 ha2 hb1 hb2 hz1 hz2 HP1 HP2 hcb0 hK hmr hmr2;generalize resultsL own a b=L at *;generalize hbs:bestS (sq s') (neqv s' ⟨two K,bv⟩ other (v,o)) L=q at *;obtain⟨xn,hxn⟩:∃x:Int,x=oN q:=⟨_,rfl⟩;obtain⟨xd,hxd⟩:∃x:Int,x=oD q:=⟨_,rfl⟩;obtain⟨ok,hok⟩:∃x:Bool,x=oB q:=⟨_,rfl⟩
  have HBT:Hid (∀(t:MT) (T:Nat->Prop) (W:World) (e:Ending) (W':World),t.t.h=h'->RetMB t T W L q e W'->Frm t.S W W'/\∃u,e = .returned (.tuple #[u,.agg #[.int .i64 xn,.int .i64 xd],.bool ok])/\BP q h' L u W'/\∀b off n m,u = .slice (some ⟨b,off,none⟩) n m->¬T b):=by
   intro t T W e W' hh' ⟨h1,h2,h3⟩
   refine⟨h2,?_⟩
   rcases q with _|⟨cnt,at',⟨yn,yd⟩⟩
   ·obtain rfl:xn=0:=hxn
    obtain rfl:xd=0:=hxd;obtain rfl:ok=false:=hok;replace h3:e = .returned (.tuple #[.slice none 0 0,.agg #[.int .i64 0,.int .i64 0],.bool false]):=h3
    exact⟨_,h3,rfl,fun b off n m hu=>by cases hu⟩
   ·obtain rfl:ok=true:=hok
    obtain⟨v,h3,hbv⟩:=(show ∃v,e = .returned (.tuple #[v,.agg #[.int .i64 yn,.int .i64 (yd:Int)],.bool true])/\BestV T W' t.t.h cnt at' L v from h3)
    have hcn:cnt=L.length:=(fJ hbs).1
    have hL0:0<L.length:=by
     cases L with
     | nil=>exact absurd rfl HNE.out
     | cons _ _=>simp
    rcases hbv with⟨h4,_⟩|⟨_,b',off,cq,h5,h6,h7⟩
    ·omega
    ·subst hh'
     refine⟨_,by rw[h3,hxn,hxd];rfl,⟨b',off,cq,h5,h6,h7.1⟩,fun b2 off2 n2 m2 hu=>?_⟩
     rw[h5]at hu;injection hu with hu;injection hu with hu;injection hu with hu1 hu2;subst hu1
     exact h7.2 hh1 _ _ _ rfl
  refine ?za
 rotate_left
 focus
  have HWR:Hid (bmR p c h s km bv own other v o ra rb=([],0,0,codeM p c h s km own other v o mr)):=by
   unfold Hid bmR;rw[<- hmr,if_neg hct]
  generalize codeM p c h s km own other v o mr=kk at *
  have b0:(kk != 0)=true:=by simp[hct]
  clear hct hmr
  refine ?zb
 rotate_left
 case' za|zb=>
  go_enter Tryz.func36,Tryz.ntmps36
  rw[<- hW0]at HF1 HA1 HB1
  go_wp2_with (fail)
  rw[<- hW0];clear hW0;obtain⟨z0,c00,f00,c01,f01,c02,f02,c03,f03,z1,c10,f10,c11,f11,c12,f12,z2,c20,f20,c21,f21,z3,c30,f30,c31,f31,z4,c40,f40,c41,f41⟩:=HF1.out.xf8
  refine ac (by kernel_rfl) (by kernel_rfl) ?_
  repeat (first|go_big_quiet_step (first
   | (go_at_call 113;exact more_call (CR.out _))
   | (go_at_call 102;exact more_call (CT.out _ (HA1.out.more _) (HB1.out.more _))))|quiet_step (fail))
  refine wpQuiet_nil ?_
  intro _ hw'
 case' za=>
  obtain⟨tr,hw2⟩:=hw';subst hw2;clear z0 c00 f00 c01 f01 c02 f02 c03 f03 z1 c10 f10 c11 f11 c12 f12 z2 c20 f20 c21 f21 z3 c30 f30 c31 f31 z4 c40 f40 c41 f41;have HF2:=h_ (HF1.out.more tr);have HA2:=h_ (HA1.out.more tr);have HB2:=h_ (HB1.out.more tr);clear CT CR HF1 HA1 HB1;generalize more W0 tr=w1 at *;obtain⟨z0,c00,f00,c01,f01,c02,f02,c03,f03,z1,c10,f10,c11,f11,c12,f12,z2,c20,f20,c21,f21,z3,c30,f30,c31,f31,z4,c40,f40,c41,f41⟩:=HF2.out.xf8
  go_wp2_with (fail)
  clear z0 c00 f00 c01 f01 c02 f02 c03 f03 z1 c10 f10 c11 f11 c12 f12 z2 c20 f20 c21 f21 z3 c30 f30 c31 f31 z4 c40 f40 c41 f41
  have C0:Hid (Cel w1 w.heap.size [.int .i64 p,.int .i64 c',.int .i64 h',.int .i64 s']):=⟨HF2.out.l0 (by simp),fun i x hx=>HF2.out.c0 i (by simpa[frAt]using hx),fun i x hx=>HF2.out.f0 i (v:=x) (by simpa[frAt]using hx)⟩
  have C1:Hid (Cel w1 (w.heap.size+1) [.int .i64 (two K),.bool bv,.bool j]):=⟨HF2.out.l1 (by simp),fun i x hx=>HF2.out.c1 i (by simpa[frAt]using hx),fun i x hx=>HF2.out.f1 i (v:=x) (by simpa[frAt]using hx)⟩
  have C2:Hid (Cel w1 (w.heap.size+1+1) [.int .i64 v,.int .i64 o]):=⟨HF2.out.l2 (by simp),fun i x hx=>HF2.out.c2 i (by simpa[frAt]using hx),fun i x hx=>HF2.out.f2 i (v:=x) (by simpa[frAt]using hx)⟩
  have C3:Hid (Cel w1 (w.heap.size+1+1+1) [.int .i64 (a:Int),.int .i64 (b:Int)]):=⟨HF2.out.l3 (by simp),fun i x hx=>HF2.out.c3 i (by simpa[frAt]using hx),fun i x hx=>HF2.out.f3 i (v:=x) (by simpa[frAt]using hx)⟩
  have C4:Hid (Cel w1 (w.heap.size+1+1+1+1) [.int .i64 0,.int .i64 0]):=⟨HF2.out.l4 (by simp),fun i x hx=>HF2.out.c4 i (by simpa[frAt]using hx),fun i x hx=>HF2.out.f4 i (v:=x) (by simpa[frAt]using hx)⟩
  have HBW2:=h_ HF2.out.b
  have HZ5:Hid (w.heap.size+5<=w1.heap.size):=by unfold Hid;have:=HF2.out.z;simpa using this
  clear HF2;have rrd:bmR p c' h' s' (two K) bv own other v o a b=bmR p c' h' s' (two K) bv own other v o a b:=rfl;generalize bmR p c' h' s' (two K) bv own other v o a b=rr at *;clear rrd;generalize w1=V at *
  have HJ:Hid (∀vs,JM V c' h' s' K bv q L (.agg #[.int .i64 xn,.int .i64 xd]) (.bool ok) (evBM (.agg #[.int .i64 p,.int .i64 c',.int .i64 h',.int .i64 s']) (.agg #[.int .i64 (two K),.bool bv,.bool j]) (.agg #[.int .i64 (a:Int),.int .i64 (b:Int)]) (.slice A h' ca) (.slice B h' cb) (.agg #[.int .i64 v,.int .i64 o]) (.int .i64 (rollNo a b:Nat)) (.agg #[.int .i64 xn,.int .i64 xd]) (.bool ok)) (fun _=>false) vs { V with drawn:=V.drawn+1 }):=fun vs=>⟨Bel.drew _,⟨fun h=>(by cases h),fun h=>(by cases h)⟩,fun _ _ _ h=>(by cases h),fun h=>(by cases h),fun h=>(by cases h),fun _ _ h=>(by cases h)⟩
  refine ce 15 (fun i=>i == 12||i == 13) dsBM (JM V c' h' s' K bv q L (.agg #[.int .i64 xn,.int .i64 xd]) (.bool ok) (evBM (.agg #[.int .i64 p,.int .i64 c',.int .i64 h',.int .i64 s']) (.agg #[.int .i64 (two K),.bool bv,.bool j]) (.agg #[.int .i64 (a:Int),.int .i64 (b:Int)]) (.slice A h' ca) (.slice B h' cb) (.agg #[.int .i64 v,.int .i64 o]) (.int .i64 (rollNo a b:Nat)) (.agg #[.int .i64 xn,.int .i64 xd]) (.bool ok))) (by kernel_rfl) (by kernel_rfl) (fun _ _ _ _ _ h=>h) HJ.out ?_ ?_ ?_
  ·intro i op hi hX ho Ls a' W H hun hfar hdep
   have hi8:i=12\/i=13:=by simpa using hX
   clear hX hi hfar
   rcases hi8 with rfl|rfl
   all_goals (simp at ho;subst ho)
   ·obtain⟨u,d1,_⟩:=H.bt 10 (by omega) (hdep 10 (by omega) (by kernel_rfl))
    replace d1:a'.tmps.getD 32 undef = .tuple #[u,.agg #[.int .i64 xn,.int .i64 xd],.bool ok]:=d1
    exact⟨.agg #[.int .i64 xn,.int .i64 xd],fun W'=>by simp only[execOp,Act.eval,d1];go_simp,fun L' vs' hu=>H.pure hu (Below.refl _ _) (by decide) (fun y hy=>by injection hy)⟩
   ·obtain⟨u,d1,_⟩:=H.bt 10 (by omega) (hdep 10 (by omega) (by kernel_rfl))
    replace d1:a'.tmps.getD 32 undef = .tuple #[u,.agg #[.int .i64 xn,.int .i64 xd],.bool ok]:=d1
    exact⟨.bool ok,fun W'=>by simp only[execOp,Act.eval,d1];go_simp,fun L' vs' hu=>H.pure hu (Below.refl _ _) (by decide) (fun y hy=>by injection hy)⟩
  ·intro i op hi hX ho Ls a' W H hun hfar hdep
   have e2:a'.tmps.getD 2 undef = .slice A h' ca:=(hfar 2 (by decide)).trans rfl
   have e3:a'.tmps.getD 3 undef = .slice B h' cb:=(hfar 3 (by decide)).trans rfl
   have e6:a'.tmps.getD 6 undef = .pointer (some ⟨w.heap.size,0,none⟩):=(hfar 6 (by decide)).trans rfl
   have e7:a'.tmps.getD 7 undef = .pointer (some ⟨w.heap.size+1,0,none⟩):=(hfar 7 (by decide)).trans rfl
   have e10:a'.tmps.getD 10 undef = .pointer (some ⟨w.heap.size+1+1,0,none⟩):=(hfar 10 (by decide)).trans rfl
   have e11:a'.tmps.getD 11 undef = .pointer (some ⟨w.heap.size+1+1+1,0,none⟩):=(hfar 11 (by decide)).trans rfl
   have hi8:i=0\/i=1\/i=2\/i=3\/i=4\/i=5\/i=6\/i=7\/i=8\/i=9\/i=10\/i=11\/i=14:=by simp at hX;omega
   clear hX hi hfar
   rcases hi8 with rfl|rfl|rfl|rfl|rfl|rfl|rfl|rfl|rfl|rfl|rfl|rfl|rfl
   all_goals (simp at ho;subst ho)
   ·have zz:=C0.out.below H.b
    have z0:=zz.cell 0 _ rfl;have z1:=zz.cell 1 _ rfl;have z2:=zz.cell 2 _ rfl;have z3:=zz.cell 3 _ rfl
    exact .inl ⟨.agg #[.int .i64 p,.int .i64 c',.int .i64 h',.int .i64 s'],W,by simp only[execOp,Act.eval,e6];go_simp,fun L' vs' hu=>H.pure hu (Below.refl _ _) (by decide) (fun y hy=>by injection hy)⟩
   ·have zz:=C1.out.below H.b
    have z0:=zz.cell 0 _ rfl;have z1:=zz.cell 1 _ rfl;have z2:=zz.cell 2 _ rfl
    exact .inl ⟨.agg #[.int .i64 (two K),.bool bv,.bool j],W,by simp only[execOp,Act.eval,e7];go_simp,fun L' vs' hu=>H.pure hu (Below.refl _ _) (by decide) (fun y hy=>by injection hy)⟩
   ·have d1:a'.tmps.getD 33 undef = .agg #[.int .i64 p,.int .i64 c',.int .i64 h',.int .i64 s']:=H.eq 0 _ (by omega) (hdep 0 (by omega) (by kernel_rfl)) rfl
    have d2:a'.tmps.getD 34 undef = .agg #[.int .i64 (two K),.bool bv,.bool j]:=H.eq 1 _ (by omega) (hdep 1 (by omega) (by kernel_rfl)) rfl
    refine .inr ⟨103,#[.agg #[.int .i64 p,.int .i64 c',.int .i64 h',.int .i64 s'],.agg #[.int .i64 (two K),.bool bv,.bool j]],by simp only[execOp,Act.eval,d1,d2];go_simp,?_⟩
    refine (CNEW.out W).mono ?_
    rintro e W' ⟨t,_,hc',hh',hs',hK',hbv',rfl,hok',hI,hlow,hb'⟩
    exact⟨_,rfl,fun L' vs' hu=>H.race hu hb' rfl hc' hh' ⟨hs',hK',hbv'⟩ hok' hI hlow⟩
   ·exact .inl ⟨.slice A h' ca,W,by simp only[execOp,Act.eval,e2];go_simp,fun L' vs' hu=>H.pure hu (Below.refl _ _) (by decide) (fun y hy=>by injection hy)⟩
   ·exact .inl ⟨.slice B h' cb,W,by simp only[execOp,Act.eval,e3];go_simp,fun L' vs' hu=>H.pure hu (Below.refl _ _) (by decide) (fun y hy=>by injection hy)⟩
   ·have zz:=C2.out.below H.b
    have z0:=zz.cell 0 _ rfl;have z1:=zz.cell 1 _ rfl
    exact .inl ⟨.agg #[.int .i64 v,.int .i64 o],W,by simp only[execOp,Act.eval,e10];go_simp,fun L' vs' hu=>H.pure hu (Below.refl _ _) (by decide) (fun y hy=>by injection hy)⟩
   ·have zz:=C0.out.below H.b
    have z0:=zz.cell 0 _ rfl;have z1:=zz.cell 1 _ rfl;have z2:=zz.cell 2 _ rfl;have z3:=zz.cell 3 _ rfl
    exact .inl ⟨.agg #[.int .i64 p,.int .i64 c',.int .i64 h',.int .i64 s'],W,by simp only[execOp,Act.eval,e6];go_simp,fun L' vs' hu=>H.pure hu (Below.refl _ _) (by decide) (fun y hy=>by injection hy)⟩
   ·have zz:=C3.out.below H.b
    have z0:=zz.cell 0 _ rfl;have z1:=zz.cell 1 _ rfl
    exact .inl ⟨.agg #[.int .i64 (a:Int),.int .i64 (b:Int)],W,by simp only[execOp,Act.eval,e11];go_simp,fun L' vs' hu=>H.pure hu (Below.refl _ _) (by decide) (fun y hy=>by injection hy)⟩
   ·have d1:a'.tmps.getD 39 undef = .agg #[.int .i64 p,.int .i64 c',.int .i64 h',.int .i64 s']:=H.eq 6 _ (by omega) (hdep 6 (by omega) (by kernel_rfl)) rfl
    have d2:a'.tmps.getD 40 undef = .agg #[.int .i64 (a:Int),.int .i64 (b:Int)]:=H.eq 7 _ (by omega) (hdep 7 (by omega) (by kernel_rfl)) rfl
    refine .inr ⟨83,#[.agg #[.int .i64 p,.int .i64 c',.int .i64 h',.int .i64 s'],.agg #[.int .i64 (a:Int),.int .i64 (b:Int)]],by simp only[execOp,Act.eval,d1,d2];go_simp,?_⟩
    refine (CROL.out W).mono ?_
    rintro e W' ⟨rfl,hb'⟩
    exact⟨_,rfl,fun L' vs' hu=>H.pure hu hb' (by decide) (fun y hy=>by injection hy)⟩
   ·obtain⟨t,l1,hi,d1,hc',hh',⟨hs',hK',hbv'⟩,hok',hI,hi1,hl1,hl2,hlow,hgg⟩:=H.ra (hdep 2 (by omega) (by kernel_rfl)) hun
    replace d1:a'.tmps.getD 35 undef = .pointer (some ⟨t.bm,0,none⟩):=d1
    have d2:a'.tmps.getD 36 undef = .slice A h' ca:=H.eq 3 _ (by omega) (hdep 3 (by omega) (by kernel_rfl)) rfl
    have d3:a'.tmps.getD 37 undef = .slice B h' cb:=H.eq 4 _ (by omega) (hdep 4 (by omega) (by kernel_rfl)) rfl
    have d5:a'.tmps.getD 38 undef = .agg #[.int .i64 v,.int .i64 o]:=H.eq 5 _ (by omega) (hdep 5 (by omega) (by kernel_rfl)) rfl
    have d4:a'.tmps.getD 41 undef = .int .i64 (rollNo a b:Nat):=H.eq 8 _ (by omega) (hdep 8 (by omega) (by kernel_rfl)) rfl
    refine .inr ⟨114,#[.pointer (some ⟨t.bm,0,none⟩),.slice A h' ca,.slice B h' cb,.agg #[.int .i64 v,.int .i64 o],.int .i64 (rollNo a b:Nat)],by simp only[execOp,Act.eval,d1,d2,d3,d4,d5];go_simp,?_⟩
    have hTl:∀k,((t.S k\/(V.heap.size<=k/\k<l1)\/hi<=k)/\k<W.heap.size)->V.heap.size<=k:=fun k hk=>by
     have hVW:=H.b.size
     rcases hk.1 with h|h|h
     ·exact Nat.le_trans hl1 (hlow k h)
     ·exact h.1
     ·omega
    refine (CBES.out t (fun k=>(t.S k\/(V.heap.size<=k/\k<l1)\/hi<=k)/\k<W.heap.size) W hc' hh' hs' hK' hbv' hok' (hI.less (fun k hk=>hk.1) (fun k hk=>⟨.inl hk,hI.ltS k hk⟩)) (fun k hk h=>by have:=h.2;omega) ((SQ.of_sl HA2.out hTl).below H.b) ((SQ.of_sl HB2.out hTl).below H.b)).mono ?_
    intro e W' hrb
    obtain⟨hf2,u,rfl,hbp,hav⟩:=HBT.out t _ W e W' hh' hrb
    refine⟨_,rfl,fun L' vs' hu=>H.best hu hf2 (fun k hk=>Nat.le_trans hl1 (hlow k hk)) (fun g hg hg2 hS=>?_) rfl hun hbp (fun b off n m g hu2 hg hg2 hbg=>?_)⟩
    ·obtain⟨g',g2,g3,g4⟩:=H.al hg
     rw[g2]at hg2;injection hg2 with hg2;injection hg2 with hg2;injection hg2 with hg2;subst hg2
     exact money_cell hI g4 hS
    ·subst hbg
     refine hav b off n m hu2 ⟨.inr ?_,?_⟩
     ·obtain⟨g',g2,g3,g4⟩:=H.al hg
      rw[g2]at hg2;injection hg2 with hg2;injection hg2 with hg2;injection hg2 with hg2;subst hg2
      rcases hgg g' hg g2 with h|h
      ·exact .inl ⟨g3,h⟩
      ·exact .inr h
     ·obtain⟨g',g2,g3,g4⟩:=H.al hg
      rw[g2]at hg2;injection hg2 with hg2;injection hg2 with hg2;injection hg2 with hg2;subst hg2
      exact g4.lt
   ·obtain⟨u,d1,_⟩:=H.bt 9 (by omega) (hdep 9 (by omega) (by kernel_rfl))
    replace d1:a'.tmps.getD 42 undef = .tuple #[u,.agg #[.int .i64 xn,.int .i64 xd],.bool ok]:=d1
    exact .inl ⟨.tuple #[u,.agg #[.int .i64 xn,.int .i64 xd],.bool ok],W,by simp only[execOp,Act.eval,d1];go_simp,fun L' vs' hu=>H.next (k:=9) (.inl rfl) (hdep 9 (by omega) (by kernel_rfl)) d1 rfl hu rfl⟩
   ·obtain⟨u,d1,_⟩:=H.bt 10 (by omega) (hdep 10 (by omega) (by kernel_rfl))
    replace d1:a'.tmps.getD 32 undef = .tuple #[u,.agg #[.int .i64 xn,.int .i64 xd],.bool ok]:=d1
    exact .inl ⟨u,W,by simp only[execOp,Act.eval,d1];go_simp,fun L' vs' hu=>H.next (k:=10) (.inr rfl) (hdep 10 (by omega) (by kernel_rfl)) d1 rfl hu rfl⟩
   ·exact .inl ⟨.pointer (some ⟨W.heap.size,0,none⟩),W.alloc (.cells #[.int .i64 0,.int .i64 0] 35),by kernel_rfl,fun L' vs' hu=>H.alloc _ hu rfl hh1⟩
  intro Ls u W2 hall H
  have hW:=H.b
  have g0:u 0 = .agg #[.int .i64 p,.int .i64 c',.int .i64 h',.int .i64 s']:=H.eq 0 _ (by omega) (hall 0 (by omega)) rfl
  have g1:u 1 = .agg #[.int .i64 (two K),.bool bv,.bool j]:=H.eq 1 _ (by omega) (hall 1 (by omega)) rfl
  obtain⟨t1,g2⟩:∃t1,u 2=t1:=⟨_,rfl⟩
  have g3:u 3 = .slice A h' ca:=H.eq 3 _ (by omega) (hall 3 (by omega)) rfl
  have g4:u 4 = .slice B h' cb:=H.eq 4 _ (by omega) (hall 4 (by omega)) rfl
  have g5:u 5 = .agg #[.int .i64 v,.int .i64 o]:=H.eq 5 _ (by omega) (hall 5 (by omega)) rfl
  have g6:u 6 = .agg #[.int .i64 p,.int .i64 c',.int .i64 h',.int .i64 s']:=H.eq 6 _ (by omega) (hall 6 (by omega)) rfl
  have g7:u 7 = .agg #[.int .i64 (a:Int),.int .i64 (b:Int)]:=H.eq 7 _ (by omega) (hall 7 (by omega)) rfl
  have g8:u 8 = .int .i64 (rollNo a b:Nat):=H.eq 8 _ (by omega) (hall 8 (by omega)) rfl
  obtain⟨u7,g9,_⟩:=H.bt 9 (by omega) (hall 9 (by omega))
  replace g9:u 9 = .tuple #[u7,.agg #[.int .i64 xn,.int .i64 xd],.bool ok]:=g9
  obtain⟨u8,g10,_⟩:=H.bt 10 (by omega) (hall 10 (by omega))
  replace g10:u 10 = .tuple #[u8,.agg #[.int .i64 xn,.int .i64 xd],.bool ok]:=g10
  have g12:u 12 = .agg #[.int .i64 xn,.int .i64 xd]:=H.eq 12 _ (by omega) (hall 12 (by omega)) rfl
  have g13:u 13 = .bool ok:=H.eq 13 _ (by omega) (hall 13 (by omega)) rfl
  obtain⟨g,g14,gl,AL⟩:=H.al (hall 14 (by omega))
  obtain⟨u9,g9',hb13,hav9⟩:=H.bt 11 (by omega) (hall 11 (by omega))
  replace g9':u 11=u9:=g9'
  have hav:=fun (b off n m:Nat) (h:u9 = .slice (some ⟨b,off,none⟩) n m)=>hav9 b off n m g h (hall 14 (by omega)) g14
  rw[<- g9']at hb13 hav;clear H hall hav9 g9';replace hW:=h_ hW;have hzV:w.heap.size<=V.heap.size:=HBW2.out.size;have y0:=AL.cell 0 _ rfl;have y1:=AL.cell 1 _ rfl;have x0:=AL.froz 0 _ rfl;have x1:=AL.froz 1 _ rfl;have yl:=AL.lt;have HAL:=h_ AL;clear AL C0 C1 C2 C3 HA2 HB2 HAW HBW CNEW CROL CBES HBT
  have hg5:w.heap.size+5<=g:=by have:=HZ5.out;omega
  have n1:¬g=w.heap.size+1+1+1+1:=by omega
  have n2:¬w.heap.size+1+1+1+1=g:=by omega
  have HC4:=h_ (C4.out.below hW.out);have v0:=HC4.out.cell 0 _ rfl;have v1:=HC4.out.cell 1 _ rfl;have f0:=HC4.out.froz 0 _ rfl;have f1:=HC4.out.froz 1 _ rfl;have vl:=HC4.out.lt;clear C4
  rcases q with _|⟨cnt,at',⟨yn,yd⟩⟩
  focus
   obtain rfl:xn=0:=hxn
   obtain rfl:xd=0:=hxd;obtain rfl:ok=false:=hok;have HWR:Hid (rr=([],0,0,3)):=HW0.out;have g11:u 11 = .slice none 0 0:=hb13;clear HW0 hb13 hav
   refine ?zd
  rotate_left
  focus
   obtain rfl:ok=true:=hok
   have HWR:Hid (rr=(L.getD at' [],xn,xd,0)):=by unfold Hid;rw[hxn,hxd];exact HW0.out
   clear hxn hxd;obtain⟨bq,oq,cq,g11,hcq,hsl⟩:∃b off c,u 11 = .slice (some ⟨b,off,none⟩) h' c/\h'<=c/\SL W2 (some ⟨b,off,none⟩) h' (L.getD at' []):=hb13;have HSL:=h_ hsl;have hne:=hav bq oq h' cq g11;clear HW0 hsl hav
   refine ?zc
 case zb=>
  obtain⟨tr,hw2⟩:=hw';subst hw2;clear z0 c00 f00 c01 f01 c02 f02 c03 f03 z1 c10 f10 c11 f11 c12 f12 z2 c20 f20 c21 f21 z3 c30 f30 c31 f31 z4 c40 f40 c41 f41;have HF2:=h_ (HF1.out.more tr);clear CT CR HF1 HA1 HB1;generalize more W0 tr=w1 at *;obtain⟨z0,c00,f00,c01,f01,c02,f02,c03,f03,z1,c10,f10,c11,f11,c12,f12,z2,c20,f20,c21,f21,z3,c30,f30,c31,f31,z4,c40,f40,c41,f41⟩:=HF2.out.xf8
  go_wp2_with (fail)
  refine bodyPost_ret (v:=.tuple #[.slice none 0 0,.agg #[.int .i64 0,.int .i64 0],.int .i64 kk]) (by simp[results,Tryz.results36,go_sem,c40,c41,z4,f40,f41]) rfl (RetIX.no HWR.out ?_)
  repeat (first|exact HF2.out.b|refine stw ?_ (by omega)|refine alw ?_ (by omega))
 case' zc|zd=>
  simp only[List.drop_succ_cons,List.drop_zero,putV,dsBM,g0,g1,g2,g3,g4,g5,g6,g7,g8,g9,g10,g11,g12,g13,g14,Act.put]
  clear g0 g1 g2 g3 g4 g5 g6 g7 g8 g9 g10 g11 g12 g13 g14
  go_wp2_with (fail)
 case zc=>
  obtain⟨X,hX⟩:∃X,X=(W2.setCell ⟨g,0,none⟩ (.int .i64 xn)).setCell ⟨g,1,none⟩ (.int .i64 xd):=⟨_,rfl⟩
  have HSL3:Hid (SL X (some ⟨bq,oq,none⟩) h' (L.getD at' [])):=by
   rw[hX]
   have h1:SQ (fun k=>k=g) W2 (some ⟨bq,oq,none⟩) h' (L.getD at' []):=⟨HSL.out,fun _ b off s hA hS=>by injection hA with hA;injection hA with hA1;exact hne (hA1.trans hS)⟩
   exact ((h1.frm (Frm.set W2 g 0 _)).frm (Frm.set _ g 1 _)).1
  have HB3:Hid (Below w.heap.size w X):=by rw[hX];exact Below.setCell (Below.setCell (HBW2.out.trans (Below.mono hW.out hzV)) (Nat.le_trans hzV gl) _) (Nat.le_trans hzV gl) _
  have AX:Hid (Cel X g [.int .i64 xn,.int .i64 xd]):=by rw[hX];exact (HAL.out.st (by simp)).st (by simp)
  have CX:Hid (Cel X (w.heap.size+1+1+1+1) [.int .i64 0,.int .i64 0]):=by rw[hX];exact (HC4.out.far (by omega)).far (by omega)
  rw[<- hX];clear hX HSL hne HAL HC4 y0 y1 x0 x1 yl v0 v1 f0 f1 vl hW HBW2;generalize L.getD at' []=xs at *;have y0:=AX.out.cell 0 _ rfl;have y1:=AX.out.cell 1 _ rfl;have yl:=AX.out.lt;have v0:=CX.out.cell 0 _ rfl;have v1:=CX.out.cell 1 _ rfl;have f0:=CX.out.froz 0 _ rfl;have f1:=CX.out.froz 1 _ rfl;have vl:=CX.out.lt
  go_region_with (go_at_call 90;go_loud (refine (Clone_any _ _ _ _ _ (by first|exact HSL3.out.drew|exact HSL3.out) (by omega)).mono ?_;rintro e w3 ⟨Ac,cc,rfl,hoc,hbc⟩;have v0':=v0;have v1':=v1;have y0:=keep_cell (by exact y0) hbc;have y1:=keep_cell (by exact y1) hbc;have v0:=keep_cell (by exact v0) hbc;have v1:=keep_cell (by exact v1) hbc;have f0:=keep_froz (by exact f0) (by exact v0') hbc;have f1:=keep_froz (by exact f1) (by exact v1') hbc))
  all_goals
   have vx:=vl;have vl:w.heap.size+1+1+1+1<w3.heap.size:=Nat.lt_of_lt_of_le vl hbc.size;have hz3:w.heap.size<=X.heap.size:=HB3.out.size
   have HB4:Hid (Below w.heap.size w w3):=HB3.out.trans (Below.mono (show Below X.heap.size X w3 from⟨hbc.os,hbc.tape,hbc.output,hbc.size,hbc.block⟩) hz3)
   have HOC:Hid (OwnS w3 X.heap.size 2 (.slice Ac xs.length cc) xs):=hoc;clear hoc hbc HB3 HSL3
   go_wp2_with (fail)
   refine bodyPost_ret (v:=.tuple #[.slice Ac xs.length cc,.agg #[.int .i64 xn,.int .i64 xd],.int .i64 0]) (by simp[results,Tryz.results36,go_sem,v0,v1,vl,f0,f1]) rfl (RetIX.yes HWR.out hz3 ?_ ?_)
   ·repeat (first|exact HOC.out|refine OwnS.setLow ?_ (show w.heap.size+1+1+1+1<X.heap.size from vx) _)
   ·repeat (first|exact HB4.out|refine stw ?_ (by omega)|refine alw ?_ (by omega))
 case zd=>
  refine bodyPost_ret (v:=.tuple #[.slice none 0 0,.agg #[.int .i64 0,.int .i64 0],.int .i64 3]) (by simp[results,Tryz.results36,go_sem,v0,v1,n1,n2,vl,f0,f1]) rfl (RetIX.no HWR.out ?_)
  repeat (first|exact HBW2.out.trans (Below.mono hW.out hzV)|refine stw ?_ (by omega)|refine alw ?_ (by omega))
end Go.Proofs.YtkaiilmgemaljaaGreat

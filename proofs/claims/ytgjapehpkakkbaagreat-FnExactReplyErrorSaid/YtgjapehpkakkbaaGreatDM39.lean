/- Part of one proof. There are no conditions. -/
import Derived.Test.YtgjapehpkakkbaaGreatDJ4
set_option linter.unusedVariables false
set_option linter.unusedSimpArgs false
namespace Go.Proofs.YtgjapehpkakkbaaGreat
open Go.RowKit Ps Ra Ex Go.Maps Mo
set_option maxRecDepth 100000 in
set_option maxHeartbeats 4000000 in
theorem replyI_any (m:MT) (hm:m.Ok) {own other:List Int} (hq:PosP m.t.h m.t.c own) (hq2:PosP m.t.h m.t.c other) (h0:own.sum≠0) {c:Cb} (hc:CbOk m.K c) (hmay:may m.ru c=true) {D:E} {a:Int} (hd:dbl m.t.s m.ru own other c=some (D,a))
  (T:Nat→Prop) (A B:Option Addr) (ca cb:Nat) (w:World) (hT:∀k,w.heap.size≤k→¬T k) (hI:MonI m T w) (hA:SQ T w A m.t.h own) (hca:m.t.h≤ca) (hB:SQ T w B m.t.h other) (hcb:m.t.h≤cb):
  Calls Tryz.prog 103 #[.pointer (some ⟨m.bm,0,none⟩),.slice A m.t.h ca,.slice B m.t.h cb,.agg #[.int .i64 c.1,.int .i64 c.2],.agg #[.int .i64 D.num,.int .i64 (D.depth:Int)]] w fun e w'=>e = .returned (.int .i64 a)∧MonI m T w'∧Frm m.S w w':=by
 obtain⟨v,o⟩:=c;obtain⟨dn,dd⟩:=D;have hcv:1≤v∧v≤1024∧0≤o∧o≤2:=hc.v1 hm.k;obtain⟨x,hx,hcases⟩:=reply_law hd;have R2:=h_ (mroll_all m hm hq hq2 h0 (up2 hc hmay))
 have CA:=h_ fun (W:World)=>cubeAfter_any v o 1 W (by omega) (by omega)
 have hlow:=hI.ltS
 have HF:Hid (FrS m.S w ((w.alloc (.cells #[.int .i64 v,.int .i64 o] 62)).alloc (.cells #[.int .i64 dn,.int .i64 (dd:Int)] 35)) [[.int .i64 v,.int .i64 o],[.int .i64 dn,.int .i64 (dd:Int)]]):=((FrS.start w hlow).allocT (by simp) _ _).allocT (by simp) _ _
 have hb0:Below w.heap.size w ((w.alloc (.cells #[.int .i64 v,.int .i64 o] 62)).alloc (.cells #[.int .i64 dn,.int .i64 (dd:Int)] 35)):=((Below.refl _ _).alloc (Nat.le_refl _) _).alloc (by simp) _
 have HI:=h_ (hI.below hb0);have HA:=h_ (hA.below hb0);have HB:=h_ (hB.below hb0);have HTS:=h_ hI.sub
 have HTN:Hid (∀W:World,w.heap.size≤W.heap.size→∀k,W.heap.size≤k→¬T k):=fun W hz k hk=>hT k (Nat.le_trans hz hk)
 by_cases hw:(⟨dn,dd⟩:E)=whl v
 ·have ha:a=2:=by
   rcases hcases with⟨_,h⟩|⟨h,_⟩|⟨h,_⟩
   ·exact h
   ·exact absurd hw h
   ·exact absurd hw h
  have hq1:∀W:World,(binOp .eql 35 (.agg #[.int .i64 dn,.int .i64 (dd:Int)]) (.agg #[.int .i64 v,.int .i64 0])).run Tryz.prog W = .ok (.bool true) W:=fun W=>by
   rw[eql_exactM,decide_eq_true (by injection hw with e1 e2;exact⟨e1,by omega⟩)]
  subst ha;clear hcases hx hd hT hI hA hB hm hq hq2 h0 hc hmay hlow R2 CA HA HB HTN hw
  go_enter Tryz.func103,Tryz.ntmps103
  go_wp2_with (fail)
  generalize (w.alloc (.cells #[.int .i64 v,.int .i64 o] 62)).alloc (.cells #[.int .i64 dn,.int .i64 (dd:Int)] 35)=W at *
  go_ret
  exact⟨rfl,HI.out,HF.out.f⟩
 ·have hq1:∀W:World,(binOp .eql 35 (.agg #[.int .i64 dn,.int .i64 (dd:Int)]) (.agg #[.int .i64 v,.int .i64 0])).run Tryz.prog W = .ok (.bool false) W:=fun W=>by
   rw[eql_exactM,decide_eq_false fun⟨e1,e2⟩=>hw (by rw[e1,show dd=0 by omega];rfl)]
  obtain⟨xn,xd⟩:=x;have hx':rol m.t.s m.ru own other (2*v,2)=some ⟨xn,xd⟩:=hx
  have R2':Hid (∀(W:World),w.heap.size≤W.heap.size→MonI m T W→SQ T W A m.t.h own→SQ T W B m.t.h other→Calls Tryz.prog 99 #[.pointer (some ⟨m.bm,0,none⟩),.slice A m.t.h ca,.slice B m.t.h cb,.agg #[.int .i64 (2*v),.int .i64 2]] W (fun e w'=>e = .returned (.tuple #[.agg #[.int .i64 xn,.int .i64 (xd:Int)],.bool true])∧MonI m T w'∧Frm m.S W w')):=fun W hz h1 h2 h3=>by
   have:=R2.out T A B ca cb W (HTN.out W hz) h1 h2 hca h3 hcb;unfold RetMo at this;rw[hx']at this
   exact this
  by_cases hwx:(⟨xn,xd⟩:E)=⟨dn,dd⟩
  ·have ha:a=1:=by
    rcases hcases with⟨h,_⟩|⟨_,_,h⟩|⟨_,h,_⟩
    ·exact absurd h hw
    ·exact h
    ·exact absurd hwx.symm h
   have hq2':∀W:World,(binOp .eql 35 (.agg #[.int .i64 xn,.int .i64 (xd:Int)]) (.agg #[.int .i64 dn,.int .i64 (dd:Int)])).run Tryz.prog W = .ok (.bool true) W:=fun W=>by
    rw[eql_exactM,decide_eq_true (by injection hwx with e1 e2;exact⟨e1,by omega⟩)]
   subst ha;clear hcases hx hx' hd hT hI hA hB hm hq hq2 h0 hc hmay R2 HTN hw hwx
   go_enter Tryz.func103,Tryz.ntmps103
   go_wp2_with (go_at_call 162;(with_reducible refine (more_first (CA.out _)).mono ?_);rintro e w' ⟨rfl,tr,rfl⟩)
   replace HF:=h_ (HF.out.more tr);replace HI:=h_ (HI.out.below (below_more _ tr));replace HA:=h_ (HA.out.below (below_more _ tr));replace HB:=h_ (HB.out.below (below_more _ tr));generalize more ((w.alloc (.cells #[.int .i64 v,.int .i64 o] 62)).alloc (.cells #[.int .i64 dn,.int .i64 (dd:Int)] 35)) tr=W1 at *
   have hz1:w.heap.size+2≤W1.heap.size:=by have:=HF.out.z;simpa using this
   refine (R2'.out W1 (by omega) HI.out HA.out HB.out).mono ?_
   rintro e w2 ⟨rfl,hI2,hf2⟩
   have hfT:=frmT_M hf2 HTS.out;replace HF:=h_ (HF.out.frm hf2);replace HI:=h_ hI2;replace HA:=h_ (HA.out.frm hfT);replace HB:=h_ (HB.out.frm hfT)
   have hz2:w.heap.size+2≤w2.heap.size:=by have:=hf2.size;omega
   clear hI2 hf2 hfT R2' CA;obtain⟨z0,c00,f00,c01,f01,z1,c10,f10,c11,f11⟩:=HF.out.xf4
   go_wp2_with (fail)
   refine bodyPost_ret (v:=.int .i64 1) (by simp[results,Tryz.results103,go_sem]) rfl ⟨rfl,?_,?_⟩
   ·
    repeat (first|exact HI.out|refine MonI.alloc ?_ _)
   ·
    repeat (first|exact HF.out.f|refine Frm.alloc ?_ _|refine Frm.ownSet ?_ (by omega) _)
  ·obtain⟨hb,y,yb,hbev,ha⟩:bvr m.ru (v,o)=true∧∃y b,bev m.t.s m.ru own other (v,o)=some (y,b)∧a=if b then 4 else 3:=by
    rcases hcases with⟨h,_⟩|⟨_,h,_⟩|⟨_,_,h1,h2⟩
    ·exact absurd h hw
    ·exact absurd h.symm hwx
    ·exact⟨h1,h2⟩
   obtain⟨yn,yd⟩:=y
   have hq2':∀W:World,(binOp .eql 35 (.agg #[.int .i64 xn,.int .i64 (xd:Int)]) (.agg #[.int .i64 dn,.int .i64 (dd:Int)])).run Tryz.prog W = .ok (.bool false) W:=fun W=>by
    rw[eql_exactM,decide_eq_false fun⟨e1,e2⟩=>hwx (by rw[e1,show xd=dd by omega])]
   have BV:Hid (∀(W:World),w.heap.size≤W.heap.size→MonI m T W→SQ T W A m.t.h own→SQ T W B m.t.h other→Calls Tryz.prog 164 #[.pointer (some ⟨m.bm,0,none⟩),.slice A m.t.h ca,.slice B m.t.h cb,.agg #[.int .i64 v,.int .i64 o]] W (fun e w'=>e = .returned (.tuple #[.agg #[.int .i64 yn,.int .i64 (yd:Int)],.int .i64 a,.bool true])∧MonI m T w'∧Frm m.S W w')):=fun W hz h1 h2 h3=>by
    refine (beaver_all m hm hq hq2 h0 hc hb T A B ca cb W (HTN.out W hz) h1 h2 hca h3 hcb).mono ?_
    rintro e w' ⟨hI',hf,he⟩
    rw[hbev]at he
    exact⟨by rw[ha];exact he,hI',hf⟩
   clear hcases hx hx' hd hT hI hA hB hm hq hq2 h0 hc hmay R2 HTN hw hwx hb hbev ha
   go_enter Tryz.func103,Tryz.ntmps103
   go_wp2_with (go_at_call 162;(with_reducible refine (more_first (CA.out _)).mono ?_);rintro e w' ⟨rfl,tr,rfl⟩)
   replace HF:=h_ (HF.out.more tr);replace HI:=h_ (HI.out.below (below_more _ tr));replace HA:=h_ (HA.out.below (below_more _ tr));replace HB:=h_ (HB.out.below (below_more _ tr));generalize more ((w.alloc (.cells #[.int .i64 v,.int .i64 o] 62)).alloc (.cells #[.int .i64 dn,.int .i64 (dd:Int)] 35)) tr=W1 at *
   have hz1:w.heap.size+2≤W1.heap.size:=by have:=HF.out.z;simpa using this
   refine (R2'.out W1 (by omega) HI.out HA.out HB.out).mono ?_
   rintro e w2 ⟨rfl,hI2,hf2⟩
   have hfT:=frmT_M hf2 HTS.out;replace HF:=h_ (HF.out.frm hf2);replace HI:=h_ hI2;replace HA:=h_ (HA.out.frm hfT);replace HB:=h_ (HB.out.frm hfT)
   have hz2:w.heap.size+2≤w2.heap.size:=by have:=hf2.size;omega
   clear hI2 hf2 hfT R2' CA;obtain⟨z0,c00,f00,c01,f01,z1,c10,f10,c11,f11⟩:=HF.out.xf4
   go_wp2_with (fail)
   clear z0 c00 f00 c01 f01 z1 c10 f10 c11 f11
   have hzb:w.heap.size≤w2.heap.size:=by omega
   have HF3:=h_ (HF.out.alloc (.cells #[.int .i64 xn,.int .i64 (xd:Int)] 35))
   refine (BV.out _ (by simp;omega) (HI.out.alloc _) (HA.out.below ((Below.refl _ _).alloc (Nat.le_refl _) _)) (HB.out.below ((Below.refl _ _).alloc (Nat.le_refl _) _))).mono ?_
   rintro e w3 ⟨rfl,hI3,hf3⟩
   replace HF:=h_ (HF3.out.frm hf3);replace HI:=h_ hI3;clear hI3 hf3 HF3 HA HB BV;obtain⟨z0,c00,f00,c01,f01,z1,c10,f10,c11,f11⟩:=HF.out.xf4
   go_wp2_with (fail)
   refine bodyPost_ret (v:=.int .i64 a) (by simp[results,Tryz.results103,go_sem]) rfl ⟨rfl,?_,?_⟩
   ·
    repeat (first|exact HI.out|refine MonI.alloc ?_ _)
   ·
    repeat (first|exact HF.out.f|refine Frm.alloc ?_ _|refine Frm.ownSet ?_ (by omega) _)
noncomputable def dcd (s:Nat) (r:Ru) (own other:List Int) (c:Cb):Option (Int×E×E×Int×E):=
 (rol s r own other c).bind fun x=>if may r c=true then (dbl s r own other c).map fun d=>if ltE (sq s) x d.1 then (d.2,x,d.1,d.2,d.1) else (0,x,d.1,d.2,x) else some (0,x,⟨0,0⟩,0,x)
def dcV:Option (Int×E×E×Int×E)→Value
 | none=>.agg #[.int .i64 0,.int .i64 0,.int .i64 0,.int .i64 0,.int .i64 0,.int .i64 0,.int .i64 0,.int .i64 0]
 | some (a,x,y,b,z)=>.agg #[.int .i64 a,.int .i64 x.num,.int .i64 (x.depth:Int),.int .i64 y.num,.int .i64 (y.depth:Int),.int .i64 b,.int .i64 z.num,.int .i64 (z.depth:Int)]
def RetDc (m:MT) (T:Nat→Prop) (w:World) (o:Option (Int×E×E×Int×E)) (e:Ending) (w':World):Prop:=e = .returned (.tuple #[dcV o,.bool o.isSome])∧MonI m T w'∧Frm m.S w w'
theorem RetDc.mkN {m:MT} {T:Nat→Prop} {w w':World} {o:Option (Int×E×E×Int×E)} (h:o=none) (h1:MonI m T w') (h2:Frm m.S w w'):RetDc m T w o (.returned (.tuple #[.agg #[.int .i64 0,.int .i64 0,.int .i64 0,.int .i64 0,.int .i64 0,.int .i64 0,.int .i64 0,.int .i64 0],.bool false])) w':=by subst h;exact⟨rfl,h1,h2⟩
theorem RetDc.mkY {m:MT} {T:Nat→Prop} {w w':World} {o:Option (Int×E×E×Int×E)} {a b xn yn zn:Int} {xd yd zd:Nat} (h:o=some (a,⟨xn,xd⟩,⟨yn,yd⟩,b,⟨zn,zd⟩)) (h1:MonI m T w') (h2:Frm m.S w w'):RetDc m T w o (.returned (.tuple #[.agg #[.int .i64 a,.int .i64 xn,.int .i64 (xd:Int),.int .i64 yn,.int .i64 (yd:Int),.int .i64 b,.int .i64 zn,.int .i64 (zd:Int)],.bool true])) w':=by subst h;exact⟨rfl,h1,h2⟩
set_option maxRecDepth 100000 in
set_option maxHeartbeats 4000000 in
theorem decide_any (m:MT) (hm:m.Ok) {own other:List Int} (hq:PosP m.t.h m.t.c own) (hq2:PosP m.t.h m.t.c other) (h0:own.sum≠0) {c:Cb} (hc:CbOk m.K c):MonC m 113 own other c fun T w=>RetDc m T w (dcd m.t.s m.ru own other c):=by
 intro T A B ca cb w hT hI hA hca hB hcb
 have hc':=hc;obtain⟨v,o⟩:=c;have hv:=isVar_yes hm.t.v
 have hs1:1≤m.t.s:=by omega
 have hs6:m.t.s≤6:=by omega
 obtain⟨hq1,hq36,_⟩:=sq_bd hs1 hs6;have hcv:1≤v∧v≤1024∧0≤o∧o≤2:=hc.v1 hm.k;have hlow:=hI.ltS;have HSUB:=h_ hI.sub
 have HNS:Hid (∀j,¬m.S (w.heap.size+j)):=fun j h=>by have:=hlow _ h;omega
 have hb0:Below w.heap.size w (((w.alloc (.cells #[.int .i64 v,.int .i64 o] 62)).alloc (.cells #[.int .i64 0,.int .i64 0,.int .i64 0,.int .i64 0,.int .i64 0,.int .i64 0,.int .i64 0,.int .i64 0] 79)).alloc (.cells #[.int .i64 0,.int .i64 0,.int .i64 0,.int .i64 0,.int .i64 0,.int .i64 0,.int .i64 0,.int .i64 0] 79)):=(((Below.refl _ _).alloc (Nat.le_refl _) _).alloc (by simp) _).alloc (by simp;omega) _
 have HF:Hid (FrS m.S w (((w.alloc (.cells #[.int .i64 v,.int .i64 o] 62)).alloc (.cells #[.int .i64 0,.int .i64 0,.int .i64 0,.int .i64 0,.int .i64 0,.int .i64 0,.int .i64 0,.int .i64 0] 79)).alloc (.cells #[.int .i64 0,.int .i64 0,.int .i64 0,.int .i64 0,.int .i64 0,.int .i64 0,.int .i64 0,.int .i64 0] 79)) [[.int .i64 v,.int .i64 o],[.int .i64 0,.int .i64 0,.int .i64 0,.int .i64 0,.int .i64 0,.int .i64 0,.int .i64 0,.int .i64 0],[.int .i64 0,.int .i64 0,.int .i64 0,.int .i64 0,.int .i64 0,.int .i64 0,.int .i64 0,.int .i64 0]]):=(((FrS.start w hlow).allocT (by simp) _ _).allocT (by simp) _ _).allocT (by simp) _ _
 have HI:=h_ ((hI.wide 3).below hb0);have HA:=h_ ((hA.wide 3).below hb0);have HB:=h_ ((hB.wide 3).below hb0)
 have HTN:Hid (∀W:World,w.heap.size+3≤W.heap.size→∀k,W.heap.size≤k→¬ownT T w 3 k):=fun W hz=>ownT_new hT hz
 generalize hTT:ownT T w 3=T' at *;replace hTT:=h_ hTT;have HTT:=hTT;have HTS:Hid (∀k,m.S k→T' k):=HI.out.sub;clear hTT;have R1:=h_ (mroll_all m hm hq hq2 h0 hc')
 have HDB:Hid (may m.ru (v,o)=true→DblC m own other (v,o)):=fun h=>doubled_all m hm hq hq2 h0 hc' h
 have HRP:Hid (∀(xn:Int) (xd:Nat) (a:Int),dbl m.t.s m.ru own other (v,o)=some (⟨xn,xd⟩,a)→may m.ru (v,o)=true→∀W:World,(∀k,W.heap.size≤k→¬T' k)→MonI m T' W→SQ T' W A m.t.h own→SQ T' W B m.t.h other→Calls Tryz.prog 103 #[.pointer (some ⟨m.bm,0,none⟩),.slice A m.t.h ca,.slice B m.t.h cb,.agg #[.int .i64 v,.int .i64 o],.agg #[.int .i64 xn,.int .i64 (xd:Int)]] W fun e w'=>e = .returned (.int .i64 a)∧MonI m T' w'∧Frm m.S W w'):=fun xn xd a he h W hW h1 h2 h3=>replyI_any m hm hq hq2 h0 hc' h (D:=⟨xn,xd⟩) he T' A B ca cb W hW h1 h2 hca h3 hcb
 obtain⟨od,hod⟩:∃od,od=dcd m.t.s m.ru own other (v,o):=⟨_,rfl⟩
 have HNO:Hid (rol m.t.s m.ru own other (v,o)=none→od=none):=fun h=>by rw[hod];unfold dcd;rw[h];rfl
 have HST:Hid (∀x,rol m.t.s m.ru own other (v,o)=some x→may m.ru (v,o)=false→od=some (0,x,⟨0,0⟩,0,x)):=fun x h h2=>by rw[hod];unfold dcd;rw[h,h2];rfl
 have HDN:Hid (∀x,rol m.t.s m.ru own other (v,o)=some x→may m.ru (v,o)=true→dbl m.t.s m.ru own other (v,o)=none→od=none):=fun x h h2 h3=>by rw[hod];unfold dcd;rw[h,h2,h3];rfl
 have HDV:Hid (∀x y a,rol m.t.s m.ru own other (v,o)=some x→may m.ru (v,o)=true→dbl m.t.s m.ru own other (v,o)=some (y,a)→od=some (if ltE (sq m.t.s) x y then (a,x,y,a,y) else (0,x,y,a,x))):=fun x y a h h2 h3=>by rw[hod];unfold dcd;rw[h,h2,h3];rfl
 have HV1:Hid (∀e,rol m.t.s m.ru own other (v,o)=some e→Val (sq m.t.s) e):=fun e h=>rol_val hq1 h
 have HV2:Hid (∀e a,dbl m.t.s m.ru own other (v,o)=some (e,a)→Val (sq m.t.s) e):=fun e a h=>dblV_val (s:=m.t.s) (r:=m.ru) (own:=own) (other:=other) (c:=(v,o)) hq1 (by show -100000≤v;omega) (by show v≤100000;omega) (by rw[← dbl_fst,h];rfl)
 have HMY:=h_ fun (W:World)=>mayDouble_any (two m.K) m.bv m.jc v o W (by omega) (by omega)
 have hrc:may ⟨two m.K,m.bv⟩ (v,o)=may m.ru (v,o):=rfl;rw[hrc]at HMY
 have COM:=h_ fun (x y:E) (W:World) (hx:Val (sq m.t.s) x) (hy:Val (sq m.t.s) y)=>compareExact_any m.t.p m.t.c m.t.h x.num y.num m.t.s x.depth y.depth W hs1 hs6 hx hy
 rw[← hod];clear hT hI hA hB hv hm hb0 hlow hq hq2 h0 hc hc' hrc hod
 go_enter Tryz.func113,Tryz.ntmps113
 go_wp2_with (fail)
 generalize (((w.alloc (.cells #[.int .i64 v,.int .i64 o] 62)).alloc (.cells #[.int .i64 0,.int .i64 0,.int .i64 0,.int .i64 0,.int .i64 0,.int .i64 0,.int .i64 0,.int .i64 0] 79)).alloc (.cells #[.int .i64 0,.int .i64 0,.int .i64 0,.int .i64 0,.int .i64 0,.int .i64 0,.int .i64 0,.int .i64 0] 79))=W1 at *
 have hz1:w.heap.size+3≤W1.heap.size:=by have:=HF.out.z;simpa using this
 refine (R1.out T' A B ca cb W1 (HTN.out W1 hz1) HI.out HA.out hca HB.out hcb).mono ?_
 rintro e w2 ⟨rfl,hI,hf⟩
 have hfT:=frmT_M hf HTS.out;replace HF:=h_ (HF.out.frm hf);replace HI:=h_ hI;replace HA:=h_ (HA.out.frm hfT);replace HB:=h_ (HB.out.frm hfT);clear hI;have hz2:w.heap.size+3≤w2.heap.size:=Nat.le_trans hz1 hf.size;clear hf hfT R1
 rcases h1:rol m.t.s m.ru own other (v,o) with _|⟨xn,xd⟩
 ·have HRE:Hid (od=none):=HNO.out h1
  clear h1 HNO HST HDN HDV;unfold exV
  simp only[Option.getD_none,Option.isSome_none]
  obtain⟨z0,c00,f00,c01,f01,z1,c10,f10,c11,f11,c12,f12,c13,f13,c14,f14,c15,f15,c16,f16,c17,f17,z2,c20,f20,c21,f21,c22,f22,c23,f23,c24,f24,c25,f25,c26,f26,c27,f27⟩:=HF.out.xf7
  go_wp2_with (fail)
  refine bodyPost_ret (v:=.tuple #[.agg #[.int .i64 0,.int .i64 0,.int .i64 0,.int .i64 0,.int .i64 0,.int .i64 0,.int .i64 0,.int .i64 0],.bool false]) (by simp[results,Tryz.results113,go_sem,c10,c11,c12,c13,c14,c15,c16,c17,z1,f10,f11,f12,f13,f14,f15,f16,f17]) rfl ?_
  refine RetDc.mkN HRE.out ?_ ?_
  ·
   refine MonI.less (T:=T') ?_ (fun k hk=>by rw[← HTT.out];exact .inl hk) HSUB.out
   have ht1:T' (w.heap.size+1):=by rw[← HTT.out];exact ownT_at 1 rfl (by omega)
   have ht2:T' (w.heap.size+1+1):=by rw[← HTT.out];exact ownT_at 2 rfl (by omega)
   repeat (first|with_reducible exact HI.out|with_reducible refine MonI.alloc ?_ _|with_reducible refine MonI.stored ?_ _ ht1 (HNS.out 1)|with_reducible refine MonI.stored ?_ _ ht2 (HNS.out 2))
  ·
   repeat (first|with_reducible exact HF.out.f|with_reducible refine Frm.alloc ?_ _|with_reducible refine Frm.ownSet ?_ (by omega) _)
 ·have HVX:Hid (Val (sq m.t.s) ⟨xn,xd⟩):=HV1.out _ h1
  have HST1:Hid (may m.ru (v,o)=false→od=some (0,⟨xn,xd⟩,⟨0,0⟩,0,⟨xn,xd⟩)):=HST.out _ h1;have HDN1:Hid (may m.ru (v,o)=true→dbl m.t.s m.ru own other (v,o)=none→od=none):=HDN.out _ h1
  have HDV1:Hid (∀y a,may m.ru (v,o)=true→dbl m.t.s m.ru own other (v,o)=some (y,a)→od=some (if ltE (sq m.t.s) ⟨xn,xd⟩ y then (a,⟨xn,xd⟩,y,a,y) else (0,⟨xn,xd⟩,y,a,⟨xn,xd⟩))):=fun y a=>HDV.out _ y a h1
  clear h1 HNO HST HDN HDV HV1;unfold exV
  simp only[Option.getD_some,Option.isSome_some]
  obtain⟨z0,c00,f00,c01,f01,z1,c10,f10,c11,f11,c12,f12,c13,f13,c14,f14,c15,f15,c16,f16,c17,f17,z2,c20,f20,c21,f21,c22,f22,c23,f23,c24,f24,c25,f25,c26,f26,c27,f27⟩:=HF.out.xf7
  go_wp2_with (fail)
  clear z0 c00 f00 c01 f01 z1 c10 f10 c11 f11 c12 f12 c13 f13 c14 f14 c15 f15 c16 f16 c17 f17 z2 c20 f20 c21 f21 c22 f22 c23 f23 c24 f24 c25 f25 c26 f26 c27 f27;replace HF:=h_ (HF.out.alloc (.cells #[.int .i64 (xn),.int .i64 ((xd:Int))] 35));replace HI:=h_ (HI.out.alloc (.cells #[.int .i64 (xn),.int .i64 ((xd:Int))] 35));replace HA:=h_ (HA.out.below ((Below.refl _ _).alloc (Nat.le_refl _) (.cells #[.int .i64 (xn),.int .i64 ((xd:Int))] 35)));replace HB:=h_ (HB.out.below ((Below.refl _ _).alloc (Nat.le_refl _) (.cells #[.int .i64 (xn),.int .i64 ((xd:Int))] 35)))
  have g0:((w2).alloc (.cells #[.int .i64 (xn),.int .i64 ((xd:Int))] 35)).cell? ⟨(w2).heap.size,0,none⟩=some (.int .i64 (xn)):=by simp[go_sem]
  have g1:((w2).alloc (.cells #[.int .i64 (xn),.int .i64 ((xd:Int))] 35)).cell? ⟨(w2).heap.size,1,none⟩=some (.int .i64 ((xd:Int))):=by simp[go_sem]
  have gz:(w2).heap.size<((w2).alloc (.cells #[.int .i64 (xn),.int .i64 ((xd:Int))] 35)).heap.size:=by simp
  generalize w2.alloc (.cells #[.int .i64 xn,.int .i64 (xd:Int)] 35)=X at *
  have gn1:¬w2.heap.size=w.heap.size+1+1:=by omega
  have gn2:¬w.heap.size+1+1=w2.heap.size:=by omega
  obtain⟨z0,c00,f00,c01,f01,z1,c10,f10,c11,f11,c12,f12,c13,f13,c14,f14,c15,f15,c16,f16,c17,f17,z2,c20,f20,c21,f21,c22,f22,c23,f23,c24,f24,c25,f25,c26,f26,c27,f27⟩:=HF.out.xf7
  go_region
  clear z0 c00 f00 c01 f01 z1 c10 f10 c11 f11 c12 f12 c13 f13 c14 f14 c15 f15 c16 f16 c17 f17 z2 c20 f20 c21 f21 c22 f22 c23 f23 c24 f24 c25 f25 c26 f26 c27 f27
  have ht2:T' (w.heap.size+1+1):=by rw[← HTT.out];exact ownT_at 2 rfl (by omega)
  have HX1:Hid (FrS m.S w ((((X.setCell ⟨w.heap.size+1+1,1,none⟩ (.int .i64 xn)).setCell ⟨w.heap.size+1+1,2,none⟩ (.int .i64 (xd:Int))).setCell ⟨w.heap.size+1+1,6,none⟩ (.int .i64 xn)).setCell ⟨w.heap.size+1+1,7,none⟩ (.int .i64 (xd:Int))).drew [[.int .i64 v,.int .i64 o],[.int .i64 0,.int .i64 0,.int .i64 0,.int .i64 0,.int .i64 0,.int .i64 0,.int .i64 0,.int .i64 0],[.int .i64 0,.int .i64 xn,.int .i64 (xd:Int),.int .i64 0,.int .i64 0,.int .i64 0,.int .i64 xn,.int .i64 (xd:Int)]]):=((((HF.out.set 2 1 rfl rfl (.int .i64 xn)).set 2 2 rfl rfl (.int .i64 (xd:Int))).set 2 6 rfl rfl (.int .i64 xn)).set 2 7 rfl rfl (.int .i64 (xd:Int))).drew;have HX2:Hid (MonI m T' ((((X.setCell ⟨w.heap.size+1+1,1,none⟩ (.int .i64 xn)).setCell ⟨w.heap.size+1+1,2,none⟩ (.int .i64 (xd:Int))).setCell ⟨w.heap.size+1+1,6,none⟩ (.int .i64 xn)).setCell ⟨w.heap.size+1+1,7,none⟩ (.int .i64 (xd:Int))).drew):=h_ ((((HI.out.stored _ ht2 (HNS.out 2)).stored _ ht2 (HNS.out 2)).stored _ ht2 (HNS.out 2)).stored _ ht2 (HNS.out 2)).drew
  have hfs:Frm T' X ((((X.setCell ⟨w.heap.size+1+1,1,none⟩ (.int .i64 xn)).setCell ⟨w.heap.size+1+1,2,none⟩ (.int .i64 (xd:Int))).setCell ⟨w.heap.size+1+1,6,none⟩ (.int .i64 xn)).setCell ⟨w.heap.size+1+1,7,none⟩ (.int .i64 (xd:Int))).drew:=by
   have h1:Frm (fun k=>k=w.heap.size+1+1) X ((((X.setCell ⟨w.heap.size+1+1,1,none⟩ (.int .i64 xn)).setCell ⟨w.heap.size+1+1,2,none⟩ (.int .i64 (xd:Int))).setCell ⟨w.heap.size+1+1,6,none⟩ (.int .i64 xn)).setCell ⟨w.heap.size+1+1,7,none⟩ (.int .i64 (xd:Int))):=(((Frm.set _ _ _ _).trans (Frm.set _ _ _ _)).trans (Frm.set _ _ _ _)).trans (Frm.set _ _ _ _)
   exact (h1.mono fun k hk=>by rw[hk];exact ht2).drew
  replace HA:=h_ (HA.out.frm hfs);replace HB:=h_ (HB.out.frm hfs);clear hfs HF HI g0 g1 gz gn1 gn2;generalize ((((X.setCell ⟨w.heap.size+1+1,1,none⟩ (.int .i64 xn)).setCell ⟨w.heap.size+1+1,2,none⟩ (.int .i64 (xd:Int))).setCell ⟨w.heap.size+1+1,6,none⟩ (.int .i64 xn)).setCell ⟨w.heap.size+1+1,7,none⟩ (.int .i64 (xd:Int))).drew=X1 at *;have HF:=HX1;have HI:=HX2;clear HX1 HX2
  have hz3:w.heap.size+3≤X1.heap.size:=by have:=HF.out.z;simpa using this
  generalize may m.ru (v,o)=mb at *
  cases mb
  ·have HRE:=h_ (HST1.out rfl)
   clear HST1 HDN1 HDV1 HDB HRP COM HV2
   go_wp2_with (fail)
   have e0:=HI.out.tb 0 _ rfl;have e1:=HI.out.tb 1 _ rfl;have e2:=HI.out.tb 2 _ rfl;have e3:=HI.out.tb 3 _ rfl;have r0:=HI.out.ra.tb 0 _ rfl;have r1:=HI.out.ra.tb 1 _ rfl;have r2:=HI.out.ra.tb 2 _ rfl;have r3:=HI.out.ra.tb 3 _ rfl;have hbm:=HI.out.ltB;have hbt:=HI.out.ra.ltB;obtain⟨z0,c00,f00,c01,f01,z1,c10,f10,c11,f11,c12,f12,c13,f13,c14,f14,c15,f15,c16,f16,c17,f17,z2,c20,f20,c21,f21,c22,f22,c23,f23,c24,f24,c25,f25,c26,f26,c27,f27⟩:=HF.out.xf7
   first|refine wp_region_more2 (by kernel_rfl) (by kernel_rfl) ?_|refine wp_region_more (by kernel_rfl) (by kernel_rfl) ?_
   repeat (first|go_big_quiet_step ((go_at_call 160;exact more_call (HMY.out _)))|quiet_step ((go_at_call 160;exact more_call (HMY.out _))))
   refine wpQuiet_nil ?_
   intro _ hw'
   obtain⟨tr,hw''⟩:=hw';subst hw'';clear z0 c00 f00 c01 f01 z1 c10 f10 c11 f11 c12 f12 c13 f13 c14 f14 c15 f15 c16 f16 c17 f17 z2 c20 f20 c21 f21 c22 f22 c23 f23 c24 f24 c25 f25 c26 f26 c27 f27;clear e0 e1 e2 e3 r0 r1 r2 r3 hbm hbt;replace HF:=h_ (HF.out.more tr);replace HI:=h_ (HI.out.below (below_more _ tr));replace HA:=h_ (HA.out.below (below_more _ tr));replace HB:=h_ (HB.out.below (below_more _ tr));generalize more X1 tr=Y at *;obtain⟨z0,c00,f00,c01,f01,z1,c10,f10,c11,f11,c12,f12,c13,f13,c14,f14,c15,f15,c16,f16,c17,f17,z2,c20,f20,c21,f21,c22,f22,c23,f23,c24,f24,c25,f25,c26,f26,c27,f27⟩:=HF.out.xf7
   go_wp2_with (fail)
   refine bodyPost_ret (v:=.tuple #[.agg #[.int .i64 0,.int .i64 xn,.int .i64 (xd:Int),.int .i64 0,.int .i64 0,.int .i64 0,.int .i64 xn,.int .i64 (xd:Int)],.bool true]) (by simp[results,Tryz.results113,go_sem,c10,c11,c12,c13,c14,c15,c16,c17,z1,f10,f11,f12,f13,f14,f15,f16,f17]) rfl ?_
   refine RetDc.mkY (yd:=0) HRE.out ?_ ?_
   ·
    refine MonI.less (T:=T') ?_ (fun k hk=>by rw[← HTT.out];exact .inl hk) HSUB.out
    have ht1:T' (w.heap.size+1):=by rw[← HTT.out];exact ownT_at 1 rfl (by omega)
    have ht2:T' (w.heap.size+1+1):=by rw[← HTT.out];exact ownT_at 2 rfl (by omega)
    repeat (first|with_reducible exact HI.out|with_reducible refine MonI.alloc ?_ _|with_reducible refine MonI.stored ?_ _ ht1 (HNS.out 1)|with_reducible refine MonI.stored ?_ _ ht2 (HNS.out 2))
   ·
    repeat (first|with_reducible exact HF.out.f|with_reducible refine Frm.alloc ?_ _|with_reducible refine Frm.ownSet ?_ (by omega) _)
  ·have R2:=h_ (HDB.out rfl)
   clear HST1 HDB
   go_wp2_with (fail)
   have e0:=HI.out.tb 0 _ rfl;have e1:=HI.out.tb 1 _ rfl;have e2:=HI.out.tb 2 _ rfl;have e3:=HI.out.tb 3 _ rfl;have r0:=HI.out.ra.tb 0 _ rfl;have r1:=HI.out.ra.tb 1 _ rfl;have r2:=HI.out.ra.tb 2 _ rfl;have r3:=HI.out.ra.tb 3 _ rfl;have hbm:=HI.out.ltB;have hbt:=HI.out.ra.ltB;obtain⟨z0,c00,f00,c01,f01,z1,c10,f10,c11,f11,c12,f12,c13,f13,c14,f14,c15,f15,c16,f16,c17,f17,z2,c20,f20,c21,f21,c22,f22,c23,f23,c24,f24,c25,f25,c26,f26,c27,f27⟩:=HF.out.xf7
   first|refine wp_region_more2 (by kernel_rfl) (by kernel_rfl) ?_|refine wp_region_more (by kernel_rfl) (by kernel_rfl) ?_
   repeat (first|go_big_quiet_step ((go_at_call 160;exact more_call (HMY.out _)))|quiet_step ((go_at_call 160;exact more_call (HMY.out _))))
   refine wpQuiet_nil ?_
   intro _ hw'
   obtain⟨tr,hw''⟩:=hw';subst hw'';clear z0 c00 f00 c01 f01 z1 c10 f10 c11 f11 c12 f12 c13 f13 c14 f14 c15 f15 c16 f16 c17 f17 z2 c20 f20 c21 f21 c22 f22 c23 f23 c24 f24 c25 f25 c26 f26 c27 f27;clear e0 e1 e2 e3 r0 r1 r2 r3 hbm hbt;replace HF:=h_ (HF.out.more tr);replace HI:=h_ (HI.out.below (below_more _ tr));replace HA:=h_ (HA.out.below (below_more _ tr));replace HB:=h_ (HB.out.below (below_more _ tr));generalize more X1 tr=Y at *
   have hz4:w.heap.size+3≤Y.heap.size:=by have:=HF.out.z;simpa using this
   clear HMY;obtain⟨z0,c00,f00,c01,f01,z1,c10,f10,c11,f11,c12,f12,c13,f13,c14,f14,c15,f15,c16,f16,c17,f17,z2,c20,f20,c21,f21,c22,f22,c23,f23,c24,f24,c25,f25,c26,f26,c27,f27⟩:=HF.out.xf7
   go_wp2_with (fail)
   clear z0 c00 f00 c01 f01 z1 c10 f10 c11 f11 c12 f12 c13 f13 c14 f14 c15 f15 c16 f16 c17 f17 z2 c20 f20 c21 f21 c22 f22 c23 f23 c24 f24 c25 f25 c26 f26 c27 f27
   refine (R2.out T' A B ca cb Y (HTN.out Y hz4) HI.out HA.out hca HB.out hcb).mono ?_
   rintro e w4 ⟨rfl,hI,hf⟩
   have hfT:=frmT_M hf HTS.out;replace HF:=h_ (HF.out.frm hf);replace HI:=h_ hI;replace HA:=h_ (HA.out.frm hfT);replace HB:=h_ (HB.out.frm hfT);clear hI;have hz5:w.heap.size+3≤w4.heap.size:=Nat.le_trans hz4 hf.size;clear hf hfT R2
   rcases h8:dbl m.t.s m.ru own other (v,o) with _|⟨⟨yn,yd⟩,ra⟩
   ·have HRE:Hid (od=none):=HDN1.out (by trivial) h8
    clear HDN1 HDV1 h8 HRP COM HV2
    simp only[Option.map_none,exV,Option.getD_none,Option.isSome_none]
    obtain⟨z0,c00,f00,c01,f01,z1,c10,f10,c11,f11,c12,f12,c13,f13,c14,f14,c15,f15,c16,f16,c17,f17,z2,c20,f20,c21,f21,c22,f22,c23,f23,c24,f24,c25,f25,c26,f26,c27,f27⟩:=HF.out.xf7
    go_wp2_with (fail)
    refine bodyPost_ret (v:=.tuple #[.agg #[.int .i64 0,.int .i64 0,.int .i64 0,.int .i64 0,.int .i64 0,.int .i64 0,.int .i64 0,.int .i64 0],.bool false]) (by simp[results,Tryz.results113,go_sem,c10,c11,c12,c13,c14,c15,c16,c17,z1,f10,f11,f12,f13,f14,f15,f16,f17]) rfl ?_
    refine RetDc.mkN HRE.out ?_ ?_
    ·
     refine MonI.less (T:=T') ?_ (fun k hk=>by rw[← HTT.out];exact .inl hk) HSUB.out
     have ht1:T' (w.heap.size+1):=by rw[← HTT.out];exact ownT_at 1 rfl (by omega)
     have ht2:T' (w.heap.size+1+1):=by rw[← HTT.out];exact ownT_at 2 rfl (by omega)
     repeat (first|with_reducible exact HI.out|with_reducible refine MonI.alloc ?_ _|with_reducible refine MonI.stored ?_ _ ht1 (HNS.out 1)|with_reducible refine MonI.stored ?_ _ ht2 (HNS.out 2))
    ·
     repeat (first|with_reducible exact HF.out.f|with_reducible refine Frm.alloc ?_ _|with_reducible refine Frm.ownSet ?_ (by omega) _)
   ·have HVY:Hid (Val (sq m.t.s) ⟨yn,yd⟩):=HV2.out _ _ h8
    have HRE1:Hid (od=some (if ltE (sq m.t.s) ⟨xn,xd⟩ ⟨yn,yd⟩ then (ra,⟨xn,xd⟩,⟨yn,yd⟩,ra,⟨yn,yd⟩) else (0,⟨xn,xd⟩,⟨yn,yd⟩,ra,⟨xn,xd⟩))):=HDV1.out _ _ (by trivial) h8
    have R3:=h_ (HRP.out yn yd ra h8 (by trivial))
    have COM2:=h_ fun (W:World)=>COM.out ⟨yn,yd⟩ ⟨xn,xd⟩ W HVY.out HVX.out
    have HCS:Hid ((0<cmpE (sq m.t.s) ⟨yn,yd⟩ ⟨xn,xd⟩)=(ltE (sq m.t.s) ⟨xn,xd⟩ ⟨yn,yd⟩=true)):=cmp_swap;have hcb1:=cmp_bd (sq m.t.s) ⟨yn,yd⟩ ⟨xn,xd⟩;clear HDN1 HDV1 h8 HRP COM HV2
    simp only[Option.map_some,exV,Option.getD_some,Option.isSome_some]
    obtain⟨z0,c00,f00,c01,f01,z1,c10,f10,c11,f11,c12,f12,c13,f13,c14,f14,c15,f15,c16,f16,c17,f17,z2,c20,f20,c21,f21,c22,f22,c23,f23,c24,f24,c25,f25,c26,f26,c27,f27⟩:=HF.out.xf7
    go_wp2_with (fail)
    clear z0 c00 f00 c01 f01 z1 c10 f10 c11 f11 c12 f12 c13 f13 c14 f14 c15 f15 c16 f16 c17 f17 z2 c20 f20 c21 f21 c22 f22 c23 f23 c24 f24 c25 f25 c26 f26 c27 f27
    have ht2:T' (w.heap.size+1+1):=by rw[← HTT.out];exact ownT_at 2 rfl (by omega)
    have HX1:Hid (FrS m.S w ((w4.setCell ⟨w.heap.size+1+1,3,none⟩ (.int .i64 yn)).setCell ⟨w.heap.size+1+1,4,none⟩ (.int .i64 (yd:Int))) [[.int .i64 v,.int .i64 o],[.int .i64 0,.int .i64 0,.int .i64 0,.int .i64 0,.int .i64 0,.int .i64 0,.int .i64 0,.int .i64 0],[.int .i64 0,.int .i64 xn,.int .i64 (xd:Int),.int .i64 yn,.int .i64 (yd:Int),.int .i64 0,.int .i64 xn,.int .i64 (xd:Int)]]):=(HF.out.set 2 3 rfl rfl (.int .i64 yn)).set 2 4 rfl rfl (.int .i64 (yd:Int));have HX2:Hid (MonI m T' ((w4.setCell ⟨w.heap.size+1+1,3,none⟩ (.int .i64 yn)).setCell ⟨w.heap.size+1+1,4,none⟩ (.int .i64 (yd:Int)))):=h_ ((HI.out.stored _ ht2 (HNS.out 2)).stored _ ht2 (HNS.out 2))
    have hfs:Frm T' w4 ((w4.setCell ⟨w.heap.size+1+1,3,none⟩ (.int .i64 yn)).setCell ⟨w.heap.size+1+1,4,none⟩ (.int .i64 (yd:Int))):=by
     have h1:Frm (fun k=>k=w.heap.size+1+1) w4 ((w4.setCell ⟨w.heap.size+1+1,3,none⟩ (.int .i64 yn)).setCell ⟨w.heap.size+1+1,4,none⟩ (.int .i64 (yd:Int))):=(Frm.set _ _ _ _).trans (Frm.set _ _ _ _)
     exact h1.mono fun k hk=>by rw[hk];exact ht2
    replace HA:=h_ (HA.out.frm hfs);replace HB:=h_ (HB.out.frm hfs);clear hfs HF HI;generalize ((w4.setCell ⟨w.heap.size+1+1,3,none⟩ (.int .i64 yn)).setCell ⟨w.heap.size+1+1,4,none⟩ (.int .i64 (yd:Int)))=X2 at *;have HF:=HX1;have HI:=HX2;clear HX1 HX2
    have hz6:w.heap.size+3≤X2.heap.size:=by have:=HF.out.z;simpa using this
    refine (R3.out X2 (HTN.out X2 hz6) HI.out HA.out HB.out).mono ?_
    rintro e w6 ⟨rfl,hI,hf⟩
    have hfT:=frmT_M hf HTS.out;replace HF:=h_ (HF.out.frm hf);replace HI:=h_ hI;replace HA:=h_ (HA.out.frm hfT);replace HB:=h_ (HB.out.frm hfT);clear hI;have hz7:w.heap.size+3≤w6.heap.size:=Nat.le_trans hz6 hf.size;clear hf hfT R3 HA HB;obtain⟨z0,c00,f00,c01,f01,z1,c10,f10,c11,f11,c12,f12,c13,f13,c14,f14,c15,f15,c16,f16,c17,f17,z2,c20,f20,c21,f21,c22,f22,c23,f23,c24,f24,c25,f25,c26,f26,c27,f27⟩:=HF.out.xf7
    go_wp2_with (fail)
    clear z0 c00 f00 c01 f01 z1 c10 f10 c11 f11 c12 f12 c13 f13 c14 f14 c15 f15 c16 f16 c17 f17 z2 c20 f20 c21 f21 c22 f22 c23 f23 c24 f24 c25 f25 c26 f26 c27 f27;have HX1:Hid (FrS m.S w (w6.setCell ⟨w.heap.size+1+1,5,none⟩ (.int .i64 ra)) [[.int .i64 v,.int .i64 o],[.int .i64 0,.int .i64 0,.int .i64 0,.int .i64 0,.int .i64 0,.int .i64 0,.int .i64 0,.int .i64 0],[.int .i64 0,.int .i64 xn,.int .i64 (xd:Int),.int .i64 yn,.int .i64 (yd:Int),.int .i64 ra,.int .i64 xn,.int .i64 (xd:Int)]]):=HF.out.set 2 5 rfl rfl (.int .i64 ra);have HX2:Hid (MonI m T' (w6.setCell ⟨w.heap.size+1+1,5,none⟩ (.int .i64 ra))):=h_ (HI.out.stored _ ht2 (HNS.out 2));clear HF HI;generalize w6.setCell ⟨w.heap.size+1+1,5,none⟩ (.int .i64 ra)=X3 at *;have HF:=HX1;have HI:=HX2;clear HX1 HX2
    have hz8:w.heap.size+3≤X3.heap.size:=by have:=HF.out.z;simpa using this
    generalize cmpE (sq m.t.s) ⟨yn,yd⟩ ⟨xn,xd⟩=cm at *
    by_cases hcm:0<cm
    ·have HRE:Hid (od=some (ra,⟨xn,xd⟩,⟨yn,yd⟩,ra,⟨yn,yd⟩)):=by
      unfold Hid
      rw[HRE1.out,if_pos (by rw[← HCS.out];exact hcm)]
     have dcm:=decide_eq_true hcm;clear HRE1 HCS;have e0:=HI.out.tb 0 _ rfl;have e1:=HI.out.tb 1 _ rfl;have e2:=HI.out.tb 2 _ rfl;have e3:=HI.out.tb 3 _ rfl;have r0:=HI.out.ra.tb 0 _ rfl;have r1:=HI.out.ra.tb 1 _ rfl;have r2:=HI.out.ra.tb 2 _ rfl;have r3:=HI.out.ra.tb 3 _ rfl;have hbm:=HI.out.ltB;have hbt:=HI.out.ra.ltB;obtain⟨z0,c00,f00,c01,f01,z1,c10,f10,c11,f11,c12,f12,c13,f13,c14,f14,c15,f15,c16,f16,c17,f17,z2,c20,f20,c21,f21,c22,f22,c23,f23,c24,f24,c25,f25,c26,f26,c27,f27⟩:=HF.out.xf7
     first|refine wp_region_more2 (by kernel_rfl) (by kernel_rfl) ?_|refine wp_region_more (by kernel_rfl) (by kernel_rfl) ?_
     repeat (first|go_big_quiet_step ((go_at_call 125;exact more_call (COM2.out _)))|quiet_step ((go_at_call 125;exact more_call (COM2.out _))))
     refine wpQuiet_nil ?_
     intro _ hw'
     obtain⟨tq,hw''⟩:=hw';subst hw'';clear z0 c00 f00 c01 f01 z1 c10 f10 c11 f11 c12 f12 c13 f13 c14 f14 c15 f15 c16 f16 c17 f17 z2 c20 f20 c21 f21 c22 f22 c23 f23 c24 f24 c25 f25 c26 f26 c27 f27;clear e0 e1 e2 e3 r0 r1 r2 r3 hbm hbt;replace HF:=h_ (HF.out.more tq);replace HI:=h_ (HI.out.below (below_more _ tq));generalize more X3 tq=Y2 at *;obtain⟨z0,c00,f00,c01,f01,z1,c10,f10,c11,f11,c12,f12,c13,f13,c14,f14,c15,f15,c16,f16,c17,f17,z2,c20,f20,c21,f21,c22,f22,c23,f23,c24,f24,c25,f25,c26,f26,c27,f27⟩:=HF.out.xf7
     go_wp2_with (fail)
     refine bodyPost_ret (v:=.tuple #[.agg #[.int .i64 ra,.int .i64 xn,.int .i64 (xd:Int),.int .i64 yn,.int .i64 (yd:Int),.int .i64 ra,.int .i64 yn,.int .i64 (yd:Int)],.bool true]) (by simp[results,Tryz.results113,go_sem,c10,c11,c12,c13,c14,c15,c16,c17,z1,f10,f11,f12,f13,f14,f15,f16,f17]) rfl ?_
     refine RetDc.mkY HRE.out ?_ ?_
     ·
      refine MonI.less (T:=T') ?_ (fun k hk=>by rw[← HTT.out];exact .inl hk) HSUB.out
      have ht1:T' (w.heap.size+1):=by rw[← HTT.out];exact ownT_at 1 rfl (by omega)
      have ht2:T' (w.heap.size+1+1):=by rw[← HTT.out];exact ownT_at 2 rfl (by omega)
      repeat (first|with_reducible exact HI.out|with_reducible refine MonI.alloc ?_ _|with_reducible refine MonI.stored ?_ _ ht1 (HNS.out 1)|with_reducible refine MonI.stored ?_ _ ht2 (HNS.out 2))
     ·
      repeat (first|with_reducible exact HF.out.f|with_reducible refine Frm.alloc ?_ _|with_reducible refine Frm.ownSet ?_ (by omega) _)
    ·have HRE:Hid (od=some (0,⟨xn,xd⟩,⟨yn,yd⟩,ra,⟨xn,xd⟩)):=by
      unfold Hid
      rw[HRE1.out,if_neg (by rw[← HCS.out];exact hcm)]
     have dcm:=decide_eq_false hcm;clear HRE1 HCS;have e0:=HI.out.tb 0 _ rfl;have e1:=HI.out.tb 1 _ rfl;have e2:=HI.out.tb 2 _ rfl;have e3:=HI.out.tb 3 _ rfl;have r0:=HI.out.ra.tb 0 _ rfl;have r1:=HI.out.ra.tb 1 _ rfl;have r2:=HI.out.ra.tb 2 _ rfl;have r3:=HI.out.ra.tb 3 _ rfl;have hbm:=HI.out.ltB;have hbt:=HI.out.ra.ltB;obtain⟨z0,c00,f00,c01,f01,z1,c10,f10,c11,f11,c12,f12,c13,f13,c14,f14,c15,f15,c16,f16,c17,f17,z2,c20,f20,c21,f21,c22,f22,c23,f23,c24,f24,c25,f25,c26,f26,c27,f27⟩:=HF.out.xf7
     first|refine wp_region_more2 (by kernel_rfl) (by kernel_rfl) ?_|refine wp_region_more (by kernel_rfl) (by kernel_rfl) ?_
     repeat (first|go_big_quiet_step ((go_at_call 125;exact more_call (COM2.out _)))|quiet_step ((go_at_call 125;exact more_call (COM2.out _))))
     refine wpQuiet_nil ?_
     intro _ hw'
     obtain⟨tq,hw''⟩:=hw';subst hw'';clear z0 c00 f00 c01 f01 z1 c10 f10 c11 f11 c12 f12 c13 f13 c14 f14 c15 f15 c16 f16 c17 f17 z2 c20 f20 c21 f21 c22 f22 c23 f23 c24 f24 c25 f25 c26 f26 c27 f27;clear e0 e1 e2 e3 r0 r1 r2 r3 hbm hbt;replace HF:=h_ (HF.out.more tq);replace HI:=h_ (HI.out.below (below_more _ tq));generalize more X3 tq=Y2 at *;obtain⟨z0,c00,f00,c01,f01,z1,c10,f10,c11,f11,c12,f12,c13,f13,c14,f14,c15,f15,c16,f16,c17,f17,z2,c20,f20,c21,f21,c22,f22,c23,f23,c24,f24,c25,f25,c26,f26,c27,f27⟩:=HF.out.xf7
     go_wp2_with (fail)
     refine bodyPost_ret (v:=.tuple #[.agg #[.int .i64 0,.int .i64 xn,.int .i64 (xd:Int),.int .i64 yn,.int .i64 (yd:Int),.int .i64 ra,.int .i64 xn,.int .i64 (xd:Int)],.bool true]) (by simp[results,Tryz.results113,go_sem,c10,c11,c12,c13,c14,c15,c16,c17,z1,f10,f11,f12,f13,f14,f15,f16,f17]) rfl ?_
     refine RetDc.mkY HRE.out ?_ ?_
     ·
      refine MonI.less (T:=T') ?_ (fun k hk=>by rw[← HTT.out];exact .inl hk) HSUB.out
      have ht1:T' (w.heap.size+1):=by rw[← HTT.out];exact ownT_at 1 rfl (by omega)
      have ht2:T' (w.heap.size+1+1):=by rw[← HTT.out];exact ownT_at 2 rfl (by omega)
      repeat (first|with_reducible exact HI.out|with_reducible refine MonI.alloc ?_ _|with_reducible refine MonI.stored ?_ _ ht1 (HNS.out 1)|with_reducible refine MonI.stored ?_ _ ht2 (HNS.out 2))
     ·
      repeat (first|with_reducible exact HF.out.f|with_reducible refine Frm.alloc ?_ _|with_reducible refine Frm.ownSet ?_ (by omega) _)
end Go.Proofs.YtgjapehpkakkbaaGreat
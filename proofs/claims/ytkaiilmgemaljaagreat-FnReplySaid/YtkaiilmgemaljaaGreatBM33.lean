/- Part of one proof. There are no conditions. -/
import Derived.Test.YtkaiilmgemaljaaGreatBM14
import Derived.Test.YtkaiilmgemaljaaGreatBM31
import Derived.Test.YtkaiilmgemaljaaGreatBM29
set_option maxHeartbeats 0
set_option linter.unusedVariables false
set_option linter.unusedSimpArgs false
set_option maxRecDepth 100000
namespace Go.Proofs.YtkaiilmgemaljaaGreat
open Go.RowKit Ps Ra Ex Go.Maps Mo
theorem zdr (a b a' b':Int) (w:World):(binOp .eql 35 (.agg #[.int .i64 a,.int .i64 b]) (.agg #[.int .i64 a',.int .i64 b'])).run Tryz.prog w = .ok (.bool (decide (a=a'∧b=b'))) w:=by
 have u3:=Tryz.underlying2
 have hS:Tryz.prog.underlying 35=some (.struct (Tryz.prog.fieldsOf 35)):=by kernel_rfl
 have hp:Tryz.prog.stoodInHeld 35=false:=by kernel_rfl
 rw[run_eql_struct,show (10000:Nat)=9999+1 from rfl,run_equalIn_agg w 9999 35 _ _ hS hp]
 simp only[Program.fieldsOf,Tryz.underlying35]
 go_simp
 by_cases h1:a=a'<;>by_cases h2:b=b'<;>simp[h1,h2]
theorem reply_any (m:MT) (hm:m.Ok) {own other:List Int} (hq:PosP m.t.h m.t.c own) (hq2:PosP m.t.h m.t.c other) (h0:own.sum≠0) {c:Cb} (hc:CbOk m.K c) (hmay:may m.ru c=true) {D:E} {a:Int} (hd:dbl m.t.s m.ru own other c=some (D,a))
  (T:Nat→Prop) (A B:Option Addr) (ca cb:Nat) (w:World) (hT:∀k,w.heap.size≤k→¬T k) (hI:MonI m T w) (hA:SQ T w A m.t.h own) (hca:m.t.h≤ca) (hB:SQ T w B m.t.h other) (hcb:m.t.h≤cb):
  Calls Tryz.prog 124 #[.pointer (some ⟨m.bm,0,none⟩),.slice A m.t.h ca,.slice B m.t.h cb,.agg #[.int .i64 c.1,.int .i64 c.2],.agg #[.int .i64 D.num,.int .i64 (D.depth:Int)]] w fun e w'=>e = .returned (.int .i64 a)∧Frm m.S w w':=by
 obtain⟨v,o⟩:=c;obtain⟨dn,dd⟩:=D;have hcv:1≤v∧v≤1024∧0≤o∧o≤2:=hc.v1 hm.k;obtain⟨x,hx,hcases⟩:=reply_law hd;have R2:=h_ (zem m hm hq hq2 h0 (up2 hc hmay))
 have CA:=h_ fun (W:World)=>zbv v o 1 W (by omega) (by omega)
 have hlow:=hI.ltS
 have HF:Hid (FrS m.S w ((w.alloc (.cells #[.int .i64 v,.int .i64 o] 55)).alloc (.cells #[.int .i64 dn,.int .i64 (dd:Int)] 35)) [[.int .i64 v,.int .i64 o],[.int .i64 dn,.int .i64 (dd:Int)]]):=((FrS.start w hlow).allocT (by simp) _ _).allocT (by simp) _ _
 have hb0:Below w.heap.size w ((w.alloc (.cells #[.int .i64 v,.int .i64 o] 55)).alloc (.cells #[.int .i64 dn,.int .i64 (dd:Int)] 35)):=((Below.refl _ _).alloc (Nat.le_refl _) _).alloc (by simp) _
 have HI:=h_ (hI.below hb0);have HA:=h_ (hA.below hb0);have HB:=h_ (hB.below hb0);have HTS:=h_ hI.sub
 have HTN:Hid (∀W:World,w.heap.size≤W.heap.size→∀k,W.heap.size≤k→¬T k):=fun W hz k hk=>hT k (Nat.le_trans hz hk)
 by_cases hw:(⟨dn,dd⟩:E)=whl v
 ·have ha:a=2:=by
   rcases hcases with⟨_,h⟩|⟨h,_⟩|⟨h,_⟩
   ·exact h
   ·exact absurd hw h
   ·exact absurd hw h
  have hq1:∀W:World,(binOp .eql 35 (.agg #[.int .i64 dn,.int .i64 (dd:Int)]) (.agg #[.int .i64 v,.int .i64 0])).run Tryz.prog W = .ok (.bool true) W:=fun W=>by
   rw[zdr,decide_eq_true (by injection hw with e1 e2;exact⟨e1,by omega⟩)]
  subst ha;clear hcases hx hd hT hI hA hB hm hq hq2 h0 hc hmay hlow R2 CA HA HB HI HTN hw
  go_enter Tryz.func124,Tryz.ntmps124
  go_wp2_with (fail)
  generalize (w.alloc (.cells #[.int .i64 v,.int .i64 o] 55)).alloc (.cells #[.int .i64 dn,.int .i64 (dd:Int)] 35)=W at *
  go_ret
  exact⟨rfl,HF.out.f⟩
 ·have hq1:∀W:World,(binOp .eql 35 (.agg #[.int .i64 dn,.int .i64 (dd:Int)]) (.agg #[.int .i64 v,.int .i64 0])).run Tryz.prog W = .ok (.bool false) W:=fun W=>by
   rw[zdr,decide_eq_false fun⟨e1,e2⟩=>hw (by rw[e1,show dd=0 by omega];rfl)]
  obtain⟨xn,xd⟩:=x;have hx':rol m.t.s m.ru own other (2*v,2)=some ⟨xn,xd⟩:=hx
  have R2':Hid (∀(W:World),w.heap.size≤W.heap.size→MonI m T W→SQ T W A m.t.h own→SQ T W B m.t.h other→Calls Tryz.prog 110 #[.pointer (some ⟨m.bm,0,none⟩),.slice A m.t.h ca,.slice B m.t.h cb,.agg #[.int .i64 (2*v),.int .i64 2]] W (fun e w'=>e = .returned (.tuple #[.agg #[.int .i64 xn,.int .i64 (xd:Int)],.bool true])∧MonI m T w'∧Frm m.S W w')):=fun W hz h1 h2 h3=>by
   have:=R2.out T A B ca cb W (HTN.out W hz) h1 h2 hca h3 hcb;unfold RetMo at this;rw[hx']at this
   exact this
  by_cases hwx:(⟨xn,xd⟩:E)=⟨dn,dd⟩
  ·have ha:a=1:=by
    rcases hcases with⟨h,_⟩|⟨_,_,h⟩|⟨_,h,_⟩
    ·exact absurd h hw
    ·exact h
    ·exact absurd hwx.symm h
   have hq2':∀W:World,(binOp .eql 35 (.agg #[.int .i64 xn,.int .i64 (xd:Int)]) (.agg #[.int .i64 dn,.int .i64 (dd:Int)])).run Tryz.prog W = .ok (.bool true) W:=fun W=>by
    rw[zdr,decide_eq_true (by injection hwx with e1 e2;exact⟨e1,by omega⟩)]
   subst ha;clear hcases hx hx' hd hT hI hA hB hm hq hq2 h0 hc hmay R2 HTN hw hwx
   go_enter Tryz.func124,Tryz.ntmps124
   go_wp2_with (go_at_call 197;(with_reducible refine (more_first (CA.out _)).mono ?_);rintro e w' ⟨rfl,tr,rfl⟩)
   replace HF:=h_ (HF.out.more tr);replace HI:=h_ (HI.out.below (zaa _ tr));replace HA:=h_ (HA.out.below (zaa _ tr));replace HB:=h_ (HB.out.below (zaa _ tr));generalize more ((w.alloc (.cells #[.int .i64 v,.int .i64 o] 55)).alloc (.cells #[.int .i64 dn,.int .i64 (dd:Int)] 35)) tr=W1 at *
   have hz1:w.heap.size+2≤W1.heap.size:=by have:=HF.out.z;simpa using this
   refine (R2'.out W1 (by omega) HI.out HA.out HB.out).mono ?_
   rintro e w2 ⟨rfl,hI2,hf2⟩
   have hfT:=zdd hf2 HTS.out;replace HF:=h_ (HF.out.frm hf2);replace HI:=h_ hI2;replace HA:=h_ (HA.out.frm hfT);replace HB:=h_ (HB.out.frm hfT)
   have hz2:w.heap.size+2≤w2.heap.size:=by have:=hf2.size;omega
   clear hI2 hf2 hfT R2' CA;obtain⟨z0,c00,f00,c01,f01,z1,c10,f10,c11,f11⟩:=HF.out.xf6
   go_wp2_with (fail)
   refine bodyPost_ret (v:=.int .i64 1) (by simp[results,Tryz.results124,go_sem]) rfl ⟨rfl,?_⟩
   repeat (first|exact HF.out.f|refine Frm.alloc ?_ _|refine Frm.ownSet ?_ (by omega) _)
  ·obtain⟨hb,y,yb,hbev,ha⟩:bvr m.ru (v,o)=true∧∃y b,bev m.t.s m.ru own other (v,o)=some (y,b)∧a=if b then 4 else 3:=by
    rcases hcases with⟨h,_⟩|⟨_,h,_⟩|⟨_,_,h1,h2⟩
    ·exact absurd h hw
    ·exact absurd h.symm hwx
    ·exact⟨h1,h2⟩
   obtain⟨yn,yd⟩:=y
   have hq2':∀W:World,(binOp .eql 35 (.agg #[.int .i64 xn,.int .i64 (xd:Int)]) (.agg #[.int .i64 dn,.int .i64 (dd:Int)])).run Tryz.prog W = .ok (.bool false) W:=fun W=>by
    rw[zdr,decide_eq_false fun⟨e1,e2⟩=>hwx (by rw[e1,show xd=dd by omega])]
   have BV:Hid (∀(W:World),w.heap.size≤W.heap.size→MonI m T W→SQ T W A m.t.h own→SQ T W B m.t.h other→Calls Tryz.prog 198 #[.pointer (some ⟨m.bm,0,none⟩),.slice A m.t.h ca,.slice B m.t.h cb,.agg #[.int .i64 v,.int .i64 o]] W (fun e w'=>e = .returned (.tuple #[.agg #[.int .i64 yn,.int .i64 (yd:Int)],.int .i64 a,.bool true])∧Frm m.S W w')):=fun W hz h1 h2 h3=>by
    refine (beaver_all m hm hq hq2 h0 hc hb T A B ca cb W (HTN.out W hz) h1 h2 hca h3 hcb).mono ?_
    rintro e w' ⟨_,hf,he⟩
    rw[hbev]at he
    exact⟨by rw[ha];exact he,hf⟩
   clear hcases hx hx' hd hT hI hA hB hm hq hq2 h0 hc hmay R2 HTN hw hwx hb hbev ha
   go_enter Tryz.func124,Tryz.ntmps124
   go_wp2_with (go_at_call 197;(with_reducible refine (more_first (CA.out _)).mono ?_);rintro e w' ⟨rfl,tr,rfl⟩)
   replace HF:=h_ (HF.out.more tr);replace HI:=h_ (HI.out.below (zaa _ tr));replace HA:=h_ (HA.out.below (zaa _ tr));replace HB:=h_ (HB.out.below (zaa _ tr));generalize more ((w.alloc (.cells #[.int .i64 v,.int .i64 o] 55)).alloc (.cells #[.int .i64 dn,.int .i64 (dd:Int)] 35)) tr=W1 at *
   have hz1:w.heap.size+2≤W1.heap.size:=by have:=HF.out.z;simpa using this
   refine (R2'.out W1 (by omega) HI.out HA.out HB.out).mono ?_
   rintro e w2 ⟨rfl,hI2,hf2⟩
   have hfT:=zdd hf2 HTS.out;replace HF:=h_ (HF.out.frm hf2);replace HI:=h_ hI2;replace HA:=h_ (HA.out.frm hfT);replace HB:=h_ (HB.out.frm hfT)
   have hz2:w.heap.size+2≤w2.heap.size:=by have:=hf2.size;omega
   clear hI2 hf2 hfT R2' CA;obtain⟨z0,c00,f00,c01,f01,z1,c10,f10,c11,f11⟩:=HF.out.xf6
   go_wp2_with (fail)
   clear z0 c00 f00 c01 f01 z1 c10 f10 c11 f11
   have hzb:w.heap.size≤w2.heap.size:=by omega
   have HF3:=h_ (HF.out.alloc (.cells #[.int .i64 xn,.int .i64 (xd:Int)] 35))
   refine (BV.out _ (by simp;omega) (HI.out.alloc _) (HA.out.below ((Below.refl _ _).alloc (Nat.le_refl _) _)) (HB.out.below ((Below.refl _ _).alloc (Nat.le_refl _) _))).mono ?_
   rintro e w3 ⟨rfl,hf3⟩
   replace HF:=h_ (HF3.out.frm hf3);clear hf3 HF3 HI HA HB BV;obtain⟨z0,c00,f00,c01,f01,z1,c10,f10,c11,f11⟩:=HF.out.xf6
   go_wp2_with (fail)
   refine bodyPost_ret (v:=.int .i64 a) (by simp[results,Tryz.results124,go_sem]) rfl ⟨rfl,?_⟩
   repeat (first|exact HF.out.f|refine Frm.alloc ?_ _|refine Frm.ownSet ?_ (by omega) _)
end Go.Proofs.YtkaiilmgemaljaaGreat
namespace Go.Proofs.YtkaiilmgemaljaaGreat
open Go.RowKit Mo Ps Ra Ex
def RetNN (w:World) (r:Int×Int) (e:Ending) (w':World):Prop:=e = .returned (.tuple #[.int .i64 r.1,.int .i64 r.2])∧Below w.heap.size w w'
theorem RetNN.mk' {w w':World} {r:Int×Int} {a b:Int} (hr:r=(a,b)) (hb:Below w.heap.size w w'):RetNN w r (.returned (.tuple #[.int .i64 a,.int .i64 b])) w':=by subst hr;exact⟨rfl,hb⟩
noncomputable def bpR (p c h s m:Int) (bv:Bool) (own other:List Int) (v o:Int):Int×Int:=((dgR p c h s m bv own other v o).2.2.1,(dgR p c h s m bv own other v o).2.2.2)
theorem zhE (p c h s m:Int) (bv j:Bool) (A B:Option Addr) (n k ca cb:Nat) (own other:List Int) (v o:Int) (w:World) (hA:SL w A n own) (hB:SL w B k other) (hca:n≤ca) (hcb:k≤cb):
  Calls Tryz.prog 45 #[.agg #[.int .i64 p,.int .i64 c,.int .i64 h,.int .i64 s],.agg #[.int .i64 m,.bool bv,.bool j],.slice A n ca,.slice B k cb,.agg #[.int .i64 v,.int .i64 o]] w (RetNN w (bpR p c h s m bv own other v o)):=by
 have HF0:Hid (Fr w (((w.alloc (.cells #[.int .i64 p,.int .i64 c,.int .i64 h,.int .i64 s] 25)).alloc (.cells #[.int .i64 m,.bool bv,.bool j] 53)).alloc (.cells #[.int .i64 v,.int .i64 o] 55)) [[.int .i64 p,.int .i64 c,.int .i64 h,.int .i64 s],[.int .i64 m,.bool bv,.bool j],[.int .i64 v,.int .i64 o]]):=(((Fr.start w).allocT (by simp) _ _).allocT (by simp) _ _).allocT (by simp) _ _
 have HA0:=h_ (hA.below HF0.out.b);have HB0:=h_ (hB.below HF0.out.b);have HAL:=h_ hA.1;have HBL:=h_ hB.1;have CK:=h_ (zcP p c h s m bv j A B n k ca cb own other v o _ HA0.out HB0.out);clear hA hB
 by_cases hcd:codeD p c h s m bv own other v o=0
 ·obtain⟨hcm,hmay⟩:=zhw hcd
  obtain⟨hcl,hz1,hz2⟩:=zex hcm;rw[hcd]at CK;obtain⟨hv,hr,hp1,hp2,hcu,_,hgi⟩:=zci hcl;have hvv:=zak hv;obtain⟨K,hK,rfl⟩:=zbL hr
  obtain⟨c',rfl⟩:∃c':Nat,c=c':=⟨c.toNat,by omega⟩
  obtain⟨h',rfl⟩:∃h':Nat,h=h':=⟨h.toNat,by omega⟩
  obtain⟨s',rfl⟩:∃s':Nat,s=s':=⟨s.toNat,by omega⟩
  rw[zdq hK]at hgi;obtain⟨hN,_⟩:=zeu hgi;have HP1:=h_ (zba hp1);have HP2:=h_ (zba hp2);have hcb0:=zdQ hcu
  have hnh:h'=n:=by rw[← HAL.out];exact (HP1.out.1).symm
  have hmh:h'=k:=by rw[← HBL.out];exact (HP2.out.1).symm
  subst hnh;subst hmh
  have CNEW:=h_ fun (W:World)=>zcZ p c' h' s' K bv j W hv hN hK
  have HWR0:Hid (bpR p c' h' s' (two K) bv own other v o=((dgO (dbl s' ⟨two K,bv⟩ own other (v,o))).2.2.1,(dgO (dbl s' ⟨two K,bv⟩ own other (v,o))).2.2.2)):=by
   unfold Hid bpR dgR;rw[if_pos hcd]
   simp only[Int.toNat_natCast]
  obtain⟨ov,hov⟩:∃ov,ov=dbl s' ⟨two K,bv⟩ own other (v,o):=⟨_,rfl⟩;rw[← hov]at HWR0
  have HDB:Hid (∀(m:MT),m.t.c=c'→m.t.h=h'→m.t.s=s'→m.K=K→m.bv=bv→m.Ok→∀W:World,MonI m m.S W→SQ m.S W A h' own→SQ m.S W B h' other→Calls Tryz.prog 118 #[.pointer (some ⟨m.bm,0,none⟩),.slice A h' ca,.slice B h' cb,.agg #[.int .i64 v,.int .i64 o]] W (RetMo m m.S W (ov.map fun y=>y.1))):=by
   intro m e1 e2 e3 e4 e5 hok W hI h1 h2
   subst e1 e2 e3 e4 e5;rw[hov]
   exact zfW m hok HP1.out HP2.out hz1 hcb0 hmay m.S A B ca cb W (fun k hk hs=>by have:=hI.ltS k hs;omega) hI h1 hca h2 hcb
  have HRP:Hid (∀(xn:Int) (xd:Nat) (a:Int),ov=some (⟨xn,xd⟩,a)→∀(m:MT),m.t.c=c'→m.t.h=h'→m.t.s=s'→m.K=K→m.bv=bv→m.Ok→∀W:World,MonI m m.S W→SQ m.S W A h' own→SQ m.S W B h' other→Calls Tryz.prog 124 #[.pointer (some ⟨m.bm,0,none⟩),.slice A h' ca,.slice B h' cb,.agg #[.int .i64 v,.int .i64 o],.agg #[.int .i64 xn,.int .i64 (xd:Int)]] W (fun e w'=>e = .returned (.int .i64 a)∧Frm m.S W w')):=by
   intro xn xd a he m e1 e2 e3 e4 e5 hok W hI h1 h2
   subst e1 e2 e3 e4 e5
   exact reply_any m hok HP1.out HP2.out hz1 hcb0 hmay (D:=⟨xn,xd⟩) (by rw[← he,hov];rfl) m.S A B ca cb W (fun k hk hs=>by have:=hI.ltS k hs;omega) hI h1 hca h2 hcb
  clear hcd hmay hcm hcl hv hr hp1 hp2 hcu hgi hvv hov HAL HBL;generalize bpR p c' h' s' (two K) bv own other v o=rr at *
  go_enter Tryz.func45,Tryz.ntmps45
  go_wp2_with (fail)
  refine CK.out.mono ?_
  rintro e w1 ⟨rfl,hb1⟩
  have HFX:=h_ (HF0.out.below hb1);have HAX:=h_ (HA0.out.below hb1);have HBX:=h_ (HB0.out.below hb1);clear CK hb1 HF0 HA0 HB0;obtain⟨z0,c00,f00,c01,f01,c02,f02,c03,f03,z1,c10,f10,c11,f11,c12,f12,z2,c20,f20,c21,f21⟩:=HFX.out.xf5
  go_wp2_with (fail)
  clear z0 c00 f00 c01 f01 c02 f02 c03 f03 z1 c10 f10 c11 f11 c12 f12 z2 c20 f20 c21 f21
  refine (CNEW.out _).mono ?_
  rintro e w2 ⟨m,_,m2,m3,m4,m5,m6,rfl,hok,hI,hlow,hb2⟩
  have HD2:=h_ (HDB.out m m2 m3 m4 m5 m6 hok w2 hI ((SQ.of_sl HAX.out hlow).below hb2) ((SQ.of_sl HBX.out hlow).below hb2))
  have HR2:=h_ fun (xn:Int) (xd:Nat) (a:Int) (he:ov=some (⟨xn,xd⟩,a))=>HRP.out xn xd a he m m2 m3 m4 m5 m6 hok
  have HLOW:=h_ hlow;have HQ1:=h_ ((SQ.of_sl HAX.out hlow).below hb2);have HQ2:=h_ ((SQ.of_sl HBX.out hlow).below hb2)
  have hz0:w.heap.size+3≤w1.heap.size:=by have:=HFX.out.z;simpa using this
  replace HFX:=h_ (HFX.out.below hb2)
  have HLO2:Hid (∀k,m.S k→w.heap.size+3≤k):=fun k hk=>by have h1:=HLOW.out k hk;omega
  clear m2 m3 m4 m5 m6 hok hI hlow hb2 HDB HRP CNEW HAX HBX;obtain⟨z0,c00,f00,c01,f01,c02,f02,c03,f03,z1,c10,f10,c11,f11,c12,f12,z2,c20,f20,c21,f21⟩:=HFX.out.xf5
  go_wp2_with (fail)
  clear z0 c00 f00 c01 f01 c02 f02 c03 f03 z1 c10 f10 c11 f11 c12 f12 z2 c20 f20 c21 f21
  refine HD2.out.mono ?_
  rintro e w3 ⟨rfl,hI3,hf3⟩
  replace HFX:=h_ (HFX.out.frm hf3 (fun k hk=>by have:=HLO2.out k hk;omega) fun k hk=>HLO2.out k hk)
  replace HQ1:=h_ (HQ1.out.frm hf3);replace HQ2:=h_ (HQ2.out.frm hf3)
  have hz3:w.heap.size+3≤w3.heap.size:=by have:=HFX.out.z;simpa using this
  clear hf3 HD2 HLOW
  rcases ov with _|⟨⟨xn,xd⟩,ra⟩
  ·have HWR:Hid (rr=(0,3)):=HWR0.out
   simp only[Option.map_none,exV,Option.getD_none,Option.isSome_none]
   clear HR2 HQ1 HQ2 hI3;obtain⟨z0,c00,f00,c01,f01,c02,f02,c03,f03,z1,c10,f10,c11,f11,c12,f12,z2,c20,f20,c21,f21⟩:=HFX.out.xf5
   go_wp2_with (fail)
   refine bodyPost_ret (v:=.tuple #[.int .i64 0,.int .i64 3]) (by simp[results,Tryz.results45,go_sem]) rfl (RetNN.mk' HWR.out ?_)
   repeat (first|exact HFX.out.b|refine stw ?_ (by omega)|refine alw ?_ (by omega))
  ·have HWR:Hid (rr=(ra,0)):=HWR0.out
   simp only[Option.map_some,exV,Option.getD_some,Option.isSome_some]
   have CR:=h_ (HR2.out xn xd ra rfl (w3.alloc (.cells #[.int .i64 xn,.int .i64 (xd:Int)] 35)) (hI3.alloc _) (HQ1.out.below ((Below.refl _ _).alloc (Nat.le_refl _) _)) (HQ2.out.below ((Below.refl _ _).alloc (Nat.le_refl _) _)));clear HR2 HQ1 HQ2 hI3;obtain⟨z0,c00,f00,c01,f01,c02,f02,c03,f03,z1,c10,f10,c11,f11,c12,f12,z2,c20,f20,c21,f21⟩:=HFX.out.xf5
   go_wp2_with (fail)
   clear z0 c00 f00 c01 f01 c02 f02 c03 f03 z1 c10 f10 c11 f11 c12 f12 z2 c20 f20 c21 f21
   refine CR.out.mono ?_
   rintro e w4 ⟨rfl,hf4⟩
   replace HFX:=h_ ((HFX.out.alloc (.cells #[.int .i64 xn,.int .i64 (xd:Int)] 35)).frm hf4 (fun k hk=>by have:=HLO2.out k hk;omega) fun k hk=>HLO2.out k hk)
   clear hf4 CR HLO2;obtain⟨z0,c00,f00,c01,f01,c02,f02,c03,f03,z1,c10,f10,c11,f11,c12,f12,z2,c20,f20,c21,f21⟩:=HFX.out.xf5
   go_wp2_with (fail)
   refine bodyPost_ret (v:=.tuple #[.int .i64 ra,.int .i64 0]) (by simp[results,Tryz.results45,go_sem]) rfl (RetNN.mk' HWR.out ?_)
   repeat (first|exact HFX.out.b|refine stw ?_ (by omega)|refine alw ?_ (by omega))
 ·have HWR:Hid (bpR p c h s m bv own other v o=(0,codeD p c h s m bv own other v o)):=by
   unfold Hid bpR dgR;rw[if_neg hcd]
  generalize codeD p c h s m bv own other v o=kk at *
  have b0:(kk != 0)=true:=by simp[hcd]
  clear hcd
  go_enter Tryz.func45,Tryz.ntmps45
  go_wp2_with (fail)
  refine CK.out.mono ?_
  rintro e w1 ⟨rfl,hb1⟩
  have HFX:=h_ (HF0.out.below hb1);have HAX:=h_ (HA0.out.below hb1);have HBX:=h_ (HB0.out.below hb1);clear CK hb1 HF0 HA0 HB0;obtain⟨z0,c00,f00,c01,f01,c02,f02,c03,f03,z1,c10,f10,c11,f11,c12,f12,z2,c20,f20,c21,f21⟩:=HFX.out.xf5
  go_wp2_with (fail)
  refine bodyPost_ret (v:=.tuple #[.int .i64 0,.int .i64 kk]) (by simp[results,Tryz.results45,go_sem]) rfl (RetNN.mk' HWR.out ?_)
  repeat (first|exact HFX.out.b|refine stw ?_ (by omega)|refine alw ?_ (by omega))
end Go.Proofs.YtkaiilmgemaljaaGreat

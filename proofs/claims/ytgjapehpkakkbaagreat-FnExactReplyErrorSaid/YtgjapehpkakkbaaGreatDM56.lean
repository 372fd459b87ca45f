/- Part of one proof. There are no conditions. -/
import Derived.Test.YtgjapehpkakkbaaGreatDJ5
import Derived.Test.YtgjapehpkakkbaaGreatDM41
import Derived.Test.YtgjapehpkakkbaaGreatDM53
import Derived.Test.YtgjapehpkakkbaaGreatDJ7
set_option linter.unusedVariables false
set_option linter.unusedSimpArgs false
namespace Go.Proofs.YtgjapehpkakkbaaGreat
open Go.RowKit Mo Ps Ra Ex
def dsLE:Nat→Nat
 | 0=>8
 | 1=>9
 | 2=>10
 | 3=>11
 | 4=>12
 | 5=>13
 | 6=>14
 | _=>0
set_option maxRecDepth 100000 in
set_option maxHeartbeats 2000000 in
theorem l20Less_any (p c h xn yn:Int) (s xd yd:Nat) (w:World) (hv:isVar p c h s=true) (hx:Val (sq s) ⟨xn,xd⟩) (hy:Val (sq s) ⟨yn,yd⟩) {ln:Int} {ld:Nat} (hl:minE (sq s) ⟨xn,xd⟩ ⟨yn,yd⟩=some ⟨ln,ld⟩):
  Calls Tryz.prog 114 #[.agg #[.int .i64 p,.int .i64 c,.int .i64 h,.int .i64 s],.agg #[.int .i64 xn,.int .i64 (xd:Int)],.agg #[.int .i64 yn,.int .i64 (yd:Int)]] w fun e w'=>e = .returned (.tuple #[.agg #[.int .i64 ln,.int .i64 (ld:Int)],.int .i64 0])∧Below w.heap.size w w':=by
 have hy1 : -1000000000000000000≤yn:=hy.1;have hy2:yn≤1000000000000000000:=hy.2.1
 have CNG:=h_ fun (W:World)=>l17Neg_any yn (yd:Int) W (by omega) (by omega)
 have CAD:Hid (∀W:World,Calls Tryz.prog 171 #[.agg #[.int .i64 p,.int .i64 c,.int .i64 h,.int .i64 s],.agg #[.int .i64 xn,.int .i64 (xd:Int)],.agg #[.int .i64 (-yn),.int .i64 (yd:Int)]] W fun e w'=>e = .returned (.tuple #[.agg #[.int .i64 ln,.int .i64 (ld:Int)],.int .i64 0])∧Below W.heap.size W w'):=fun W=>by
  have:=AddExact_val p c h xn (-yn) s xd yd W hv hx (neg_val hy)
  rw[show addE (sq s) ⟨xn,xd⟩ ⟨-yn,yd⟩=minE (sq s) ⟨xn,xd⟩ ⟨yn,yd⟩from rfl,hl]at this
  exact this
 have HF:Hid (Fr w ((((w.alloc (.cells #[.int .i64 p,.int .i64 c,.int .i64 h,.int .i64 s] 25)).alloc (.cells #[.int .i64 xn,.int .i64 (xd:Int)] 35)).alloc (.cells #[.int .i64 yn,.int .i64 (yd:Int)] 35)).alloc (.cells #[.int .i64 0,.int .i64 0] 35)) [[.int .i64 p,.int .i64 c,.int .i64 h,.int .i64 s],[.int .i64 xn,.int .i64 (xd:Int)],[.int .i64 yn,.int .i64 (yd:Int)],[.int .i64 0,.int .i64 0]]):=((((Fr.start w).allocT (by simp) _ _).allocT (by simp) _ _).allocT (by simp) _ _).allocT (by simp) _ _
 clear hv hx hy hl hy1 hy2
 go_enter Tryz.func114,Tryz.ntmps114
 go_wp2_with (fail)
 generalize ((((w.alloc (.cells #[.int .i64 p,.int .i64 c,.int .i64 h,.int .i64 s] 25)).alloc (.cells #[.int .i64 xn,.int .i64 (xd:Int)] 35)).alloc (.cells #[.int .i64 yn,.int .i64 (yd:Int)] 35)).alloc (.cells #[.int .i64 0,.int .i64 0] 35))=V at *
 refine wp_region_early 7 (fun i=>i == 6) dsLE Bel (fun _=>True) (GL [Eqv (.agg #[.int .i64 p,.int .i64 c,.int .i64 h,.int .i64 s]),Eqv (.agg #[.int .i64 xn,.int .i64 (xd:Int)]),Eqv (.agg #[.int .i64 yn,.int .i64 (yd:Int)]),Eqv (.agg #[.int .i64 (-yn),.int .i64 (yd:Int)]),Eqv (.tuple #[.agg #[.int .i64 ln,.int .i64 (ld:Int)],.int .i64 0]),Eqv (.agg #[.int .i64 ln,.int .i64 (ld:Int)]),Eqv (.int .i64 0)]) (by kernel_rfl) (by kernel_rfl) (fun _ _ _ _ _ h=>h) (fun _ _ _ h1 h2=>Bel.trans h1 h2) Bel.rfl' (GL.stab (by repeat (first|exact AllStb.nil|refine AllStb.cons (by first|exact stb_eq _|exact stb_alc _ _) ?_))) (Bel.drew _) trivial ?_ ?_ ?_
 ·intro i o' hi hX ho a' W hW hIW hfar hdep
  have dep:∀j,j<7→Region.waitsFor .any _ i j=true→GL [Eqv (.agg #[.int .i64 p,.int .i64 c,.int .i64 h,.int .i64 s]),Eqv (.agg #[.int .i64 xn,.int .i64 (xd:Int)]),Eqv (.agg #[.int .i64 yn,.int .i64 (yd:Int)]),Eqv (.agg #[.int .i64 (-yn),.int .i64 (yd:Int)]),Eqv (.tuple #[.agg #[.int .i64 ln,.int .i64 (ld:Int)],.int .i64 0]),Eqv (.agg #[.int .i64 ln,.int .i64 (ld:Int)]),Eqv (.int .i64 0)] j (a'.tmps.getD (dsLE j) undef) W:=hdep
  have hi8:i=6:=by simpa using hX
  clear hfar hdep hX hi;subst hi8
  simp at ho
  subst ho
  have d1:a'.tmps.getD 12 undef = .tuple #[.agg #[.int .i64 ln,.int .i64 (ld:Int)],.int .i64 0]:=dep 4 (by omega) (by kernel_rfl)
  exact⟨.int .i64 0,fun W'=>by simp only[execOp,Act.eval,d1];go_simp,rfl⟩
 ·intro i o' hi hX ho a' W hW hIW hfar hdep
  have e3:a'.tmps.getD 3 undef = .pointer (some ⟨w.heap.size,0,none⟩):=(hfar 3 (by decide)).trans rfl
  have e4:a'.tmps.getD 4 undef = .pointer (some ⟨w.heap.size+1,0,none⟩):=(hfar 4 (by decide)).trans rfl
  have e5:a'.tmps.getD 5 undef = .pointer (some ⟨w.heap.size+1+1,0,none⟩):=(hfar 5 (by decide)).trans rfl
  have dep:∀j,j<7→Region.waitsFor .any _ i j=true→GL [Eqv (.agg #[.int .i64 p,.int .i64 c,.int .i64 h,.int .i64 s]),Eqv (.agg #[.int .i64 xn,.int .i64 (xd:Int)]),Eqv (.agg #[.int .i64 yn,.int .i64 (yd:Int)]),Eqv (.agg #[.int .i64 (-yn),.int .i64 (yd:Int)]),Eqv (.tuple #[.agg #[.int .i64 ln,.int .i64 (ld:Int)],.int .i64 0]),Eqv (.agg #[.int .i64 ln,.int .i64 (ld:Int)]),Eqv (.int .i64 0)] j (a'.tmps.getD (dsLE j) undef) W:=hdep
  have hi8:i=0∨i=1∨i=2∨i=3∨i=4∨i=5:=by simp at hX;omega
  clear hfar hdep hX hi;have HFW:=h_ (HF.out.below hW);obtain⟨z0,c00,f00,c01,f01,c02,f02,c03,f03,z1,c10,f10,c11,f11,z2,c20,f20,c21,f21⟩:=HFW.out.xf1
  rcases hi8 with rfl|rfl|rfl|rfl|rfl|rfl
  all_goals (simp at ho;subst ho)
  ·exact .inl ⟨.agg #[.int .i64 p,.int .i64 c,.int .i64 h,.int .i64 s],W,by simp only[execOp,Act.eval,e3];go_simp,Bel.rfl' _,trivial,rfl⟩
  ·exact .inl ⟨.agg #[.int .i64 xn,.int .i64 (xd:Int)],W,by simp only[execOp,Act.eval,e4];go_simp,Bel.rfl' _,trivial,rfl⟩
  ·exact .inl ⟨.agg #[.int .i64 yn,.int .i64 (yd:Int)],W,by simp only[execOp,Act.eval,e5];go_simp,Bel.rfl' _,trivial,rfl⟩
  ·have d1:a'.tmps.getD 10 undef = .agg #[.int .i64 yn,.int .i64 (yd:Int)]:=dep 2 (by omega) (by kernel_rfl)
   refine .inr ⟨165,#[.agg #[.int .i64 yn,.int .i64 (yd:Int)]],by simp only[execOp,Act.eval,d1];go_simp,?_⟩
   refine (CNG.out W).mono ?_
   rintro e W' ⟨rfl,hb'⟩
   exact⟨_,rfl,hb',trivial,rfl⟩
  ·have d1:a'.tmps.getD 8 undef = .agg #[.int .i64 p,.int .i64 c,.int .i64 h,.int .i64 s]:=dep 0 (by omega) (by kernel_rfl)
   have d2:a'.tmps.getD 9 undef = .agg #[.int .i64 xn,.int .i64 (xd:Int)]:=dep 1 (by omega) (by kernel_rfl)
   have d3:a'.tmps.getD 11 undef = .agg #[.int .i64 (-yn),.int .i64 (yd:Int)]:=dep 3 (by omega) (by kernel_rfl)
   refine .inr ⟨171,#[.agg #[.int .i64 p,.int .i64 c,.int .i64 h,.int .i64 s],.agg #[.int .i64 xn,.int .i64 (xd:Int)],.agg #[.int .i64 (-yn),.int .i64 (yd:Int)]],by simp only[execOp,Act.eval,d1,d2,d3];go_simp,?_⟩
   refine (CAD.out W).mono ?_
   rintro e W' ⟨rfl,hb'⟩
   exact⟨_,rfl,hb',trivial,rfl⟩
  ·have d1:a'.tmps.getD 12 undef = .tuple #[.agg #[.int .i64 ln,.int .i64 (ld:Int)],.int .i64 0]:=dep 4 (by omega) (by kernel_rfl)
   exact .inl ⟨.agg #[.int .i64 ln,.int .i64 (ld:Int)],W,by simp only[execOp,Act.eval,d1];go_simp,Bel.rfl' _,trivial,rfl⟩
 intro u W2 hW hIW hg
 have g0:u 0 = .agg #[.int .i64 p,.int .i64 c,.int .i64 h,.int .i64 s]:=hg 0 (by omega)
 have g1:u 1 = .agg #[.int .i64 xn,.int .i64 (xd:Int)]:=hg 1 (by omega)
 have g2:u 2 = .agg #[.int .i64 yn,.int .i64 (yd:Int)]:=hg 2 (by omega)
 have g3:u 3 = .agg #[.int .i64 (-yn),.int .i64 (yd:Int)]:=hg 3 (by omega)
 have g4:u 4 = .tuple #[.agg #[.int .i64 ln,.int .i64 (ld:Int)],.int .i64 0]:=hg 4 (by omega)
 have g5:u 5 = .agg #[.int .i64 ln,.int .i64 (ld:Int)]:=hg 5 (by omega)
 have g6:u 6 = .int .i64 0:=hg 6 (by omega)
 simp only[List.drop_succ_cons,List.drop_zero,putV,dsLE,g0,g1,g2,g3,g4,g5,g6,Act.put]
 clear g0 g1 g2 g3 g4 g5 g6 hg hIW CNG CAD;replace HF:=h_ (HF.out.below hW);clear hW;obtain⟨z0,c00,f00,c01,f01,c02,f02,c03,f03,z1,c10,f10,c11,f11,z2,c20,f20,c21,f21,z3,c30,f30,c31,f31⟩:=HF.out.xf0
 go_wp2_with (fail)
 refine bodyPost_ret (v:=.tuple #[.agg #[.int .i64 ln,.int .i64 (ld:Int)],.int .i64 0]) (by simp[results,Tryz.results114,go_sem,c30,c31,z3,f30,f31]) rfl ⟨rfl,?_⟩
 repeat (first|with_reducible exact HF.out.b|with_reducible refine stw ?_ (by omega)|with_reducible refine alw ?_ (by omega))
set_option maxRecDepth 100000 in
set_option maxHeartbeats 4000000 in
theorem l20Value_fl (t:WT) (fl:Bool) (ht:t.Ok) {own other:List Int} (hq:PosP t.h t.c own) (hq2:PosP t.h t.c other) (h0:own.sum≠0) {v o a:Int} (hcu:cubB (two t.K) v o=true) (hpa:posA ⟨two t.K,t.bv⟩ (v,o) a=true) (A B:Option Addr) (ca cb:Nat) (w:World) (hI:TbI t fl w) (hA:SQ t.S w A t.h own) (hca:t.h≤ca) (hB:SQ t.S w B t.h other) (hcb:t.h≤cb):
  Calls Tryz.prog 109 #[.pointer (some ⟨t.bt,0,none⟩),.slice A t.h ca,.slice B t.h cb,.agg #[.int .i64 v,.int .i64 o],.int .i64 a] w (RetT t w fl (valV t.s t.ru own other (v,o) a)):=by
 have hc:=cubB_ok hcu;have hv:=isVar_yes ht.v
 have hnr1:0<t.nr:=by
  have h1:=rollsN_length t.s
  have h2:1*2≤t.s*(t.s+1):=Nat.mul_le_mul (by omega) (by omega)
  have:=ht.r
  omega
 have hcv:1≤v∧v≤1024∧0≤o∧o≤2:=hc.v1 ht.k;have hlow:=hI.ltS;have hlr:=hI.ltR hnr1
 have HNS:Hid (∀j,¬t.S (w.heap.size+j)):=fun j h=>by have:=hlow _ h;omega
 have HNR:Hid (∀j,¬t.rb (w.heap.size+j)):=fun j h=>by have:=hlr _ h;omega
 have hb0:Below w.heap.size w ((w.alloc (.cells #[.int .i64 v,.int .i64 o] 62)).alloc (.cells #[.int .i64 0,.int .i64 0] 35)):=((Below.refl _ _).alloc (Nat.le_refl _) _).alloc (by simp) _
 have HF:Hid (FrS t.S w ((w.alloc (.cells #[.int .i64 v,.int .i64 o] 62)).alloc (.cells #[.int .i64 0,.int .i64 0] 35)) [[.int .i64 v,.int .i64 o],[.int .i64 0,.int .i64 0]]):=((FrS.start w hlow).allocT (by simp) _ _).allocT (by simp) _ _
 have HI:=h_ (hI.below hb0);have HA:=h_ (hA.below hb0);have HB:=h_ (hB.below hb0);obtain⟨ov,hov⟩:∃ov,ov=valV t.s t.ru own other (v,o) a:=⟨_,rfl⟩;rw[← hov]
 by_cases h2:a=2
 ·have HE:Hid (ov=some ⟨v,0⟩):=by rw[hov];exact if_pos h2
  have b2:(a == 2)=true:=by simp[h2]
  have WH:=h_ fun (W:World)=>whole_any v W
  have HVW:Hid (Val (sq t.s) ⟨v,0⟩):=whl_val' (n:=v) (by omega) (by omega)
  clear hI hA hB hv ht hb0 hlow hlr hq hq2 h0 hc hcu hpa hov h2 HA HB
  go_enter Tryz.func109,Tryz.ntmps109
  go_wp2_with (fail)
  refine (WH.out _).mono ?_
  rintro e w1 ⟨rfl,hb⟩
  replace HF:=h_ (HF.out.below hb);replace HI:=h_ (HI.out.below hb);clear hb WH;obtain⟨z0,c00,f00,c01,f01,z1,c10,f10,c11,f11⟩:=HF.out.xf4
  go_wp2_with (fail)
  refine bodyPost_ret (v:=.agg #[.int .i64 v,.int .i64 ((0:Nat):Int)]) (by simp[results,Tryz.results109,go_sem,c10,c11,z1,f10,f11]) rfl ?_
  refine⟨⟨v,0⟩,rfl,HVW.out,?_,?_,fun _=>HE.out⟩
  ·refine TbI.eqf ?_ (show fl=(fl||ov.isNone) by rw[HE.out];cases fl<;>rfl)
   repeat (first|with_reducible exact HI.out|with_reducible refine TbI.alloc ?_ _|with_reducible refine TbI.stored ?_ _ (HNS.out 1) (HNR.out 1))
  ·
   repeat (first|with_reducible exact HF.out.f|with_reducible refine Frm.alloc ?_ _|with_reducible refine Frm.ownSet ?_ (by omega) _)
 ·have b2:(a == 2)=false:=by simp[h2]
  obtain⟨⟨v2,o2⟩,ha⟩:∃c2,aft (v,o) a=c2:=⟨_,rfl⟩;have R1:=h_ (rolT_all t ht hq hq2 h0 (aft_ok hc hpa h2))
  have CAF:Hid (∀W:World,Calls Tryz.prog 170 #[.agg #[.int .i64 (two t.K),.bool t.bv,.bool t.jc],.agg #[.int .i64 v,.int .i64 o],.int .i64 a] W fun e w'=>e = .returned (.tuple #[.agg #[.int .i64 v2,.int .i64 o2],.int .i64 0,.int .i64 0])∧Below W.heap.size W w'):=fun W=>by
   have:=AfterAction_any t.K t.bv t.jc v o a W ht.k hcu hpa h2;rw[ha]at this
   exact this
  rw[ha]at R1
  have hov2:ov=rol t.s t.ru own other (v2,o2):=by rw[hov,← ha];exact if_neg h2
  replace R1:Hid (TabC' t 98 own other (v2,o2) fun w fl=>RetT t w fl ov):=by rw[hov2];exact R1
  clear hI hA hB hv ht hb0 hlow hlr hq hq2 h0 hc hcu hpa hov hov2 h2 ha
  go_enter Tryz.func109,Tryz.ntmps109
  go_wp2_with (fail)
  generalize (w.alloc (.cells #[.int .i64 v,.int .i64 o] 62)).alloc (.cells #[.int .i64 0,.int .i64 0] 35)=V at *
  have hzV:w.heap.size+2≤V.heap.size:=by have:=HF.out.z;simpa using this
  refine wp_region_early 12 (fun i=>i == 9||i == 10) dsLV Bel (fun _=>True) (GL [Eqv (.pointer (some ⟨t.bt,0,none⟩)),Eqv (.pointer (some ⟨t.bt,0,none⟩)),Eqv (.pointer (some ⟨t.bt,4,none⟩)),Eqv (.agg #[.int .i64 (two t.K),.bool t.bv,.bool t.jc]),Eqv (.agg #[.int .i64 v,.int .i64 o]),Eqv (.int .i64 a),Eqv (.tuple #[.agg #[.int .i64 v2,.int .i64 o2],.int .i64 0,.int .i64 0]),Eqv (.tuple #[.agg #[.int .i64 v2,.int .i64 o2],.int .i64 0,.int .i64 0]),Eqv (.agg #[.int .i64 v2,.int .i64 o2]),Eqv (.int .i64 0),Eqv (.int .i64 0),Alc V.heap.size [.int .i64 0,.int .i64 0]]) (by kernel_rfl) (by kernel_rfl) (fun _ _ _ _ _ h=>h) (fun _ _ _ h1 h2=>Bel.trans h1 h2) Bel.rfl' (GL.stab (by repeat (first|exact AllStb.nil|refine AllStb.cons (by first|exact stb_eq _|exact stb_alc _ _) ?_))) (Bel.drew _) trivial ?_ ?_ ?_
  ·intro i o' hi hX ho a' W hW hIW hfar hdep
   have dep:∀j,j<12→Region.waitsFor .any _ i j=true→GL [Eqv (.pointer (some ⟨t.bt,0,none⟩)),Eqv (.pointer (some ⟨t.bt,0,none⟩)),Eqv (.pointer (some ⟨t.bt,4,none⟩)),Eqv (.agg #[.int .i64 (two t.K),.bool t.bv,.bool t.jc]),Eqv (.agg #[.int .i64 v,.int .i64 o]),Eqv (.int .i64 a),Eqv (.tuple #[.agg #[.int .i64 v2,.int .i64 o2],.int .i64 0,.int .i64 0]),Eqv (.tuple #[.agg #[.int .i64 v2,.int .i64 o2],.int .i64 0,.int .i64 0]),Eqv (.agg #[.int .i64 v2,.int .i64 o2]),Eqv (.int .i64 0),Eqv (.int .i64 0),Alc V.heap.size [.int .i64 0,.int .i64 0]] j (a'.tmps.getD (dsLV j) undef) W:=hdep
   have hi8:i=9∨i=10:=by simpa using hX
   clear hfar hdep hX hi
   rcases hi8 with rfl|rfl
   all_goals (simp at ho;subst ho)
   all_goals
    have d1:a'.tmps.getD 19 undef = .tuple #[.agg #[.int .i64 v2,.int .i64 o2],.int .i64 0,.int .i64 0]:=dep 7 (by omega) (by kernel_rfl)
    exact⟨.int .i64 0,fun W'=>by simp only[execOp,Act.eval,d1];go_simp,rfl⟩
  ·intro i o' hi hX ho a' W hW hIW hfar hdep
   have e0:a'.tmps.getD 0 undef = .pointer (some ⟨t.bt,0,none⟩):=(hfar 0 (by decide)).trans rfl
   have e4:a'.tmps.getD 4 undef = .int .i64 a:=(hfar 4 (by decide)).trans rfl
   have e8:a'.tmps.getD 8 undef = .pointer (some ⟨w.heap.size,0,none⟩):=(hfar 8 (by decide)).trans rfl
   have dep:∀j,j<12→Region.waitsFor .any _ i j=true→GL [Eqv (.pointer (some ⟨t.bt,0,none⟩)),Eqv (.pointer (some ⟨t.bt,0,none⟩)),Eqv (.pointer (some ⟨t.bt,4,none⟩)),Eqv (.agg #[.int .i64 (two t.K),.bool t.bv,.bool t.jc]),Eqv (.agg #[.int .i64 v,.int .i64 o]),Eqv (.int .i64 a),Eqv (.tuple #[.agg #[.int .i64 v2,.int .i64 o2],.int .i64 0,.int .i64 0]),Eqv (.tuple #[.agg #[.int .i64 v2,.int .i64 o2],.int .i64 0,.int .i64 0]),Eqv (.agg #[.int .i64 v2,.int .i64 o2]),Eqv (.int .i64 0),Eqv (.int .i64 0),Alc V.heap.size [.int .i64 0,.int .i64 0]] j (a'.tmps.getD (dsLV j) undef) W:=hdep
   have hi8:i=0∨i=1∨i=2∨i=3∨i=4∨i=5∨i=6∨i=7∨i=8∨i=11:=by simp at hX;omega
   clear hfar hdep hX hi;have HIW:=h_ (HI.out.below hW);have HFW:=h_ (HF.out.below hW)
   rcases hi8 with rfl|rfl|rfl|rfl|rfl|rfl|rfl|rfl|rfl|rfl
   all_goals (simp at ho;subst ho)
   ·exact .inl ⟨.pointer (some ⟨t.bt,0,none⟩),W,by simp only[execOp,Act.eval,e0];go_simp,Bel.rfl' _,trivial,rfl⟩
   ·have d1:a'.tmps.getD 20 undef = .pointer (some ⟨t.bt,0,none⟩):=dep 0 (by omega) (by kernel_rfl)
    have hbt:=HIW.out.ltB
    exact .inl ⟨.pointer (some ⟨t.bt,0,none⟩),W,by simp only[execOp,Act.eval,d1];go_simp,Bel.rfl' _,trivial,rfl⟩
   ·have d1:a'.tmps.getD 21 undef = .pointer (some ⟨t.bt,0,none⟩):=dep 1 (by omega) (by kernel_rfl)
    exact .inl ⟨.pointer (some ⟨t.bt,4,none⟩),W,by simp only[execOp,Act.eval,d1];go_simp,Bel.rfl' _,trivial,rfl⟩
   ·have d1:a'.tmps.getD 22 undef = .pointer (some ⟨t.bt,4,none⟩):=dep 2 (by omega) (by kernel_rfl)
    have e4':=HIW.out.tb 4 _ rfl;have e5':=HIW.out.tb 5 _ rfl;have e6':=HIW.out.tb 6 _ rfl
    exact .inl ⟨.agg #[.int .i64 (two t.K),.bool t.bv,.bool t.jc],W,by simp only[execOp,Act.eval,d1];go_simp,Bel.rfl' _,trivial,rfl⟩
   ·have z0:=HFW.out.c0 0 rfl
    have z1:=HFW.out.c0 1 rfl
    exact .inl ⟨.agg #[.int .i64 v,.int .i64 o],W,by simp only[execOp,Act.eval,e8];go_simp,Bel.rfl' _,trivial,rfl⟩
   ·exact .inl ⟨.int .i64 a,W,by simp only[execOp,Act.eval,e4];go_simp,Bel.rfl' _,trivial,rfl⟩
   ·have d1:a'.tmps.getD 23 undef = .agg #[.int .i64 (two t.K),.bool t.bv,.bool t.jc]:=dep 3 (by omega) (by kernel_rfl)
    have d2:a'.tmps.getD 24 undef = .agg #[.int .i64 v,.int .i64 o]:=dep 4 (by omega) (by kernel_rfl)
    have d3:a'.tmps.getD 25 undef = .int .i64 a:=dep 5 (by omega) (by kernel_rfl)
    refine .inr ⟨170,#[.agg #[.int .i64 (two t.K),.bool t.bv,.bool t.jc],.agg #[.int .i64 v,.int .i64 o],.int .i64 a],by simp only[execOp,Act.eval,d1,d2,d3];go_simp,?_⟩
    refine (CAF.out W).mono ?_
    rintro e W' ⟨rfl,hb'⟩
    exact⟨_,rfl,hb',trivial,rfl⟩
   ·have d1:a'.tmps.getD 26 undef = .tuple #[.agg #[.int .i64 v2,.int .i64 o2],.int .i64 0,.int .i64 0]:=dep 6 (by omega) (by kernel_rfl)
    exact .inl ⟨.tuple #[.agg #[.int .i64 v2,.int .i64 o2],.int .i64 0,.int .i64 0],W,by simp only[execOp,Act.eval,d1];go_simp,Bel.rfl' _,trivial,rfl⟩
   ·have d1:a'.tmps.getD 19 undef = .tuple #[.agg #[.int .i64 v2,.int .i64 o2],.int .i64 0,.int .i64 0]:=dep 7 (by omega) (by kernel_rfl)
    exact .inl ⟨.agg #[.int .i64 v2,.int .i64 o2],W,by simp only[execOp,Act.eval,d1];go_simp,Bel.rfl' _,trivial,rfl⟩
   ·exact .inl ⟨.pointer (some ⟨W.heap.size,0,none⟩),W.alloc (.cells #[.int .i64 0,.int .i64 0] 62),by kernel_rfl,Bel.alloc _ _,trivial,alc_new _ _ _ (Below.size hW)⟩
  intro u W2 hW hIW hg
  have g0:u 0 = .pointer (some ⟨t.bt,0,none⟩):=hg 0 (by omega)
  have g1:u 1 = .pointer (some ⟨t.bt,0,none⟩):=hg 1 (by omega)
  have g2:u 2 = .pointer (some ⟨t.bt,4,none⟩):=hg 2 (by omega)
  have g3:u 3 = .agg #[.int .i64 (two t.K),.bool t.bv,.bool t.jc]:=hg 3 (by omega)
  have g4:u 4 = .agg #[.int .i64 v,.int .i64 o]:=hg 4 (by omega)
  have g5:u 5 = .int .i64 a:=hg 5 (by omega)
  have g6:u 6 = .tuple #[.agg #[.int .i64 v2,.int .i64 o2],.int .i64 0,.int .i64 0]:=hg 6 (by omega)
  have g7:u 7 = .tuple #[.agg #[.int .i64 v2,.int .i64 o2],.int .i64 0,.int .i64 0]:=hg 7 (by omega)
  have g8:u 8 = .agg #[.int .i64 v2,.int .i64 o2]:=hg 8 (by omega)
  have g9:u 9 = .int .i64 0:=hg 9 (by omega)
  have g10:u 10 = .int .i64 0:=hg 10 (by omega)
  obtain⟨g,g11,gl,AL⟩:Alc V.heap.size [.int .i64 0,.int .i64 0] (u 11) W2:=hg 11 (by omega)
  simp only[List.drop_succ_cons,List.drop_zero,putV,dsLV,g0,g1,g2,g3,g4,g5,g6,g7,g8,g9,g10,g11,Act.put]
  clear g0 g1 g2 g3 g4 g5 g6 g7 g8 g9 g10 g11 hg hIW;have y0:=AL.cell 0 _ rfl;have y1:=AL.cell 1 _ rfl;have x0:=AL.froz 0 _ rfl;have x1:=AL.froz 1 _ rfl;have yl:=AL.lt;have HAL:=h_ AL;have HW:=h_ hW;clear AL hW CAF
  go_wp2_with (fail)
  obtain⟨X,hX⟩:∃X,X=(W2.setCell ⟨g,0,none⟩ (.int .i64 v2)).setCell ⟨g,1,none⟩ (.int .i64 o2):=⟨_,rfl⟩;rw[← hX]
  have hbX:Below V.heap.size V X:=by rw[hX];exact Below.setCell (p:=⟨g,1,none⟩) (Below.setCell (p:=⟨g,0,none⟩) HW.out gl _) gl _
  clear hX y0 y1 x0 x1 yl HAL HW;replace HF:=h_ (HF.out.below hbX);replace HI:=h_ (HI.out.below hbX);replace HA:=h_ (HA.out.below hbX);replace HB:=h_ (HB.out.below hbX);clear hbX
  refine (R1.out fl A B ca cb X HI.out HA.out hca HB.out hcb).mono ?_
  rintro e w3 ⟨⟨xn,xd⟩,rfl,hvx,hI3,hf3,him⟩
  replace HF:=h_ (HF.out.frm hf3);replace HI:=h_ hI3;have HIM:=h_ him;clear hf3 hI3 him R1 HA HB;obtain⟨z0,c00,f00,c01,f01,z1,c10,f10,c11,f11⟩:=HF.out.xf4
  go_wp2_with (fail)
  refine bodyPost_ret (v:=.agg #[.int .i64 xn,.int .i64 (xd:Int)]) (by simp[results,Tryz.results109,go_sem,c10,c11,z1,f10,f11]) rfl ?_
  refine⟨⟨xn,xd⟩,rfl,hvx,?_,?_,HIM.out⟩
  ·
   repeat (first|with_reducible exact HI.out|with_reducible refine TbI.alloc ?_ _|with_reducible refine TbI.stored ?_ _ (HNS.out 1) (HNR.out 1))
  ·
   repeat (first|with_reducible exact HF.out.f|with_reducible refine Frm.alloc ?_ _|with_reducible refine Frm.ownSet ?_ (by omega) _)
end Go.Proofs.YtgjapehpkakkbaaGreat
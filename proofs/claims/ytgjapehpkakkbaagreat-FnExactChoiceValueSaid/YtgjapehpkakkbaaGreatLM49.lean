/- Contracts of the reference's value of a choice. There are no conditions beyond those that each states. -/
import Derived.Test.YtgjapehpkakkbaaGreatLM48
import Derived.Test.YtgjapehpkakkbaaGreatLZl
set_option linter.unusedVariables false
set_option linter.unusedSimpArgs false
namespace Go.Proofs.YtgjapehpkakkbaaGreat
open Go.RowKit Mo Ps Ra Ex
def Alc (lo:Nat) (cs:List Value):RP:=fun v W=>∃g,v = .pointer (some ⟨g,0,none⟩)∧lo≤g∧Cel W g cs
theorem stb_alc (lo:Nat) (cs:List Value):Stb (Alc lo cs):=fun _ _ _ ⟨g,h1,h2,h3⟩ hb=>⟨g,h1,h2,h3.below hb⟩
theorem alc_new {lo:Nat} (W:World) (cs:Array Value) (T:TypeId) (h:lo≤W.heap.size):Alc lo cs.toList (.pointer (some ⟨W.heap.size,0,none⟩)) (W.alloc (.cells cs T)):=⟨_,rfl,h,Cel.new W cs T⟩
def dsLV:Nat→Nat
 | 0=>20
 | 1=>21
 | 2=>22
 | 3=>23
 | 4=>24
 | 5=>25
 | 6=>26
 | 7=>19
 | 8=>27
 | 9=>28
 | 10=>29
 | 11=>11
 | _=>0
def RetTV (t:WT) (w:World) (o:Option E) (e:Ending) (w':World):Prop:=
 ∃x:E,e = .returned (.agg #[.int .i64 x.num,.int .i64 (x.depth:Int)])∧TbI t o.isNone w'∧Frm t.S w w'∧(o.isNone=false→o=some x)
set_option maxRecDepth 100000 in
set_option maxHeartbeats 4000000 in
theorem l20Value_any (t:WT) (ht:t.Ok) {own other:List Int} (hq:PosP t.h t.c own) (hq2:PosP t.h t.c other) (h0:own.sum≠0) {v o a:Int} (hcu:cubB (two t.K) v o=true) (hpa:posA ⟨two t.K,t.bv⟩ (v,o) a=true) (A B:Option Addr) (ca cb:Nat) (w:World) (hI:TbI t false w) (hA:SQ t.S w A t.h own) (hca:t.h≤ca) (hB:SQ t.S w B t.h other) (hcb:t.h≤cb):
  Calls Tryz.prog 109 #[.pointer (some ⟨t.bt,0,none⟩),.slice A t.h ca,.slice B t.h cb,.agg #[.int .i64 v,.int .i64 o],.int .i64 a] w (RetTV t w (valV t.s t.ru own other (v,o) a)):=by
 have hc:=cubB_ok hcu;have hv:=isVar_yes ht.v
 have hnr1:0<t.nr:=by
  have h1:=rollsN_length t.s
  have h2:1*2≤t.s*(t.s+1):=Nat.mul_le_mul (by omega) (by omega)
  have:=ht.r
  omega
 have hcv:1≤v∧v≤1024∧0≤o∧o≤2:=hc.v1 ht.k;have hlow:=hI.ltS;have hlr:=hI.ltR hnr1
 have HNS:Hid (∀j,¬t.S (w.heap.size+j)):=fun j h=>by have:=hlow _ h;omega
 have HNR:Hid (∀j,¬t.rb (w.heap.size+j)):=fun j h=>by have:=hlr _ h;omega
 have hb0:Below w.heap.size w ((w.alloc (.cells #[.int .i64 v,.int .i64 o] 62)).alloc (.cells #[.int .i64 0,.int .i64 0] 35)):=((Below.refl _ _).alloc (Nat.le_refl _) _).alloc (by simp) _
 have HF:Hid (FrS t.S w ((w.alloc (.cells #[.int .i64 v,.int .i64 o] 62)).alloc (.cells #[.int .i64 0,.int .i64 0] 35)) [[.int .i64 v,.int .i64 o],[.int .i64 0,.int .i64 0]]):=((FrS.start w hlow).allocT (by simp) _ _).allocT (by simp) _ _
 have HI:=Lib.hid (hI.below hb0);have HA:=Lib.hid (hA.below hb0);have HB:=Lib.hid (hB.below hb0);obtain⟨ov,hov⟩:∃ov,ov=valV t.s t.ru own other (v,o) a:=⟨_,rfl⟩;rw[← hov]
 by_cases h2:a=2
 ·have HE:Hid (ov=some ⟨v,0⟩):=by rw[hov];exact if_pos h2
  have b2:(a == 2)=true:=by simp[h2]
  have WH:=Lib.hid fun (W:World)=>whole_any v W
  clear hI hA hB hv ht hb0 hlow hlr hq hq2 h0 hc hcu hpa hov h2 HA HB
  go_enter Tryz.func109,Tryz.ntmps109
  go_wp2_with (fail)
  refine (WH.out _).mono ?_
  rintro e w1 ⟨rfl,hb⟩
  replace HF:=Lib.hid (HF.out.below hb);replace HI:=Lib.hid (HI.out.below hb);clear hb WH;obtain⟨z0,c00,f00,c01,f01,z1,c10,f10,c11,f11⟩:=HF.out.xf3
  go_wp2_with (fail)
  refine bodyPost_ret (v:=.agg #[.int .i64 v,.int .i64 ((0:Nat):Int)]) (by simp[results,Tryz.results109,go_sem,c10,c11,z1,f10,f11]) rfl ?_
  refine⟨⟨v,0⟩,rfl,?_,?_,fun _=>HE.out⟩
  ·refine TbI.eqf ?_ (show false=ov.isNone by rw[HE.out]<;>rfl)
   repeat (first|with_reducible exact HI.out|with_reducible refine TbI.alloc ?_ _|with_reducible refine TbI.stored ?_ _ (HNS.out 1) (HNR.out 1))
  ·
   repeat (first|with_reducible exact HF.out.f|with_reducible refine Frm.alloc ?_ _|with_reducible refine Frm.ownSet ?_ (by omega) _)
 ·have b2:(a == 2)=false:=by simp[h2]
  obtain⟨⟨v2,o2⟩,ha⟩:∃c2,aft (v,o) a=c2:=⟨_,rfl⟩;have R1:=Lib.hid (rolT_all t ht hq hq2 h0 (aft_ok hc hpa h2))
  have CAF:Hid (∀W:World,Calls Tryz.prog 170 #[.agg #[.int .i64 (two t.K),.bool t.bv,.bool t.jc],.agg #[.int .i64 v,.int .i64 o],.int .i64 a] W fun e w'=>e = .returned (.tuple #[.agg #[.int .i64 v2,.int .i64 o2],.int .i64 0,.int .i64 0])∧Below W.heap.size W w'):=fun W=>by
   have:=AfterAction_any t.K t.bv t.jc v o a W ht.k hcu hpa h2;rw[ha]at this
   exact this
  rw[ha]at R1
  have hov2:ov=rol t.s t.ru own other (v2,o2):=by rw[hov,← ha];exact if_neg h2
  replace R1:Hid (TabC' t 98 own other (v2,o2) fun w fl=>RetT t w fl ov):=by rw[hov2];exact R1
  clear hI hA hB hv ht hb0 hlow hlr hq hq2 h0 hc hcu hpa hov hov2 h2 ha
  go_enter Tryz.func109,Tryz.ntmps109
  go_wp2_with (fail)
  generalize (w.alloc (.cells #[.int .i64 v,.int .i64 o] 62)).alloc (.cells #[.int .i64 0,.int .i64 0] 35)=V at *
  have hzV:w.heap.size+2≤V.heap.size:=by have:=HF.out.z;simpa using this
  refine wp_region_early 12 (fun i=>i == 9||i == 10) dsLV Bel (fun _=>True) (GL [Eqv (.pointer (some ⟨t.bt,0,none⟩)),Eqv (.pointer (some ⟨t.bt,0,none⟩)),Eqv (.pointer (some ⟨t.bt,4,none⟩)),Eqv (.agg #[.int .i64 (two t.K),.bool t.bv,.bool t.jc]),Eqv (.agg #[.int .i64 v,.int .i64 o]),Eqv (.int .i64 a),Eqv (.tuple #[.agg #[.int .i64 v2,.int .i64 o2],.int .i64 0,.int .i64 0]),Eqv (.tuple #[.agg #[.int .i64 v2,.int .i64 o2],.int .i64 0,.int .i64 0]),Eqv (.agg #[.int .i64 v2,.int .i64 o2]),Eqv (.int .i64 0),Eqv (.int .i64 0),Alc V.heap.size [.int .i64 0,.int .i64 0]]) (by kernel_rfl) (by kernel_rfl) (fun _ _ _ _ _ h=>h) (fun _ _ _ h1 h2=>Bel.trans h1 h2) Bel.rfl' (GL.stab (by repeat (first|exact AllStb.nil|refine AllStb.cons (by first|exact stb_eq _|exact stb_alc _ _) ?_))) (Bel.drew _) trivial ?_ ?_ ?_
  ·intro i o' hi hX ho a' W hW hIW hfar hdep
   have dep:∀j,j<12→Region.waitsFor .any _ i j=true→GL [Eqv (.pointer (some ⟨t.bt,0,none⟩)),Eqv (.pointer (some ⟨t.bt,0,none⟩)),Eqv (.pointer (some ⟨t.bt,4,none⟩)),Eqv (.agg #[.int .i64 (two t.K),.bool t.bv,.bool t.jc]),Eqv (.agg #[.int .i64 v,.int .i64 o]),Eqv (.int .i64 a),Eqv (.tuple #[.agg #[.int .i64 v2,.int .i64 o2],.int .i64 0,.int .i64 0]),Eqv (.tuple #[.agg #[.int .i64 v2,.int .i64 o2],.int .i64 0,.int .i64 0]),Eqv (.agg #[.int .i64 v2,.int .i64 o2]),Eqv (.int .i64 0),Eqv (.int .i64 0),Alc V.heap.size [.int .i64 0,.int .i64 0]] j (a'.tmps.getD (dsLV j) undef) W:=hdep
   have hi8:i=9∨i=10:=by simpa using hX
   clear hfar hdep hX hi
   rcases hi8 with rfl|rfl
   all_goals (simp at ho;subst ho)
   all_goals
    have d1:a'.tmps.getD 19 undef = .tuple #[.agg #[.int .i64 v2,.int .i64 o2],.int .i64 0,.int .i64 0]:=dep 7 (by omega) (by kernel_rfl)
    exact⟨.int .i64 0,fun W'=>by simp only[execOp,Act.eval,d1];go_simp,rfl⟩
  ·intro i o' hi hX ho a' W hW hIW hfar hdep
   have e0:a'.tmps.getD 0 undef = .pointer (some ⟨t.bt,0,none⟩):=(hfar 0 (by decide)).trans rfl
   have e4:a'.tmps.getD 4 undef = .int .i64 a:=(hfar 4 (by decide)).trans rfl
   have e8:a'.tmps.getD 8 undef = .pointer (some ⟨w.heap.size,0,none⟩):=(hfar 8 (by decide)).trans rfl
   have dep:∀j,j<12→Region.waitsFor .any _ i j=true→GL [Eqv (.pointer (some ⟨t.bt,0,none⟩)),Eqv (.pointer (some ⟨t.bt,0,none⟩)),Eqv (.pointer (some ⟨t.bt,4,none⟩)),Eqv (.agg #[.int .i64 (two t.K),.bool t.bv,.bool t.jc]),Eqv (.agg #[.int .i64 v,.int .i64 o]),Eqv (.int .i64 a),Eqv (.tuple #[.agg #[.int .i64 v2,.int .i64 o2],.int .i64 0,.int .i64 0]),Eqv (.tuple #[.agg #[.int .i64 v2,.int .i64 o2],.int .i64 0,.int .i64 0]),Eqv (.agg #[.int .i64 v2,.int .i64 o2]),Eqv (.int .i64 0),Eqv (.int .i64 0),Alc V.heap.size [.int .i64 0,.int .i64 0]] j (a'.tmps.getD (dsLV j) undef) W:=hdep
   have hi8:i=0∨i=1∨i=2∨i=3∨i=4∨i=5∨i=6∨i=7∨i=8∨i=11:=by simp at hX;omega
   clear hfar hdep hX hi;have HIW:=Lib.hid (HI.out.below hW);have HFW:=Lib.hid (HF.out.below hW)
   rcases hi8 with rfl|rfl|rfl|rfl|rfl|rfl|rfl|rfl|rfl|rfl
   all_goals (simp at ho;subst ho)
   ·exact .inl ⟨.pointer (some ⟨t.bt,0,none⟩),W,by simp only[execOp,Act.eval,e0];go_simp,Bel.rfl' _,trivial,rfl⟩
   ·have d1:a'.tmps.getD 20 undef = .pointer (some ⟨t.bt,0,none⟩):=dep 0 (by omega) (by kernel_rfl)
    have hbt:=HIW.out.ltB
    exact .inl ⟨.pointer (some ⟨t.bt,0,none⟩),W,by simp only[execOp,Act.eval,d1];go_simp,Bel.rfl' _,trivial,rfl⟩
   ·have d1:a'.tmps.getD 21 undef = .pointer (some ⟨t.bt,0,none⟩):=dep 1 (by omega) (by kernel_rfl)
    exact .inl ⟨.pointer (some ⟨t.bt,4,none⟩),W,by simp only[execOp,Act.eval,d1];go_simp,Bel.rfl' _,trivial,rfl⟩
   ·have d1:a'.tmps.getD 22 undef = .pointer (some ⟨t.bt,4,none⟩):=dep 2 (by omega) (by kernel_rfl)
    have e4':=HIW.out.tb 4 _ rfl;have e5':=HIW.out.tb 5 _ rfl;have e6':=HIW.out.tb 6 _ rfl
    exact .inl ⟨.agg #[.int .i64 (two t.K),.bool t.bv,.bool t.jc],W,by simp only[execOp,Act.eval,d1];go_simp,Bel.rfl' _,trivial,rfl⟩
   ·have z0:=HFW.out.c0 0 rfl
    have z1:=HFW.out.c0 1 rfl
    exact .inl ⟨.agg #[.int .i64 v,.int .i64 o],W,by simp only[execOp,Act.eval,e8];go_simp,Bel.rfl' _,trivial,rfl⟩
   ·exact .inl ⟨.int .i64 a,W,by simp only[execOp,Act.eval,e4];go_simp,Bel.rfl' _,trivial,rfl⟩
   ·have d1:a'.tmps.getD 23 undef = .agg #[.int .i64 (two t.K),.bool t.bv,.bool t.jc]:=dep 3 (by omega) (by kernel_rfl)
    have d2:a'.tmps.getD 24 undef = .agg #[.int .i64 v,.int .i64 o]:=dep 4 (by omega) (by kernel_rfl)
    have d3:a'.tmps.getD 25 undef = .int .i64 a:=dep 5 (by omega) (by kernel_rfl)
    refine .inr ⟨170,#[.agg #[.int .i64 (two t.K),.bool t.bv,.bool t.jc],.agg #[.int .i64 v,.int .i64 o],.int .i64 a],by simp only[execOp,Act.eval,d1,d2,d3];go_simp,?_⟩
    refine (CAF.out W).mono ?_
    rintro e W' ⟨rfl,hb'⟩
    exact⟨_,rfl,hb',trivial,rfl⟩
   ·have d1:a'.tmps.getD 26 undef = .tuple #[.agg #[.int .i64 v2,.int .i64 o2],.int .i64 0,.int .i64 0]:=dep 6 (by omega) (by kernel_rfl)
    exact .inl ⟨.tuple #[.agg #[.int .i64 v2,.int .i64 o2],.int .i64 0,.int .i64 0],W,by simp only[execOp,Act.eval,d1];go_simp,Bel.rfl' _,trivial,rfl⟩
   ·have d1:a'.tmps.getD 19 undef = .tuple #[.agg #[.int .i64 v2,.int .i64 o2],.int .i64 0,.int .i64 0]:=dep 7 (by omega) (by kernel_rfl)
    exact .inl ⟨.agg #[.int .i64 v2,.int .i64 o2],W,by simp only[execOp,Act.eval,d1];go_simp,Bel.rfl' _,trivial,rfl⟩
   ·exact .inl ⟨.pointer (some ⟨W.heap.size,0,none⟩),W.alloc (.cells #[.int .i64 0,.int .i64 0] 62),by kernel_rfl,Bel.alloc _ _,trivial,alc_new _ _ _ (Below.size hW)⟩
  intro u W2 hW hIW hg
  have g0:u 0 = .pointer (some ⟨t.bt,0,none⟩):=hg 0 (by omega)
  have g1:u 1 = .pointer (some ⟨t.bt,0,none⟩):=hg 1 (by omega)
  have g2:u 2 = .pointer (some ⟨t.bt,4,none⟩):=hg 2 (by omega)
  have g3:u 3 = .agg #[.int .i64 (two t.K),.bool t.bv,.bool t.jc]:=hg 3 (by omega)
  have g4:u 4 = .agg #[.int .i64 v,.int .i64 o]:=hg 4 (by omega)
  have g5:u 5 = .int .i64 a:=hg 5 (by omega)
  have g6:u 6 = .tuple #[.agg #[.int .i64 v2,.int .i64 o2],.int .i64 0,.int .i64 0]:=hg 6 (by omega)
  have g7:u 7 = .tuple #[.agg #[.int .i64 v2,.int .i64 o2],.int .i64 0,.int .i64 0]:=hg 7 (by omega)
  have g8:u 8 = .agg #[.int .i64 v2,.int .i64 o2]:=hg 8 (by omega)
  have g9:u 9 = .int .i64 0:=hg 9 (by omega)
  have g10:u 10 = .int .i64 0:=hg 10 (by omega)
  obtain⟨g,g11,gl,AL⟩:Alc V.heap.size [.int .i64 0,.int .i64 0] (u 11) W2:=hg 11 (by omega)
  simp only[List.drop_succ_cons,List.drop_zero,putV,dsLV,g0,g1,g2,g3,g4,g5,g6,g7,g8,g9,g10,g11,Act.put]
  clear g0 g1 g2 g3 g4 g5 g6 g7 g8 g9 g10 g11 hg hIW;have y0:=AL.cell 0 _ rfl;have y1:=AL.cell 1 _ rfl;have x0:=AL.froz 0 _ rfl;have x1:=AL.froz 1 _ rfl;have yl:=AL.lt;have HAL:=Lib.hid AL;have HW:=Lib.hid hW;clear AL hW CAF
  go_wp2_with (fail)
  obtain⟨X,hX⟩:∃X,X=(W2.setCell ⟨g,0,none⟩ (.int .i64 v2)).setCell ⟨g,1,none⟩ (.int .i64 o2):=⟨_,rfl⟩;rw[← hX]
  have hbX:Below V.heap.size V X:=by rw[hX];exact Below.setCell (p:=⟨g,1,none⟩) (Below.setCell (p:=⟨g,0,none⟩) HW.out gl _) gl _
  clear hX y0 y1 x0 x1 yl HAL HW;replace HF:=Lib.hid (HF.out.below hbX);replace HI:=Lib.hid (HI.out.below hbX);replace HA:=Lib.hid (HA.out.below hbX);replace HB:=Lib.hid (HB.out.below hbX);clear hbX
  refine (R1.out false A B ca cb X HI.out HA.out hca HB.out hcb).mono ?_
  rintro e w3 ⟨⟨xn,xd⟩,rfl,_,hI3,hf3,him⟩
  replace HF:=Lib.hid (HF.out.frm hf3);replace HI:=Lib.hid hI3;have HIM:=Lib.hid him;clear hf3 hI3 him R1 HA HB;obtain⟨z0,c00,f00,c01,f01,z1,c10,f10,c11,f11⟩:=HF.out.xf3
  go_wp2_with (fail)
  refine bodyPost_ret (v:=.agg #[.int .i64 xn,.int .i64 (xd:Int)]) (by simp[results,Tryz.results109,go_sem,c10,c11,z1,f10,f11]) rfl ?_
  refine⟨⟨xn,xd⟩,rfl,?_,?_,fun h=>HIM.out (by rw[h];rfl)⟩
  ·refine TbI.eqf ?_ (show (false||ov.isNone)=ov.isNone by cases ov<;>rfl)
   repeat (first|with_reducible exact HI.out|with_reducible refine TbI.alloc ?_ _|with_reducible refine TbI.stored ?_ _ (HNS.out 1) (HNR.out 1))
  ·
   repeat (first|with_reducible exact HF.out.f|with_reducible refine Frm.alloc ?_ _|with_reducible refine Frm.ownSet ?_ (by omega) _)
end Go.Proofs.YtgjapehpkakkbaaGreat
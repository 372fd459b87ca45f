/- Part of one proof. There are no conditions. -/
import Derived.Test.YtgjapehpkakkbaaGreatDJ5
import Derived.Test.YtgjapehpkakkbaaGreatDJ9
import Derived.Test.YtgjapehpkakkbaaGreatDM39
set_option linter.unusedVariables false
set_option linter.unusedSimpArgs false
namespace Go.Proofs.YtgjapehpkakkbaaGreat
open Go.RowKit Ps Ra Ex Mo
def RetDT (t:WT) (w:World) (od:Option (Int×E×E×Int×E)) (e:Ending) (w':World):Prop:=
 ∃a b c d x f g h:Int,e = .returned (.agg #[.int .i64 a,.int .i64 b,.int .i64 c,.int .i64 d,.int .i64 x,.int .i64 f,.int .i64 g,.int .i64 h])∧TbI t od.isNone w'∧Frm t.S w w'∧(od.isNone=false→dcV od = .agg #[.int .i64 a,.int .i64 b,.int .i64 c,.int .i64 d,.int .i64 x,.int .i64 f,.int .i64 g,.int .i64 h])
set_option maxRecDepth 100000 in
set_option maxHeartbeats 4000000 in
theorem l20Decide_any (t:WT) (ht:t.Ok) {own other:List Int} (hq:PosP t.h t.c own) (hq2:PosP t.h t.c other) (h0:own.sum≠0) {c:Cb} (hc:CbOk t.K c) (A B:Option Addr) (ca cb:Nat) (w:World) (hI:TbI t false w) (hA:SQ t.S w A t.h own) (hca:t.h≤ca) (hB:SQ t.S w B t.h other) (hcb:t.h≤cb):
  Calls Tryz.prog 112 #[.pointer (some ⟨t.bt,0,none⟩),.slice A t.h ca,.slice B t.h cb,.agg #[.int .i64 c.1,.int .i64 c.2]] w (RetDT t w (dcd t.s t.ru own other c)):=by
 obtain⟨v,o⟩:=c;have hc':=hc;have hv:=isVar_yes ht.v
 have hs1:1≤t.s:=by omega
 have hs6:t.s≤6:=by omega
 obtain⟨hq1,hq36,_⟩:=sq_bd hs1 hs6
 have hnr1:0<t.nr:=by
  have h1:=rollsN_length t.s
  have h2:1*2≤t.s*(t.s+1):=Nat.mul_le_mul (by omega) (by omega)
  have:=ht.r
  omega
 have hcv:1≤v∧v≤1024∧0≤o∧o≤2:=hc.v1 ht.k;have hlow:=hI.ltS;have hlr:=hI.ltR hnr1
 have HNS:Hid (∀j,¬t.S (w.heap.size+j)):=fun j h=>by have:=hlow _ h;omega
 have HNR:Hid (∀j,¬t.rb (w.heap.size+j)):=fun j h=>by have:=hlr _ h;omega
 have hb0:Below w.heap.size w ((w.alloc (.cells #[.int .i64 v,.int .i64 o] 62)).alloc (.cells #[.int .i64 0,.int .i64 0,.int .i64 0,.int .i64 0,.int .i64 0,.int .i64 0,.int .i64 0,.int .i64 0] 79)):=((Below.refl _ _).alloc (Nat.le_refl _) _).alloc (by simp) _
 have HF:Hid (FrS t.S w ((w.alloc (.cells #[.int .i64 v,.int .i64 o] 62)).alloc (.cells #[.int .i64 0,.int .i64 0,.int .i64 0,.int .i64 0,.int .i64 0,.int .i64 0,.int .i64 0,.int .i64 0] 79)) [[.int .i64 v,.int .i64 o],[.int .i64 0,.int .i64 0,.int .i64 0,.int .i64 0,.int .i64 0,.int .i64 0,.int .i64 0,.int .i64 0]]):=((FrS.start w hlow).allocT (by simp) _ _).allocT (by simp) _ _
 have HIa:=h_ (hI.below hb0);have HA:=h_ (hA.below hb0);have HB:=h_ (hB.below hb0);have R1:=h_ (rolT_all t ht hq hq2 h0 hc')
 have HDB:Hid (may t.ru (v,o)=true→DblT t own other (v,o)):=fun h=>dblT_all t ht hq hq2 h0 hc' h
 obtain⟨od,hod⟩:∃od,od=dcd t.s t.ru own other (v,o):=⟨_,rfl⟩
 have HNO:Hid (rol t.s t.ru own other (v,o)=none→od=none):=fun h=>by rw[hod];unfold dcd;rw[h];rfl
 have HST:Hid (∀x,rol t.s t.ru own other (v,o)=some x→may t.ru (v,o)=false→od=some (0,x,⟨0,0⟩,0,x)):=fun x h h2=>by rw[hod];unfold dcd;rw[h,h2];rfl
 have HDN:Hid (∀x,rol t.s t.ru own other (v,o)=some x→may t.ru (v,o)=true→dbl t.s t.ru own other (v,o)=none→od=none):=fun x h h2 h3=>by rw[hod];unfold dcd;rw[h,h2,h3];rfl
 have HDV:Hid (∀x y a,rol t.s t.ru own other (v,o)=some x→may t.ru (v,o)=true→dbl t.s t.ru own other (v,o)=some (y,a)→od=some (if ltE (sq t.s) x y then (a,x,y,a,y) else (0,x,y,a,x))):=fun x y a h h2 h3=>by rw[hod];unfold dcd;rw[h,h2,h3];rfl
 have HMY:=h_ fun (W:World)=>l16May_any (two t.K) t.bv t.jc v o W (by omega) (by omega)
 have hrc:may ⟨two t.K,t.bv⟩ (v,o)=may t.ru (v,o):=rfl;rw[hrc]at HMY
 have COM:=h_ fun (x y:E) (W:World) (hx:Val (sq t.s) x) (hy:Val (sq t.s) y)=>l09Compare_any t.p t.c t.h x.num y.num t.s x.depth y.depth W hs1 hs6 hx hy
 rw[← hod];clear hI hA hB hv ht hb0 hlow hlr hq hq2 h0 hc hc' hrc hod
 go_enter Tryz.func112,Tryz.ntmps112
 go_wp2_with (fail)
 generalize ((w.alloc (.cells #[.int .i64 v,.int .i64 o] 62)).alloc (.cells #[.int .i64 0,.int .i64 0,.int .i64 0,.int .i64 0,.int .i64 0,.int .i64 0,.int .i64 0,.int .i64 0] 79))=W1 at *
 refine (R1.out false A B ca cb W1 HIa.out HA.out hca HB.out hcb).mono ?_
 rintro e w2 ⟨⟨xn,xd⟩,rfl,hvx,hI,hf,him⟩
 replace HF:=h_ (HF.out.frm hf);have HI:=h_ hI;replace HA:=h_ (HA.out.frm hf);replace HB:=h_ (HB.out.frm hf);have HVX:=h_ hvx;have HIM:=h_ him;clear hf R1 hvx him HIa hI
 have HZ3:Hid (w.heap.size+2≤w2.heap.size):=by unfold Hid;have:=HF.out.z;simpa using this
 have HG:Hid (FrS t.S w2 (w2.alloc (.cells #[.int .i64 0,.int .i64 xn,.int .i64 (xd:Int),.int .i64 0,.int .i64 0,.int .i64 0,.int .i64 xn,.int .i64 (xd:Int)] 79)) [[.int .i64 0,.int .i64 xn,.int .i64 (xd:Int),.int .i64 0,.int .i64 0,.int .i64 0,.int .i64 xn,.int .i64 (xd:Int)]]):=(FrS.start w2 HI.out.ltS).allocT (by simp) _ _
 obtain⟨z0,c00,f00,c01,f01,z1,c10,f10,c11,f11,c12,f12,c13,f13,c14,f14,c15,f15,c16,f16,c17,f17⟩:=HF.out.xf11
 go_wp2_with (fail)
 clear z0 c00 f00 c01 f01 z1 c10 f10 c11 f11 c12 f12 c13 f13 c14 f14 c15 f15 c16 f16 c17 f17;have hZ3:=HZ3.out
 have n1:¬w2.heap.size=w.heap.size+1:=by omega
 have n2:¬w.heap.size+1=w2.heap.size:=by omega
 have hw2t:t.bt<w2.heap.size:=HI.out.ltB
 have n3:¬w2.heap.size=t.bt:=by omega
 have n4:¬t.bt=w2.heap.size:=by omega
 have HNS2:Hid (¬t.S w2.heap.size):=fun h=>by have:=HG.out.low _ h;omega
 have HNR2:Hid (¬t.rb w2.heap.size):=by
  have h:=HNR.out (w2.heap.size-w.heap.size)
  rwa [show w.heap.size+(w2.heap.size-w.heap.size)=w2.heap.size by omega]at h
 replace HF:=h_ (HF.out.alloc (.cells #[.int .i64 0,.int .i64 xn,.int .i64 (xd:Int),.int .i64 0,.int .i64 0,.int .i64 0,.int .i64 xn,.int .i64 (xd:Int)] 79));replace HI:=h_ (HI.out.alloc (.cells #[.int .i64 0,.int .i64 xn,.int .i64 (xd:Int),.int .i64 0,.int .i64 0,.int .i64 0,.int .i64 xn,.int .i64 (xd:Int)] 79));replace HA:=h_ (HA.out.below ((Below.refl _ _).alloc (Nat.le_refl _) (.cells #[.int .i64 0,.int .i64 xn,.int .i64 (xd:Int),.int .i64 0,.int .i64 0,.int .i64 0,.int .i64 xn,.int .i64 (xd:Int)] 79)));replace HB:=h_ (HB.out.below ((Below.refl _ _).alloc (Nat.le_refl _) (.cells #[.int .i64 0,.int .i64 xn,.int .i64 (xd:Int),.int .i64 0,.int .i64 0,.int .i64 0,.int .i64 xn,.int .i64 (xd:Int)] 79)));generalize w2.alloc (.cells #[.int .i64 0,.int .i64 xn,.int .i64 (xd:Int),.int .i64 0,.int .i64 0,.int .i64 0,.int .i64 xn,.int .i64 (xd:Int)] 79)=X0 at *;obtain⟨o1,ho1⟩:∃o1,o1=rol t.s t.ru own other (v,o):=⟨_,rfl⟩;rw[← ho1]at HI HIM HNO HST HDN HDV;clear ho1
 rcases o1 with _|⟨rn,rd⟩
 ·have HE:=h_ (HNO.out rfl)
  clear HNO HST HDN HDV HDB HIM HMY COM;replace HI:Hid (TbI t true X0):=HI.out;have e0:=HI.out.tb 0 _ rfl;have e1:=HI.out.tb 1 _ rfl;have e2:=HI.out.tb 2 _ rfl;have e3:=HI.out.tb 3 _ rfl;have e4:=HI.out.tb 4 _ rfl;have e5:=HI.out.tb 5 _ rfl;have e6:=HI.out.tb 6 _ rfl;have ea:=HI.out.fa;have hbt:=HI.out.ltB;obtain⟨z0,c00,f00,c01,f01,z1,c10,f10,c11,f11,c12,f12,c13,f13,c14,f14,c15,f15,c16,f16,c17,f17⟩:=HF.out.xf11
  first|refine wp_region_more2 (by kernel_rfl) (by kernel_rfl) ?_|refine wp_region_more (by kernel_rfl) (by kernel_rfl) ?_
  repeat (first|go_big_quiet_step (fail)|quiet_step (fail))
  refine wpQuiet_nil ?_
  intro _ hw'
  obtain⟨tr,hw''⟩:=hw';subst hw'';clear z0 c00 f00 c01 f01 z1 c10 f10 c11 f11 c12 f12 c13 f13 c14 f14 c15 f15 c16 f16 c17 f17;clear e0 e1 e2 e3 e4 e5 e6 ea hbt;replace HF:=h_ (HF.out.more tr);replace HG:=h_ (HG.out.more tr);replace HI:=h_ (HI.out.more tr);replace HA:=h_ (HA.out.below (below_more _ tr));replace HB:=h_ (HB.out.below (below_more _ tr));generalize more X0 tr=X at *;obtain⟨z0,c00,f00,c01,f01,z1,c10,f10,c11,f11,c12,f12,c13,f13,c14,f14,c15,f15,c16,f16,c17,f17⟩:=HF.out.xf11;obtain⟨qz0,qc00,qf00,qc01,qf01,qc02,qf02,qc03,qf03,qc04,qf04,qc05,qf05,qc06,qf06,qc07,qf07⟩:=HG.out.xf12
  go_wp2_with (fail)
  refine bodyPost_ret (v:=.agg #[.int .i64 0,.int .i64 xn,.int .i64 (xd:Int),.int .i64 0,.int .i64 0,.int .i64 0,.int .i64 xn,.int .i64 (xd:Int)]) (by simp[results,Tryz.results112,go_sem,c10,c11,c12,c13,c14,c15,c16,c17,z1,f10,f11,f12,f13,f14,f15,f16,f17]) rfl ⟨_,_,_,_,_,_,_,_,rfl,?_,?_,?_⟩
  ·refine TbI.eqf ?_ (show true=od.isNone by rw[HE.out]<;>rfl)
   repeat (first|with_reducible exact HI.out|with_reducible refine TbI.alloc ?_ _|with_reducible refine TbI.stored ?_ _ (HNS.out 1) (HNR.out 1))
  ·
   repeat (first|with_reducible exact HF.out.f|with_reducible refine Frm.alloc ?_ _|with_reducible refine Frm.ownSet ?_ (by omega) _)
  ·exact fun h=>by rw[HE.out]at h;cases h
 ·have hee:(⟨rn,rd⟩:E)=⟨xn,xd⟩:=by have:=HIM.out rfl;injection this
  injection hee with he1 he2;subst he1 he2;have HST1:=h_ (HST.out _ rfl);have HDN1:=h_ (HDN.out _ rfl)
  have HDV1:Hid (∀y a,may t.ru (v,o)=true→dbl t.s t.ru own other (v,o)=some (y,a)→od=some (if ltE (sq t.s) ⟨rn,rd⟩ y then (a,⟨rn,rd⟩,y,a,y) else (0,⟨rn,rd⟩,y,a,⟨rn,rd⟩))):=fun y a=>HDV.out _ y a rfl
  replace HI:Hid (TbI t false X0):=HI.out;clear HNO HST HDN HDV HIM;generalize may t.ru (v,o)=mb at *
  cases mb
  ·have HE:=h_ (HST1.out rfl)
   clear HST1 HDN1 HDV1 HDB COM;have e0:=HI.out.tb 0 _ rfl;have e1:=HI.out.tb 1 _ rfl;have e2:=HI.out.tb 2 _ rfl;have e3:=HI.out.tb 3 _ rfl;have e4:=HI.out.tb 4 _ rfl;have e5:=HI.out.tb 5 _ rfl;have e6:=HI.out.tb 6 _ rfl;have ea:=HI.out.fa;have hbt:=HI.out.ltB;obtain⟨z0,c00,f00,c01,f01,z1,c10,f10,c11,f11,c12,f12,c13,f13,c14,f14,c15,f15,c16,f16,c17,f17⟩:=HF.out.xf11
   first|refine wp_region_more2 (by kernel_rfl) (by kernel_rfl) ?_|refine wp_region_more (by kernel_rfl) (by kernel_rfl) ?_
   repeat (first|go_big_quiet_step ((go_at_call 155;exact more_call (HMY.out _)))|quiet_step ((go_at_call 155;exact more_call (HMY.out _))))
   refine wpQuiet_nil ?_
   intro _ hw'
   obtain⟨tr,hw''⟩:=hw';subst hw'';clear z0 c00 f00 c01 f01 z1 c10 f10 c11 f11 c12 f12 c13 f13 c14 f14 c15 f15 c16 f16 c17 f17;clear e0 e1 e2 e3 e4 e5 e6 ea hbt;replace HF:=h_ (HF.out.more tr);replace HG:=h_ (HG.out.more tr);replace HI:=h_ (HI.out.more tr);replace HA:=h_ (HA.out.below (below_more _ tr));replace HB:=h_ (HB.out.below (below_more _ tr));generalize more X0 tr=X at *;obtain⟨z0,c00,f00,c01,f01,z1,c10,f10,c11,f11,c12,f12,c13,f13,c14,f14,c15,f15,c16,f16,c17,f17⟩:=HF.out.xf11;obtain⟨qz0,qc00,qf00,qc01,qf01,qc02,qf02,qc03,qf03,qc04,qf04,qc05,qf05,qc06,qf06,qc07,qf07⟩:=HG.out.xf12
   go_wp2_with (fail)
   refine bodyPost_ret (v:=.agg #[.int .i64 0,.int .i64 rn,.int .i64 (rd:Int),.int .i64 0,.int .i64 0,.int .i64 0,.int .i64 rn,.int .i64 (rd:Int)]) (by simp[results,Tryz.results112,go_sem,c10,c11,c12,c13,c14,c15,c16,c17,z1,f10,f11,f12,f13,f14,f15,f16,f17]) rfl ⟨_,_,_,_,_,_,_,_,rfl,?_,?_,?_⟩
   ·refine TbI.eqf ?_ (show false=od.isNone by rw[HE.out]<;>rfl)
    repeat (first|with_reducible exact HI.out|with_reducible refine TbI.alloc ?_ _|with_reducible refine TbI.stored ?_ _ (HNS.out 1) (HNR.out 1))
   ·
    repeat (first|with_reducible exact HF.out.f|with_reducible refine Frm.alloc ?_ _|with_reducible refine Frm.ownSet ?_ (by omega) _)
   ·exact fun _=>by rw[HE.out]<;>rfl
  ·have R2:=h_ (HDB.out rfl)
   clear HST1 HDB;have e0:=HI.out.tb 0 _ rfl;have e1:=HI.out.tb 1 _ rfl;have e2:=HI.out.tb 2 _ rfl;have e3:=HI.out.tb 3 _ rfl;have e4:=HI.out.tb 4 _ rfl;have e5:=HI.out.tb 5 _ rfl;have e6:=HI.out.tb 6 _ rfl;have ea:=HI.out.fa;have hbt:=HI.out.ltB;obtain⟨z0,c00,f00,c01,f01,z1,c10,f10,c11,f11,c12,f12,c13,f13,c14,f14,c15,f15,c16,f16,c17,f17⟩:=HF.out.xf11
   first|refine wp_region_more2 (by kernel_rfl) (by kernel_rfl) ?_|refine wp_region_more (by kernel_rfl) (by kernel_rfl) ?_
   repeat (first|go_big_quiet_step ((go_at_call 155;exact more_call (HMY.out _)))|quiet_step ((go_at_call 155;exact more_call (HMY.out _))))
   refine wpQuiet_nil ?_
   intro _ hw'
   obtain⟨tr,hw''⟩:=hw';subst hw'';clear z0 c00 f00 c01 f01 z1 c10 f10 c11 f11 c12 f12 c13 f13 c14 f14 c15 f15 c16 f16 c17 f17;clear e0 e1 e2 e3 e4 e5 e6 ea hbt;replace HF:=h_ (HF.out.more tr);replace HG:=h_ (HG.out.more tr);replace HI:=h_ (HI.out.more tr);replace HA:=h_ (HA.out.below (below_more _ tr));replace HB:=h_ (HB.out.below (below_more _ tr));generalize more X0 tr=Y0 at *;obtain⟨z0,c00,f00,c01,f01,z1,c10,f10,c11,f11,c12,f12,c13,f13,c14,f14,c15,f15,c16,f16,c17,f17⟩:=HF.out.xf11
   go_wp2_with (fail)
   clear z0 c00 f00 c01 f01 z1 c10 f10 c11 f11 c12 f12 c13 f13 c14 f14 c15 f15 c16 f16 c17 f17;have HIb:=HI;clear HI
   refine (R2.out false A B ca cb Y0 HIb.out HA.out hca HB.out hcb).mono ?_
   rintro e w4 ⟨⟨yn,yd⟩,ya,rfl,hvy,hI,hf,him⟩
   replace HF:=h_ (HF.out.frm hf);replace HG:=h_ (HG.out.frm hf);have HI:=h_ hI;have HVY:=h_ hvy;have HIM:=h_ him
   have hz4:w2.heap.size<w4.heap.size:=HG.out.l0 (by simp)
   clear hf R2 hvy him HIb HMY hI HA HB;obtain⟨o8,ho8⟩:∃o8,o8=dbl t.s t.ru own other (v,o):=⟨_,rfl⟩;rw[← ho8]at HI HIM HDN1 HDV1;clear ho8
   rcases o8 with _|⟨⟨zn,zd⟩,za⟩
   ·have HE:=h_ (HDN1.out (by trivial) (by trivial))
    clear HDN1 HDV1 HIM COM;replace HI:Hid (TbI t true w4):=HI.out;have ea:=HI.out.fa;have hbt:=HI.out.ltB;obtain⟨z0,c00,f00,c01,f01,z1,c10,f10,c11,f11,c12,f12,c13,f13,c14,f14,c15,f15,c16,f16,c17,f17⟩:=HF.out.xf11;obtain⟨qz0,qc00,qf00,qc01,qf01,qc02,qf02,qc03,qf03,qc04,qf04,qc05,qf05,qc06,qf06,qc07,qf07⟩:=HG.out.xf12
    go_wp2_with (fail)
    refine bodyPost_ret (v:=.agg #[.int .i64 0,.int .i64 rn,.int .i64 (rd:Int),.int .i64 0,.int .i64 0,.int .i64 0,.int .i64 rn,.int .i64 (rd:Int)]) (by simp[results,Tryz.results112,go_sem,c10,c11,c12,c13,c14,c15,c16,c17,z1,f10,f11,f12,f13,f14,f15,f16,f17]) rfl ⟨_,_,_,_,_,_,_,_,rfl,?_,?_,?_⟩
    ·refine TbI.eqf ?_ (show true=od.isNone by rw[HE.out]<;>rfl)
     repeat (first|with_reducible exact HI.out|with_reducible refine TbI.alloc ?_ _|with_reducible refine TbI.stored ?_ _ (HNS.out 1) (HNR.out 1))
    ·
     repeat (first|with_reducible exact HF.out.f|with_reducible refine Frm.alloc ?_ _|with_reducible refine Frm.ownSet ?_ (by omega) _)
    ·exact fun h=>by rw[HE.out]at h;cases h
   ·have he:((⟨zn,zd⟩:E),za)=(⟨yn,yd⟩,ya):=by have:=HIM.out rfl;injection this
    injection he with he0 he3;injection he0 with he1 he2;subst he1 he2 he3;replace HI:Hid (TbI t false w4):=HI.out
    have HE1:=h_ (HDV1.out ⟨zn,zd⟩ za (by trivial) rfl)
    have COM2:=h_ fun (W:World)=>COM.out ⟨zn,zd⟩ ⟨rn,rd⟩ W HVY.out HVX.out
    have HCS:Hid ((0<cmpE (sq t.s) ⟨zn,zd⟩ ⟨rn,rd⟩)=(ltE (sq t.s) ⟨rn,rd⟩ ⟨zn,zd⟩=true)):=cmp_swap;have hcb1:=cmp_bd (sq t.s) ⟨zn,zd⟩ ⟨rn,rd⟩;clear HDN1 HDV1 HIM COM;have ea:=HI.out.fa;have hbt:=HI.out.ltB;obtain⟨z0,c00,f00,c01,f01,z1,c10,f10,c11,f11,c12,f12,c13,f13,c14,f14,c15,f15,c16,f16,c17,f17⟩:=HF.out.xf11;obtain⟨qz0,qc00,qf00,qc01,qf01,qc02,qf02,qc03,qf03,qc04,qf04,qc05,qf05,qc06,qf06,qc07,qf07⟩:=HG.out.xf12
    go_wp2_with (fail)
    clear z0 c00 f00 c01 f01 z1 c10 f10 c11 f11 c12 f12 c13 f13 c14 f14 c15 f15 c16 f16 c17 f17;clear qz0 qc00 qf00 qc01 qf01 qc02 qf02 qc03 qf03 qc04 qf04 qc05 qf05 qc06 qf06 qc07 qf07;clear ea hbt
    have hfs:Frm (fun k=>k=w2.heap.size) w4 (((w4.setCell ⟨w2.heap.size,3,none⟩ (.int .i64 zn)).setCell ⟨w2.heap.size,4,none⟩ (.int .i64 (zd:Int))).setCell ⟨w2.heap.size,5,none⟩ (.int .i64 za)):=((Frm.set _ _ _ _).trans (Frm.set _ _ _ _)).trans (Frm.set _ _ _ _)
    replace HG:Hid (FrS t.S w2 ((((w4.setCell ⟨w2.heap.size,3,none⟩ (.int .i64 zn)).setCell ⟨w2.heap.size,4,none⟩ (.int .i64 (zd:Int))).setCell ⟨w2.heap.size,5,none⟩ (.int .i64 za)).alloc (.cells #[.int .i64 zn,.int .i64 (zd:Int)] 35)) [[.int .i64 0,.int .i64 rn,.int .i64 (rd:Int),.int .i64 zn,.int .i64 (zd:Int),.int .i64 za,.int .i64 rn,.int .i64 (rd:Int)]]):=(((HG.out.set 0 3 rfl rfl (.int .i64 zn)).set 0 4 rfl rfl (.int .i64 (zd:Int))).set 0 5 rfl rfl (.int .i64 za)).alloc _
    replace HF:=h_ ((HF.out.out hfs fun k hk=>by rw[hk];exact hZ3).alloc (.cells #[.int .i64 zn,.int .i64 (zd:Int)] 35))
    replace HI:=h_ ((HI.out.out hfs (fun k hk=>by rw[hk];exact HNS2.out) fun k hk=>by rw[hk];exact HNR2.out).alloc (.cells #[.int .i64 zn,.int .i64 (zd:Int)] 35))
    have hsz:(((w4.setCell ⟨w2.heap.size,3,none⟩ (.int .i64 zn)).setCell ⟨w2.heap.size,4,none⟩ (.int .i64 (zd:Int))).setCell ⟨w2.heap.size,5,none⟩ (.int .i64 za)).heap.size=w4.heap.size:=by simp
    have y0:((((w4.setCell ⟨w2.heap.size,3,none⟩ (.int .i64 zn)).setCell ⟨w2.heap.size,4,none⟩ (.int .i64 (zd:Int))).setCell ⟨w2.heap.size,5,none⟩ (.int .i64 za)).alloc (.cells #[.int .i64 zn,.int .i64 (zd:Int)] 35)).cell? ⟨w4.heap.size,0,none⟩=some (.int .i64 zn):=by rw[← hsz];simp only[go_sem];simp
    have y1:((((w4.setCell ⟨w2.heap.size,3,none⟩ (.int .i64 zn)).setCell ⟨w2.heap.size,4,none⟩ (.int .i64 (zd:Int))).setCell ⟨w2.heap.size,5,none⟩ (.int .i64 za)).alloc (.cells #[.int .i64 zn,.int .i64 (zd:Int)] 35)).cell? ⟨w4.heap.size,1,none⟩=some (.int .i64 (zd:Int)):=by rw[← hsz];simp only[go_sem];simp
    have yz:w4.heap.size<((((w4.setCell ⟨w2.heap.size,3,none⟩ (.int .i64 zn)).setCell ⟨w2.heap.size,4,none⟩ (.int .i64 (zd:Int))).setCell ⟨w2.heap.size,5,none⟩ (.int .i64 za)).alloc (.cells #[.int .i64 zn,.int .i64 (zd:Int)] 35)).heap.size:=by simp
    clear hfs hsz;generalize (((w4.setCell ⟨w2.heap.size,3,none⟩ (.int .i64 zn)).setCell ⟨w2.heap.size,4,none⟩ (.int .i64 (zd:Int))).setCell ⟨w2.heap.size,5,none⟩ (.int .i64 za)).alloc (.cells #[.int .i64 zn,.int .i64 (zd:Int)] 35)=X2 at *;generalize cmpE (sq t.s) ⟨zn,zd⟩ ⟨rn,rd⟩=cm at *
    by_cases hcm:0<cm
    ·have HE:Hid (od=some (za,⟨rn,rd⟩,⟨zn,zd⟩,za,⟨zn,zd⟩)):=by
      unfold Hid
      rw[HE1.out,if_pos (by rw[← HCS.out];exact hcm)]
     have dcm:=decide_eq_true hcm;clear HE1 HCS;have e0:=HI.out.tb 0 _ rfl;have e1:=HI.out.tb 1 _ rfl;have e2:=HI.out.tb 2 _ rfl;have e3:=HI.out.tb 3 _ rfl;have e4:=HI.out.tb 4 _ rfl;have e5:=HI.out.tb 5 _ rfl;have e6:=HI.out.tb 6 _ rfl;have ea:=HI.out.fa;have hbt:=HI.out.ltB;obtain⟨z0,c00,f00,c01,f01,z1,c10,f10,c11,f11,c12,f12,c13,f13,c14,f14,c15,f15,c16,f16,c17,f17⟩:=HF.out.xf11;obtain⟨qz0,qc00,qf00,qc01,qf01,qc02,qf02,qc03,qf03,qc04,qf04,qc05,qf05,qc06,qf06,qc07,qf07⟩:=HG.out.xf12
     first|refine wp_region_more2 (by kernel_rfl) (by kernel_rfl) ?_|refine wp_region_more (by kernel_rfl) (by kernel_rfl) ?_
     repeat (first|go_big_quiet_step ((go_at_call 141;exact more_call (COM2.out _)))|quiet_step ((go_at_call 141;exact more_call (COM2.out _))))
     refine wpQuiet_nil ?_
     intro _ hw'
     obtain⟨tq,hw''⟩:=hw';subst hw'';clear z0 c00 f00 c01 f01 z1 c10 f10 c11 f11 c12 f12 c13 f13 c14 f14 c15 f15 c16 f16 c17 f17;clear qz0 qc00 qf00 qc01 qf01 qc02 qf02 qc03 qf03 qc04 qf04 qc05 qf05 qc06 qf06 qc07 qf07;clear e0 e1 e2 e3 e4 e5 e6 ea hbt;replace HF:=h_ (HF.out.more tq);replace HG:=h_ (HG.out.more tq);replace HI:=h_ (HI.out.more tq);replace y0:=keep_cell y0 (below_more _ tq);replace y1:=keep_cell y1 (below_more _ tq);replace yz:=Nat.lt_of_lt_of_le yz (size_more _ tq);generalize more X2 tq=Y2 at *;obtain⟨z0,c00,f00,c01,f01,z1,c10,f10,c11,f11,c12,f12,c13,f13,c14,f14,c15,f15,c16,f16,c17,f17⟩:=HF.out.xf11;obtain⟨qz0,qc00,qf00,qc01,qf01,qc02,qf02,qc03,qf03,qc04,qf04,qc05,qf05,qc06,qf06,qc07,qf07⟩:=HG.out.xf12
     go_wp2_with (fail)
     refine bodyPost_ret (v:=.agg #[.int .i64 za,.int .i64 rn,.int .i64 (rd:Int),.int .i64 zn,.int .i64 (zd:Int),.int .i64 za,.int .i64 zn,.int .i64 (zd:Int)]) (by simp[results,Tryz.results112,go_sem,c10,c11,c12,c13,c14,c15,c16,c17,z1,f10,f11,f12,f13,f14,f15,f16,f17]) rfl ⟨_,_,_,_,_,_,_,_,rfl,?_,?_,?_⟩
     ·refine TbI.eqf ?_ (show false=od.isNone by rw[HE.out]<;>rfl)
      repeat (first|with_reducible exact HI.out|with_reducible refine TbI.alloc ?_ _|with_reducible refine TbI.stored ?_ _ (HNS.out 1) (HNR.out 1)|with_reducible refine TbI.stored ?_ _ HNS2.out HNR2.out)
     ·
      repeat (first|with_reducible exact HF.out.f|with_reducible refine Frm.alloc ?_ _|with_reducible refine Frm.ownSet ?_ (by omega) _)
     ·exact fun _=>by rw[HE.out]<;>rfl
    ·have HE:Hid (od=some (0,⟨rn,rd⟩,⟨zn,zd⟩,za,⟨rn,rd⟩)):=by
      unfold Hid
      rw[HE1.out,if_neg (by rw[← HCS.out];exact hcm)]
     have dcm:=decide_eq_false hcm;clear HE1 HCS;have e0:=HI.out.tb 0 _ rfl;have e1:=HI.out.tb 1 _ rfl;have e2:=HI.out.tb 2 _ rfl;have e3:=HI.out.tb 3 _ rfl;have e4:=HI.out.tb 4 _ rfl;have e5:=HI.out.tb 5 _ rfl;have e6:=HI.out.tb 6 _ rfl;have ea:=HI.out.fa;have hbt:=HI.out.ltB;obtain⟨z0,c00,f00,c01,f01,z1,c10,f10,c11,f11,c12,f12,c13,f13,c14,f14,c15,f15,c16,f16,c17,f17⟩:=HF.out.xf11;obtain⟨qz0,qc00,qf00,qc01,qf01,qc02,qf02,qc03,qf03,qc04,qf04,qc05,qf05,qc06,qf06,qc07,qf07⟩:=HG.out.xf12
     first|refine wp_region_more2 (by kernel_rfl) (by kernel_rfl) ?_|refine wp_region_more (by kernel_rfl) (by kernel_rfl) ?_
     repeat (first|go_big_quiet_step ((go_at_call 141;exact more_call (COM2.out _)))|quiet_step ((go_at_call 141;exact more_call (COM2.out _))))
     refine wpQuiet_nil ?_
     intro _ hw'
     obtain⟨tq,hw''⟩:=hw';subst hw'';clear z0 c00 f00 c01 f01 z1 c10 f10 c11 f11 c12 f12 c13 f13 c14 f14 c15 f15 c16 f16 c17 f17;clear qz0 qc00 qf00 qc01 qf01 qc02 qf02 qc03 qf03 qc04 qf04 qc05 qf05 qc06 qf06 qc07 qf07;clear e0 e1 e2 e3 e4 e5 e6 ea hbt;replace HF:=h_ (HF.out.more tq);replace HG:=h_ (HG.out.more tq);replace HI:=h_ (HI.out.more tq);clear y0 y1 yz;generalize more X2 tq=Y2 at *;obtain⟨z0,c00,f00,c01,f01,z1,c10,f10,c11,f11,c12,f12,c13,f13,c14,f14,c15,f15,c16,f16,c17,f17⟩:=HF.out.xf11;obtain⟨qz0,qc00,qf00,qc01,qf01,qc02,qf02,qc03,qf03,qc04,qf04,qc05,qf05,qc06,qf06,qc07,qf07⟩:=HG.out.xf12
     go_wp2_with (fail)
     refine bodyPost_ret (v:=.agg #[.int .i64 0,.int .i64 rn,.int .i64 (rd:Int),.int .i64 zn,.int .i64 (zd:Int),.int .i64 za,.int .i64 rn,.int .i64 (rd:Int)]) (by simp[results,Tryz.results112,go_sem,c10,c11,c12,c13,c14,c15,c16,c17,z1,f10,f11,f12,f13,f14,f15,f16,f17]) rfl ⟨_,_,_,_,_,_,_,_,rfl,?_,?_,?_⟩
     ·refine TbI.eqf ?_ (show false=od.isNone by rw[HE.out]<;>rfl)
      repeat (first|with_reducible exact HI.out|with_reducible refine TbI.alloc ?_ _|with_reducible refine TbI.stored ?_ _ (HNS.out 1) (HNR.out 1)|with_reducible refine TbI.stored ?_ _ HNS2.out HNR2.out)
     ·
      repeat (first|with_reducible exact HF.out.f|with_reducible refine Frm.alloc ?_ _|with_reducible refine Frm.ownSet ?_ (by omega) _)
     ·exact fun _=>by rw[HE.out]<;>rfl
end Go.Proofs.YtgjapehpkakkbaaGreat
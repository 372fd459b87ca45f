/- Part of one proof. There are no conditions. -/
import Derived.Test.YtgjapehpkakkbaaGreatDJ9
import Derived.Test.YtgjapehpkakkbaaGreatDJ4
set_option linter.unusedVariables false
set_option linter.unusedSimpArgs false
namespace Go.Proofs.YtgjapehpkakkbaaGreat
open Go.RowKit Mo Ps Ra Ex Go.Maps
theorem mayDouble_ex (m:Int) (b j:Bool) (v o:Int):∃r:Bool,∀w:World,Calls Tryz.prog 160 #[.agg #[.int .i64 m,.bool b,.bool j],.agg #[.int .i64 v,.int .i64 o]] w fun e w'=>e = .returned (.bool r)∧Below w.heap.size w w':=by
 have HB0:=fun (w:World)=>h_ (show Below w.heap.size w ((w.alloc (.cells #[.int .i64 m,.bool b,.bool j] 59)).alloc (.cells #[.int .i64 v,.int .i64 o] 62)) from ((Below.refl _ _).alloc (Nat.le_refl _) _).alloc (by simp) _)
 obtain⟨x2,hx2⟩:∃x2,IntKind.i64.wrap (2*v)=x2:=⟨_,rfl⟩
 by_cases h1:o=2
 ·have b1:(o != 2)=false:=by simp[h1]
  clear h1
  refine⟨false,fun w=>?_⟩
  have HB:=HB0 w
  go_enter Tryz.func160,Tryz.ntmps160
  go_wp2_with (fail)
  go_ret
  exact⟨rfl,HB.out⟩
 ·have b1:(o != 2)=true:=by simp[h1]
  clear h1
  by_cases h2:x2≤m
  ·have d2:=decide_eq_true h2
   clear h2
   refine⟨true,fun w=>?_⟩
   have HB:=HB0 w
   go_enter Tryz.func160,Tryz.ntmps160
   go_wp2_with (fail)
   go_ret
   exact⟨rfl,HB.out⟩
  ·have d2:=decide_eq_false h2
   clear h2
   refine⟨false,fun w=>?_⟩
   have HB:=HB0 w
   go_enter Tryz.func160,Tryz.ntmps160
   go_wp2_with (fail)
   go_ret
   exact⟨rfl,HB.out⟩
set_option maxHeartbeats 1000000 in
theorem possible_ex (m:Int) (b j:Bool) (v o a:Int):∃r:Bool,∀w:World,Calls Tryz.prog 163 #[.agg #[.int .i64 m,.bool b,.bool j],.agg #[.int .i64 v,.int .i64 o],.int .i64 a] w fun e w'=>e = .returned (.bool r)∧Below w.heap.size w w':=by
 have HB0:=fun (w:World)=>h_ (show Below w.heap.size w ((w.alloc (.cells #[.int .i64 m,.bool b,.bool j] 59)).alloc (.cells #[.int .i64 v,.int .i64 o] 62)) from ((Below.refl _ _).alloc (Nat.le_refl _) _).alloc (by simp) _)
 obtain⟨mb,hmb⟩:=mayDouble_ex m b j v o;have CM:=h_ hmb;clear hmb
 have hcase:a=0∨a=1∨a=2∨a=3∨a=4∨¬(0≤a∧a≤4):=by omega
 rcases hcase with rfl|rfl|rfl|rfl|rfl|hn
 ·refine⟨true,fun w=>?_⟩
  have HB:=HB0 w;clear HB0
  go_enter Tryz.func163,Tryz.ntmps163
  go_wp2_with (go_at_call 160;(with_reducible refine (more_first (CM.out _)).mono ?_);rintro e w' ⟨rfl,t,rfl⟩)
  go_ret
  exact⟨rfl,by first|exact HB.out|exact HB.out.trans ((below_more _ _).mono HB.out.size)⟩
 ·refine⟨mb,fun w=>?_⟩
  have HB:=HB0 w;clear HB0
  go_enter Tryz.func163,Tryz.ntmps163
  go_wp2_with (go_at_call 160;(with_reducible refine (more_first (CM.out _)).mono ?_);rintro e w' ⟨rfl,t,rfl⟩)
  go_ret
  exact⟨rfl,by first|exact HB.out|exact HB.out.trans ((below_more _ _).mono HB.out.size)⟩
 ·refine⟨mb,fun w=>?_⟩
  have HB:=HB0 w;clear HB0
  go_enter Tryz.func163,Tryz.ntmps163
  go_wp2_with (go_at_call 160;(with_reducible refine (more_first (CM.out _)).mono ?_);rintro e w' ⟨rfl,t,rfl⟩)
  go_ret
  exact⟨rfl,by first|exact HB.out|exact HB.out.trans ((below_more _ _).mono HB.out.size)⟩
 ·obtain⟨x4,hx4⟩:∃x4,IntKind.i64.wrap (4*v)=x4:=⟨_,rfl⟩
  cases mb
  ·refine⟨false,fun w=>?_⟩
   have HB:=HB0 w;clear HB0
   go_enter Tryz.func163,Tryz.ntmps163
   go_wp2_with (go_at_call 160;(with_reducible refine (more_first (CM.out _)).mono ?_);rintro e w' ⟨rfl,t,rfl⟩)
   go_ret
   exact⟨rfl,by first|exact HB.out|exact HB.out.trans ((below_more _ _).mono HB.out.size)⟩
  ·cases b
   ·refine⟨false,fun w=>?_⟩
    have HB:=HB0 w;clear HB0
    go_enter Tryz.func163,Tryz.ntmps163
    go_wp2_with (go_at_call 160;(with_reducible refine (more_first (CM.out _)).mono ?_);rintro e w' ⟨rfl,t,rfl⟩)
    go_ret
    exact⟨rfl,by first|exact HB.out|exact HB.out.trans ((below_more _ _).mono HB.out.size)⟩
   ·by_cases h4:x4≤m
    ·have d4:=decide_eq_true h4
     clear h4
     refine⟨true,fun w=>?_⟩
     have HB:=HB0 w;clear HB0
     go_enter Tryz.func163,Tryz.ntmps163
     go_wp2_with (go_at_call 160;(with_reducible refine (more_first (CM.out _)).mono ?_);rintro e w' ⟨rfl,t,rfl⟩)
     go_ret
     exact⟨rfl,by first|exact HB.out|exact HB.out.trans ((below_more _ _).mono HB.out.size)⟩
    ·have d4:=decide_eq_false h4
     clear h4
     refine⟨false,fun w=>?_⟩
     have HB:=HB0 w;clear HB0
     go_enter Tryz.func163,Tryz.ntmps163
     go_wp2_with (go_at_call 160;(with_reducible refine (more_first (CM.out _)).mono ?_);rintro e w' ⟨rfl,t,rfl⟩)
     go_ret
     exact⟨rfl,by first|exact HB.out|exact HB.out.trans ((below_more _ _).mono HB.out.size)⟩
 ·obtain⟨x4,hx4⟩:∃x4,IntKind.i64.wrap (8*v)=x4:=⟨_,rfl⟩
  cases mb
  ·refine⟨false,fun w=>?_⟩
   have HB:=HB0 w;clear HB0
   go_enter Tryz.func163,Tryz.ntmps163
   go_wp2_with (go_at_call 160;(with_reducible refine (more_first (CM.out _)).mono ?_);rintro e w' ⟨rfl,t,rfl⟩)
   go_ret
   exact⟨rfl,by first|exact HB.out|exact HB.out.trans ((below_more _ _).mono HB.out.size)⟩
  ·cases b
   ·refine⟨false,fun w=>?_⟩
    have HB:=HB0 w;clear HB0
    go_enter Tryz.func163,Tryz.ntmps163
    go_wp2_with (go_at_call 160;(with_reducible refine (more_first (CM.out _)).mono ?_);rintro e w' ⟨rfl,t,rfl⟩)
    go_ret
    exact⟨rfl,by first|exact HB.out|exact HB.out.trans ((below_more _ _).mono HB.out.size)⟩
   ·by_cases h4:x4≤m
    ·have d4:=decide_eq_true h4
     clear h4
     refine⟨true,fun w=>?_⟩
     have HB:=HB0 w;clear HB0
     go_enter Tryz.func163,Tryz.ntmps163
     go_wp2_with (go_at_call 160;(with_reducible refine (more_first (CM.out _)).mono ?_);rintro e w' ⟨rfl,t,rfl⟩)
     go_ret
     exact⟨rfl,by first|exact HB.out|exact HB.out.trans ((below_more _ _).mono HB.out.size)⟩
    ·have d4:=decide_eq_false h4
     clear h4
     refine⟨false,fun w=>?_⟩
     have HB:=HB0 w;clear HB0
     go_enter Tryz.func163,Tryz.ntmps163
     go_wp2_with (go_at_call 160;(with_reducible refine (more_first (CM.out _)).mono ?_);rintro e w' ⟨rfl,t,rfl⟩)
     go_ret
     exact⟨rfl,by first|exact HB.out|exact HB.out.trans ((below_more _ _).mono HB.out.size)⟩
 ·have a0 : (a == 0) = false := by have : a ≠ 0 := by omega
                                   simpa using this
  have a1 : (a == 1) = false := by have : a ≠ 1 := by omega
                                   simpa using this
  have a2 : (a == 2) = false := by have : a ≠ 2 := by omega
                                   simpa using this
  have a3 : (a == 3) = false := by have : a ≠ 3 := by omega
                                   simpa using this
  have a4 : (a == 4) = false := by have : a ≠ 4 := by omega
                                   simpa using this
  clear hn
  refine⟨false,fun w=>?_⟩
  have HB:=HB0 w;clear HB0
  go_enter Tryz.func163,Tryz.ntmps163
  go_wp2_with (go_at_call 160;(with_reducible refine (more_first (CM.out _)).mono ?_);rintro e w' ⟨rfl,t,rfl⟩)
  go_ret
  exact⟨rfl,by first|exact HB.out|exact HB.out.trans ((below_more _ _).mono HB.out.size)⟩
theorem possible_some (m:Int) (b j:Bool) (v o a:Int):∃r:Bool,(0≤v→v≤100000→r=posA ⟨m,b⟩ (v,o) a)∧∀w:World,Calls Tryz.prog 163 #[.agg #[.int .i64 m,.bool b,.bool j],.agg #[.int .i64 v,.int .i64 o],.int .i64 a] w fun e w'=>e = .returned (.bool r)∧Below w.heap.size w w':=by
 by_cases h:0≤v∧v≤100000
 ·exact⟨_,fun _ _=>rfl,fun w=>possibleAction_any m b j v o a w h.1 h.2⟩
 ·obtain⟨r,hr⟩:=possible_ex m b j v o a
  exact⟨r,fun h1 h2=>absurd ⟨h1,h2⟩ h,hr⟩
def codeC (p c h s m:Int) (bv:Bool) (own other:List Int) (v o a:Int):Int:=codeM p c h s m own other v o (posA ⟨m,bv⟩ (v,o) a)
theorem codeL_free {p c h s m:Int} {own other:List Int} {v o:Int} (h0:¬(isVar p c h s=true∧rulB m=true∧cubB m v o=true)) (b b':Bool):codeL p c h s m own other v o b=codeL p c h s m own other v o b':=by
 unfold codeL
 by_cases h1:isVar p c h s=true∧rulB m=true
 ·rw[if_pos h1,if_pos h1,if_neg (fun hx=>h0 ⟨h1.1,h1.2,hx.2.2.1⟩),if_neg (fun hx=>h0 ⟨h1.1,h1.2,hx.2.2.1⟩)]
 ·rw[if_neg h1,if_neg h1]
theorem codeC_any {p c h s m:Int} {bv:Bool} {own other:List Int} {v o a:Int} {r:Bool} (hr:0≤v→v≤100000→r=posA ⟨m,bv⟩ (v,o) a):codeM p c h s m own other v o r=codeC p c h s m bv own other v o a:=by
 unfold codeC
 by_cases h0:isVar p c h s=true∧rulB m=true∧cubB m v o=true
 ·obtain⟨K,hK,rfl⟩:=rulB_two h0.2.1
  have hc:=(cubB_ok h0.2.2).v1 hK;have h1:1≤v:=hc.1;have h2:v≤1024:=hc.2.1
  rw[hr (by omega) (by omega)]
 ·unfold codeM
  rw[codeL_free h0 r (posA ⟨m,bv⟩ (v,o) a)]
set_option maxRecDepth 100000 in
set_option maxHeartbeats 2000000 in
theorem checkChoice_any (p c h s m:Int) (bv j:Bool) (A B:Option Addr) (n k ca cb:Nat) (own other:List Int) (v o a:Int) (w:World) (hA:SL w A n own) (hB:SL w B k other):
  Calls Tryz.prog 110 #[.agg #[.int .i64 p,.int .i64 c,.int .i64 h,.int .i64 s],.agg #[.int .i64 m,.bool bv,.bool j],.slice A n ca,.slice B k cb,.agg #[.int .i64 v,.int .i64 o],.int .i64 a] w fun e w'=>e = .returned (.int .i64 (codeC p c h s m bv own other v o a))∧Below w.heap.size w w':=by
 have HB:Hid (Below w.heap.size w (((w.alloc (.cells #[.int .i64 p,.int .i64 c,.int .i64 h,.int .i64 s] 25)).alloc (.cells #[.int .i64 m,.bool bv,.bool j] 59)).alloc (.cells #[.int .i64 v,.int .i64 o] 62))):=(((Below.refl _ _).alloc (Nat.le_refl _) _).alloc (by simp) _).alloc (by simp;omega) _
 have HX:=h_ (hA.below HB.out);have HY:=h_ (hB.below HB.out);obtain⟨r,hr1,hr2⟩:=possible_some m bv j v o a;have CP:=h_ hr2
 have CK:=h_ fun (W:World) (h1:SL W A n own) (h2:SL W B k other)=>checkMoney_any p c h s m bv j A B n k ca cb own other v o r W h1 h2
 rw[codeC_any hr1]at CK;clear hA hB hr1 hr2
 go_enter Tryz.func110,Tryz.ntmps110
 go_wp2_with (fail)
 first|refine wp_region_more2 (by kernel_rfl) (by kernel_rfl) ?_|refine wp_region_more (by kernel_rfl) (by kernel_rfl) ?_
 repeat (first|go_big_quiet_step (first|(go_at_call 163;exact more_call (CP.out _))|(go_at_call 94;exact more_call (CK.out _ (HX.out.more _) (HY.out.more _))))|quiet_step (fail))
 refine wpQuiet_nil ?_
 intro _ hw'
 obtain⟨tr,hw2⟩:=hw';subst hw2
 go_wp2_with (fail)
 go_ret
 exact⟨rfl,HB.out.trans ((below_more _ _).mono HB.out.size)⟩
noncomputable def valV (s:Nat) (r:Ru) (own other:List Int) (c:Cb) (a:Int):Option E:=if a=2 then some ⟨c.1,0⟩ else rol s r own other (aft c a)
theorem aft_ok {K:Nat} {bv:Bool} {c:Cb} {a:Int} (hc:CbOk K c) (h:posA ⟨two K,bv⟩ c a=true) (h2:a≠2):CbOk K (aft c a):=by
 have hcase:a=0∨a=1∨a=3∨a=4∨¬(0≤a∧a≤4):=by omega
 rcases hcase with rfl|rfl|rfl|rfl|hn
 ·exact hc
 ·have hm:may ⟨two K,bv⟩ c=true:=h
  exact hc.up (j:=1) (by omega) (of_decide_eq_true hm).2
 ·have hm:bvr ⟨two K,bv⟩ c=true:=h
  unfold bvr at hm
  simp only[Bool.and_eq_true,decide_eq_true_eq]at hm
  exact hc.up (j:=2) (by omega) hm.2
 ·have hm:rcn ⟨two K,bv⟩ c=true:=h
  unfold rcn at hm
  simp only[Bool.and_eq_true,decide_eq_true_eq]at hm
  exact hc.up (j:=3) (by omega) hm.2
 ·rw[posA_no hn]at h;cases h
set_option maxRecDepth 100000 in
set_option maxHeartbeats 4000000 in
theorem value_any (m:MT) (hm:m.Ok) {own other:List Int} (hq:PosP m.t.h m.t.c own) (hq2:PosP m.t.h m.t.c other) (h0:own.sum≠0) {c:Cb} (hc:CbOk m.K c) {a:Int} (hpa:posA ⟨two m.K,m.bv⟩ c a=true)
  (T:Nat→Prop) (A B:Option Addr) (ca cb:Nat) (w:World) (hT:∀k,w.heap.size≤k→¬T k) (hI:MonI m T w) (hA:SQ T w A m.t.h own) (hca:m.t.h≤ca) (hB:SQ T w B m.t.h other) (hcb:m.t.h≤cb):
  Calls Tryz.prog 111 #[.pointer (some ⟨m.bm,0,none⟩),.slice A m.t.h ca,.slice B m.t.h cb,.agg #[.int .i64 c.1,.int .i64 c.2],.int .i64 a] w (RetMo m T w (valV m.t.s m.ru own other c a)):=by
 obtain⟨v,o⟩:=c;have hcv:1≤v∧v≤1024∧0≤o∧o≤2:=hc.v1 hm.k;have hlow:=hI.ltS;have HSUB:=h_ hI.sub
 have HNS:Hid (∀j,¬m.S (w.heap.size+j)):=fun j h=>by have:=hlow _ h;omega
 have hb0:Below w.heap.size w ((w.alloc (.cells #[.int .i64 v,.int .i64 o] 62)).alloc (.cells #[.int .i64 0,.int .i64 0] 35)):=((Below.refl _ _).alloc (Nat.le_refl _) _).alloc (by simp) _
 have HF:Hid (FrS m.S w ((w.alloc (.cells #[.int .i64 v,.int .i64 o] 62)).alloc (.cells #[.int .i64 0,.int .i64 0] 35)) [[.int .i64 v,.int .i64 o],[.int .i64 0,.int .i64 0]]):=((FrS.start w hlow).allocT (by simp) _ _).allocT (by simp) _ _
 have HI:=h_ ((hI.wide 2).below hb0);have HIW:=h_ (hI.wide 2);have HA:=h_ ((hA.wide 2).below hb0);have HB:=h_ ((hB.wide 2).below hb0)
 have HTN:Hid (∀W:World,w.heap.size+2≤W.heap.size→∀k,W.heap.size≤k→¬ownT T w 2 k):=fun W hz=>ownT_new hT hz
 generalize hTT:ownT T w 2=T' at *;replace hTT:=h_ hTT;have HTT:=hTT;have HTS:Hid (∀k,m.S k→T' k):=HI.out.sub;clear hTT;obtain⟨ov,hov⟩:∃ov,ov=valV m.t.s m.ru own other (v,o) a:=⟨_,rfl⟩;rw[← hov]
 by_cases h2:a=2
 ·have HRE:Hid (ov=some ⟨v,0⟩):=by rw[hov];exact if_pos h2
  have b2:(a == 2)=true:=by simp[h2]
  clear hT hI hA hB hm hb0 hlow hq hq2 h0 hc hpa hov h2 HA HB HTN HTS;obtain⟨z0,c00,f00,c01,f01,z1,c10,f10,c11,f11⟩:=HF.out.xf4
  go_enter Tryz.func111,Tryz.ntmps111
  go_wp2_with (fail)
  refine bodyPost_ret (v:=.tuple #[.agg #[.int .i64 v,.int .i64 ((0:Nat):Int)],.bool true]) (by simp[results,Tryz.results111,go_sem,c10,c11,z1,f10,f11]) rfl ?_
  refine RetMo.mkY HRE.out ?_ ?_
  ·refine MonI.less (T:=T') ?_ (fun k hk=>by rw[← HTT.out];exact .inl hk) HSUB.out
   repeat (first|exact HIW.out|refine MonI.alloc ?_ _)
  ·repeat (first|exact Frm.refl _ _|refine Frm.alloc ?_ _)
 ·have b2:(a == 2)=false:=by simp[h2]
  obtain⟨⟨v2,o2⟩,ha⟩:∃c2,aft (v,o) a=c2:=⟨_,rfl⟩;have R1:=h_ (mroll_all m hm hq hq2 h0 (aft_ok hc hpa h2))
  have CA:Hid (∀W:World,Calls Tryz.prog 162 #[.agg #[.int .i64 v,.int .i64 o],.int .i64 a] W fun e w'=>e = .returned (.agg #[.int .i64 v2,.int .i64 o2])∧Below W.heap.size W w'):=fun W=>by
   have:=cubeAfter_any v o a W (by omega) (by omega)
   rw[ha]at this
   exact this
  rw[ha]at R1
  have hov2:ov=rol m.t.s m.ru own other (v2,o2):=by rw[hov,← ha];exact if_neg h2
  replace R1:Hid (MonC m 99 own other (v2,o2) fun T w=>RetMo m T w ov):=by rw[hov2];exact R1
  clear hT hI hA hB hm hb0 hlow hq hq2 h0 hc hpa hov hov2 h2 ha HIW
  go_enter Tryz.func111,Tryz.ntmps111
  go_wp2_with (go_at_call 162;(with_reducible refine (more_first (CA.out _)).mono ?_);rintro e w' ⟨rfl,tr,rfl⟩)
  replace HF:=h_ (HF.out.more tr);replace HI:=h_ (HI.out.below (below_more _ tr));replace HA:=h_ (HA.out.below (below_more _ tr));replace HB:=h_ (HB.out.below (below_more _ tr));generalize more ((w.alloc (.cells #[.int .i64 v,.int .i64 o] 62)).alloc (.cells #[.int .i64 0,.int .i64 0] 35)) tr=W1 at *
  have hz1:w.heap.size+2≤W1.heap.size:=by have:=HF.out.z;simpa using this
  refine (R1.out T' A B ca cb W1 (HTN.out W1 hz1) HI.out HA.out hca HB.out hcb).mono ?_
  rintro e w2 ⟨rfl,hI,hf⟩
  have hz2:w.heap.size+2≤w2.heap.size:=Nat.le_trans hz1 hf.size;replace HF:=h_ (HF.out.frm hf);replace HI:=h_ hI;clear hI hf R1 CA HA HB HTN HTS
  rcases ov with _|⟨xn,xd⟩
  ·unfold exV
   simp only[Option.getD_none,Option.isSome_none]
   obtain⟨z0,c00,f00,c01,f01,z1,c10,f10,c11,f11⟩:=HF.out.xf4
   go_wp2_with (fail)
   refine bodyPost_ret (v:=.tuple #[.agg #[.int .i64 0,.int .i64 0],.bool false]) (by simp[results,Tryz.results111,go_sem,c10,c11,z1,f10,f11]) rfl ?_
   refine RetMo.mkN rfl ?_ ?_
   ·
    refine MonI.less (T:=T') ?_ (fun k hk=>by rw[← HTT.out];exact .inl hk) HSUB.out
    repeat (first|exact HI.out|refine MonI.alloc ?_ _|refine MonI.stored ?_ _ (by rw[← HTT.out];exact ownT_at 1 rfl (by omega)) (HNS.out 1))
   ·
    repeat (first|exact HF.out.f|refine Frm.alloc ?_ _|refine Frm.ownSet ?_ (by omega) _)
  ·unfold exV
   simp only[Option.getD_some,Option.isSome_some]
   obtain⟨z0,c00,f00,c01,f01,z1,c10,f10,c11,f11⟩:=HF.out.xf4
   go_wp2_with (fail)
   refine bodyPost_ret (v:=.tuple #[.agg #[.int .i64 xn,.int .i64 (xd:Int)],.bool true]) (by simp[results,Tryz.results111,go_sem,c10,c11,z1,f10,f11]) rfl ?_
   refine RetMo.mkY rfl ?_ ?_
   ·
    refine MonI.less (T:=T') ?_ (fun k hk=>by rw[← HTT.out];exact .inl hk) HSUB.out
    repeat (first|exact HI.out|refine MonI.alloc ?_ _|refine MonI.stored ?_ _ (by rw[← HTT.out];exact ownT_at 1 rfl (by omega)) (HNS.out 1))
   ·
    repeat (first|exact HF.out.f|refine Frm.alloc ?_ _|refine Frm.ownSet ?_ (by omega) _)
end Go.Proofs.YtgjapehpkakkbaaGreat
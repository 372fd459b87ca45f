/- Part of one proof. There are no conditions. -/
import Derived.Test.YtkaiilmgemaljaaGreatBO0
import Derived.Test.YtkaiilmgemaljaaGreatBM33
set_option maxHeartbeats 0
set_option linter.unusedVariables false
set_option linter.unusedSimpArgs false
set_option maxRecDepth 100000
namespace Go.Proofs.YtkaiilmgemaljaaGreat
open Go.RowKit Mo Ps Ra Ex Go.Maps
theorem mayDouble_ex (m:Int) (b j:Bool) (v o:Int):∃r:Bool,∀w:World,Calls Tryz.prog 120 #[.agg #[.int .i64 m,.bool b,.bool j],.agg #[.int .i64 v,.int .i64 o]] w fun e w'=>e = .returned (.bool r)∧Below w.heap.size w w':=by
 have HB0:=fun (w:World)=>h_ (show Below w.heap.size w ((w.alloc (.cells #[.int .i64 m,.bool b,.bool j] 53)).alloc (.cells #[.int .i64 v,.int .i64 o] 55)) from ((Below.refl _ _).alloc (Nat.le_refl _) _).alloc (by simp) _)
 obtain⟨x2,hx2⟩:∃x2,IntKind.i64.wrap (2*v)=x2:=⟨_,rfl⟩
 by_cases h1:o=2
 ·have b1:(o != 2)=false:=by simp[h1]
  clear h1
  refine⟨false,fun w=>?_⟩
  have HB:=HB0 w
  go_enter Tryz.func120,Tryz.ntmps120
  go_wp2_with (fail)
  go_ret
  exact⟨rfl,HB.out⟩
 ·have b1:(o != 2)=true:=by simp[h1]
  clear h1
  by_cases h2:x2≤m
  ·have d2:=decide_eq_true h2
   clear h2
   refine⟨true,fun w=>?_⟩
   have HB:=HB0 w
   go_enter Tryz.func120,Tryz.ntmps120
   go_wp2_with (fail)
   go_ret
   exact⟨rfl,HB.out⟩
  ·have d2:=decide_eq_false h2
   clear h2
   refine⟨false,fun w=>?_⟩
   have HB:=HB0 w
   go_enter Tryz.func120,Tryz.ntmps120
   go_wp2_with (fail)
   go_ret
   exact⟨rfl,HB.out⟩
theorem possible_ex (m:Int) (b j:Bool) (v o a:Int):∃r:Bool,∀w:World,Calls Tryz.prog 128 #[.agg #[.int .i64 m,.bool b,.bool j],.agg #[.int .i64 v,.int .i64 o],.int .i64 a] w fun e w'=>e = .returned (.bool r)∧Below w.heap.size w w':=by
 have HB0:=fun (w:World)=>h_ (show Below w.heap.size w ((w.alloc (.cells #[.int .i64 m,.bool b,.bool j] 53)).alloc (.cells #[.int .i64 v,.int .i64 o] 55)) from ((Below.refl _ _).alloc (Nat.le_refl _) _).alloc (by simp) _)
 obtain⟨mb,hmb⟩:=mayDouble_ex m b j v o;have CM:=h_ hmb;clear hmb
 have hcase:a=0∨a=1∨a=2∨a=3∨a=4∨¬(0≤a∧a≤4):=by omega
 rcases hcase with rfl|rfl|rfl|rfl|rfl|hn
 ·refine⟨true,fun w=>?_⟩
  have HB:=HB0 w;clear HB0
  go_enter Tryz.func128,Tryz.ntmps128
  go_wp2_with (go_at_call 120;(with_reducible refine (more_first (CM.out _)).mono ?_);rintro e w' ⟨rfl,t,rfl⟩)
  go_ret
  exact⟨rfl,by first|exact HB.out|exact HB.out.trans ((zaa _ _).mono HB.out.size)⟩
 ·refine⟨mb,fun w=>?_⟩
  have HB:=HB0 w;clear HB0
  go_enter Tryz.func128,Tryz.ntmps128
  go_wp2_with (go_at_call 120;(with_reducible refine (more_first (CM.out _)).mono ?_);rintro e w' ⟨rfl,t,rfl⟩)
  go_ret
  exact⟨rfl,by first|exact HB.out|exact HB.out.trans ((zaa _ _).mono HB.out.size)⟩
 ·refine⟨mb,fun w=>?_⟩
  have HB:=HB0 w;clear HB0
  go_enter Tryz.func128,Tryz.ntmps128
  go_wp2_with (go_at_call 120;(with_reducible refine (more_first (CM.out _)).mono ?_);rintro e w' ⟨rfl,t,rfl⟩)
  go_ret
  exact⟨rfl,by first|exact HB.out|exact HB.out.trans ((zaa _ _).mono HB.out.size)⟩
 ·obtain⟨x4,hx4⟩:∃x4,IntKind.i64.wrap (4*v)=x4:=⟨_,rfl⟩
  cases mb
  ·refine⟨false,fun w=>?_⟩
   have HB:=HB0 w;clear HB0
   go_enter Tryz.func128,Tryz.ntmps128
   go_wp2_with (go_at_call 120;(with_reducible refine (more_first (CM.out _)).mono ?_);rintro e w' ⟨rfl,t,rfl⟩)
   go_ret
   exact⟨rfl,by first|exact HB.out|exact HB.out.trans ((zaa _ _).mono HB.out.size)⟩
  ·cases b
   ·refine⟨false,fun w=>?_⟩
    have HB:=HB0 w;clear HB0
    go_enter Tryz.func128,Tryz.ntmps128
    go_wp2_with (go_at_call 120;(with_reducible refine (more_first (CM.out _)).mono ?_);rintro e w' ⟨rfl,t,rfl⟩)
    go_ret
    exact⟨rfl,by first|exact HB.out|exact HB.out.trans ((zaa _ _).mono HB.out.size)⟩
   ·by_cases h4:x4≤m
    ·have d4:=decide_eq_true h4
     clear h4
     refine⟨true,fun w=>?_⟩
     have HB:=HB0 w;clear HB0
     go_enter Tryz.func128,Tryz.ntmps128
     go_wp2_with (go_at_call 120;(with_reducible refine (more_first (CM.out _)).mono ?_);rintro e w' ⟨rfl,t,rfl⟩)
     go_ret
     exact⟨rfl,by first|exact HB.out|exact HB.out.trans ((zaa _ _).mono HB.out.size)⟩
    ·have d4:=decide_eq_false h4
     clear h4
     refine⟨false,fun w=>?_⟩
     have HB:=HB0 w;clear HB0
     go_enter Tryz.func128,Tryz.ntmps128
     go_wp2_with (go_at_call 120;(with_reducible refine (more_first (CM.out _)).mono ?_);rintro e w' ⟨rfl,t,rfl⟩)
     go_ret
     exact⟨rfl,by first|exact HB.out|exact HB.out.trans ((zaa _ _).mono HB.out.size)⟩
 ·obtain⟨x4,hx4⟩:∃x4,IntKind.i64.wrap (8*v)=x4:=⟨_,rfl⟩
  cases mb
  ·refine⟨false,fun w=>?_⟩
   have HB:=HB0 w;clear HB0
   go_enter Tryz.func128,Tryz.ntmps128
   go_wp2_with (go_at_call 120;(with_reducible refine (more_first (CM.out _)).mono ?_);rintro e w' ⟨rfl,t,rfl⟩)
   go_ret
   exact⟨rfl,by first|exact HB.out|exact HB.out.trans ((zaa _ _).mono HB.out.size)⟩
  ·cases b
   ·refine⟨false,fun w=>?_⟩
    have HB:=HB0 w;clear HB0
    go_enter Tryz.func128,Tryz.ntmps128
    go_wp2_with (go_at_call 120;(with_reducible refine (more_first (CM.out _)).mono ?_);rintro e w' ⟨rfl,t,rfl⟩)
    go_ret
    exact⟨rfl,by first|exact HB.out|exact HB.out.trans ((zaa _ _).mono HB.out.size)⟩
   ·by_cases h4:x4≤m
    ·have d4:=decide_eq_true h4
     clear h4
     refine⟨true,fun w=>?_⟩
     have HB:=HB0 w;clear HB0
     go_enter Tryz.func128,Tryz.ntmps128
     go_wp2_with (go_at_call 120;(with_reducible refine (more_first (CM.out _)).mono ?_);rintro e w' ⟨rfl,t,rfl⟩)
     go_ret
     exact⟨rfl,by first|exact HB.out|exact HB.out.trans ((zaa _ _).mono HB.out.size)⟩
    ·have d4:=decide_eq_false h4
     clear h4
     refine⟨false,fun w=>?_⟩
     have HB:=HB0 w;clear HB0
     go_enter Tryz.func128,Tryz.ntmps128
     go_wp2_with (go_at_call 120;(with_reducible refine (more_first (CM.out _)).mono ?_);rintro e w' ⟨rfl,t,rfl⟩)
     go_ret
     exact⟨rfl,by first|exact HB.out|exact HB.out.trans ((zaa _ _).mono HB.out.size)⟩
 ·have a0 : (a == 0) = false := by have : a ≠ 0 := by omega
                                   simpa using this
  have a1 : (a == 1) = false := by have : a ≠ 1 := by omega
                                   simpa using this
  have a2 : (a == 2) = false := by have : a ≠ 2 := by omega
                                   simpa using this
  have a3 : (a == 3) = false := by have : a ≠ 3 := by omega
                                   simpa using this
  have a4 : (a == 4) = false := by have : a ≠ 4 := by omega
                                   simpa using this
  clear hn
  refine⟨false,fun w=>?_⟩
  have HB:=HB0 w;clear HB0
  go_enter Tryz.func128,Tryz.ntmps128
  go_wp2_with (go_at_call 120;(with_reducible refine (more_first (CM.out _)).mono ?_);rintro e w' ⟨rfl,t,rfl⟩)
  go_ret
  exact⟨rfl,by first|exact HB.out|exact HB.out.trans ((zaa _ _).mono HB.out.size)⟩
theorem zhd (m:Int) (b j:Bool) (v o a:Int):∃r:Bool,(0≤v→v≤100000→r=posA ⟨m,b⟩ (v,o) a)∧∀w:World,Calls Tryz.prog 128 #[.agg #[.int .i64 m,.bool b,.bool j],.agg #[.int .i64 v,.int .i64 o],.int .i64 a] w fun e w'=>e = .returned (.bool r)∧Below w.heap.size w w':=by
 by_cases h:0≤v∧v≤100000
 ·exact⟨_,fun _ _=>rfl,fun w=>zaZ m b j v o a w h.1 h.2⟩
 ·obtain⟨r,hr⟩:=possible_ex m b j v o a
  exact⟨r,fun h1 h2=>absurd ⟨h1,h2⟩ h,hr⟩
def codeC (p c h s m:Int) (bv:Bool) (own other:List Int) (v o a:Int):Int:=codeM p c h s m own other v o (posA ⟨m,bv⟩ (v,o) a)
theorem codeL_free {p c h s m:Int} {own other:List Int} {v o:Int} (h0:¬(isVar p c h s=true∧rulB m=true∧cubB m v o=true)) (b b':Bool):codeL p c h s m own other v o b=codeL p c h s m own other v o b':=by
 unfold codeL
 by_cases h1:isVar p c h s=true∧rulB m=true
 ·rw[if_pos h1,if_pos h1,if_neg (fun hx=>h0 ⟨h1.1,h1.2,hx.2.2.1⟩),if_neg (fun hx=>h0 ⟨h1.1,h1.2,hx.2.2.1⟩)]
 ·rw[if_neg h1,if_neg h1]
theorem codeC_any {p c h s m:Int} {bv:Bool} {own other:List Int} {v o a:Int} {r:Bool} (hr:0≤v→v≤100000→r=posA ⟨m,bv⟩ (v,o) a):codeM p c h s m own other v o r=codeC p c h s m bv own other v o a:=by
 unfold codeC
 by_cases h0:isVar p c h s=true∧rulB m=true∧cubB m v o=true
 ·obtain⟨K,hK,rfl⟩:=zbL h0.2.1
  have hc:=(zdQ h0.2.2).v1 hK;have h1:1≤v:=hc.1;have h2:v≤1024:=hc.2.1
  rw[hr (by omega) (by omega)]
 ·unfold codeM
  rw[codeL_free h0 r (posA ⟨m,bv⟩ (v,o) a)]
theorem zfZ (p c h s m:Int) (bv j:Bool) (A B:Option Addr) (n k ca cb:Nat) (own other:List Int) (v o a:Int) (w:World) (hA:SL w A n own) (hB:SL w B k other):
  Calls Tryz.prog 126 #[.agg #[.int .i64 p,.int .i64 c,.int .i64 h,.int .i64 s],.agg #[.int .i64 m,.bool bv,.bool j],.slice A n ca,.slice B k cb,.agg #[.int .i64 v,.int .i64 o],.int .i64 a] w fun e w'=>e = .returned (.int .i64 (codeC p c h s m bv own other v o a))∧Below w.heap.size w w':=by
 have HB:Hid (Below w.heap.size w (((w.alloc (.cells #[.int .i64 p,.int .i64 c,.int .i64 h,.int .i64 s] 25)).alloc (.cells #[.int .i64 m,.bool bv,.bool j] 53)).alloc (.cells #[.int .i64 v,.int .i64 o] 55))):=(((Below.refl _ _).alloc (Nat.le_refl _) _).alloc (by simp) _).alloc (by simp;omega) _
 have HX:=h_ (hA.below HB.out);have HY:=h_ (hB.below HB.out);obtain⟨r,hr1,hr2⟩:=zhd m bv j v o a;have CP:=h_ hr2
 have CK:=h_ fun (W:World) (h1:SL W A n own) (h2:SL W B k other)=>zdD p c h s m bv j A B n k ca cb own other v o r W h1 h2
 rw[codeC_any hr1]at CK;clear hA hB hr1 hr2
 go_enter Tryz.func126,Tryz.ntmps126
 go_wp2_with (fail)
 first|refine zac (by kernel_rfl) (by kernel_rfl) ?_|refine zad (by kernel_rfl) (by kernel_rfl) ?_
 repeat (first|go_big_quiet_step (first|(go_at_call 128;exact more_call (CP.out _))|(go_at_call 102;exact more_call (CK.out _ (HX.out.more _) (HY.out.more _))))|quiet_step (fail))
 refine wpQuiet_nil ?_
 intro _ hw'
 obtain⟨tr,hw2⟩:=hw';subst hw2
 go_wp2_with (fail)
 go_ret
 exact⟨rfl,HB.out.trans ((zaa _ _).mono HB.out.size)⟩
noncomputable def valV (s:Nat) (r:Ru) (own other:List Int) (c:Cb) (a:Int):Option E:=if a=2 then some ⟨c.1,0⟩ else rol s r own other (aft c a)
theorem aft_ok {K:Nat} {bv:Bool} {c:Cb} {a:Int} (hc:CbOk K c) (h:posA ⟨two K,bv⟩ c a=true) (h2:a≠2):CbOk K (aft c a):=by
 have hcase:a=0∨a=1∨a=3∨a=4∨¬(0≤a∧a≤4):=by omega
 rcases hcase with rfl|rfl|rfl|rfl|hn
 ·exact hc
 ·have hm:may ⟨two K,bv⟩ c=true:=h
  exact hc.up (j:=1) (by omega) (of_decide_eq_true hm).2
 ·have hm:bvr ⟨two K,bv⟩ c=true:=h
  unfold bvr at hm
  simp only[Bool.and_eq_true,decide_eq_true_eq]at hm
  exact hc.up (j:=2) (by omega) hm.2
 ·have hm:rcn ⟨two K,bv⟩ c=true:=h
  unfold rcn at hm
  simp only[Bool.and_eq_true,decide_eq_true_eq]at hm
  exact hc.up (j:=3) (by omega) hm.2
 ·rw[posA_no hn]at h;cases h
noncomputable def cvR (p c h s m:Int) (bv:Bool) (own other:List Int) (v o a:Int):Int×Int×Int:=
 if codeC p c h s m bv own other v o a=0 then numR (valV s.toNat ⟨m,bv⟩ own other (v,o) a) else (0,0,codeC p c h s m bv own other v o a)
theorem value_any (m:MT) (hm:m.Ok) {own other:List Int} (hq:PosP m.t.h m.t.c own) (hq2:PosP m.t.h m.t.c other) (h0:own.sum≠0) {c:Cb} (hc:CbOk m.K c) {a:Int} (hpa:posA ⟨two m.K,m.bv⟩ c a=true)
  (T:Nat→Prop) (A B:Option Addr) (ca cb:Nat) (w:World) (hT:∀k,w.heap.size≤k→¬T k) (hI:MonI m T w) (hA:SQ T w A m.t.h own) (hca:m.t.h≤ca) (hB:SQ T w B m.t.h other) (hcb:m.t.h≤cb):
  Calls Tryz.prog 127 #[.pointer (some ⟨m.bm,0,none⟩),.slice A m.t.h ca,.slice B m.t.h cb,.agg #[.int .i64 c.1,.int .i64 c.2],.int .i64 a] w (RetMo m T w (valV m.t.s m.ru own other c a)):=by
 obtain⟨v,o⟩:=c;have hcv:1≤v∧v≤1024∧0≤o∧o≤2:=hc.v1 hm.k;have hlow:=hI.ltS;have HSUB:=h_ hI.sub
 have HNS:Hid (∀j,¬m.S (w.heap.size+j)):=fun j h=>by have:=hlow _ h;omega
 have hb0:Below w.heap.size w ((w.alloc (.cells #[.int .i64 v,.int .i64 o] 55)).alloc (.cells #[.int .i64 0,.int .i64 0] 35)):=((Below.refl _ _).alloc (Nat.le_refl _) _).alloc (by simp) _
 have HF:Hid (FrS m.S w ((w.alloc (.cells #[.int .i64 v,.int .i64 o] 55)).alloc (.cells #[.int .i64 0,.int .i64 0] 35)) [[.int .i64 v,.int .i64 o],[.int .i64 0,.int .i64 0]]):=((FrS.start w hlow).allocT (by simp) _ _).allocT (by simp) _ _
 have HI:=h_ ((hI.wide 2).below hb0);have HIW:=h_ (hI.wide 2);have HA:=h_ ((hA.wide 2).below hb0);have HB:=h_ ((hB.wide 2).below hb0)
 have HTN:Hid (∀W:World,w.heap.size+2≤W.heap.size→∀k,W.heap.size≤k→¬ownT T w 2 k):=fun W hz=>zcf hT hz
 generalize hTT:ownT T w 2=T' at *;replace hTT:=h_ hTT;have HTT:=hTT;have HTS:Hid (∀k,m.S k→T' k):=HI.out.sub;clear hTT;obtain⟨ov,hov⟩:∃ov,ov=valV m.t.s m.ru own other (v,o) a:=⟨_,rfl⟩;rw[← hov]
 by_cases h2:a=2
 ·have HRE:Hid (ov=some ⟨v,0⟩):=by rw[hov];exact if_pos h2
  have b2:(a == 2)=true:=by simp[h2]
  clear hT hI hA hB hm hb0 hlow hq hq2 h0 hc hpa hov h2 HA HB HTN HTS;obtain⟨z0,c00,f00,c01,f01,z1,c10,f10,c11,f11⟩:=HF.out.xf6
  go_enter Tryz.func127,Tryz.ntmps127
  go_wp2_with (fail)
  refine bodyPost_ret (v:=.tuple #[.agg #[.int .i64 v,.int .i64 ((0:Nat):Int)],.bool true]) (by simp[results,Tryz.results127,go_sem,c10,c11,z1,f10,f11]) rfl ?_
  refine RetMo.mkY HRE.out ?_ ?_
  ·refine MonI.less (T:=T') ?_ (fun k hk=>by rw[← HTT.out];exact .inl hk) HSUB.out
   repeat (first|exact HIW.out|refine MonI.alloc ?_ _)
  ·repeat (first|exact Frm.refl _ _|refine Frm.alloc ?_ _)
 ·have b2:(a == 2)=false:=by simp[h2]
  obtain⟨⟨v2,o2⟩,ha⟩:∃c2,aft (v,o) a=c2:=⟨_,rfl⟩;have R1:=h_ (zem m hm hq hq2 h0 (aft_ok hc hpa h2))
  have CA:Hid (∀W:World,Calls Tryz.prog 197 #[.agg #[.int .i64 v,.int .i64 o],.int .i64 a] W fun e w'=>e = .returned (.agg #[.int .i64 v2,.int .i64 o2])∧Below W.heap.size W w'):=fun W=>by
   have:=zbv v o a W (by omega) (by omega)
   rw[ha]at this
   exact this
  rw[ha]at R1
  have hov2:ov=rol m.t.s m.ru own other (v2,o2):=by rw[hov,← ha];exact if_neg h2
  replace R1:Hid (MonC m 110 own other (v2,o2) fun T w=>RetMo m T w ov):=by rw[hov2];exact R1
  clear hT hI hA hB hm hb0 hlow hq hq2 h0 hc hpa hov hov2 h2 ha HIW
  go_enter Tryz.func127,Tryz.ntmps127
  go_wp2_with (go_at_call 197;(with_reducible refine (more_first (CA.out _)).mono ?_);rintro e w' ⟨rfl,tr,rfl⟩)
  replace HF:=h_ (HF.out.more tr);replace HI:=h_ (HI.out.below (zaa _ tr));replace HA:=h_ (HA.out.below (zaa _ tr));replace HB:=h_ (HB.out.below (zaa _ tr));generalize more ((w.alloc (.cells #[.int .i64 v,.int .i64 o] 55)).alloc (.cells #[.int .i64 0,.int .i64 0] 35)) tr=W1 at *
  have hz1:w.heap.size+2≤W1.heap.size:=by have:=HF.out.z;simpa using this
  refine (R1.out T' A B ca cb W1 (HTN.out W1 hz1) HI.out HA.out hca HB.out hcb).mono ?_
  rintro e w2 ⟨rfl,hI,hf⟩
  have hz2:w.heap.size+2≤w2.heap.size:=Nat.le_trans hz1 hf.size;replace HF:=h_ (HF.out.frm hf);replace HI:=h_ hI;clear hI hf R1 CA HA HB HTN HTS
  rcases ov with _|⟨xn,xd⟩
  ·unfold exV
   simp only[Option.getD_none,Option.isSome_none]
   obtain⟨z0,c00,f00,c01,f01,z1,c10,f10,c11,f11⟩:=HF.out.xf6
   go_wp2_with (fail)
   refine bodyPost_ret (v:=.tuple #[.agg #[.int .i64 0,.int .i64 0],.bool false]) (by simp[results,Tryz.results127,go_sem,c10,c11,z1,f10,f11]) rfl ?_
   refine RetMo.mkN rfl ?_ ?_
   ·
    refine MonI.less (T:=T') ?_ (fun k hk=>by rw[← HTT.out];exact .inl hk) HSUB.out
    repeat (first|exact HI.out|refine MonI.alloc ?_ _|refine MonI.stored ?_ _ (by rw[← HTT.out];exact zaw 1 rfl (by omega)) (HNS.out 1))
   ·
    repeat (first|exact HF.out.f|refine Frm.alloc ?_ _|refine Frm.ownSet ?_ (by omega) _)
  ·unfold exV
   simp only[Option.getD_some,Option.isSome_some]
   obtain⟨z0,c00,f00,c01,f01,z1,c10,f10,c11,f11⟩:=HF.out.xf6
   go_wp2_with (fail)
   refine bodyPost_ret (v:=.tuple #[.agg #[.int .i64 xn,.int .i64 (xd:Int)],.bool true]) (by simp[results,Tryz.results127,go_sem,c10,c11,z1,f10,f11]) rfl ?_
   refine RetMo.mkY rfl ?_ ?_
   ·
    refine MonI.less (T:=T') ?_ (fun k hk=>by rw[← HTT.out];exact .inl hk) HSUB.out
    repeat (first|exact HI.out|refine MonI.alloc ?_ _|refine MonI.stored ?_ _ (by rw[← HTT.out];exact zaw 1 rfl (by omega)) (HNS.out 1))
   ·
    repeat (first|exact HF.out.f|refine Frm.alloc ?_ _|refine Frm.ownSet ?_ (by omega) _)
def moA (p:Int) (c h s K:Nat) (bv j:Bool) (A B:Option Addr) (ca cb:Nat) (v o a:Int) (ov:Option E) (fl:Bool) (i:Nat) (u:Value) (lo hi:Nat) (W:World):Prop:=
 match i with
 | 0=>u = .agg #[.int .i64 p,.int .i64 c,.int .i64 h,.int .i64 s]
 | 1=>u = .agg #[.int .i64 (two K),.bool bv,.bool j]
 | 2=>∃m:MT,m.t.p=p∧m.t.c=c∧m.t.h=h∧m.t.s=s∧m.K=K∧m.bv=bv∧u = .pointer (some ⟨m.bm,0,none⟩)∧m.Ok∧(fl=false→MonI m m.S W∧∀k,m.S k→lo≤k∧k<hi)
 | 3=>u = .slice A h ca
 | 4=>u = .slice B h cb
 | 5=>u = .agg #[.int .i64 v,.int .i64 o]
 | 6=>u = .int .i64 a
 | 7=>u = .tuple #[exV ov,.bool ov.isSome]
 | 8=>u = .tuple #[exV ov,.bool ov.isSome]
 | 9=>u=exV ov
 | 10=>u = .bool ov.isSome
 | _=>u = .pointer (some ⟨lo,0,none⟩)∧lo<hi∧(W.cell? ⟨lo,0,none⟩=some (.int .i64 0)∧W.cell? ⟨lo,1,none⟩=some (.int .i64 0))∧∀j,j<2→W.frozen? ⟨lo,j,none⟩=false
theorem moA_stab {w:World} {p:Int} {c h s K:Nat} {bv j:Bool} {A B:Option Addr} {ca cb:Nat} {v o a:Int} {ov:Option E} (fl:Bool) (i:Nat) (u:Value) (lo hi:Nat) (W W':World) (_:w.heap.size≤lo) (_:hi≤W.heap.size) (hg:moA p c h s K bv j A B ca cb v o a ov fl i u lo hi W) (hb:Below W.heap.size W W'):moA p c h s K bv j A B ca cb v o a ov fl i u lo hi W':=by
 unfold moA at *
 split at hg<;>first
  | exact hg
  | (obtain ⟨m, h1, h2, h3, h4, h5, h6, h7, h8, h9⟩ := hg
     exact ⟨m, h1, h2, h3, h4, h5, h6, h7, h8, fun hf => ⟨(h9 hf).1.below hb, (h9 hf).2⟩⟩)
  | (obtain ⟨h1, h2, ⟨h3, h4⟩, h5⟩ := hg
     exact ⟨h1, h2, ⟨zab h3 hb, zab h4 hb⟩, fun j hj => (hb.frozen (p := ⟨lo, j, none⟩) (World.block_lt_of_cell? W ⟨lo, 0, none⟩ h3)).trans (h5 j hj)⟩)
theorem moA_conv {w:World} {p:Int} {c h s K:Nat} {bv j:Bool} {A B:Option Addr} {ca cb:Nat} {v o a:Int} {ov:Option E} (i:Nat) (u:Value) (lo hi:Nat) (W W':World) (_:w.heap.size≤lo) (_:hi≤W.heap.size) (hg:moA p c h s K bv j A B ca cb v o a ov false i u lo hi W) (hf:i≠2→Frm (fun k=>w.heap.size≤k∧¬(lo≤k∧k<hi)) W W'):moA p c h s K bv j A B ca cb v o a ov true i u lo hi W':=by
 unfold moA at *
 split at hg<;>first
  | exact hg
  | (obtain ⟨m, h1, h2, h3, h4, h5, h6, h7, h8, h9⟩ := hg
     exact ⟨m, h1, h2, h3, h4, h5, h6, h7, h8, fun hx => by cases hx⟩)
  | (obtain ⟨h1, h2, ⟨h3, h4⟩, h5⟩ := hg
     have hf' := hf (by assumption)
     have hn : ¬ (w.heap.size ≤ lo ∧ ¬ (lo ≤ lo ∧ lo < hi)) := fun hx => hx.2 ⟨Nat.le_refl _, h2⟩
     exact ⟨h1, h2, ⟨hf'.cell' h3 hn, hf'.cell' h4 hn⟩, fun j hj => (zaE hf' (World.block_lt_of_cell? W ⟨lo, 0, none⟩ h3) hn).trans (h5 j hj)⟩)
theorem zgg (p c h s m:Int) (bv j:Bool) (A B:Option Addr) (n k ca cb:Nat) (own other:List Int) (v o a:Int) (w:World) (hA:SL w A n own) (hB:SL w B k other) (hca:n≤ca) (hcb:k≤cb):
  Calls Tryz.prog 47 #[.agg #[.int .i64 p,.int .i64 c,.int .i64 h,.int .i64 s],.agg #[.int .i64 m,.bool bv,.bool j],.slice A n ca,.slice B k cb,.agg #[.int .i64 v,.int .i64 o],.int .i64 a] w (RetN w (cvR p c h s m bv own other v o a)):=by
 have HF0:Hid (Fr w ((((w.alloc (.cells #[.int .i64 p,.int .i64 c,.int .i64 h,.int .i64 s] 25)).alloc (.cells #[.int .i64 m,.bool bv,.bool j] 53)).alloc (.cells #[.int .i64 v,.int .i64 o] 55)).alloc (.cells #[.int .i64 0,.int .i64 0] 35)) [[.int .i64 p,.int .i64 c,.int .i64 h,.int .i64 s],[.int .i64 m,.bool bv,.bool j],[.int .i64 v,.int .i64 o],[.int .i64 0,.int .i64 0]]):=((((Fr.start w).allocT (by simp) _ _).allocT (by simp) _ _).allocT (by simp) _ _).allocT (by simp) _ _
 have HA0:=h_ (hA.below HF0.out.b);have HB0:=h_ (hB.below HF0.out.b);have HAL:=h_ hA.1;have HBL:=h_ hB.1;have CK:=h_ (zfZ p c h s m bv j A B n k ca cb own other v o a _ HA0.out HB0.out);clear hA hB
 by_cases hcm:codeC p c h s m bv own other v o a=0
 ·obtain⟨hcl,hz1,hz2⟩:=zex (show codeM p c h s m own other v o (posA ⟨m,bv⟩ (v,o) a)=0 from hcm)
  rw[hcm]at CK;obtain⟨hv,hr,hp1,hp2,hcu,hpa,hgi⟩:=zci hcl;have hvv:=zak hv;obtain⟨K,hK,rfl⟩:=zbL hr
  obtain⟨c',rfl⟩:∃c':Nat,c=c':=⟨c.toNat,by omega⟩
  obtain⟨h',rfl⟩:∃h':Nat,h=h':=⟨h.toNat,by omega⟩
  obtain⟨s',rfl⟩:∃s':Nat,s=s':=⟨s.toNat,by omega⟩
  rw[zdq hK]at hgi;obtain⟨hN,_⟩:=zeu hgi;have HP1:=h_ (zba hp1);have HP2:=h_ (zba hp2);have hcb0:=zdQ hcu
  have hnh:h'=n:=by rw[← HAL.out];exact (HP1.out.1).symm
  have hmh:h'=k:=by rw[← HBL.out];exact (HP2.out.1).symm
  subst hnh;subst hmh
  have CNEW:=h_ fun (W:World)=>zcZ p c' h' s' K bv j W hv hN hK
  obtain⟨ov,hov⟩:∃ov,ov=valV s' ⟨two K,bv⟩ own other (v,o) a:=⟨_,rfl⟩
  have HWR:Hid (cvR p c' h' s' (two K) bv own other v o a=numR ov):=by
   unfold Hid cvR;rw[if_pos hcm,hov]
   simp only[Int.toNat_natCast]
  have HALL:Hid (∀(m:MT),m.t.c=c'→m.t.h=h'→m.t.s=s'→m.K=K→m.bv=bv→m.Ok→∀W:World,MonI m m.S W→SQ m.S W A h' own→SQ m.S W B h' other→Calls Tryz.prog 127 #[.pointer (some ⟨m.bm,0,none⟩),.slice A h' ca,.slice B h' cb,.agg #[.int .i64 v,.int .i64 o],.int .i64 a] W (RetMo m m.S W ov)):=by
   intro m e1 e2 e3 e4 e5 hok W hI h1 h2
   subst e1 e2 e3 e4 e5;rw[hov]
   exact value_any m hok HP1.out HP2.out hz1 hcb0 hpa m.S A B ca cb W (fun k hk hs=>by have:=hI.ltS k hs;omega) hI h1 hca h2 hcb
  clear hcm hcl hv hr hp1 hp2 hcu hgi hvv hov HAL HBL hpa;generalize cvR p c' h' s' (two K) bv own other v o a=rr at *
  go_enter Tryz.func47,Tryz.ntmps47
  go_wp2_with (fail)
  refine CK.out.mono ?_
  rintro e w1 ⟨rfl,hb1⟩
  have HFX:=h_ (HF0.out.below hb1);have HAX:=h_ (HA0.out.below hb1);have HBX:=h_ (HB0.out.below hb1);clear CK hb1 HF0 HA0 HB0;obtain⟨z0,c00,f00,c01,f01,c02,f02,c03,f03,z1,c10,f10,c11,f11,c12,f12,z2,c20,f20,c21,f21,z3,c30,f30,c31,f31⟩:=HFX.out.xf9
  go_wp2_with (fail)
  clear z0 c00 f00 c01 f01 c02 f02 c03 f03 z1 c10 f10 c11 f11 c12 f12 z2 c20 f20 c21 f21 z3 c30 f30 c31 f31
  refine zdX 12 (fun i=>i == 10) (fun i=>if i=8 then 28 else if i<8 then i+29 else if i=11 then 15 else i+28) 2 7 (moA p c' h' s' K bv j A B ca cb v o a ov) (by kernel_rfl) (by kernel_rfl) (fun _ _ _ _ _ h=>h) (by omega) (by omega) rfl (by kernel_rfl) moA_stab moA_conv ?_ ?_ ?_ ?_
  ·intro fl i op hi hX ho a' X hbX hfar hdep
   have hi8:i=10:=by simpa using hX
   subst hi8
   simp at ho
   subst ho
   obtain⟨_,_,d0⟩:=hdep 8 (by omega) (by kernel_rfl)
   replace d0:a'.tmps.getD 28 undef = .tuple #[exV ov,.bool ov.isSome]:=d0
   exact⟨.bool ov.isSome,fun W'=>by simp only[execOp,Act.eval,d0];go_simp,rfl⟩
  ·intro fl i op hi hX hne ho a' X hbX hfar hdep
   have e2:a'.tmps.getD 2 undef = .slice A h' ca:=(hfar 2 (by decide)).trans rfl
   have e3:a'.tmps.getD 3 undef = .slice B h' cb:=(hfar 3 (by decide)).trans rfl
   have e6:a'.tmps.getD 6 undef = .pointer (some ⟨w.heap.size,0,none⟩):=(hfar 6 (by decide)).trans rfl
   have e7:a'.tmps.getD 7 undef = .pointer (some ⟨w.heap.size+1,0,none⟩):=(hfar 7 (by decide)).trans rfl
   have e10:a'.tmps.getD 10 undef = .pointer (some ⟨w.heap.size+1+1,0,none⟩):=(hfar 10 (by decide)).trans rfl
   have ea:a'.tmps.getD 5 undef = .int .i64 a:=(hfar 5 (by decide)).trans rfl
   have HFh:=h_ (HFX.out.below hbX);obtain⟨z0,c00,f00,c01,f01,c02,f02,c03,f03,z1,c10,f10,c11,f11,c12,f12,z2,c20,f20,c21,f21,z3,c30,f30,c31,f31⟩:=HFh.out.xf9
   have hi9:i=0∨i=1∨i=2∨i=3∨i=4∨i=5∨i=6∨i=8∨i=9∨i=11:=by simp at hX;omega
   clear hne hX
   rcases hi9 with rfl|rfl|rfl|rfl|rfl|rfl|rfl|rfl|rfl|rfl
   all_goals
    simp at ho
    subst ho
   ·exact .inl ⟨.agg #[.int .i64 p,.int .i64 c',.int .i64 h',.int .i64 s'],X,by simp only[execOp,Act.eval,e6];go_simp,Below.refl _ _,rfl⟩
   ·exact .inl ⟨.agg #[.int .i64 (two K),.bool bv,.bool j],X,by simp only[execOp,Act.eval,e7];go_simp,Below.refl _ _,rfl⟩
   ·obtain⟨_,_,d0⟩:=hdep 0 (by omega) (by kernel_rfl)
    obtain⟨_,_,d1⟩:=hdep 1 (by omega) (by kernel_rfl)
    replace d0:a'.tmps.getD 29 undef = .agg #[.int .i64 p,.int .i64 c',.int .i64 h',.int .i64 s']:=d0;replace d1:a'.tmps.getD 30 undef = .agg #[.int .i64 (two K),.bool bv,.bool j]:=d1
    refine .inr ⟨103,#[.agg #[.int .i64 p,.int .i64 c',.int .i64 h',.int .i64 s'],.agg #[.int .i64 (two K),.bool bv,.bool j]],by simp only[execOp,Act.eval,d0,d1];go_simp,?_⟩
    refine (CNEW.out X).mono ?_
    rintro e X' ⟨m,m1,m2,m3,m4,m5,m6,rfl,hok,hI,hlow,hb'⟩
    exact⟨_,rfl,hb',m,m1,m2,m3,m4,m5,m6,rfl,hok,fun _=>⟨hI,fun k hk=>⟨hlow k hk,hI.ltS k hk⟩⟩⟩
   ·exact .inl ⟨.slice A h' ca,X,by simp only[execOp,Act.eval,e2];go_simp,Below.refl _ _,rfl⟩
   ·exact .inl ⟨.slice B h' cb,X,by simp only[execOp,Act.eval,e3];go_simp,Below.refl _ _,rfl⟩
   ·exact .inl ⟨.agg #[.int .i64 v,.int .i64 o],X,by simp only[execOp,Act.eval,e10];go_simp,Below.refl _ _,rfl⟩
   ·exact .inl ⟨.int .i64 a,X,by simp only[execOp,Act.eval,ea];go_simp,Below.refl _ _,rfl⟩
   ·obtain⟨_,_,d0⟩:=hdep 7 (by omega) (by kernel_rfl)
    replace d0:a'.tmps.getD 36 undef = .tuple #[exV ov,.bool ov.isSome]:=d0
    exact .inl ⟨.tuple #[exV ov,.bool ov.isSome],X,by simp only[execOp,Act.eval,d0];go_simp,Below.refl _ _,rfl⟩
   ·obtain⟨_,_,d0⟩:=hdep 8 (by omega) (by kernel_rfl)
    replace d0:a'.tmps.getD 28 undef = .tuple #[exV ov,.bool ov.isSome]:=d0
    exact .inl ⟨exV ov,X,by simp only[execOp,Act.eval,d0];go_simp,Below.refl _ _,rfl⟩
   ·refine .inl ⟨.pointer (some ⟨X.heap.size,0,none⟩),X.alloc (.cells #[.int .i64 0,.int .i64 0] 35),by kernel_rfl,(Below.refl _ _).alloc (Nat.le_refl _) _,rfl,by simp,⟨by simp[go_sem],by simp[go_sem]⟩,fun j hj=>?_⟩
    have:j=0∨j=1:=by omega
    rcases this with rfl|rfl<;>simp[go_sem]
  ·intro op ho a' X lo hi hbX hlo hhi hgd hfar hdep
   simp at ho
   subst ho;obtain⟨m,m1,m2,m3,m4,m5,m6,d2,hok,hI⟩:=hgd;replace d2:a'.tmps.getD 31 undef = .pointer (some ⟨m.bm,0,none⟩):=d2;obtain⟨hI,hrng⟩:=hI rfl
   obtain⟨_,_,d3⟩:=hdep 3 (by omega) (by kernel_rfl)
   obtain⟨_,_,d4⟩:=hdep 4 (by omega) (by kernel_rfl)
   obtain⟨_,_,d5⟩:=hdep 5 (by omega) (by kernel_rfl)
   replace d3:a'.tmps.getD 32 undef = .slice A h' ca:=d3;replace d4:a'.tmps.getD 33 undef = .slice B h' cb:=d4;replace d5:a'.tmps.getD 34 undef = .agg #[.int .i64 v,.int .i64 o]:=d5
   obtain⟨_,_,d6⟩:=hdep 6 (by omega) (by kernel_rfl)
   replace d6:a'.tmps.getD 35 undef = .int .i64 a:=d6
   refine .inr ⟨127,#[.pointer (some ⟨m.bm,0,none⟩),.slice A h' ca,.slice B h' cb,.agg #[.int .i64 v,.int .i64 o],.int .i64 a],by simp only[execOp,Act.eval,d2,d3,d4,d5,d6];go_simp,?_⟩
   refine (HALL.out m m2 m3 m4 m5 m6 hok X hI ((SQ.of_sl HAX.out fun k hk=>Nat.le_trans hlo (hrng k hk).1).below hbX) ((SQ.of_sl HBX.out fun k hk=>Nat.le_trans hlo (hrng k hk).1).below hbX)).mono ?_
   rintro e X' ⟨rfl,_,hf'⟩
   exact⟨_,rfl,hf'.mono hrng,rfl⟩
  intro u X lo hh hbX hg hd
  have g0:u 0 = .agg #[.int .i64 p,.int .i64 c',.int .i64 h',.int .i64 s']:=(hg 0 (by omega)).1
  have g1:u 1 = .agg #[.int .i64 (two K),.bool bv,.bool j]:=(hg 1 (by omega)).1
  obtain⟨mm,_,_,_,_,_,_,g2,_,_⟩:moA p c' h' s' K bv j A B ca cb v o a ov true 2 (u 2) (lo 2) (hh 2) X:=(hg 2 (by omega)).1
  have g3:u 3 = .slice A h' ca:=(hg 3 (by omega)).1
  have g4:u 4 = .slice B h' cb:=(hg 4 (by omega)).1
  have g5:u 5 = .agg #[.int .i64 v,.int .i64 o]:=(hg 5 (by omega)).1
  have g6:u 6 = .int .i64 a:=(hg 6 (by omega)).1
  have g7:u 7 = .tuple #[exV ov,.bool ov.isSome]:=(hg 7 (by omega)).1
  have g8:u 8 = .tuple #[exV ov,.bool ov.isSome]:=(hg 8 (by omega)).1
  have g9:u 9=exV ov:=(hg 9 (by omega)).1
  have g10:u 10 = .bool ov.isSome:=(hg 10 (by omega)).1
  obtain⟨g11,l10,⟨k10,k11⟩,f10'⟩:moA p c' h' s' K bv j A B ca cb v o a ov true 11 (u 11) (lo 11) (hh 11) X:=(hg 11 (by omega)).1
  have hlo:=(hg 11 (by omega)).2.1
  clear hg hd;obtain⟨b13,hb13⟩:∃b13,b13=lo 11:=⟨_,rfl⟩;rw[← hb13]at g11 l10 k10 k11 f10' hlo
  have fa0:=f10' 0 (by omega)
  have fa1:=f10' 1 (by omega)
  have kz:=World.block_lt_of_cell? X _ k10;have HF3:=h_ (HFX.out.below hbX)
  have hz4:w.heap.size+4≤b13:=by have:=HFX.out.z;simp at this;omega
  have n1:¬b13=w.heap.size+1+1+1:=by omega
  have n2:¬w.heap.size+1+1+1=b13:=by omega
  clear hbX HFX f10' hlo CNEW HALL HAX HBX l10
  simp only[List.drop_succ_cons,List.drop_zero,putV,g0,g1,g2,g3,g4,g5,g6,g7,g8,g9,g10,g11,Act.put]
  clear g0 g1 g2 g3 g4 g5 g6 g7 g8 g9 g10 g11 hb13
  rcases ov with _|⟨xn,xd⟩
  ·have HRR:Hid (rr=(0,0,3)):=HWR.out
   unfold exV
   simp only[Option.getD_none,Option.isSome_none]
   obtain⟨z0,c00,f00,c01,f01,c02,f02,c03,f03,z1,c10,f10,c11,f11,c12,f12,z2,c20,f20,c21,f21,z3,c30,f30,c31,f31⟩:=HF3.out.xf9
   go_wp2_with (fail)
   refine bodyPost_ret (v:=.tuple #[.agg #[.int .i64 0,.int .i64 0],.int .i64 3]) (by simp[results,Tryz.results47,go_sem,c30,c31,z3,f30,f31]) rfl (RetN.mk' HRR.out ?_)
   repeat (first|exact HF3.out.b|refine stw ?_ (by omega)|refine alw ?_ (by omega))
  ·have HRR:Hid (rr=(xn,(xd:Int),0)):=HWR.out
   unfold exV
   simp only[Option.getD_some,Option.isSome_some]
   obtain⟨z0,c00,f00,c01,f01,c02,f02,c03,f03,z1,c10,f10,c11,f11,c12,f12,z2,c20,f20,c21,f21,z3,c30,f30,c31,f31⟩:=HF3.out.xf9
   go_wp2_with (fail)
   refine bodyPost_ret (v:=.tuple #[.agg #[.int .i64 xn,.int .i64 (xd:Int)],.int .i64 0]) (by simp[results,Tryz.results47,go_sem,c30,c31,z3,f30,f31]) rfl (RetN.mk' HRR.out ?_)
   repeat (first|exact HF3.out.b|refine stw ?_ (by omega)|refine alw ?_ (by omega))
 ·have HWR:Hid (cvR p c h s m bv own other v o a=(0,0,codeC p c h s m bv own other v o a)):=by
   unfold Hid cvR;rw[if_neg hcm]
  generalize codeC p c h s m bv own other v o a=kk at *
  have b0:(kk != 0)=true:=by simp[hcm]
  clear hcm
  go_enter Tryz.func47,Tryz.ntmps47
  go_wp2_with (fail)
  refine CK.out.mono ?_
  rintro e w1 ⟨rfl,hb1⟩
  have HF2:=h_ (HF0.out.below hb1);clear CK hb1 HF0 HA0 HB0;obtain⟨z0,c00,f00,c01,f01,c02,f02,c03,f03,z1,c10,f10,c11,f11,c12,f12,z2,c20,f20,c21,f21,z3,c30,f30,c31,f31⟩:=HF2.out.xf9
  go_wp2_with (fail)
  refine bodyPost_ret (v:=.tuple #[.agg #[.int .i64 0,.int .i64 0],.int .i64 kk]) (by simp[results,Tryz.results47,go_sem,c30,c31,z3,f30,f31]) rfl (RetN.mk' HWR.out ?_)
  repeat (first|exact HF2.out.b|refine stw ?_ (by omega)|refine alw ?_ (by omega))
end Go.Proofs.YtkaiilmgemaljaaGreat

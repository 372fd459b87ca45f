/- Part of one proof. There are no conditions. -/
import Derived.Test.YtgjapehpkakkbaaGreatDM21
import Derived.Test.YtgjapehpkakkbaaGreatDJ9
import Derived.Test.YtgjapehpkakkbaaGreatDM45
import Derived.Test.YtgjapehpkakkbaaGreatDZl
set_option linter.unusedVariables false
set_option linter.unusedSimpArgs false
namespace Go.Proofs.YtgjapehpkakkbaaGreat
open Go.RowKit Mo Ps Ra Ex
set_option maxRecDepth 100000 in
set_option maxHeartbeats 4000000 in
theorem l17Both_any (p c h s m:Int) (b j:Bool) (A B:Option Addr) (n k ca cb:Nat) (own other:List Int) (v o:Int) (w:World) (hA:SL w A n own) (hB:SL w B k other):
  Calls Tryz.prog 97 #[.agg #[.int .i64 p,.int .i64 c,.int .i64 h,.int .i64 s],.agg #[.int .i64 m,.bool b,.bool j],.slice A n ca,.slice B k cb,.agg #[.int .i64 v,.int .i64 o]] w fun e w'=>e = .returned (.int .i64 (codeM p c h s m own other v o true))∧Below w.heap.size w w':=by
 have HB:Hid (Below w.heap.size w (((w.alloc (.cells #[.int .i64 p,.int .i64 c,.int .i64 h,.int .i64 s] 25)).alloc (.cells #[.int .i64 m,.bool b,.bool j] 59)).alloc (.cells #[.int .i64 v,.int .i64 o] 62))):=(((Below.refl _ _).alloc (Nat.le_refl _) _).alloc (by simp) _).alloc (by simp;omega) _
 have HX:=h_ (hA.below HB.out);have HY:=h_ (hB.below HB.out);have HAL:=h_ hA.1;have HBL:=h_ hB.1;have CK:=h_ (l17Code_any p c h s m b j A B n k ca cb own other v o _ HX.out HY.out);clear hA hB
 by_cases hcl:codeL p c h s m own other v o true=0
 ·obtain⟨hv,hr,hp1,hp2,hcu,_,hgi⟩:=codeL_ok hcl
  have hvv:=isVar_yes hv;have HP1:=h_ (posB_yes hp1);have HP2:=h_ (posB_yes hp2)
  have hn:n≤2000000:=by have:=HAL.out;have:=HP1.out.1;omega
  have hk:k≤2000000:=by have:=HBL.out;have:=HP2.out.1;omega
  have TOA:=h_ fun (W:World) (hx:SL W A n own)=>l17Done_any A n ca own W hx HP1.out.2.1 hn
  have TOB:=h_ fun (W:World) (hx:SL W B k other)=>l17Done_any B k cb other W hx HP2.out.2.1 hk
  have HRB:Hid (codeM p c h s m own other v o true=if (decide (own.sum=0)||decide (other.sum=0))=true then 5 else 0):=by
   unfold Hid codeM;rw[if_pos hcl];simp
  rw[hcl]at CK;clear hcl hv hr hp1 hp2 hcu hgi hvv HP1 HP2 hn hk HAL HBL
  rcases b1:decide (own.sum=0) with _|_
  all_goals
   rcases b2:decide (other.sum=0) with _|_
   all_goals
    have HR:=HRB;rw[b1,b2]at HR;rw[b1]at TOA;rw[b2]at TOB
    simp only[Bool.or_true,Bool.or_false,Bool.or_self,Bool.true_or,Bool.false_or,if_true,if_false,Bool.false_eq_true]at HR
    clear HRB b1 b2
    go_enter Tryz.func97,Tryz.ntmps97
    go_wp2_with (first
     | (go_at_call 90;(with_reducible refine (more_first CK.out).mono ?_);rintro e w' ⟨rfl,t,rfl⟩)
     | (go_at_call_of 91 A;(refine (TOA.out _ (HX.out.more _)).mono ?_);rintro e w' ⟨rfl,rfl⟩)
     | (go_at_call_of 91 B;(refine (TOB.out _ (HY.out.more _)).mono ?_);rintro e w' ⟨rfl,rfl⟩))
    go_ret
    exact⟨by rw[HR.out];rfl,by first|exact blw HB.out (Nat.le_refl _)|exact HB.out⟩
 ·have HR:Hid (codeM p c h s m own other v o true=codeL p c h s m own other v o true):=by unfold Hid codeM;rw[if_neg hcl]
  generalize codeM p c h s m own other v o true=kk2 at *;generalize codeL p c h s m own other v o true=kk at *
  have b0:(kk == 0)=false:=by simp[hcl]
  clear hcl
  go_enter Tryz.func97,Tryz.ntmps97
  go_wp2_with (go_at_call 90;(with_reducible refine (more_first CK.out).mono ?_);rintro e w' ⟨rfl,t,rfl⟩)
  go_ret
  exact⟨by rw[HR.out];rfl,by first|exact blw HB.out (Nat.le_refl _)|exact HB.out⟩
end Go.Proofs.YtgjapehpkakkbaaGreat
namespace Go.Proofs.YtgjapehpkakkbaaGreat
open Go.RowKit Mo Ps Ra Ex
theorem codeM_cases (p c h s m:Int) (own other:List Int) (v o:Int) (more:Bool):
  codeM p c h s m own other v o more=if (codeM p c h s m own other v o true=0∨codeM p c h s m own other v o true=3∨codeM p c h s m own other v o true=5)∧more=false then 2 else codeM p c h s m own other v o true:=by
 cases more with
 | true=>rw[if_neg (fun hx=>by cases hx.2)]
 | false =>
   by_cases h1 : isVar p c h s = true ∧ rulB m = true
   · by_cases h2 : posB h c own = true ∧ posB h c other = true ∧ cubB m v o = true
     · have e1 : codeM p c h s m own other v o false = 2 := codeM_k (codeL_2 h1.1 h1.2 (fun hx => by cases hx.2.2.2)) (by decide)
       have e2 := codeL_3 (more := true) (own := own) (other := other) h1.1 h1.2 ⟨h2.1, h2.2.1, h2.2.2, rfl⟩; rw [e1]
       by_cases hg : gamI h c m = true
       · rw [if_pos hg] at e2
         unfold codeM; rw [if_pos e2]
         by_cases hz : own.sum = 0 ∨ other.sum = 0
         · rw [if_pos hz, if_pos ⟨.inr (.inr rfl), rfl⟩]
         · rw [if_neg hz, if_pos ⟨.inl rfl, rfl⟩]
       · rw [if_neg hg] at e2
         have e3 : codeM p c h s m own other v o true = 3 := codeM_k e2 (by decide)
         rw [e3, if_pos ⟨.inr (.inl rfl), rfl⟩]
     · have e1 : codeM p c h s m own other v o false = 2 := codeM_k (codeL_2 h1.1 h1.2 (fun hx => h2 ⟨hx.1, hx.2.1, hx.2.2.1⟩)) (by decide)
       have e2 : codeM p c h s m own other v o true = 2 := codeM_k (codeL_2 h1.1 h1.2 (fun hx => h2 ⟨hx.1, hx.2.1, hx.2.2.1⟩)) (by decide)
       rw [e1, e2, if_neg (fun hx => by omega)]
   · have e1 : codeM p c h s m own other v o false = 1 := codeM_k (codeL_1 h1) (by decide)
     have e2 : codeM p c h s m own other v o true = 1 := codeM_k (codeL_1 h1) (by decide)
     rw [e1, e2, if_neg (fun hx => by omega)]
theorem codeM_cube {p c h s m:Int} {own other:List Int} {v o:Int} (H:codeM p c h s m own other v o true=0∨codeM p c h s m own other v o true=3∨codeM p c h s m own other v o true=5):0≤v∧v≤100000:=by
 by_cases h1:isVar p c h s=true∧rulB m=true
 ·by_cases h2:posB h c own=true∧posB h c other=true∧cubB m v o=true
  ·obtain⟨K,hK,rfl⟩:=rulB_two h1.2
   have hc:=(cubB_ok h2.2.2).v1 hK;have h3:1≤v:=hc.1;have h4:v≤1024:=hc.2.1
   omega
  ·have e2:codeM p c h s m own other v o true=2:=codeM_k (codeL_2 h1.1 h1.2 (fun hx=>h2 ⟨hx.1,hx.2.1,hx.2.2.1⟩)) (by decide)
   omega
 ·have e2:codeM p c h s m own other v o true=1:=codeM_k (codeL_1 h1) (by decide)
  omega
set_option maxRecDepth 100000 in
set_option maxHeartbeats 4000000 in
theorem l20Code_any (p c h s m:Int) (bv j:Bool) (A B:Option Addr) (n k ca cb:Nat) (own other:List Int) (v o a:Int) (w:World) (hA:SL w A n own) (hB:SL w B k other):
  Calls Tryz.prog 108 #[.agg #[.int .i64 p,.int .i64 c,.int .i64 h,.int .i64 s],.agg #[.int .i64 m,.bool bv,.bool j],.slice A n ca,.slice B k cb,.agg #[.int .i64 v,.int .i64 o],.int .i64 a] w fun e w'=>e = .returned (.int .i64 (codeC p c h s m bv own other v o a))∧Below w.heap.size w w':=by
 have HB:Hid (Below w.heap.size w (((w.alloc (.cells #[.int .i64 p,.int .i64 c,.int .i64 h,.int .i64 s] 25)).alloc (.cells #[.int .i64 m,.bool bv,.bool j] 59)).alloc (.cells #[.int .i64 v,.int .i64 o] 62))):=(((Below.refl _ _).alloc (Nat.le_refl _) _).alloc (by simp) _).alloc (by simp;omega) _
 have HX:=h_ (hA.below HB.out);have HY:=h_ (hB.below HB.out);have CK:=h_ (l17Both_any p c h s m bv j A B n k ca cb own other v o _ HX.out HY.out);have hcc:=codeM_cases p c h s m own other v o (posA ⟨m,bv⟩ (v,o) a);clear hA hB
 by_cases hk:codeM p c h s m own other v o true=0∨codeM p c h s m own other v o true=3∨codeM p c h s m own other v o true=5
 ·obtain⟨hv1,hv2⟩:=codeM_cube hk
  have CP:=h_ fun (W:World)=>l16Possible_any m bv j v o a W hv1 hv2
  rcases hpa:posA ⟨m,bv⟩ (v,o) a with _|_
  ·have HR:Hid (codeC p c h s m bv own other v o a=2):=by unfold Hid codeC;rw[hcc,if_pos ⟨hk,hpa⟩]
   rw[hpa]at CP;clear hcc hpa hv1 hv2
   rcases hk with hk|hk|hk
   all_goals
    rw[hk]at CK;clear hk
    go_enter Tryz.func108,Tryz.ntmps108
    go_wp2_with
     (first|(go_at_call 97;(with_reducible refine (more_first CK.out).mono ?_);rintro e w' ⟨rfl,t,rfl⟩)|(go_at_call 169;(with_reducible refine (more_call (CP.out _)).mono ?_);rintro e w' ⟨rfl,t2,rfl⟩))
    go_ret
    exact⟨by rw[HR.out]<;>rfl,by repeat (first|with_reducible exact HB.out|with_reducible refine blw ?_ (Nat.le_refl _))⟩
  ·have HR:Hid (codeC p c h s m bv own other v o a=codeM p c h s m own other v o true):=by unfold Hid codeC;rw[hcc,if_neg (fun hx=>by rw[hpa]at hx;cases hx.2)]
   rw[hpa]at CP;clear hcc hpa hv1 hv2
   rcases hk with hk|hk|hk
   all_goals
    rw[hk]at CK HR;clear hk
    go_enter Tryz.func108,Tryz.ntmps108
    go_wp2_with
     (first|(go_at_call 97;(with_reducible refine (more_first CK.out).mono ?_);rintro e w' ⟨rfl,t,rfl⟩)|(go_at_call 169;(with_reducible refine (more_call (CP.out _)).mono ?_);rintro e w' ⟨rfl,t2,rfl⟩))
    go_ret
    exact⟨by rw[HR.out]<;>rfl,by repeat (first|with_reducible exact HB.out|with_reducible refine blw ?_ (Nat.le_refl _))⟩
 ·have HR:Hid (codeC p c h s m bv own other v o a=codeM p c h s m own other v o true):=by unfold Hid codeC;rw[hcc,if_neg (fun hx=>hk hx.1)]
  generalize codeM p c h s m own other v o true=kk at *
  have b0:(kk == 0)=false:=by simp;omega
  have b3:(kk == 3)=false:=by simp;omega
  have b5:(kk == 5)=false:=by simp;omega
  clear hcc hk
  go_enter Tryz.func108,Tryz.ntmps108
  go_wp2_with (go_at_call 97;(with_reducible refine (more_first CK.out).mono ?_);rintro e w' ⟨rfl,t,rfl⟩)
  go_ret
  exact⟨by rw[HR.out]<;>rfl,by repeat (first|with_reducible exact HB.out|with_reducible refine blw ?_ (Nat.le_refl _))⟩
end Go.Proofs.YtgjapehpkakkbaaGreat
namespace Go.Proofs.YtgjapehpkakkbaaGreat
open Go.RowKit Mo Ps Ra Ex
set_option maxRecDepth 100000 in
set_option maxHeartbeats 2000000 in
theorem AfterAction_any (K:Nat) (bv j:Bool) (v o a:Int) (w:World) (hK:K≤10) (hcu:cubB (two K) v o=true) (hpa:posA ⟨two K,bv⟩ (v,o) a=true) (h2:a≠2):
  Calls Tryz.prog 170 #[.agg #[.int .i64 (two K),.bool bv,.bool j],.agg #[.int .i64 v,.int .i64 o],.int .i64 a] w fun e w'=>e = .returned (.tuple #[cbV (aft (v,o) a),.int .i64 0,.int .i64 0])∧Below w.heap.size w w':=by
 have hcv:1≤v∧v≤1024∧0≤o∧o≤2:=(cubB_ok hcu).v1 hK
 have HF:Hid (Fr w (((w.alloc (.cells #[.int .i64 (two K),.bool bv,.bool j] 59)).alloc (.cells #[.int .i64 v,.int .i64 o] 62)).alloc (.cells #[.int .i64 0,.int .i64 0] 62)) [[.int .i64 (two K),.bool bv,.bool j],[.int .i64 v,.int .i64 o],[.int .i64 0,.int .i64 0]]):=(((Fr.start w).allocT (by simp) _ _).allocT (by simp) _ _).allocT (by simp) _ _
 have CC:=h_ fun (W:World)=>sIsCube_any (two K) bv j v o W
 rw[hcu]at CC
 have CP:=h_ fun (W:World)=>l16Possible_any (two K) bv j v o a W (by omega) (by omega)
 rw[hpa]at CP
 have hcase:a=0∨a=1∨a=3∨a=4∨¬(0≤a∧a≤4):=by omega
 rcases hcase with rfl|rfl|rfl|rfl|hn
 ·clear hcu hpa h2
  go_enter Tryz.func170,Tryz.ntmps170
  go_wp2_with (fail)
  refine (CC.out _).mono ?_
  rintro e w1 ⟨rfl,hb⟩
  replace HF:=h_ (HF.out.below hb);clear hb CC;obtain⟨z0,c00,f00,c01,f01,c02,f02,z1,c10,f10,c11,f11,z2,c20,f20,c21,f21⟩:=HF.out.xf10
  go_wp2_with (fail)
  clear z0 c00 f00 c01 f01 c02 f02 z1 c10 f10 c11 f11 z2 c20 f20 c21 f21
  refine (CP.out _).mono ?_
  rintro e w2 ⟨rfl,hb⟩
  replace HF:=h_ (HF.out.below hb);clear hb CP;obtain⟨z0,c00,f00,c01,f01,c02,f02,z1,c10,f10,c11,f11,z2,c20,f20,c21,f21⟩:=HF.out.xf10
  go_wp2_with (fail)
  refine bodyPost_ret (v:=.tuple #[.agg #[.int .i64 (v),.int .i64 (o)],.int .i64 0,.int .i64 0]) (by simp[results,Tryz.results170,go_sem,c20,c21,z2,f20,f21]) rfl ⟨rfl,?_⟩
  repeat (first|with_reducible exact HF.out.b|with_reducible refine stw ?_ (by omega)|with_reducible refine alw ?_ (by omega))
 ·clear hcu hpa h2
  go_enter Tryz.func170,Tryz.ntmps170
  go_wp2_with (fail)
  refine (CC.out _).mono ?_
  rintro e w1 ⟨rfl,hb⟩
  replace HF:=h_ (HF.out.below hb);clear hb CC;obtain⟨z0,c00,f00,c01,f01,c02,f02,z1,c10,f10,c11,f11,z2,c20,f20,c21,f21⟩:=HF.out.xf10
  go_wp2_with (fail)
  clear z0 c00 f00 c01 f01 c02 f02 z1 c10 f10 c11 f11 z2 c20 f20 c21 f21
  refine (CP.out _).mono ?_
  rintro e w2 ⟨rfl,hb⟩
  replace HF:=h_ (HF.out.below hb);clear hb CP;obtain⟨z0,c00,f00,c01,f01,c02,f02,z1,c10,f10,c11,f11,z2,c20,f20,c21,f21⟩:=HF.out.xf10
  go_wp2_with (fail)
  refine bodyPost_ret (v:=.tuple #[.agg #[.int .i64 (2*v),.int .i64 (2)],.int .i64 0,.int .i64 0]) (by simp[results,Tryz.results170,go_sem,c20,c21,z2,f20,f21]) rfl ⟨rfl,?_⟩
  repeat (first|with_reducible exact HF.out.b|with_reducible refine stw ?_ (by omega)|with_reducible refine alw ?_ (by omega))
 ·clear hcu hpa h2
  go_enter Tryz.func170,Tryz.ntmps170
  go_wp2_with (fail)
  refine (CC.out _).mono ?_
  rintro e w1 ⟨rfl,hb⟩
  replace HF:=h_ (HF.out.below hb);clear hb CC;obtain⟨z0,c00,f00,c01,f01,c02,f02,z1,c10,f10,c11,f11,z2,c20,f20,c21,f21⟩:=HF.out.xf10
  go_wp2_with (fail)
  clear z0 c00 f00 c01 f01 c02 f02 z1 c10 f10 c11 f11 z2 c20 f20 c21 f21
  refine (CP.out _).mono ?_
  rintro e w2 ⟨rfl,hb⟩
  replace HF:=h_ (HF.out.below hb);clear hb CP;obtain⟨z0,c00,f00,c01,f01,c02,f02,z1,c10,f10,c11,f11,z2,c20,f20,c21,f21⟩:=HF.out.xf10
  go_wp2_with (fail)
  refine bodyPost_ret (v:=.tuple #[.agg #[.int .i64 (4*v),.int .i64 (2)],.int .i64 0,.int .i64 0]) (by simp[results,Tryz.results170,go_sem,c20,c21,z2,f20,f21]) rfl ⟨rfl,?_⟩
  repeat (first|with_reducible exact HF.out.b|with_reducible refine stw ?_ (by omega)|with_reducible refine alw ?_ (by omega))
 ·clear hcu hpa h2
  go_enter Tryz.func170,Tryz.ntmps170
  go_wp2_with (fail)
  refine (CC.out _).mono ?_
  rintro e w1 ⟨rfl,hb⟩
  replace HF:=h_ (HF.out.below hb);clear hb CC;obtain⟨z0,c00,f00,c01,f01,c02,f02,z1,c10,f10,c11,f11,z2,c20,f20,c21,f21⟩:=HF.out.xf10
  go_wp2_with (fail)
  clear z0 c00 f00 c01 f01 c02 f02 z1 c10 f10 c11 f11 z2 c20 f20 c21 f21
  refine (CP.out _).mono ?_
  rintro e w2 ⟨rfl,hb⟩
  replace HF:=h_ (HF.out.below hb);clear hb CP;obtain⟨z0,c00,f00,c01,f01,c02,f02,z1,c10,f10,c11,f11,z2,c20,f20,c21,f21⟩:=HF.out.xf10
  go_wp2_with (fail)
  refine bodyPost_ret (v:=.tuple #[.agg #[.int .i64 (8*v),.int .i64 (2)],.int .i64 0,.int .i64 0]) (by simp[results,Tryz.results170,go_sem,c20,c21,z2,f20,f21]) rfl ⟨rfl,?_⟩
  repeat (first|with_reducible exact HF.out.b|with_reducible refine stw ?_ (by omega)|with_reducible refine alw ?_ (by omega))
 ·rw[posA_no hn]at hpa;cases hpa
end Go.Proofs.YtgjapehpkakkbaaGreat
namespace Go.Proofs.YtgjapehpkakkbaaGreat
open Go.RowKit Mo Ps Ra Ex
def dsLV:Nat→Nat
 | 0=>20
 | 1=>21
 | 2=>22
 | 3=>23
 | 4=>24
 | 5=>25
 | 6=>26
 | 7=>19
 | 8=>27
 | 9=>28
 | 10=>29
 | 11=>11
 | _=>0
end Go.Proofs.YtgjapehpkakkbaaGreat
/- Contract of the reference's value of a choice. There are no conditions beyond those that each states. -/
import Derived.Test.YtgjapehpkakkbaaGreatLM24
import Derived.Test.YtgjapehpkakkbaaGreatLM45
set_option linter.unusedVariables false
set_option linter.unusedSimpArgs false
namespace Go.Proofs.YtgjapehpkakkbaaGreat
open Go.RowKit Mo Ps Ra Ex
theorem codeM_cases (p c h s m:Int) (own other:List Int) (v o:Int) (more:Bool):
  codeM p c h s m own other v o more=if (codeM p c h s m own other v o true=0∨codeM p c h s m own other v o true=3∨codeM p c h s m own other v o true=5)∧more=false then 2 else codeM p c h s m own other v o true:=by
 cases more with
 | true=>rw[if_neg (fun hx=>by cases hx.2)]
 | false =>
   by_cases h1 : isVar p c h s = true ∧ rulB m = true
   · by_cases h2 : posB h c own = true ∧ posB h c other = true ∧ cubB m v o = true
     · have e1 : codeM p c h s m own other v o false = 2 := codeM_k (codeL_2 h1.1 h1.2 (fun hx => by cases hx.2.2.2)) (by decide)
       have e2 := codeL_3 (more := true) (own := own) (other := other) h1.1 h1.2 ⟨h2.1, h2.2.1, h2.2.2, rfl⟩; rw [e1]
       by_cases hg : gamI h c m = true
       · rw [if_pos hg] at e2
         unfold codeM; rw [if_pos e2]
         by_cases hz : own.sum = 0 ∨ other.sum = 0
         · rw [if_pos hz, if_pos ⟨.inr (.inr rfl), rfl⟩]
         · rw [if_neg hz, if_pos ⟨.inl rfl, rfl⟩]
       · rw [if_neg hg] at e2
         have e3 : codeM p c h s m own other v o true = 3 := codeM_k e2 (by decide)
         rw [e3, if_pos ⟨.inr (.inl rfl), rfl⟩]
     · have e1 : codeM p c h s m own other v o false = 2 := codeM_k (codeL_2 h1.1 h1.2 (fun hx => h2 ⟨hx.1, hx.2.1, hx.2.2.1⟩)) (by decide)
       have e2 : codeM p c h s m own other v o true = 2 := codeM_k (codeL_2 h1.1 h1.2 (fun hx => h2 ⟨hx.1, hx.2.1, hx.2.2.1⟩)) (by decide)
       rw [e1, e2, if_neg (fun hx => by omega)]
   · have e1 : codeM p c h s m own other v o false = 1 := codeM_k (codeL_1 h1) (by decide)
     have e2 : codeM p c h s m own other v o true = 1 := codeM_k (codeL_1 h1) (by decide)
     rw [e1, e2, if_neg (fun hx => by omega)]
theorem codeM_cube {p c h s m:Int} {own other:List Int} {v o:Int} (H:codeM p c h s m own other v o true=0∨codeM p c h s m own other v o true=3∨codeM p c h s m own other v o true=5):0≤v∧v≤100000:=by
 by_cases h1:isVar p c h s=true∧rulB m=true
 ·by_cases h2:posB h c own=true∧posB h c other=true∧cubB m v o=true
  ·obtain⟨K,hK,rfl⟩:=rulB_two h1.2
   have hc:=(cubB_ok h2.2.2).v1 hK;have h3:1≤v:=hc.1;have h4:v≤1024:=hc.2.1
   omega
  ·have e2:codeM p c h s m own other v o true=2:=codeM_k (codeL_2 h1.1 h1.2 (fun hx=>h2 ⟨hx.1,hx.2.1,hx.2.2.1⟩)) (by decide)
   omega
 ·have e2:codeM p c h s m own other v o true=1:=codeM_k (codeL_1 h1) (by decide)
  omega
set_option maxRecDepth 100000 in
set_option maxHeartbeats 4000000 in
theorem l20Code_any (p c h s m:Int) (bv j:Bool) (A B:Option Addr) (n k ca cb:Nat) (own other:List Int) (v o a:Int) (w:World) (hA:SL w A n own) (hB:SL w B k other):
  Calls Tryz.prog 108 #[.agg #[.int .i64 p,.int .i64 c,.int .i64 h,.int .i64 s],.agg #[.int .i64 m,.bool bv,.bool j],.slice A n ca,.slice B k cb,.agg #[.int .i64 v,.int .i64 o],.int .i64 a] w fun e w'=>e = .returned (.int .i64 (codeC p c h s m bv own other v o a))∧Below w.heap.size w w':=by
 have HB:Hid (Below w.heap.size w (((w.alloc (.cells #[.int .i64 p,.int .i64 c,.int .i64 h,.int .i64 s] 25)).alloc (.cells #[.int .i64 m,.bool bv,.bool j] 59)).alloc (.cells #[.int .i64 v,.int .i64 o] 62))):=(((Below.refl _ _).alloc (Nat.le_refl _) _).alloc (by simp) _).alloc (by simp;omega) _
 have HX:=Lib.hid (hA.below HB.out);have HY:=Lib.hid (hB.below HB.out);have CK:=Lib.hid (l17Both_any p c h s m bv j A B n k ca cb own other v o _ HX.out HY.out);have hcc:=codeM_cases p c h s m own other v o (posA ⟨m,bv⟩ (v,o) a);clear hA hB
 by_cases hk:codeM p c h s m own other v o true=0∨codeM p c h s m own other v o true=3∨codeM p c h s m own other v o true=5
 ·obtain⟨hv1,hv2⟩:=codeM_cube hk
  have CP:=Lib.hid fun (W:World)=>l16Possible_any m bv j v o a W hv1 hv2
  rcases hpa:posA ⟨m,bv⟩ (v,o) a with _|_
  ·have HR:Hid (codeC p c h s m bv own other v o a=2):=by unfold Hid codeC;rw[hcc,if_pos ⟨hk,hpa⟩]
   rw[hpa]at CP;clear hcc hpa hv1 hv2
   rcases hk with hk|hk|hk
   all_goals
    rw[hk]at CK;clear hk
    go_enter Tryz.func108,Tryz.ntmps108
    go_wp2_with
     (first|(go_at_call 97;(with_reducible refine (more_first CK.out).mono ?_);rintro e w' ⟨rfl,t,rfl⟩)|(go_at_call 169;(with_reducible refine (more_call (CP.out _)).mono ?_);rintro e w' ⟨rfl,t2,rfl⟩))
    go_ret
    exact⟨by rw[HR.out]<;>rfl,by repeat (first|with_reducible exact HB.out|with_reducible refine blw ?_ (Nat.le_refl _))⟩
  ·have HR:Hid (codeC p c h s m bv own other v o a=codeM p c h s m own other v o true):=by unfold Hid codeC;rw[hcc,if_neg (fun hx=>by rw[hpa]at hx;cases hx.2)]
   rw[hpa]at CP;clear hcc hpa hv1 hv2
   rcases hk with hk|hk|hk
   all_goals
    rw[hk]at CK HR;clear hk
    go_enter Tryz.func108,Tryz.ntmps108
    go_wp2_with
     (first|(go_at_call 97;(with_reducible refine (more_first CK.out).mono ?_);rintro e w' ⟨rfl,t,rfl⟩)|(go_at_call 169;(with_reducible refine (more_call (CP.out _)).mono ?_);rintro e w' ⟨rfl,t2,rfl⟩))
    go_ret
    exact⟨by rw[HR.out]<;>rfl,by repeat (first|with_reducible exact HB.out|with_reducible refine blw ?_ (Nat.le_refl _))⟩
 ·have HR:Hid (codeC p c h s m bv own other v o a=codeM p c h s m own other v o true):=by unfold Hid codeC;rw[hcc,if_neg (fun hx=>hk hx.1)]
  generalize codeM p c h s m own other v o true=kk at *
  have b0:(kk == 0)=false:=by simp;omega
  have b3:(kk == 3)=false:=by simp;omega
  have b5:(kk == 5)=false:=by simp;omega
  clear hcc hk
  go_enter Tryz.func108,Tryz.ntmps108
  go_wp2_with (go_at_call 97;(with_reducible refine (more_first CK.out).mono ?_);rintro e w' ⟨rfl,t,rfl⟩)
  go_ret
  exact⟨by rw[HR.out]<;>rfl,by repeat (first|with_reducible exact HB.out|with_reducible refine blw ?_ (Nat.le_refl _))⟩
end Go.Proofs.YtgjapehpkakkbaaGreat
/- Contracts of the reference's equities for money. There are no conditions. -/
import Derived.Test.YtgjapehpkakkbaaGreatLM21
import Derived.Test.YtgjapehpkakkbaaGreatLM23
set_option linter.unusedVariables false
set_option linter.unusedSimpArgs false
namespace Go.Proofs.YtgjapehpkakkbaaGreat
open Go.RowKit Mo Ps Ra Ex
set_option maxRecDepth 100000 in
set_option maxHeartbeats 4000000 in
theorem l17Both_any (p c h s m:Int) (b j:Bool) (A B:Option Addr) (n k ca cb:Nat) (own other:List Int) (v o:Int) (w:World) (hA:SL w A n own) (hB:SL w B k other):
  Calls Tryz.prog 97 #[.agg #[.int .i64 p,.int .i64 c,.int .i64 h,.int .i64 s],.agg #[.int .i64 m,.bool b,.bool j],.slice A n ca,.slice B k cb,.agg #[.int .i64 v,.int .i64 o]] w fun e w'=>e = .returned (.int .i64 (codeM p c h s m own other v o true))∧Below w.heap.size w w':=by
 have HB:Hid (Below w.heap.size w (((w.alloc (.cells #[.int .i64 p,.int .i64 c,.int .i64 h,.int .i64 s] 25)).alloc (.cells #[.int .i64 m,.bool b,.bool j] 59)).alloc (.cells #[.int .i64 v,.int .i64 o] 62))):=(((Below.refl _ _).alloc (Nat.le_refl _) _).alloc (by simp) _).alloc (by simp;omega) _
 have HX:=Lib.hid (hA.below HB.out);have HY:=Lib.hid (hB.below HB.out);have HAL:=Lib.hid hA.1;have HBL:=Lib.hid hB.1;have CK:=Lib.hid (l17Code_any p c h s m b j A B n k ca cb own other v o _ HX.out HY.out);clear hA hB
 by_cases hcl:codeL p c h s m own other v o true=0
 ·obtain⟨hv,hr,hp1,hp2,hcu,_,hgi⟩:=codeL_ok hcl
  have hvv:=isVar_yes hv;have HP1:=Lib.hid (posB_yes hp1);have HP2:=Lib.hid (posB_yes hp2)
  have hn:n≤2000000:=by have:=HAL.out;have:=HP1.out.1;omega
  have hk:k≤2000000:=by have:=HBL.out;have:=HP2.out.1;omega
  have TOA:=Lib.hid fun (W:World) (hx:SL W A n own)=>l17Done_any A n ca own W hx HP1.out.2.1 hn
  have TOB:=Lib.hid fun (W:World) (hx:SL W B k other)=>l17Done_any B k cb other W hx HP2.out.2.1 hk
  have HRB:Hid (codeM p c h s m own other v o true=if (decide (own.sum=0)||decide (other.sum=0))=true then 5 else 0):=by
   unfold Hid codeM;rw[if_pos hcl];simp
  rw[hcl]at CK;clear hcl hv hr hp1 hp2 hcu hgi hvv HP1 HP2 hn hk HAL HBL
  rcases b1:decide (own.sum=0) with _|_
  all_goals
   rcases b2:decide (other.sum=0) with _|_
   all_goals
    have HR:=HRB;rw[b1,b2]at HR;rw[b1]at TOA;rw[b2]at TOB
    simp only[Bool.or_true,Bool.or_false,Bool.or_self,Bool.true_or,Bool.false_or,if_true,if_false,Bool.false_eq_true]at HR
    clear HRB b1 b2
    go_enter Tryz.func97,Tryz.ntmps97
    go_wp2_with (first
     | (go_at_call 90;(with_reducible refine (more_first CK.out).mono ?_);rintro e w' ⟨rfl,t,rfl⟩)
     | (go_at_call_of 91 A;(refine (TOA.out _ (HX.out.more _)).mono ?_);rintro e w' ⟨rfl,rfl⟩)
     | (go_at_call_of 91 B;(refine (TOB.out _ (HY.out.more _)).mono ?_);rintro e w' ⟨rfl,rfl⟩))
    go_ret
    exact⟨by rw[HR.out];rfl,by first|exact blw HB.out (Nat.le_refl _)|exact HB.out⟩
 ·have HR:Hid (codeM p c h s m own other v o true=codeL p c h s m own other v o true):=by unfold Hid codeM;rw[if_neg hcl]
  generalize codeM p c h s m own other v o true=kk2 at *;generalize codeL p c h s m own other v o true=kk at *
  have b0:(kk == 0)=false:=by simp[hcl]
  clear hcl
  go_enter Tryz.func97,Tryz.ntmps97
  go_wp2_with (go_at_call 90;(with_reducible refine (more_first CK.out).mono ?_);rintro e w' ⟨rfl,t,rfl⟩)
  go_ret
  exact⟨by rw[HR.out];rfl,by first|exact blw HB.out (Nat.le_refl _)|exact HB.out⟩
end Go.Proofs.YtgjapehpkakkbaaGreat
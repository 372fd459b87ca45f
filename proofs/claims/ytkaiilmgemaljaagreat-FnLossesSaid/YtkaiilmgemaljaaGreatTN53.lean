/- Part of one proof. There are no conditions. -/
import Derived.Test.YtkaiilmgemaljaaGreatTN52
set_option maxHeartbeats 0
set_option linter.unusedVariables false
set_option linter.unusedSimpArgs false
set_option maxRecDepth 100000
namespace Go.Proofs.YtkaiilmgemaljaaGreat
open Go.RowKit Ps Ra Ex
theorem l12Code_yes (p c h s ra rb:Int) (A B:Option Addr) (n m ca cb:Nat) (own other:List Int) (both:Bool) (w:World) (hA:SL w A n own) (hB:SL w B m other):
  Calls Tryz.prog 77 #[.agg #[.int .i64 p,.int .i64 c,.int .i64 h,.int .i64 s],.slice A n ca,.slice B m cb,.agg #[.int .i64 ra,.int .i64 rb],.bool true,.bool both] w fun e w'=>e = .returned (.int .i64 (codeK p c h s ra rb own other both))/\Below w.heap.size w w':=by
 have HB:Hid (Below w.heap.size w ((w.alloc (.cells #[.int .i64 p,.int .i64 c,.int .i64 h,.int .i64 s] 25)).alloc (.cells #[.int .i64 ra,.int .i64 rb] 39))):=((Below.refl _ _).alloc (Nat.le_refl _) _).alloc (by simp) _
 have HX:=h_ (hA.below HB.out);have HY:=h_ (hB.below HB.out)
 have CV:=h_ fun (W:World)=>ci p c h s W
 clear hA hB
 rcases hv:isVar p c h s with _|_
 ·have HR:Hid (codeK p c h s ra rb own other both=1):=by
   have:codeT p c h s [own,other]=1:=fN hv
   exact codeK_1 this
  have CV':Hid (∀W:World,Calls Tryz.prog 80 #[.agg #[.int .i64 p,.int .i64 c,.int .i64 h,.int .i64 s]] W fun e w'=>e = .returned (.bool false)/\Below W.heap.size W w'):=fun W=>by
   have:=CV.out W;rw[hv]at this;exact this
  clear CV hv
  go_enter Tryz.func77,Tryz.ntmps77
  go_wp2_with (go_at_call 80;(with_reducible refine (more_first (CV'.out _)).mono ?_);rintro e w' ⟨rfl,t,rfl⟩)
  go_ret
  exact⟨by rw[HR.out];rfl,by first|exact blw HB.out (Nat.le_refl _)|exact HB.out⟩
 ·have hp:=aw hv
  obtain⟨c',rfl⟩:∃c':Nat,c=c':=⟨c.toNat,by omega⟩
  obtain⟨h',rfl⟩:∃h':Nat,h=h':=⟨h.toNat,by omega⟩
  have CV':Hid (∀W:World,Calls Tryz.prog 80 #[.agg #[.int .i64 p,.int .i64 c',.int .i64 h',.int .i64 s]] W fun e w'=>e = .returned (.bool true)/\Below W.heap.size W w'):=fun W=>by
   have:=CV.out W;rw[hv]at this;exact this
  have CVA:=h_ fun (W:World) (hx:SL W A n own)=>ed p c' h' s A n ca own W hx (by omega) (by omega) (by omega)
  have CVB:=h_ fun (W:World) (hx:SL W B m other)=>ed p c' h' s B m cb other W hx (by omega) (by omega) (by omega)
  have CN0:=h_ fun (W:World)=>fY p s c' h' W hv
  rcases h1:posB h' c' own with _|_
  ·have HR:Hid (codeK p c' h' s ra rb own other both=2):=by
    have:codeT p c' h' s [own,other]=2:=iv (k:=0) hv (by simp) h1
    exact codeK_2 this
   rw[h1]at CVA;clear CV hv hp CN0 CVB
   go_enter Tryz.func77,Tryz.ntmps77
   go_wp2_with (first
    | (go_at_call 80;(with_reducible refine (more_first (CV'.out _)).mono ?_);rintro e w' ⟨rfl,t,rfl⟩)
    | (go_at_call 115;(refine (more_call (CVA.out _ (HX.out.more _))).mono ?_);rintro e w' ⟨rfl,ta,rfl⟩))
   go_ret
   exact⟨by rw[HR.out];rfl,by first|exact blw HB.out (Nat.le_refl _)|exact HB.out⟩
  ·rcases h2:posB h' c' other with _|_
   ·have HR:Hid (codeK p c' h' s ra rb own other both=2):=by
     have:codeT p c' h' s [own,other]=2:=iv (k:=1) hv (by simp) h2
     exact codeK_2 this
    rw[h1]at CVA;rw[h2]at CVB;clear CV hv hp CN0
    go_enter Tryz.func77,Tryz.ntmps77
    go_wp2_with (first
     | (go_at_call 80;(with_reducible refine (more_first (CV'.out _)).mono ?_);rintro e w' ⟨rfl,t,rfl⟩)
     | (go_at_call_of 115 A;(refine (more_call (CVA.out _ (HX.out.more _))).mono ?_);rintro e w' ⟨rfl,ta,rfl⟩)
     | (go_at_call_of 115 B;(refine (more_call (CVB.out _ (HY.out.more _))).mono ?_);rintro e w' ⟨rfl,tb,rfl⟩))
    go_ret
    exact⟨by rw[HR.out];rfl,by first|exact blw HB.out (Nat.le_refl _)|exact HB.out⟩
   ·have hT:codeT p c' h' s [own,other]=if wys h' c'<=500 then 0 else 3:=by
     have:=codeT_all (ps:=[own,other]) hv (fun j hj=>by
      have:j=0\/j=1:=by simp at hj;omega
      rcases this with rfl|rfl
      ·exact h1
      ·exact h2)
     simpa using this
    rw[h1]at CVA;rw[h2]at CVB
    have CR0:=h_ fun (W:World)=>ig p c' h' s ra rb W
    by_cases hro:rollB s ra rb=true
    rotate_left
    ·replace hro:rollB s ra rb=false:=by simpa using hro
     have HR:Hid (codeK p c' h' s ra rb own other both=2):=codeK_no hT hro
     have CRO:Hid (∀W:World,Calls Tryz.prog 100 #[.agg #[.int .i64 p,.int .i64 c',.int .i64 h',.int .i64 s],.agg #[.int .i64 ra,.int .i64 rb]] W fun e w'=>e = .returned (.bool false)/\Below W.heap.size W w'):=fun W=>by have:=CR0.out W;rwa [hro]at this
     clear CV hv hp CN0 h1 h2 hT hro CR0
     go_enter Tryz.func77,Tryz.ntmps77
     go_wp2_with (first
      | (go_at_call 80;(with_reducible refine (more_first (CV'.out _)).mono ?_);rintro e w' ⟨rfl,t,rfl⟩)
      | (go_at_call_of 115 A;(refine (more_call (CVA.out _ (HX.out.more _))).mono ?_);rintro e w' ⟨rfl,ta,rfl⟩)
      | (go_at_call_of 115 B;(refine (more_call (CVB.out _ (HY.out.more _))).mono ?_);rintro e w' ⟨rfl,tb,rfl⟩)
      | (go_at_call 100;(with_reducible refine (more_call (CRO.out _)).mono ?_);rintro e w' ⟨rfl,tr,rfl⟩))
     go_ret
     exact⟨by rw[HR.out];rfl,by first|exact blw HB.out (Nat.le_refl _)|exact HB.out⟩
    have CRO:Hid (∀W:World,Calls Tryz.prog 100 #[.agg #[.int .i64 p,.int .i64 c',.int .i64 h',.int .i64 s],.agg #[.int .i64 ra,.int .i64 rb]] W fun e w'=>e = .returned (.bool true)/\Below W.heap.size W w'):=fun W=>by have:=CR0.out W;rwa [hro]at this
    clear CR0;have HP1:=h_ (ba h1);have HP2:=h_ (ba h2)
    have hwb:=gH (k:=h') (m:=c') (by omega) (by omega)
    have HN1:Hid (n<=24):=by have:=HX.out.1;have:=HP1.out.1;unfold Hid;omega
    have HN2:Hid (m<=24):=by have:=HY.out.1;have:=HP2.out.1;unfold Hid;omega
    have SUA:=h_ fun (W:World) (hx:SL W A n own)=>bY A n ca own W hx HP1.out.2.1 (by have:=HP1.out.2.2;omega) (by have:=HN1.out;omega)
    have SUB:=h_ fun (W:World) (hx:SL W B m other)=>bY B m cb other W hx HP2.out.2.1 (by have:=HP2.out.2.2;omega) (by have:=HN2.out;omega)
    by_cases h5:wys h' c'<=500
    ·rw[if_pos h5]at hT
     have CN:Hid (∀W:World,Calls Tryz.prog 140 #[.agg #[.int .i64 p,.int .i64 c',.int .i64 h',.int .i64 s]] W fun e w'=>e = .returned (.int .i64 (wys h' c'))/\Below W.heap.size W w'):=fun W=>by
      have:=CN0.out W;rwa [dh (by omega)]at this
     have bi:inB (wys h' c':Int) 0 500=true:=aS (by omega)
     have HR0:Hid (codeK p c' h' s ra rb own other both=if (own.sum=0/\other.sum=0)\/(both=true/\(own.sum=0\/other.sum=0)) then 5 else 0):=by
      unfold Hid;rw[codeK_W hro];unfold codeW;rw[if_pos hT]
     clear CV hv hp CN0 h1 h2 hT hwb hro
     have HRB:Hid (codeK p c' h' s ra rb own other both=if (((own.sum == 0)&&(other.sum == 0))||(both&&((own.sum == 0)||(other.sum == 0))))=true then 5 else 0):=by unfold Hid;rw[HR0.out];simp
     clear HR0
     rcases b1:(own.sum == 0) with _|_
     all_goals
      rcases b2:(other.sum == 0) with _|_
      all_goals
       cases both
       all_goals
        have HR:=HRB;rw[b1,b2]at HR
        simp only[Bool.and_true,Bool.and_false,Bool.or_true,Bool.or_false,Bool.and_self,Bool.or_self,Bool.true_and,Bool.false_and,Bool.true_or,Bool.false_or,if_true,if_false,Bool.false_eq_true]at HR
        clear HRB;generalize own.sum=x1 at *;generalize other.sum=x2 at *
        go_enter Tryz.func77,Tryz.ntmps77
        go_wp2_with (first
         | (go_at_call 80;(with_reducible refine (more_first (CV'.out _)).mono ?_);rintro e w' ⟨rfl,t,rfl⟩)
         | (go_at_call_of 115 A;(refine (more_call (CVA.out _ (HX.out.more _))).mono ?_);rintro e w' ⟨rfl,ta,rfl⟩)
         | (go_at_call_of 115 B;(refine (more_call (CVB.out _ (HY.out.more _))).mono ?_);rintro e w' ⟨rfl,tb,rfl⟩)
         | (go_at_call 100;(with_reducible refine (more_call (CRO.out _)).mono ?_);rintro e w' ⟨rfl,tr,rfl⟩)
         | (go_at_call 140;(with_reducible refine (more_call (CN.out _)).mono ?_);rintro e w' ⟨rfl,tc,rfl⟩)
         | (go_at_call 134;refine (l01In_any _ _ _ _).mono ?_;rintro e w' ⟨rfl,rfl⟩)
         | (go_at_call_of 162 A;(refine (SUA.out _ (HX.out.more _)).mono ?_);rintro e w' ⟨rfl,rfl⟩)
         | (go_at_call_of 162 B;(refine (SUB.out _ (HY.out.more _)).mono ?_);rintro e w' ⟨rfl,rfl⟩))
        go_ret
        exact⟨by rw[HR.out];rfl,by first|exact blw HB.out (Nat.le_refl _)|exact HB.out⟩
    ·rw[if_neg h5]at hT
     have HR:Hid (codeK p c' h' s ra rb own other both=3):=by
      unfold Hid;rw[codeK_W hro];unfold codeW;rw[hT];rfl
     by_cases h6:wys h' c'<=1000000
     ·have CN:Hid (∀W:World,Calls Tryz.prog 140 #[.agg #[.int .i64 p,.int .i64 c',.int .i64 h',.int .i64 s]] W fun e w'=>e = .returned (.int .i64 (wys h' c'))/\Below W.heap.size W w'):=fun W=>by
       have:=CN0.out W;rwa [dh h6]at this
      have bi:inB (wys h' c':Int) 0 500=false:=bC (by omega)
      clear CV hv hp CN0 h1 h2 hT hwb hro
      go_enter Tryz.func77,Tryz.ntmps77
      go_wp2_with (first
       | (go_at_call 80;(with_reducible refine (more_first (CV'.out _)).mono ?_);rintro e w' ⟨rfl,t,rfl⟩)
       | (go_at_call_of 115 A;(refine (more_call (CVA.out _ (HX.out.more _))).mono ?_);rintro e w' ⟨rfl,ta,rfl⟩)
       | (go_at_call_of 115 B;(refine (more_call (CVB.out _ (HY.out.more _))).mono ?_);rintro e w' ⟨rfl,tb,rfl⟩)
       | (go_at_call 100;(with_reducible refine (more_call (CRO.out _)).mono ?_);rintro e w' ⟨rfl,tr,rfl⟩)
       | (go_at_call 140;(with_reducible refine (more_call (CN.out _)).mono ?_);rintro e w' ⟨rfl,tc,rfl⟩)
       | (go_at_call 134;refine (l01In_any _ _ _ _).mono ?_;rintro e w' ⟨rfl,rfl⟩))
      go_ret
      exact⟨by rw[HR.out];rfl,by first|exact blw HB.out (Nat.le_refl _)|exact HB.out⟩
     ·have CN:Hid (∀W:World,Calls Tryz.prog 140 #[.agg #[.int .i64 p,.int .i64 c',.int .i64 h',.int .i64 s]] W fun e w'=>e = .returned (.int .i64 (-1))/\Below W.heap.size W w'):=fun W=>by
       have:=CN0.out W;rwa [gJ h6]at this
      have bi:inB (-1:Int) 0 500=false:=bC (by omega)
      clear CV hv hp CN0 h1 h2 hT hwb hro
      go_enter Tryz.func77,Tryz.ntmps77
      go_wp2_with (first
       | (go_at_call 80;(with_reducible refine (more_first (CV'.out _)).mono ?_);rintro e w' ⟨rfl,t,rfl⟩)
       | (go_at_call_of 115 A;(refine (more_call (CVA.out _ (HX.out.more _))).mono ?_);rintro e w' ⟨rfl,ta,rfl⟩)
       | (go_at_call_of 115 B;(refine (more_call (CVB.out _ (HY.out.more _))).mono ?_);rintro e w' ⟨rfl,tb,rfl⟩)
       | (go_at_call 100;(with_reducible refine (more_call (CRO.out _)).mono ?_);rintro e w' ⟨rfl,tr,rfl⟩)
       | (go_at_call 140;(with_reducible refine (more_call (CN.out _)).mono ?_);rintro e w' ⟨rfl,tc,rfl⟩)
       | (go_at_call 134;refine (l01In_any _ _ _ _).mono ?_;rintro e w' ⟨rfl,rfl⟩))
      go_ret
      exact⟨by rw[HR.out];rfl,by first|exact blw HB.out (Nat.le_refl _)|exact HB.out⟩
end Go.Proofs.YtkaiilmgemaljaaGreat

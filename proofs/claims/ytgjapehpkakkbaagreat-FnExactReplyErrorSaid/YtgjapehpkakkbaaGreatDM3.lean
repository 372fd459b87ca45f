/- Part of one proof. There are no conditions. -/
import Derived.Test.YtgjapehpkakkbaaGreatDJ1
import Derived.Test.YtgjapehpkakkbaaGreatDZa
set_option linter.unusedVariables false
set_option linter.unusedSimpArgs false
namespace Go.Proofs.YtgjapehpkakkbaaGreat
open Go.RowKit Mo
/-! ### powers of two -/
def pwU (x m:Int):Bool:=(List.range 11).any fun k=>decide (x=two k∧two k≤m)
theorem pwU_yes {x m:Int}:pwU x m=true↔∃k,k≤10∧x=two k∧two k≤m:=by
 unfold pwU;rw[List.any_eq_true]
 constructor
 ·rintro⟨k,h1,h2⟩
  exact⟨k,by have:=List.mem_range.1 h1;omega,of_decide_eq_true h2⟩
 ·rintro⟨k,h1,h2⟩
  exact⟨k,List.mem_range.2 (by omega),decide_eq_true h2⟩
theorem two_bd {k:Nat} (h:k≤10):1≤two k∧two k≤1024:=⟨two_pos k,two_mono (b:=10) h⟩
theorem pwU_bd {x m:Int} (h:pwU x m=true):1≤x∧x≤m∧x≤1024:=by
 obtain⟨k,h1,h2,h3⟩:=pwU_yes.1 h;have:=two_bd h1
 omega
def andZ (x:Int):Int:=bits .and .i64 x (x-1)
theorem andZ_all:(List.range 1024).all (fun n=>decide ((andZ (n+1:Nat)=0)↔pwU (n+1:Nat) 1024=true))=true:=by decide +kernel
theorem andZ_pw {x:Int} (h1:1≤x) (h2:x≤1024):andZ x=0↔pwU x 1024=true:=by
 have h:=List.all_eq_true.1 andZ_all (x.toNat-1) (List.mem_range.2 (by omega))
 have e:((x.toNat-1+1:Nat):Int)=x:=by omega
 have h':=of_decide_eq_true h;rw[e]at h'
 exact h'
theorem pwU_le {x m:Int} (h1:1≤x) (h2:x≤m) (h3:m≤1024):pwU x m=pwU x 1024:=by
 rw[Bool.eq_iff_iff,pwU_yes,pwU_yes]
 constructor
 ·rintro⟨k,a,b,c⟩;exact⟨k,a,b,by omega⟩
 ·rintro⟨k,a,b,c⟩;exact⟨k,a,b,by omega⟩
theorem pwU_out {x m:Int} (h:¬(1≤x∧x≤m)):pwU x m=false:=by
 cases hp:pwU x m with
 | false=>rfl
 | true=>exact absurd (pwU_bd hp) (by omega)
theorem powerUpTo_any (x m:Int) (w:World) (hm:m≤1024):
  Calls Tryz.prog 195 #[.int .i64 x,.int .i64 m] w fun e w'=>e = .returned (.bool (pwU x m))∧w=w':=by
 by_cases hb:1≤x∧x≤m
 ·obtain⟨h1,h2⟩:=hb
  have e1:=inB_yes (x:=x) (lo:=1) (hi:=m) ⟨h1,h2⟩
  have hx4:x≤1024:=by omega
  have hz:=andZ_pw h1 hx4;have hle:=pwU_le h1 h2 hm
  by_cases hp:pwU x 1024=true
  ·have ez:(bits .and .i64 x (x-1) == 0)=true:=by
    have:bits .and .i64 x (x-1)=0:=hz.2 hp
    rw[this];rfl
   have H:Hid (pwU x m=true):=by unfold Hid;rw[hle,hp]
   clear hz hle hp
   go_enter Tryz.func195,Tryz.ntmps195
   go_wp2_with (go_at_call 167;refine (within_any _ _ _ _).mono ?_;rintro e w' ⟨rfl,rfl⟩)
   go_ret
   exact⟨by rw[H.out]<;>rfl,rfl⟩
  ·have hp':pwU x 1024=false:=by simpa using hp
   have ez:(bits .and .i64 x (x-1) == 0)=false:=by
    have:bits .and .i64 x (x-1)≠0:=fun h=>hp (hz.1 h)
    simpa using this
   have H:Hid (pwU x m=false):=by unfold Hid;rw[hle,hp']
   clear hz hle hp hp'
   go_enter Tryz.func195,Tryz.ntmps195
   go_wp2_with (go_at_call 167;refine (within_any _ _ _ _).mono ?_;rintro e w' ⟨rfl,rfl⟩)
   go_ret
   exact⟨by rw[H.out]<;>rfl,rfl⟩
 ·have e1:=inB_no hb
  have H:=h_ (pwU_out hb);clear hb
  go_enter Tryz.func195,Tryz.ntmps195
  go_wp2_with (go_at_call 167;refine (within_any _ _ _ _).mono ?_;rintro e w' ⟨rfl,rfl⟩)
  go_ret
  exact⟨by rw[H.out]<;>rfl,rfl⟩
set_option maxHeartbeats 1000000 in
theorem l16Power_any (x m:Int) (w:World) (hm:m≤1024):
  Calls Tryz.prog 192 #[.int .i64 x,.int .i64 m] w fun e w'=>e = .returned (.bool (pwU x m))∧w=w':=by
 have HT:Hid (∀k,two (k+1)=2*two k):=two_succ
 have HB:Hid (∀k,k≤10→1≤two k∧two k≤1024):=fun k h=>two_bd h
 have H11:Hid (two 11=2048):=rfl
 go_enter Tryz.func192,Tryz.ntmps192
 go_wp2
 go_loop [5] (fun v5=>∃(k:Nat) (p:Int),k≤11∧v5 = .int .i64 p∧Hid (p=two k)∧Hid (∀j,j<k→x≠two j)) (fun v5=>(2048-intOf v5).toNat)
 case atStart=>exact⟨0,1,by omega,rfl,rfl,fun j h=>absurd h (by omega)⟩
 case round=>
  obtain⟨k,p,hk,rfl,hp,hj⟩:=hrel
  have hp0:1≤p:=by rw[hp.out];exact two_pos k
  by_cases h11:k=11
  ·have hp2:p=2048:=by rw[hp.out,h11];exact H11.out
   have H:Hid (pwU x m=false):=by
    unfold Hid
    cases h:pwU x m with
    | false=>rfl
    | true =>
      obtain ⟨j, a, b, c⟩ := pwU_yes.1 h
      exact absurd b (hj.out j (by omega))
   have hlt:¬p≤m:=by omega
   clear hp2 hp
   go_wp2
   go_ret
   exact⟨by rw[H.out]<;>rfl,rfl⟩
  ·have hb:=HB.out k (by omega)
   rw[← hp.out]at hb
   by_cases hle:p≤m
   ·by_cases hx:p=x
    ·subst hx
     have H:Hid (pwU p m=true):=pwU_yes.2 ⟨k,by omega,hp.out,by rw[← hp.out];exact hle⟩
     go_wp2
     go_ret
     exact⟨by rw[H.out]<;>rfl,rfl⟩
    ·have bx:(p == x)=false:=by simpa using hx
     have HX:Hid (x≠p):=Ne.symm hx;clear hx
     go_wp2
     go_round
     case rel=>exact⟨k+1,2*p,by omega,rfl,by unfold Hid;rw[HT.out,hp.out],fun j hjk=>by
      by_cases e:j=k
      ·rw[e,← hp.out];exact HX.out
      ·exact hj.out j (by omega)⟩
     case measure=>simp[intOf];omega
   ·have H:Hid (pwU x m=false):=by
     unfold Hid
     cases h:pwU x m with
     | false=>rfl
     | true =>
       obtain ⟨j, a, b, c⟩ := pwU_yes.1 h
       have hjk : ¬ j < k := fun h => hj.out j h b
       have := two_mono (show k ≤ j by omega)
       rw [← hp.out] at this
       omega
    go_wp2
    go_ret
    exact⟨by rw[H.out]<;>rfl,rfl⟩
/-! ### rules, cubes -/
def rulB (m:Int):Bool:=pwU m 1024
theorem rulB_bd {m:Int} (h:rulB m=true):1≤m∧m≤1024:=by have:=pwU_bd h;omega
def cubB (m v o:Int):Bool:=rulB m&&pwU v m&&(if v=1 then decide (o=0) else decide (1≤o∧o≤2))
theorem IsCubeRules_any (m:Int) (b j:Bool) (w:World):
  Calls Tryz.prog 157 #[.agg #[.int .i64 m,.bool b,.bool j]] w fun e w'=>e = .returned (.bool (rulB m))∧Below w.heap.size w w':=by
 go_enter Tryz.func157,Tryz.ntmps157
 go_wp2_with (go_at_call 195;refine (powerUpTo_any _ _ _ (by omega)).mono ?_;rintro e w' ⟨rfl,rfl⟩)
 go_ret
 exact⟨rfl,(Below.refl _ _).alloc (Nat.le_refl _) _⟩
theorem sIsCubeRules_any (m:Int) (b j:Bool) (w:World):
  Calls Tryz.prog 147 #[.agg #[.int .i64 m,.bool b,.bool j]] w fun e w'=>e = .returned (.bool (rulB m))∧Below w.heap.size w w':=by
 go_enter Tryz.func147,Tryz.ntmps147
 go_wp2_with (go_at_call 192;refine (l16Power_any _ _ _ (by omega)).mono ?_;rintro e w' ⟨rfl,rfl⟩)
 go_ret
 exact⟨rfl,(Below.refl _ _).alloc (Nat.le_refl _) _⟩
theorem cubB_no1 {m v o:Int} (h:rulB m=false):cubB m v o=false:=by unfold cubB;rw[h];rfl
theorem cubB_no2 {m v o:Int} (h:pwU v m=false):cubB m v o=false:=by unfold cubB;rw[h];cases rulB m<;>rfl
theorem cubB_at {m v o:Int} (h1:rulB m=true) (h2:pwU v m=true):cubB m v o=if v=1 then decide (o=0) else decide (1≤o∧o≤2):=by unfold cubB;rw[h1,h2];rfl
set_option maxHeartbeats 1000000 in
theorem IsCube_any (m:Int) (b j:Bool) (v o:Int) (w:World):
  Calls Tryz.prog 158 #[.agg #[.int .i64 m,.bool b,.bool j],.agg #[.int .i64 v,.int .i64 o]] w fun e w'=>e = .returned (.bool (cubB m v o))∧Below w.heap.size w w':=by
 have HB:Hid (Below w.heap.size w ((w.alloc (.cells #[.int .i64 m,.bool b,.bool j] 59)).alloc (.cells #[.int .i64 v,.int .i64 o] 62))):=((Below.refl _ _).alloc (Nat.le_refl _) _).alloc (by simp) _
 by_cases h1:rulB m=true
 ·have hm:=rulB_bd h1
  by_cases h2:pwU v m=true
  ·have hc:=cubB_at (o:=o) h1 h2
   by_cases hv:v=1
   ·have bv:(v == 1)=true:=by simp[hv]
    rw[if_pos hv]at hc
    have H:Hid (cubB m v o=(o == 0)):=by unfold Hid;rw[hc];rfl
    clear hv hc
    go_enter Tryz.func158,Tryz.ntmps158
    go_wp2_with (first|(go_at_call 157;refine (more_first (IsCubeRules_any _ _ _ _)).mono ?_;rintro e w' ⟨rfl,t,rfl⟩)|(go_at_call 195;refine (powerUpTo_any _ _ _ (by omega)).mono ?_;rintro e w' ⟨rfl,rfl⟩)|(go_at_call 167;refine (within_any _ _ _ _).mono ?_;rintro e w' ⟨rfl,rfl⟩))
    go_ret
    exact⟨by rw[H.out]<;>rfl,HB.out.trans ((below_more _ _).mono HB.out.size)⟩
   ·have bv:(v == 1)=false:=by simp[hv]
    rw[if_neg hv]at hc;have H:Hid (cubB m v o=inB o 1 2):=hc;clear hv hc
    go_enter Tryz.func158,Tryz.ntmps158
    go_wp2_with (first|(go_at_call 157;refine (more_first (IsCubeRules_any _ _ _ _)).mono ?_;rintro e w' ⟨rfl,t,rfl⟩)|(go_at_call 195;refine (powerUpTo_any _ _ _ (by omega)).mono ?_;rintro e w' ⟨rfl,rfl⟩)|(go_at_call 167;refine (within_any _ _ _ _).mono ?_;rintro e w' ⟨rfl,rfl⟩))
    go_ret
    exact⟨by rw[H.out]<;>rfl,HB.out.trans ((below_more _ _).mono HB.out.size)⟩
  ·replace h2:pwU v m=false:=by simpa using h2
   have H:=h_ (cubB_no2 (o:=o) h2)
   go_enter Tryz.func158,Tryz.ntmps158
   go_wp2_with (first|(go_at_call 157;refine (more_first (IsCubeRules_any _ _ _ _)).mono ?_;rintro e w' ⟨rfl,t,rfl⟩)|(go_at_call 195;refine (powerUpTo_any _ _ _ (by omega)).mono ?_;rintro e w' ⟨rfl,rfl⟩)|(go_at_call 167;refine (within_any _ _ _ _).mono ?_;rintro e w' ⟨rfl,rfl⟩))
   go_ret
   exact⟨by rw[H.out]<;>rfl,HB.out.trans ((below_more _ _).mono HB.out.size)⟩
 ·replace h1:rulB m=false:=by simpa using h1
  have H:=h_ (cubB_no1 (v:=v) (o:=o) h1)
  go_enter Tryz.func158,Tryz.ntmps158
  go_wp2_with (first|(go_at_call 157;refine (more_first (IsCubeRules_any _ _ _ _)).mono ?_;rintro e w' ⟨rfl,t,rfl⟩)|(go_at_call 195;refine (powerUpTo_any _ _ _ (by omega)).mono ?_;rintro e w' ⟨rfl,rfl⟩)|(go_at_call 167;refine (within_any _ _ _ _).mono ?_;rintro e w' ⟨rfl,rfl⟩))
  go_ret
  exact⟨by rw[H.out]<;>rfl,HB.out.trans ((below_more _ _).mono HB.out.size)⟩
set_option maxHeartbeats 1000000 in
theorem sIsCube_any (m:Int) (b j:Bool) (v o:Int) (w:World):
  Calls Tryz.prog 149 #[.agg #[.int .i64 m,.bool b,.bool j],.agg #[.int .i64 v,.int .i64 o]] w fun e w'=>e = .returned (.bool (cubB m v o))∧Below w.heap.size w w':=by
 have HB:Hid (Below w.heap.size w ((w.alloc (.cells #[.int .i64 m,.bool b,.bool j] 59)).alloc (.cells #[.int .i64 v,.int .i64 o] 62))):=((Below.refl _ _).alloc (Nat.le_refl _) _).alloc (by simp) _
 by_cases h1:rulB m=true
 ·have hm:=rulB_bd h1
  by_cases h2:pwU v m=true
  ·have hc:=cubB_at (o:=o) h1 h2
   by_cases hv:v=1
   ·have bv:(v == 1)=true:=by simp[hv]
    rw[if_pos hv]at hc
    have H:Hid (cubB m v o=(o == 0)):=by unfold Hid;rw[hc];rfl
    clear hv hc
    go_enter Tryz.func149,Tryz.ntmps149
    go_wp2_with (first|(go_at_call 147;refine (more_first (sIsCubeRules_any _ _ _ _)).mono ?_;rintro e w' ⟨rfl,t,rfl⟩)|(go_at_call 192;refine (l16Power_any _ _ _ (by omega)).mono ?_;rintro e w' ⟨rfl,rfl⟩))
    go_ret
    exact⟨by rw[H.out]<;>rfl,HB.out.trans ((below_more _ _).mono HB.out.size)⟩
   ·have bv:(v == 1)=false:=by simp[hv]
    rw[if_neg hv]at hc
    by_cases ho:o=1
    ·have H:Hid (cubB m v o=true):=by unfold Hid;rw[hc];exact decide_eq_true (by omega)
     have bo:(o == 1)=true:=by simp[ho]
     clear hv hc ho
     go_enter Tryz.func149,Tryz.ntmps149
     go_wp2_with (first|(go_at_call 147;refine (more_first (sIsCubeRules_any _ _ _ _)).mono ?_;rintro e w' ⟨rfl,t,rfl⟩)|(go_at_call 192;refine (l16Power_any _ _ _ (by omega)).mono ?_;rintro e w' ⟨rfl,rfl⟩))
     go_ret
     exact⟨by rw[H.out]<;>rfl,HB.out.trans ((below_more _ _).mono HB.out.size)⟩
    ·have H:Hid (cubB m v o=(o == 2)):=by
      unfold Hid;rw[hc]
      by_cases h:o=2
      ·simp[h]
      ·have:(o == 2)=false:=by simpa using h
       rw[this];exact decide_eq_false (by omega)
     have bo:(o == 1)=false:=by simp[ho]
     clear hv hc ho
     go_enter Tryz.func149,Tryz.ntmps149
     go_wp2_with (first|(go_at_call 147;refine (more_first (sIsCubeRules_any _ _ _ _)).mono ?_;rintro e w' ⟨rfl,t,rfl⟩)|(go_at_call 192;refine (l16Power_any _ _ _ (by omega)).mono ?_;rintro e w' ⟨rfl,rfl⟩))
     go_ret
     exact⟨by rw[H.out]<;>rfl,HB.out.trans ((below_more _ _).mono HB.out.size)⟩
  ·replace h2:pwU v m=false:=by simpa using h2
   have H:=h_ (cubB_no2 (o:=o) h2)
   go_enter Tryz.func149,Tryz.ntmps149
   go_wp2_with (first|(go_at_call 147;refine (more_first (sIsCubeRules_any _ _ _ _)).mono ?_;rintro e w' ⟨rfl,t,rfl⟩)|(go_at_call 192;refine (l16Power_any _ _ _ (by omega)).mono ?_;rintro e w' ⟨rfl,rfl⟩))
   go_ret
   exact⟨by rw[H.out]<;>rfl,HB.out.trans ((below_more _ _).mono HB.out.size)⟩
 ·replace h1:rulB m=false:=by simpa using h1
  have H:=h_ (cubB_no1 (v:=v) (o:=o) h1)
  go_enter Tryz.func149,Tryz.ntmps149
  go_wp2_with (first|(go_at_call 147;refine (more_first (sIsCubeRules_any _ _ _ _)).mono ?_;rintro e w' ⟨rfl,t,rfl⟩)|(go_at_call 192;refine (l16Power_any _ _ _ (by omega)).mono ?_;rintro e w' ⟨rfl,rfl⟩))
  go_ret
  exact⟨by rw[H.out]<;>rfl,HB.out.trans ((below_more _ _).mono HB.out.size)⟩
theorem rulB_two {m:Int} (h:rulB m=true):∃K,K≤10∧m=two K:=by
 obtain⟨k,h1,h2,_⟩:=pwU_yes.1 h
 exact⟨k,h1,h2⟩
theorem cubB_ok {K:Nat} {v o:Int} (h:cubB (two K) v o=true):CbOk K (v,o):=by
 unfold cubB at h
 simp only[Bool.and_eq_true]at h
 obtain⟨⟨_,h2⟩,h3⟩:=h;obtain⟨k,a,b,c⟩:=pwU_yes.1 h2
 have hk:k≤K:=by
  apply Classical.byContradiction
  intro hn
  have:=two_mono (show K+1≤k by omega)
  have:=two_pos K;rw[two_succ]at *
  omega
 refine⟨k,hk,b,?_⟩
 by_cases k0:k=0
 ·subst k0
  have:v=1:=b;rw[if_pos this]at h3
  exact .inl ⟨rfl,of_decide_eq_true h3⟩
 ·have:v≠1:=by
   have:=two_mono (show 1≤k by omega)
   have e:two 1=2:=rfl
   omega
  rw[if_neg this]at h3;have:=of_decide_eq_true h3
  exact .inr ⟨by omega,by show o=1∨o=2;omega⟩
end Go.Proofs.YtgjapehpkakkbaaGreat
/- Contracts of what a game for money is, and of positions without checkers. There are no conditions beyond those that each states. -/
import Derived.Test.YtgjapehpkakkbaaGreatLM5
import Derived.Test.YtgjapehpkakkbaaGreatLZc
import Derived.Test.YtgjapehpkakkbaaGreatLZm
import Derived.IntWalk
set_option linter.unusedVariables false
set_option linter.unusedSimpArgs false
namespace Go.Proofs.YtgjapehpkakkbaaGreat
open Go.RowKit Mo Ps
set_option maxHeartbeats 2000000 in
theorem IsMoneyGame_any (p:Int) (c h s K:Nat) (b j:Bool) (w:World) (hv:isVar p c h s=true) (hK:K≤10):
  Calls Tryz.prog 159 #[.agg #[.int .i64 p,.int .i64 c,.int .i64 h,.int .i64 s],.agg #[.int .i64 (two K),.bool b,.bool j]] w fun e w'=>e = .returned (.bool (gamB h c K))∧Below w.heap.size w w':=by
 have hvv:=isVar_yes hv
 have CN:=Lib.hid fun (W:World)=>BearoffCount_any p s c h W hv
 have CC:=Lib.hid fun (W:World)=>CubeCount_any K b j W hK
 have hr:rulB (two K)=true:=pwU_yes.2 ⟨K,hK,rfl,(two_bd hK).2⟩;have hcb:=cntC_bd hK
 have HB:Hid (Below w.heap.size w ((w.alloc (.cells #[.int .i64 p,.int .i64 c,.int .i64 h,.int .i64 s] 25)).alloc (.cells #[.int .i64 (two K),.bool b,.bool j] 59))):=((Below.refl _ _).alloc (Nat.le_refl _) _).alloc (by simp) _
 have hpos:1≤wys h c:=wys_pos _ _;have HG:Hid (gamB h c K=decide (wys h c≤20000∧((wys h c*wys h c:Nat):Int)*cntC K≤20000)):=rfl
 by_cases hmil:wys h c≤1000000
 rotate_left
 ·have H:Hid (gamB h c K=false):=by unfold Hid;rw[HG.out];exact decide_eq_false fun h=>by omega
  rw[wysC_no hmil]at CN;clear HG hpos hmil hvv hv;generalize gamB h c K=g at *;generalize two K=m at *
  go_enter Tryz.func159,Tryz.ntmps159
  go_wp2_with (first|(go_at_call 122;(with_reducible refine (more_first (CN.out _)).mono ?_);rintro e w' ⟨rfl,t,rfl⟩)|(go_at_call 157;(with_reducible refine (more_call (IsCubeRules_any _ _ _ _)).mono ?_);rintro e w' ⟨rfl,t,rfl⟩)|(go_at_call 196;(with_reducible refine (more_call (CC.out _)).mono ?_);rintro e w' ⟨rfl,t,rfl⟩))
  go_ret
  exact⟨by rw[H.out]<;>rfl,HB.out.trans ((below_more _ _).mono HB.out.size)⟩
 rw[wysC_ok hmil]at CN;generalize gamB h c K=g at *;generalize wys h c=N at *;generalize cntC K=cn at *;generalize two K=m at *;clear hvv hv
 by_cases hN:N≤20000
 ·have hmul:N*N≤20000*20000:=Nat.mul_le_mul hN hN
  have hw1:IntKind.i64.wrap ((N:Int)*(N:Int))=((N*N:Nat):Int):=by
   rw[← Int.natCast_mul];exact IntWalk.i64_in _ (by omega)
  obtain⟨M,hM⟩:∃M:Nat,M=N*N:=⟨_,rfl⟩;rw[← hM]at hw1 hmul HG
  have hm2:(M:Int)*cn≤400000000*21:=Int.mul_le_mul (by omega) hcb.2 (by omega) (by omega)
  have hm0:0≤(M:Int)*cn:=Int.mul_nonneg (by omega) (by omega)
  obtain⟨P,hPd⟩:∃P:Int,P=(M:Int)*cn:=⟨_,rfl⟩
  have hw2:IntKind.i64.wrap ((M:Int)*cn)=P:=by rw[hPd];exact IntWalk.i64_in _ (by omega)
  rw[← hPd]at hm2 hm0 HG;clear hPd
  by_cases hP:P≤20000
  ·have H:Hid (g=true):=by unfold Hid;rw[HG.out];exact decide_eq_true ⟨hN,hP⟩
   clear hM hm2 hmul
   go_enter Tryz.func159,Tryz.ntmps159
   go_wp2_with (first|(go_at_call 122;(with_reducible refine (more_first (CN.out _)).mono ?_);rintro e w' ⟨rfl,t,rfl⟩)|(go_at_call 157;(with_reducible refine (more_call (IsCubeRules_any _ _ _ _)).mono ?_);rintro e w' ⟨rfl,t,rfl⟩)|(go_at_call 196;(with_reducible refine (more_call (CC.out _)).mono ?_);rintro e w' ⟨rfl,t,rfl⟩))
   go_ret
   exact⟨by rw[H.out]<;>rfl,HB.out.trans ((below_more _ _).mono HB.out.size)⟩
  ·have H:Hid (g=false):=by unfold Hid;rw[HG.out];exact decide_eq_false fun h=>hP h.2
   have dP:=decide_eq_false hP;clear hM hm2 hmul
   go_enter Tryz.func159,Tryz.ntmps159
   go_wp2_with (first|(go_at_call 122;(with_reducible refine (more_first (CN.out _)).mono ?_);rintro e w' ⟨rfl,t,rfl⟩)|(go_at_call 157;(with_reducible refine (more_call (IsCubeRules_any _ _ _ _)).mono ?_);rintro e w' ⟨rfl,t,rfl⟩)|(go_at_call 196;(with_reducible refine (more_call (CC.out _)).mono ?_);rintro e w' ⟨rfl,t,rfl⟩))
   go_ret
   exact⟨by rw[H.out]<;>rfl,HB.out.trans ((below_more _ _).mono HB.out.size)⟩
 ·have H:Hid (g=false):=by unfold Hid;rw[HG.out];exact decide_eq_false fun h=>hN h.1
  have hNi:¬(N:Int)≤20000:=by omega
  have dN:=decide_eq_false hNi;clear hNi
  go_enter Tryz.func159,Tryz.ntmps159
  go_wp2_with (first|(go_at_call 122;(with_reducible refine (more_first (CN.out _)).mono ?_);rintro e w' ⟨rfl,t,rfl⟩)|(go_at_call 157;(with_reducible refine (more_call (IsCubeRules_any _ _ _ _)).mono ?_);rintro e w' ⟨rfl,t,rfl⟩)|(go_at_call 196;(with_reducible refine (more_call (CC.out _)).mono ?_);rintro e w' ⟨rfl,t,rfl⟩))
  go_ret
  exact⟨by rw[H.out]<;>rfl,HB.out.trans ((below_more _ _).mono HB.out.size)⟩
set_option maxHeartbeats 2000000 in
theorem sIsMoneyGame_any (p:Int) (c h s K:Nat) (b j:Bool) (w:World) (hv:isVar p c h s=true) (hK:K≤10):
  Calls Tryz.prog 150 #[.agg #[.int .i64 p,.int .i64 c,.int .i64 h,.int .i64 s],.agg #[.int .i64 (two K),.bool b,.bool j]] w fun e w'=>e = .returned (.bool (gamB h c K))∧Below w.heap.size w w':=by
 have hvv:=isVar_yes hv
 have CN:=Lib.hid fun (W:World)=>sBearoffCount_any p s c h W hv
 have CC:=Lib.hid fun (W:World)=>sCubeCount_any K b j W hK
 have hr:rulB (two K)=true:=pwU_yes.2 ⟨K,hK,rfl,(two_bd hK).2⟩;have hcb:=cntC_bd hK
 have HB:Hid (Below w.heap.size w ((w.alloc (.cells #[.int .i64 p,.int .i64 c,.int .i64 h,.int .i64 s] 25)).alloc (.cells #[.int .i64 (two K),.bool b,.bool j] 59))):=((Below.refl _ _).alloc (Nat.le_refl _) _).alloc (by simp) _
 have hpos:1≤wys h c:=wys_pos _ _;have HG:Hid (gamB h c K=decide (wys h c≤20000∧((wys h c*wys h c:Nat):Int)*cntC K≤20000)):=rfl
 by_cases hmil:wys h c≤1000000
 rotate_left
 ·have H:Hid (gamB h c K=false):=by unfold Hid;rw[HG.out];exact decide_eq_false fun h=>by omega
  rw[wysC_no hmil]at CN;clear HG hpos hmil hvv hv;generalize gamB h c K=g at *;generalize two K=m at *
  go_enter Tryz.func150,Tryz.ntmps150
  go_wp2_with (first|(go_at_call 128;(with_reducible refine (more_first (CN.out _)).mono ?_);rintro e w' ⟨rfl,t,rfl⟩)|(go_at_call 147;(with_reducible refine (more_call (sIsCubeRules_any _ _ _ _)).mono ?_);rintro e w' ⟨rfl,t,rfl⟩)|(go_at_call 151;(with_reducible refine (more_call (CC.out _)).mono ?_);rintro e w' ⟨rfl,t,rfl⟩))
  go_ret
  exact⟨by rw[H.out]<;>rfl,HB.out.trans ((below_more _ _).mono HB.out.size)⟩
 rw[wysC_ok hmil]at CN;generalize gamB h c K=g at *;generalize wys h c=N at *;generalize cntC K=cn at *;generalize two K=m at *;clear hvv hv
 by_cases hN:N≤20000
 ·have hmul:N*N≤20000*20000:=Nat.mul_le_mul hN hN
  have hw1:IntKind.i64.wrap ((N:Int)*(N:Int))=((N*N:Nat):Int):=by
   rw[← Int.natCast_mul];exact IntWalk.i64_in _ (by omega)
  obtain⟨M,hM⟩:∃M:Nat,M=N*N:=⟨_,rfl⟩;rw[← hM]at hw1 hmul HG
  have hm2:(M:Int)*cn≤400000000*21:=Int.mul_le_mul (by omega) hcb.2 (by omega) (by omega)
  have hm0:0≤(M:Int)*cn:=Int.mul_nonneg (by omega) (by omega)
  obtain⟨P,hPd⟩:∃P:Int,P=(M:Int)*cn:=⟨_,rfl⟩
  have hw2:IntKind.i64.wrap ((M:Int)*cn)=P:=by rw[hPd];exact IntWalk.i64_in _ (by omega)
  rw[← hPd]at hm2 hm0 HG;clear hPd
  by_cases hP:P≤20000
  ·have H:Hid (g=true):=by unfold Hid;rw[HG.out];exact decide_eq_true ⟨hN,hP⟩
   clear hM hm2 hmul
   go_enter Tryz.func150,Tryz.ntmps150
   go_wp2_with (first|(go_at_call 128;(with_reducible refine (more_first (CN.out _)).mono ?_);rintro e w' ⟨rfl,t,rfl⟩)|(go_at_call 147;(with_reducible refine (more_call (sIsCubeRules_any _ _ _ _)).mono ?_);rintro e w' ⟨rfl,t,rfl⟩)|(go_at_call 151;(with_reducible refine (more_call (CC.out _)).mono ?_);rintro e w' ⟨rfl,t,rfl⟩))
   go_ret
   exact⟨by rw[H.out]<;>rfl,HB.out.trans ((below_more _ _).mono HB.out.size)⟩
  ·have H:Hid (g=false):=by unfold Hid;rw[HG.out];exact decide_eq_false fun h=>hP h.2
   have dP:=decide_eq_false hP;clear hM hm2 hmul
   go_enter Tryz.func150,Tryz.ntmps150
   go_wp2_with (first|(go_at_call 128;(with_reducible refine (more_first (CN.out _)).mono ?_);rintro e w' ⟨rfl,t,rfl⟩)|(go_at_call 147;(with_reducible refine (more_call (sIsCubeRules_any _ _ _ _)).mono ?_);rintro e w' ⟨rfl,t,rfl⟩)|(go_at_call 151;(with_reducible refine (more_call (CC.out _)).mono ?_);rintro e w' ⟨rfl,t,rfl⟩))
   go_ret
   exact⟨by rw[H.out]<;>rfl,HB.out.trans ((below_more _ _).mono HB.out.size)⟩
 ·have H:Hid (g=false):=by unfold Hid;rw[HG.out];exact decide_eq_false fun h=>hN h.1
  have hNi:¬(N:Int)≤20000:=by omega
  have dN:=decide_eq_false hNi;clear hNi
  go_enter Tryz.func150,Tryz.ntmps150
  go_wp2_with (first|(go_at_call 128;(with_reducible refine (more_first (CN.out _)).mono ?_);rintro e w' ⟨rfl,t,rfl⟩)|(go_at_call 147;(with_reducible refine (more_call (sIsCubeRules_any _ _ _ _)).mono ?_);rintro e w' ⟨rfl,t,rfl⟩)|(go_at_call 151;(with_reducible refine (more_call (CC.out _)).mono ?_);rintro e w' ⟨rfl,t,rfl⟩))
  go_ret
  exact⟨by rw[H.out]<;>rfl,HB.out.trans ((below_more _ _).mono HB.out.size)⟩
/-! ### positions without checkers -/
theorem sum_zero_iff {xs:List Int} (hp:∀x∈xs,0≤x):xs.sum=0↔∀x∈xs,x=0:=by
 induction xs with
 | nil=>simp
 | cons a l ih =>
   have ha := hp a (by simp)
   have hl : ∀ x ∈ l, 0 ≤ x := fun x hx => hp x (by simp [hx])
   have hs : 0 ≤ l.sum := by
     clear ih
     induction l with
     | nil => simp
     | cons b l ih2 =>
       have := hl b (by simp)
       have := ih2 (fun x hx => hp x (by rcases List.mem_cons.1 hx with h | h <;> simp [h])) (fun x hx => hl x (by simp [hx]))
       simp; omega
   simp only [List.sum_cons, List.mem_cons, forall_eq_or_imp]
   rw [← ih hl]
   omega
set_option maxHeartbeats 1000000 in
theorem l17Done_any (A:Option Addr) (n c:Nat) (xs:List Int) (w:World) (hx:SL w A n xs) (hp:∀x∈xs,0≤x) (hn:n≤2000000):
  Calls Tryz.prog 91 #[.slice A n c] w fun e w'=>e = .returned (.bool (decide (xs.sum=0)))∧w=w':=by
 have HX:=Lib.hid hx;have HP:=Lib.hid hp;have HS:=Lib.hid (sum_zero_iff hp);clear hx hp
 go_enter Tryz.func91,Tryz.ntmps91
 go_wp2
 go_loop [3] (fun v3=>∃k:Nat,k≤n∧v3 = .int .i64 k∧Hid (∀j,j<k→xs.getD j 0=0)) (fun v3=>n-(intOf v3).toNat)
 case atStart=>exact⟨0,by omega,rfl,fun j h=>absurd h (by omega)⟩
 case round=>
  obtain⟨k,hk,rfl,HJ⟩:=hrel
  by_cases hlt:k<n
  ·have hki:(k:Int)<(n:Int):=by omega
   obtain⟨bl,ol,hA,hz,hcell⟩:=HX.out.2 (by omega)
   have hc:=hcell k hlt;subst hA;clear hcell;have hlen:=HX.out.1
   have hmem:xs.getD k 0∈xs:=by
    rw[List.getD_eq_getElem?_getD,List.getElem?_eq_getElem (by omega)];exact List.getElem_mem _
   have h0:=HP.out _ hmem;have HM:=Lib.hid hmem;clear hlen hmem;generalize hx:xs.getD k 0=x at *;have HE:=Lib.hid hx;clear hx
   by_cases hpos:0<x
   ·have H:Hid (decide (xs.sum=0)=false):=decide_eq_false fun h=>by
     have:=HS.out.1 h x HM.out
     omega
    clear HM
    go_wp2
    go_ret
    exact⟨by rw[H.out]<;>rfl,rfl⟩
   ·have hx0:x=0:=by omega
    clear HM
    go_wp2
    go_round
    case rel=>exact⟨k+1,by omega,by go_num,fun j hj=>by
     by_cases e:j=k
     ·rw[e,HE.out,hx0]
     ·exact HJ.out j (by omega)⟩
    case measure=>simp[intOf];omega
  ·have hke:k=n:=by omega
   have H:Hid (decide (xs.sum=0)=true):=decide_eq_true (HS.out.2 fun x hx=>by
    obtain⟨i,hi,rfl⟩:=List.mem_iff_getElem.1 hx
    have:=HJ.out i (by have:=HX.out.1;omega)
    rwa [List.getD_eq_getElem?_getD,List.getElem?_eq_getElem hi]at this)
   go_wp2
   go_ret
   exact⟨by rw[H.out]<;>rfl,rfl⟩
end Go.Proofs.YtgjapehpkakkbaaGreat
/- Contracts of a database's kind and size, the reference's. There are no conditions beyond those that each states. -/
import Derived.Test.YtkaiilmgemaljaaGreatPR9
import Derived.Test.YtkaiilmgemaljaaGreatPR12
set_option linter.unusedVariables false
set_option linter.unusedSimpArgs false
namespace Go.Proofs.YtkaiilmgemaljaaGreat
open Go.RowKit Ps Ra Ex
set_option maxRecDepth 100000 in
theorem l13Kind_any (k:Int) (w:World):Calls Tryz.prog 138 #[.int .i64 k] w fun e w'=>e = .returned (.bool (decide (k=1∨k=2)))∧w=w':=by
 by_cases h1:k=1
 ·have HR:Hid (decide (k=1∨k=2)=true):=decide_eq_true (.inl h1)
  have b1:(k == 1)=true:=by simp[h1]
  clear h1;generalize decide (k=1∨k=2)=r at *
  go_enter Tryz.func138,Tryz.ntmps138
  go_wp2_with (fail)
  go_ret
  exact⟨by rw[HR.out];rfl,rfl⟩
 ·by_cases h2:k=2
  ·have HR:Hid (decide (k=1∨k=2)=true):=decide_eq_true (.inr h2)
   have b1:(k == 1)=false:=by simp[h1]
   have b2:(k == 2)=true:=by simp[h2]
   clear h1 h2;generalize decide (k=1∨k=2)=r at *
   go_enter Tryz.func138,Tryz.ntmps138
   go_wp2_with (fail)
   go_ret
   exact⟨by rw[HR.out];rfl,rfl⟩
  ·have HR:Hid (decide (k=1∨k=2)=false):=decide_eq_false (by omega)
   have b1:(k == 1)=false:=by simp[h1]
   have b2:(k == 2)=false:=by simp[h2]
   clear h1 h2;generalize decide (k=1∨k=2)=r at *
   go_enter Tryz.func138,Tryz.ntmps138
   go_wp2_with (fail)
   go_ret
   exact⟨by rw[HR.out];rfl,rfl⟩
def szD (h c:Nat) (k:Int):Int:=if dbOk h c k then (dbN h c k:Int) else -1
set_option maxRecDepth 100000 in
set_option maxHeartbeats 1000000 in
theorem l13Size_any (p k:Int) (c h s:Nat) (w:World) (hv:isVar p c h s=true) (hk:k=1∨k=2):
  Calls Tryz.prog 139 #[.agg #[.int .i64 p,.int .i64 c,.int .i64 h,.int .i64 s],.int .i64 k] w fun e w'=>e = .returned (.int .i64 (szD h c k))∧Below w.heap.size w w':=by
 have hvv:=isVar_yes hv
 have hh:h≤25:=by omega
 have hc:c≤15:=by omega
 have hb:=wys_bd hh hc;have HB:Hid (Below w.heap.size w (w.alloc (.cells #[.int .i64 p,.int .i64 c,.int .i64 h,.int .i64 s] 25))):=(Below.refl _ _).alloc (Nat.le_refl _) _
 have CN:=Lib.hid fun W=>sBearoffCount_any p s c h W hv
 have HD:Hid (dbN h c k=if k=2 then wys h c*wys h c else wys h c):=rfl
 have HO:Hid (dbOk h c k↔wys h c≤500∧dbN h c k≤2500):=Iff.rfl
 have HS1:Hid (dbOk h c k→szD h c k=(dbN h c k:Int)):=fun h1=>if_pos h1
 have HS2:Hid (¬dbOk h c k→szD h c k = -1):=fun h1=>if_neg h1
 generalize szD h c k=z at *;generalize dbOk h c k=ok at *;generalize dbN h c k=n at *
 by_cases h5:wys h c≤500
 ·have HC:Hid (wysC h c=wys h c):=wysC_ok (by omega)
  rw[HC.out]at CN;have hmm:wys h c*wys h c≤500*500:=Nat.mul_le_mul h5 h5
  have hw1:IntKind.i64.wrap ((wys h c:Int)*(wys h c:Int))=((wys h c*wys h c:Nat):Int):=by rw[← Int.natCast_mul];exact IntWalk.i64_in _ (by omega)
  have CI:Hid (∀W:World,Calls Tryz.prog 134 #[.int .i64 (wys h c:Int),.int .i64 0,.int .i64 500] W fun e w'=>e = .returned (.bool true)∧W=w'):=fun W=>by
   have h1:=l01In_any (wys h c:Int) 0 500 W
   rw[inB_yes ⟨by omega,by omega⟩]at h1;exact h1
  have HO5:Hid (ok↔n≤2500):=⟨fun h=>(HO.out.1 h).2,fun h=>HO.out.2 ⟨h5,h⟩⟩
  generalize hMM:wys h c*wys h c=M at *;generalize wys h c=N at *;clear hMM HO HC h5 hb hv hvv
  rcases hk with rfl|rfl
  ·have hnN:n=N:=by rw[HD.out,if_neg (by omega)]
   subst hnN;have b3:((1:Int) == 2)=false:=rfl
   rcases Nat.lt_or_ge 2500 n with h9|h9
   ·have HR:=Lib.hid (HS2.out fun h=>by have:=HO5.out.1 h;omega)
    have b4:decide ((2500:Int)<(n:Int))=true:=decide_eq_true (by omega)
    clear HO5 HD HS1 HS2
    go_enter Tryz.func139,Tryz.ntmps139
    go_wp2_with (fail)
    refine (CN.out _).mono ?_
    rintro e w1 ⟨rfl,hb1⟩
    have HB1:=Lib.hid (HB.out.trans (hb1.mono HB.out.size));clear hb1 HB
    go_wp2_with (go_at_call 134;refine (CI.out _).mono ?_;rintro e w' ⟨rfl,rfl⟩)
    go_ret
    exact⟨by rw[HR.out];rfl,HB1.out⟩
   ·have HR:=Lib.hid (HS1.out (HO5.out.2 (by omega)))
    have b4:decide ((2500:Int)<(n:Int))=false:=decide_eq_false (by omega)
    clear HO5 HD HS1 HS2
    go_enter Tryz.func139,Tryz.ntmps139
    go_wp2_with (fail)
    refine (CN.out _).mono ?_
    rintro e w1 ⟨rfl,hb1⟩
    have HB1:=Lib.hid (HB.out.trans (hb1.mono HB.out.size));clear hb1 HB
    go_wp2_with (go_at_call 134;refine (CI.out _).mono ?_;rintro e w' ⟨rfl,rfl⟩)
    go_ret
    exact⟨by rw[HR.out];rfl,HB1.out⟩
  ·have hnN:n=M:=by rw[HD.out,if_pos rfl]
   subst hnN
   rcases Nat.lt_or_ge 2500 n with h9|h9
   ·have HR:=Lib.hid (HS2.out fun h=>by have:=HO5.out.1 h;omega)
    have b4:decide ((2500:Int)<(n:Int))=true:=decide_eq_true (by omega)
    clear HO5 HD HS1 HS2
    go_enter Tryz.func139,Tryz.ntmps139
    go_wp2_with (fail)
    refine (CN.out _).mono ?_
    rintro e w1 ⟨rfl,hb1⟩
    have HB1:=Lib.hid (HB.out.trans (hb1.mono HB.out.size));clear hb1 HB
    go_wp2_with (go_at_call 134;refine (CI.out _).mono ?_;rintro e w' ⟨rfl,rfl⟩)
    go_ret
    exact⟨by rw[HR.out];rfl,HB1.out⟩
   ·have HR:=Lib.hid (HS1.out (HO5.out.2 (by omega)))
    have b4:decide ((2500:Int)<(n:Int))=false:=decide_eq_false (by omega)
    clear HO5 HD HS1 HS2
    go_enter Tryz.func139,Tryz.ntmps139
    go_wp2_with (fail)
    refine (CN.out _).mono ?_
    rintro e w1 ⟨rfl,hb1⟩
    have HB1:=Lib.hid (HB.out.trans (hb1.mono HB.out.size));clear hb1 HB
    go_wp2_with (go_at_call 134;refine (CI.out _).mono ?_;rintro e w' ⟨rfl,rfl⟩)
    go_ret
    exact⟨by rw[HR.out];rfl,HB1.out⟩
 ·have HR:=Lib.hid (HS2.out fun h=>h5 (HO.out.1 h).1)
  clear HO HD HS1 HS2;obtain⟨x,hx⟩:∃x,x=wysC h c:=⟨_,rfl⟩
  have hx5:x<0∨500<x:=by
   rw[hx];unfold wysC
   split<;>omega
  rw[← hx]at CN
  have CI:Hid (∀W:World,Calls Tryz.prog 134 #[.int .i64 x,.int .i64 0,.int .i64 500] W fun e w'=>e = .returned (.bool false)∧W=w'):=fun W=>by
   have h1:=l01In_any x 0 500 W
   rw[inB_no (by omega)]at h1;exact h1
  clear hx hv hvv h5 hb hx5
  go_enter Tryz.func139,Tryz.ntmps139
  go_wp2_with (fail)
  refine (CN.out _).mono ?_
  rintro e w1 ⟨rfl,hb1⟩
  have HB1:=Lib.hid (HB.out.trans (hb1.mono HB.out.size));clear hb1 HB
  go_wp2_with (go_at_call 134;refine (CI.out _).mono ?_;rintro e w' ⟨rfl,rfl⟩)
  go_ret
  exact⟨by rw[HR.out];rfl,HB1.out⟩
end Go.Proofs.YtkaiilmgemaljaaGreat

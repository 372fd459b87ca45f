/- Part of one proof. There are no conditions. -/
import Derived.Test.YtkaiilmgemaljaaGreatBU1
import Derived.Test.YtkaiilmgemaljaaGreatBZp
import Derived.Test.YtkaiilmgemaljaaGreatBZn
set_option linter.unusedVariables false
set_option linter.unusedSimpArgs false
namespace Go.Proofs.YtkaiilmgemaljaaGreat.Ra
open Go.Proofs.YtkaiilmgemaljaaGreat.Ex Go.Proofs.YtkaiilmgemaljaaGreat.Ps
def LE (B:Int) (x y:E):Prop:=x.num*pw B y.depth≤y.num*pw B x.depth
theorem le_lt {B:Int} {x y:E}:LE B x y↔ltE B y x=false:=by
 unfold LE ltE;rw[decide_eq_false_iff_not]
 omega
theorem lt_le {B:Int} {x y:E} (h:ltE B x y=true):LE B x y:=by
 have:=of_decide_eq_true h;unfold LE
 omega
theorem le_av {B:Int} (hB:1≤B) {x y:E} {M:Nat} (hx:x.depth≤M) (hy:y.depth≤M):LE B x y↔av B M x≤av B M y:=by
 have p:=zau hB (M-x.depth);have q:=zau hB (M-y.depth);have px:=zau hB x.depth;have py:=zau hB y.depth;have e1:=pw_cut B hx;have e2:=pw_cut B hy;unfold LE av;generalize pw B (M-x.depth)=a at *;generalize pw B (M-y.depth)=b at *;generalize pw B x.depth=P at *;generalize pw B y.depth=Q at *;generalize x.num=u at *;generalize y.num=v at *;have e3:a*P=b*Q:=e1.symm.trans e2
 have hPQ:0<P*Q:=Int.mul_pos (by omega) (by omega)
 have hab:0<a*b:=Int.mul_pos (by omega) (by omega)
 have t1:u*a*(P*Q)=(u*Q)*(a*P):=by ac_rfl
 have t2:v*b*(P*Q)=(v*P)*(b*Q):=by ac_rfl
 have t3:u*Q*(a*b)=(u*a)*(b*Q):=by ac_rfl
 have t4:v*P*(a*b)=(v*b)*(a*P):=by ac_rfl
 have hK:0<b*Q:=Int.mul_pos (by omega) (by omega)
 constructor
 ·intro h
  refine Int.le_of_mul_le_mul_right ?_ hPQ
  rw[t1,t2,e3]
  exact Int.mul_le_mul_of_nonneg_right h (by omega)
 ·intro h
  refine Int.le_of_mul_le_mul_right ?_ hab
  rw[t3,t4,e3]
  exact Int.mul_le_mul_of_nonneg_right h (by omega)
theorem le_refl' (B:Int) (x:E):LE B x x:=Int.le_refl _
theorem zfM {B:Int} (hB:1≤B) {x y z:E} (h:LE B x y) (k:LE B y z):LE B x z:=by
 obtain⟨M,hM⟩:∃M,M=max x.depth (max y.depth z.depth):=⟨_,rfl⟩
 rw[le_av hB (M:=M) (by omega) (by omega)]at *
 omega
end Go.Proofs.YtkaiilmgemaljaaGreat.Ra

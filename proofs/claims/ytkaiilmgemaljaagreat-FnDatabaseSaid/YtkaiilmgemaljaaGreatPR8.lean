/- Contracts of the program's true database and of the number of its entries. There are no conditions beyond those that each states. -/
import Derived.Test.YtkaiilmgemaljaaGreatPR7
set_option linter.unusedVariables false
set_option linter.unusedSimpArgs false
namespace Go.Proofs.YtkaiilmgemaljaaGreat
open Go.RowKit Ps Ra Ex
def dbN (h c:Nat) (k:Int):Nat:=if k=2 then wys h c*wys h c else wys h c
noncomputable def dbE (h c s:Nat) (k:Int):Option (List E):=if k=2 then allN (winsF h c s) (dbN h c k) else allN (rollsF h c s) (dbN h c k)
def dbOk (h c:Nat) (k:Int):Prop:=wys h c≤500∧dbN h c k≤2500
instance (h c:Nat) (k:Int):Decidable (dbOk h c k):=by unfold dbOk;infer_instance
noncomputable def dbC (p c h s k:Int):Int:=if isVar p c h s=false then 1 else if ¬(k=1∨k=2) then 2 else if ¬dbOk h.toNat c.toNat k then 3 else if (dbE h.toNat c.toNat s.toNat k).isNone=true then 3 else 0
def RetDB (p c h s k:Int) (w:World) (e:Ending) (w':World):Prop:=
 Below w.heap.size w w'∧((dbC p c h s k≠0∧e = .returned (.tuple #[.agg #[.int .i64 0,.int .i64 0,.int .i64 0,.int .i64 0,.int .i64 0,.slice none 0 0],.int .i64 (dbC p c h s k)]))∨
  (dbC p c h s k=0∧∃v xs,dbE h.toNat c.toNat s.toNat k=some xs∧OwnE w' w.heap.size v xs∧e = .returned (.tuple #[.agg #[.int .i64 p,.int .i64 c,.int .i64 h,.int .i64 s,.int .i64 k,v],.int .i64 0])))
set_option maxRecDepth 100000 in
set_option maxHeartbeats 1000000 in
theorem entryCount_any (p k:Int) (c h s:Nat) (w:World) (hv:isVar p c h s=true) (hk:k=1∨k=2):
  Calls Tryz.prog 146 #[.agg #[.int .i64 p,.int .i64 c,.int .i64 h,.int .i64 s],.int .i64 k] w fun e w'=>(dbOk h c k∧e = .returned (.tuple #[.int .i64 (dbN h c k:Int),.bool true])∨¬dbOk h c k∧∃n,e = .returned (.tuple #[.int .i64 n,.bool false]))∧Below w.heap.size w w':=by
 have hvv:=isVar_yes hv
 have hh:h≤25:=by omega
 have hc:c≤15:=by omega
 have hb:=wys_bd hh hc;have HB:Hid (Below w.heap.size w (w.alloc (.cells #[.int .i64 p,.int .i64 c,.int .i64 h,.int .i64 s] 25))):=(Below.refl _ _).alloc (Nat.le_refl _) _
 have CN:=Lib.hid fun W=>BearoffCount_any p s c h W hv
 have HD:Hid (dbN h c k=if k=2 then wys h c*wys h c else wys h c):=rfl
 have HO:Hid (dbOk h c k↔wys h c≤500∧dbN h c k≤2500):=Iff.rfl;generalize dbOk h c k=ok at *;generalize dbN h c k=n at *
 by_cases h5:wys h c≤500
 ·have HC:Hid (wysC h c=wys h c):=wysC_ok (by omega)
  rw[HC.out]at CN;have hmm:wys h c*wys h c≤500*500:=Nat.mul_le_mul h5 h5
  have hw1:IntKind.i64.wrap ((wys h c:Int)*(wys h c:Int))=((wys h c*wys h c:Nat):Int):=by rw[← Int.natCast_mul];exact IntWalk.i64_in _ (by omega)
  have b1:decide ((wys h c:Int)<0)=false:=decide_eq_false (by omega)
  have b2:decide ((500:Int)<(wys h c:Int))=false:=decide_eq_false (by omega)
  have HO5:Hid (ok↔n≤2500):=⟨fun h=>(HO.out.1 h).2,fun h=>HO.out.2 ⟨h5,h⟩⟩
  generalize hMM:wys h c*wys h c=M at *;generalize wys h c=N at *;clear hMM HO HC h5 hb hv hvv
  rcases hk with rfl|rfl
  ·have hnN:n=N:=by rw[HD.out,if_neg (by omega)]
   subst hnN;have b3:((1:Int) == 2)=false:=rfl
   rcases Nat.lt_or_ge 2500 n with h9|h9
   ·have HR:Hid ¬ok:=fun h=>by have:=HO5.out.1 h;omega
    have b4:decide ((n:Int)≤2500)=false:=decide_eq_false (by omega)
    clear HO5 HD
    go_enter Tryz.func146,Tryz.ntmps146
    go_wp2_with (fail)
    refine (CN.out _).mono ?_
    rintro e w1 ⟨rfl,hb1⟩
    have HB1:=Lib.hid (HB.out.trans (hb1.mono HB.out.size));clear hb1 HB
    go_wp2_with (fail)
    go_ret2
    exact⟨.inr ⟨HR.out,_,rfl⟩,HB1.out⟩
   ·have HR:Hid ok:=HO5.out.2 (by omega)
    have b4:decide ((n:Int)≤2500)=true:=decide_eq_true (by omega)
    clear HO5 HD
    go_enter Tryz.func146,Tryz.ntmps146
    go_wp2_with (fail)
    refine (CN.out _).mono ?_
    rintro e w1 ⟨rfl,hb1⟩
    have HB1:=Lib.hid (HB.out.trans (hb1.mono HB.out.size));clear hb1 HB
    go_wp2_with (fail)
    go_ret2
    exact⟨.inl ⟨HR.out,rfl⟩,HB1.out⟩
  ·have hnN:n=M:=by rw[HD.out,if_pos rfl]
   subst hnN
   rcases Nat.lt_or_ge 2500 n with h9|h9
   ·have HR:Hid ¬ok:=fun h=>by have:=HO5.out.1 h;omega
    have b4:decide ((n:Int)≤2500)=false:=decide_eq_false (by omega)
    clear HO5 HD
    go_enter Tryz.func146,Tryz.ntmps146
    go_wp2_with (fail)
    refine (CN.out _).mono ?_
    rintro e w1 ⟨rfl,hb1⟩
    have HB1:=Lib.hid (HB.out.trans (hb1.mono HB.out.size));clear hb1 HB
    go_wp2_with (fail)
    go_ret2
    exact⟨.inr ⟨HR.out,_,rfl⟩,HB1.out⟩
   ·have HR:Hid ok:=HO5.out.2 (by omega)
    have b4:decide ((n:Int)≤2500)=true:=decide_eq_true (by omega)
    clear HO5 HD
    go_enter Tryz.func146,Tryz.ntmps146
    go_wp2_with (fail)
    refine (CN.out _).mono ?_
    rintro e w1 ⟨rfl,hb1⟩
    have HB1:=Lib.hid (HB.out.trans (hb1.mono HB.out.size));clear hb1 HB
    go_wp2_with (fail)
    go_ret2
    exact⟨.inl ⟨HR.out,rfl⟩,HB1.out⟩
 ·have HR:Hid ¬ok:=fun h=>h5 (HO.out.1 h).1
  clear HO HD;obtain⟨x,hx⟩:∃x,x=wysC h c:=⟨_,rfl⟩
  have hx5:x<0∨500<x:=by
   rw[hx];unfold wysC
   split<;>omega
  have hx6 : -1≤x∧x≤1000000:=by
   rw[hx];unfold wysC
   split<;>omega
  rw[← hx]at CN;clear hx hv hvv h5 hb
  by_cases h0:x<0
  ·have b1:decide (x<0)=true:=decide_eq_true h0
   clear hx5
   go_enter Tryz.func146,Tryz.ntmps146
   go_wp2_with (fail)
   refine (CN.out _).mono ?_
   rintro e w1 ⟨rfl,hb1⟩
   have HB1:=Lib.hid (HB.out.trans (hb1.mono HB.out.size));clear hb1 HB
   go_wp2_with (fail)
   go_ret2
   exact⟨.inr ⟨HR.out,_,rfl⟩,HB1.out⟩
  ·have b1:decide (x<0)=false:=decide_eq_false h0
   have b2:decide (500<x)=true:=decide_eq_true (by omega)
   clear hx5
   go_enter Tryz.func146,Tryz.ntmps146
   go_wp2_with (fail)
   refine (CN.out _).mono ?_
   rintro e w1 ⟨rfl,hb1⟩
   have HB1:=Lib.hid (HB.out.trans (hb1.mono HB.out.size));clear hb1 HB
   go_wp2_with (fail)
   go_ret2
   exact⟨.inr ⟨HR.out,_,rfl⟩,HB1.out⟩
end Go.Proofs.YtkaiilmgemaljaaGreat

/- Part of one proof. There are no conditions. -/
import Derived.Test.YtkaiilmgemaljaaGreatYZk
import Derived.Test.YtkaiilmgemaljaaGreatYZm
import Derived.Test.YtkaiilmgemaljaaGreatYD2
import Derived.Test.YtkaiilmgemaljaaGreatYZv
import Derived.Test.YtkaiilmgemaljaaGreatYN14
import Derived.Test.YtkaiilmgemaljaaGreatYE3
import Derived.Test.YtkaiilmgemaljaaGreatYZr
import Derived.Test.YtkaiilmgemaljaaGreatYZb
import Derived.Test.YtkaiilmgemaljaaGreatYD17
import Derived.Test.YtkaiilmgemaljaaGreatYM23
set_option maxHeartbeats 0
set_option linter.unusedVariables false
set_option linter.unusedSimpArgs false
namespace Go.Proofs.YtkaiilmgemaljaaGreat
open Go.RowKit Ps Ra Ex
theorem mone_val {B:Int}:Val B ⟨-1,0⟩:=fE fD
def RetCd (w:World) (o:Option E) (e:Ending) (w':World):Prop:=(match o with
 | none=>e = .returned (.tuple #[.agg #[.int .i64 0,.int .i64 0],.int .i64 3])
 | some x=>e = .returned (.tuple #[.agg #[.int .i64 x.num,.int .i64 (x.depth:Int)],.int .i64 0]))/\Below w.heap.size w w'
theorem bH (n:Int) (w:World):Calls Tryz.prog 132 #[.int .i64 n] w fun e w'=>e = .returned (.agg #[.int .i64 n,.int .i64 ((0:Nat):Int)])/\Below w.heap.size w w':=by
 go_enter Tryz.func132,Tryz.ntmps132
 go_wp2
 refine bodyPost_ret (v:=.agg #[.int .i64 n,.int .i64 ((0:Nat):Int)]) (by simp[results,Tryz.results132,go_sem]) rfl ⟨rfl,?_⟩
 repeat (first|exact Below.refl _ _|refine stw ?_ (by omega)|refine alw ?_ (by omega))
theorem valid_yes {B n:Int} {d:Nat} (h:Val B ⟨n,d⟩):valB B n d=true:=iu.2 h
theorem ja (p c h xn yn:Int) (s xd yd:Nat) (w:World) (hv:isVar p c h s=true) (hx:Val (sq s) ⟨xn,xd⟩) (hy:Val (sq s) ⟨yn,yd⟩):
  Calls Tryz.prog 133 #[.agg #[.int .i64 p,.int .i64 c,.int .i64 h,.int .i64 s],.agg #[.int .i64 xn,.int .i64 xd],.agg #[.int .i64 yn,.int .i64 yd]] w fun e w'=>e = .returned (.int .i64 0)/\Below w.heap.size w w':=by
 have HB:=h_ (Bel.rfl' w);have hvv:=ak hv
 have hs1:1<=s:=by omega
 have hs6:s<=6:=by omega
 obtain⟨hq1,hq36,_⟩:=sq_bd hs1 hs6;have hxd:xd<50:=aV hq1 hx;have hyd:yd<50:=aV hq1 hy
 have CV:Hid (∀W:World,Calls Tryz.prog 80 #[.agg #[.int .i64 p,.int .i64 c,.int .i64 h,.int .i64 s]] W fun e w'=>e = .returned (.bool true)/\Below W.heap.size W w'):=fun W=>by
  have:=aJ p c h s W;rwa [hv]at this
 have C1:Hid (∀W:World,Calls Tryz.prog 86 #[.agg #[.int .i64 p,.int .i64 c,.int .i64 h,.int .i64 s],.agg #[.int .i64 xn,.int .i64 xd]] W fun e w'=>e = .returned (.bool true)/\Below W.heap.size W w'):=fun W=>by
  have:=eH p c h xn s xd W hs1 hs6 (by omega);rwa [valid_yes hx]at this
 have C2:Hid (∀W:World,Calls Tryz.prog 86 #[.agg #[.int .i64 p,.int .i64 c,.int .i64 h,.int .i64 s],.agg #[.int .i64 yn,.int .i64 yd]] W fun e w'=>e = .returned (.bool true)/\Below W.heap.size W w'):=fun W=>by
  have:=eH p c h yn s yd W hs1 hs6 (by omega);rwa [valid_yes hy]at this
 clear hv hvv hx hy
 go_enter Tryz.func133,Tryz.ntmps133
 go_wp2_with (fail)
 refine (CV.out _).mono ?_
 rintro e w1 ⟨rfl,hb⟩
 have K1:=h_ ((((Cel.new' _ #[.int .i64 p,.int .i64 c,.int .i64 h,.int .i64 s] _ (g:=w.heap.size) (by simp)).alloc _).alloc _).below hb)
 have K2:=h_ (((Cel.new' _ #[.int .i64 xn,.int .i64 (xd:Int)] _ (g:=w.heap.size+1) (by simp)).alloc _).below hb)
 have K3:=h_ ((Cel.new' _ #[.int .i64 yn,.int .i64 (yd:Int)] _ (g:=w.heap.size+2) (by simp)).below hb)
 replace HB:=h_ (Bel.trans (Bel.trans (Bel.trans (Bel.trans HB.out (Bel.alloc _ _)) (Bel.alloc _ _)) (Bel.alloc _ _)) hb);clear hb;have hz:=Below.size HB.out;have cK1_0:=K1.out.cell 0 _ rfl;have fK1_0:=K1.out.froz 0 _ rfl;have cK1_1:=K1.out.cell 1 _ rfl;have fK1_1:=K1.out.froz 1 _ rfl;have cK1_2:=K1.out.cell 2 _ rfl;have fK1_2:=K1.out.froz 2 _ rfl;have cK1_3:=K1.out.cell 3 _ rfl;have fK1_3:=K1.out.froz 3 _ rfl;have zK1:=K1.out.lt;have cK2_0:=K2.out.cell 0 _ rfl;have fK2_0:=K2.out.froz 0 _ rfl;have cK2_1:=K2.out.cell 1 _ rfl;have fK2_1:=K2.out.froz 1 _ rfl;have zK2:=K2.out.lt;have cK3_0:=K3.out.cell 0 _ rfl;have fK3_0:=K3.out.froz 0 _ rfl;have cK3_1:=K3.out.cell 1 _ rfl;have fK3_1:=K3.out.froz 1 _ rfl;have zK3:=K3.out.lt
 go_wp2_with (fail)
 refine (C1.out _).mono ?_
 rintro e w2 ⟨rfl,hb⟩
 clear cK1_0 fK1_0 cK1_1 fK1_1 cK1_2 fK1_2 cK1_3 fK1_3 zK1 cK2_0 fK2_0 cK2_1 fK2_1 zK2 cK3_0 fK3_0 cK3_1 fK3_1 zK3 hz;replace K1:=h_ (K1.out.below hb);replace K2:=h_ (K2.out.below hb);replace K3:=h_ (K3.out.below hb);replace HB:=h_ (Bel.trans HB.out hb);clear hb;have hz:=Below.size HB.out;have cK1_0:=K1.out.cell 0 _ rfl;have fK1_0:=K1.out.froz 0 _ rfl;have cK1_1:=K1.out.cell 1 _ rfl;have fK1_1:=K1.out.froz 1 _ rfl;have cK1_2:=K1.out.cell 2 _ rfl;have fK1_2:=K1.out.froz 2 _ rfl;have cK1_3:=K1.out.cell 3 _ rfl;have fK1_3:=K1.out.froz 3 _ rfl;have zK1:=K1.out.lt;have cK2_0:=K2.out.cell 0 _ rfl;have fK2_0:=K2.out.froz 0 _ rfl;have cK2_1:=K2.out.cell 1 _ rfl;have fK2_1:=K2.out.froz 1 _ rfl;have zK2:=K2.out.lt;have cK3_0:=K3.out.cell 0 _ rfl;have fK3_0:=K3.out.froz 0 _ rfl;have cK3_1:=K3.out.cell 1 _ rfl;have fK3_1:=K3.out.froz 1 _ rfl;have zK3:=K3.out.lt
 go_wp2_with (fail)
 refine (C2.out _).mono ?_
 rintro e w3 ⟨rfl,hb⟩
 clear cK1_0 fK1_0 cK1_1 fK1_1 cK1_2 fK1_2 cK1_3 fK1_3 zK1 cK2_0 fK2_0 cK2_1 fK2_1 zK2 cK3_0 fK3_0 cK3_1 fK3_1 zK3 hz;replace K1:=h_ (K1.out.below hb);replace K2:=h_ (K2.out.below hb);replace K3:=h_ (K3.out.below hb);replace HB:=h_ (Bel.trans HB.out hb);clear hb;have hz:=Below.size HB.out;have cK1_0:=K1.out.cell 0 _ rfl;have fK1_0:=K1.out.froz 0 _ rfl;have cK1_1:=K1.out.cell 1 _ rfl;have fK1_1:=K1.out.froz 1 _ rfl;have cK1_2:=K1.out.cell 2 _ rfl;have fK1_2:=K1.out.froz 2 _ rfl;have cK1_3:=K1.out.cell 3 _ rfl;have fK1_3:=K1.out.froz 3 _ rfl;have zK1:=K1.out.lt;have cK2_0:=K2.out.cell 0 _ rfl;have fK2_0:=K2.out.froz 0 _ rfl;have cK2_1:=K2.out.cell 1 _ rfl;have fK2_1:=K2.out.froz 1 _ rfl;have zK2:=K2.out.lt;have cK3_0:=K3.out.cell 0 _ rfl;have fK3_0:=K3.out.froz 0 _ rfl;have cK3_1:=K3.out.cell 1 _ rfl;have fK3_1:=K3.out.froz 1 _ rfl;have zK3:=K3.out.lt
 go_wp2_with (fail)
 go_ret
 exact⟨rfl,HB.out⟩
theorem ii (p c h xn yn:Int) (s xd yd:Nat) (w:World) (hv:isVar p c h s=true) (hx:Val (sq s) ⟨xn,xd⟩) (hy:Val (sq s) ⟨yn,yd⟩):
  Calls Tryz.prog 53 #[.agg #[.int .i64 p,.int .i64 c,.int .i64 h,.int .i64 s],.agg #[.int .i64 xn,.int .i64 (xd:Int)],.agg #[.int .i64 yn,.int .i64 (yd:Int)]] w (RetCd w (addE (sq s) ⟨xn,xd⟩ ⟨yn,yd⟩)):=by
 have HB:=h_ (Bel.rfl' w);have hvv:=ak hv
 have hs1:1<=s:=by omega
 have hs6:s<=6:=by omega
 obtain⟨hq1,hq36,_⟩:=sq_bd hs1 hs6
 have CC:=h_ fun (W:World)=>ja p c h xn yn s xd yd W hv hx hy
 have CA:=h_ fun (W:World)=>cB p c h xn yn s xd yd W hs1 hs6 hx hy
 generalize ho:addE (sq s) ⟨xn,xd⟩ ⟨yn,yd⟩=o at *;clear hv hvv hx ho
 rcases o with _|⟨m,d⟩
 focus
  refine ?za
 rotate_left
 focus
  refine ?zb
 rotate_left
 case' za|zb=>
  go_enter Tryz.func53,Tryz.ntmps53
  go_wp2_with (fail)
  refine (CC.out _).mono ?_
  rintro e w1 ⟨rfl,hb⟩
  have K1:=h_ (((((Cel.new' _ #[.int .i64 p,.int .i64 c,.int .i64 h,.int .i64 s] _ (g:=w.heap.size) (by simp)).alloc _).alloc _).alloc _).below hb)
  have K2:=h_ ((((Cel.new' _ #[.int .i64 xn,.int .i64 (xd:Int)] _ (g:=w.heap.size+1) (by simp)).alloc _).alloc _).below hb)
  have K3:=h_ (((Cel.new' _ #[.int .i64 yn,.int .i64 (yd:Int)] _ (g:=w.heap.size+2) (by simp)).alloc _).below hb)
  have K4:=h_ ((Cel.new' _ #[.int .i64 0,.int .i64 0] _ (g:=w.heap.size+3) (by simp)).below hb)
  replace HB:=h_ (Bel.trans (Bel.trans (Bel.trans (Bel.trans (Bel.trans HB.out (Bel.alloc _ _)) (Bel.alloc _ _)) (Bel.alloc _ _)) (Bel.alloc _ _)) hb);clear hb;have hz:=Below.size HB.out;have cK1_0:=K1.out.cell 0 _ rfl;have fK1_0:=K1.out.froz 0 _ rfl;have cK1_1:=K1.out.cell 1 _ rfl;have fK1_1:=K1.out.froz 1 _ rfl;have cK1_2:=K1.out.cell 2 _ rfl;have fK1_2:=K1.out.froz 2 _ rfl;have cK1_3:=K1.out.cell 3 _ rfl;have fK1_3:=K1.out.froz 3 _ rfl;have zK1:=K1.out.lt;have cK2_0:=K2.out.cell 0 _ rfl;have fK2_0:=K2.out.froz 0 _ rfl;have cK2_1:=K2.out.cell 1 _ rfl;have fK2_1:=K2.out.froz 1 _ rfl;have zK2:=K2.out.lt;have cK3_0:=K3.out.cell 0 _ rfl;have fK3_0:=K3.out.froz 0 _ rfl;have cK3_1:=K3.out.cell 1 _ rfl;have fK3_1:=K3.out.froz 1 _ rfl;have zK3:=K3.out.lt;have cK4_0:=K4.out.cell 0 _ rfl;have fK4_0:=K4.out.froz 0 _ rfl;have cK4_1:=K4.out.cell 1 _ rfl;have fK4_1:=K4.out.froz 1 _ rfl;have zK4:=K4.out.lt
  go_wp2_with (fail)
  refine (CA.out _).mono ?_
  rintro e w2 ⟨rfl,hb⟩
  clear cK1_0 fK1_0 cK1_1 fK1_1 cK1_2 fK1_2 cK1_3 fK1_3 zK1 cK2_0 fK2_0 cK2_1 fK2_1 zK2 cK3_0 fK3_0 cK3_1 fK3_1 zK3 cK4_0 fK4_0 cK4_1 fK4_1 zK4 hz;replace K1:=h_ (K1.out.below hb);replace K2:=h_ (K2.out.below hb);replace K3:=h_ (K3.out.below hb);replace K4:=h_ (K4.out.below hb);replace HB:=h_ (Bel.trans HB.out hb);clear hb;have hz:=Below.size HB.out;have cK1_0:=K1.out.cell 0 _ rfl;have fK1_0:=K1.out.froz 0 _ rfl;have cK1_1:=K1.out.cell 1 _ rfl;have fK1_1:=K1.out.froz 1 _ rfl;have cK1_2:=K1.out.cell 2 _ rfl;have fK1_2:=K1.out.froz 2 _ rfl;have cK1_3:=K1.out.cell 3 _ rfl;have fK1_3:=K1.out.froz 3 _ rfl;have zK1:=K1.out.lt;have cK2_0:=K2.out.cell 0 _ rfl;have fK2_0:=K2.out.froz 0 _ rfl;have cK2_1:=K2.out.cell 1 _ rfl;have fK2_1:=K2.out.froz 1 _ rfl;have zK2:=K2.out.lt;have cK3_0:=K3.out.cell 0 _ rfl;have fK3_0:=K3.out.froz 0 _ rfl;have cK3_1:=K3.out.cell 1 _ rfl;have fK3_1:=K3.out.froz 1 _ rfl;have zK3:=K3.out.lt;have cK4_0:=K4.out.cell 0 _ rfl;have fK4_0:=K4.out.froz 0 _ rfl;have cK4_1:=K4.out.cell 1 _ rfl;have fK4_1:=K4.out.froz 1 _ rfl;have zK4:=K4.out.lt
  go_wp2_with (fail)
 case' za=>
  refine bodyPost_ret (v:=.tuple #[.agg #[.int .i64 0,.int .i64 0],.int .i64 3]) (by simp[results,Tryz.results53,go_sem,cK1_0,fK1_0,cK1_1,fK1_1,cK1_2,fK1_2,cK1_3,fK1_3,zK1,cK2_0,fK2_0,cK2_1,fK2_1,zK2,cK3_0,fK3_0,cK3_1,fK3_1,zK3,cK4_0,fK4_0,cK4_1,fK4_1,zK4]) rfl (⟨rfl,?_⟩)
 case' zb=>
  refine bodyPost_ret (v:=.tuple #[.agg #[.int .i64 m,.int .i64 (d:Int)],.int .i64 0]) (by simp[results,Tryz.results53,go_sem,cK1_0,fK1_0,cK1_1,fK1_1,cK1_2,fK1_2,cK1_3,fK1_3,zK1,cK2_0,fK2_0,cK2_1,fK2_1,zK2,cK3_0,fK3_0,cK3_1,fK3_1,zK3,cK4_0,fK4_0,cK4_1,fK4_1,zK4]) rfl (⟨rfl,?_⟩)
 case za|zb=>
  repeat (first|exact HB.out|refine stw ?_ (by omega)|refine alw ?_ (by omega))
theorem fu (p c h xn:Int) (s xd k:Nat) (w:World) (hv:isVar p c h s=true) (hx:Val (sq s) ⟨xn,xd⟩) (hk1:1<=k) (hk9:k<=1000):
  Calls Tryz.prog 52 #[.agg #[.int .i64 p,.int .i64 c,.int .i64 h,.int .i64 s],.agg #[.int .i64 xn,.int .i64 (xd:Int)],.int .i64 (k:Int)] w (RetCd w (sclE (sq s) ⟨xn,xd⟩ k)):=by
 have HB:=h_ (Bel.rfl' w);have hvv:=ak hv
 have hs1:1<=s:=by omega
 have hs6:s<=6:=by omega
 obtain⟨hq1,hq36,_⟩:=sq_bd hs1 hs6
 have CC:=h_ fun (W:World)=>ja p c h xn xn s xd xd W hv hx hx
 have CA:=h_ fun (W:World)=>gL p c h xn s xd k W hs1 hs6 hx hk1 (by omega)
 have CI:Hid (∀W:World,Calls Tryz.prog 134 #[.int .i64 (k:Int),.int .i64 (-1000),.int .i64 1000] W fun e w'=>e = .returned (.bool true)/\W=w'):=fun W=>by
  have:=l01In_any (k:Int) (-1000) 1000 W;rwa [bg (by omega)]at this
 have hk0:(0:Int)<=k:=by omega
 generalize ho:sclE (sq s) ⟨xn,xd⟩ k=o at *;clear hv hvv hx ho
 rcases o with _|⟨m,d⟩
 focus
  refine ?za
 rotate_left
 focus
  refine ?zb
 rotate_left
 case' za|zb=>
  go_enter Tryz.func52,Tryz.ntmps52
  go_wp2_with (fail)
  refine (CC.out _).mono ?_
  rintro e w1 ⟨rfl,hb⟩
  have K1:=h_ ((((Cel.new' _ #[.int .i64 p,.int .i64 c,.int .i64 h,.int .i64 s] _ (g:=w.heap.size) (by simp)).alloc _).alloc _).below hb)
  have K2:=h_ (((Cel.new' _ #[.int .i64 xn,.int .i64 (xd:Int)] _ (g:=w.heap.size+1) (by simp)).alloc _).below hb)
  have K3:=h_ ((Cel.new' _ #[.int .i64 0,.int .i64 0] _ (g:=w.heap.size+2) (by simp)).below hb)
  replace HB:=h_ (Bel.trans (Bel.trans (Bel.trans (Bel.trans HB.out (Bel.alloc _ _)) (Bel.alloc _ _)) (Bel.alloc _ _)) hb);clear hb;have hz:=Below.size HB.out;have cK1_0:=K1.out.cell 0 _ rfl;have fK1_0:=K1.out.froz 0 _ rfl;have cK1_1:=K1.out.cell 1 _ rfl;have fK1_1:=K1.out.froz 1 _ rfl;have cK1_2:=K1.out.cell 2 _ rfl;have fK1_2:=K1.out.froz 2 _ rfl;have cK1_3:=K1.out.cell 3 _ rfl;have fK1_3:=K1.out.froz 3 _ rfl;have zK1:=K1.out.lt;have cK2_0:=K2.out.cell 0 _ rfl;have fK2_0:=K2.out.froz 0 _ rfl;have cK2_1:=K2.out.cell 1 _ rfl;have fK2_1:=K2.out.froz 1 _ rfl;have zK2:=K2.out.lt;have cK3_0:=K3.out.cell 0 _ rfl;have fK3_0:=K3.out.froz 0 _ rfl;have cK3_1:=K3.out.cell 1 _ rfl;have fK3_1:=K3.out.froz 1 _ rfl;have zK3:=K3.out.lt
  go_wp2_with (fail)
  refine (CI.out _).mono ?_
  rintro e W' ⟨rfl,rfl⟩
  go_wp2_with (fail)
  refine (CA.out _).mono ?_
  rintro e w2 ⟨rfl,hb⟩
  clear cK1_0 fK1_0 cK1_1 fK1_1 cK1_2 fK1_2 cK1_3 fK1_3 zK1 cK2_0 fK2_0 cK2_1 fK2_1 zK2 cK3_0 fK3_0 cK3_1 fK3_1 zK3 hz;replace K1:=h_ (K1.out.below hb);replace K2:=h_ (K2.out.below hb);replace K3:=h_ (K3.out.below hb);replace HB:=h_ (Bel.trans HB.out hb);clear hb;have hz:=Below.size HB.out;have cK1_0:=K1.out.cell 0 _ rfl;have fK1_0:=K1.out.froz 0 _ rfl;have cK1_1:=K1.out.cell 1 _ rfl;have fK1_1:=K1.out.froz 1 _ rfl;have cK1_2:=K1.out.cell 2 _ rfl;have fK1_2:=K1.out.froz 2 _ rfl;have cK1_3:=K1.out.cell 3 _ rfl;have fK1_3:=K1.out.froz 3 _ rfl;have zK1:=K1.out.lt;have cK2_0:=K2.out.cell 0 _ rfl;have fK2_0:=K2.out.froz 0 _ rfl;have cK2_1:=K2.out.cell 1 _ rfl;have fK2_1:=K2.out.froz 1 _ rfl;have zK2:=K2.out.lt;have cK3_0:=K3.out.cell 0 _ rfl;have fK3_0:=K3.out.froz 0 _ rfl;have cK3_1:=K3.out.cell 1 _ rfl;have fK3_1:=K3.out.froz 1 _ rfl;have zK3:=K3.out.lt
  go_wp2_with (fail)
 case' za=>
  refine bodyPost_ret (v:=.tuple #[.agg #[.int .i64 0,.int .i64 0],.int .i64 3]) (by simp[results,Tryz.results52,go_sem,cK1_0,fK1_0,cK1_1,fK1_1,cK1_2,fK1_2,cK1_3,fK1_3,zK1,cK2_0,fK2_0,cK2_1,fK2_1,zK2,cK3_0,fK3_0,cK3_1,fK3_1,zK3]) rfl (⟨rfl,?_⟩)
 case' zb=>
  refine bodyPost_ret (v:=.tuple #[.agg #[.int .i64 m,.int .i64 (d:Int)],.int .i64 0]) (by simp[results,Tryz.results52,go_sem,cK1_0,fK1_0,cK1_1,fK1_1,cK1_2,fK1_2,cK1_3,fK1_3,zK1,cK2_0,fK2_0,cK2_1,fK2_1,zK2,cK3_0,fK3_0,cK3_1,fK3_1,zK3]) rfl (⟨rfl,?_⟩)
 case za|zb=>
  repeat (first|exact HB.out|refine stw ?_ (by omega)|refine alw ?_ (by omega))
theorem OwnE.below {w w':World} {base:Nat} {v:Value} {xs:List E} (h:OwnE w base v xs) (hb:Below w.heap.size w w'):OwnE w' base v xs:=own_below h hb
theorem Cel.frm {S:Nat->Prop} {W W':World} {g:Nat} {cs:List Value} (h:Cel W g cs) (hf:Frm S W W') (hn:¬S g):Cel W' g cs:=
 ⟨Nat.lt_of_lt_of_le h.lt hf.size,fun i x hx=>hf.cell' (h.cell i x hx) hn,fun i x hx=>(aK hf h.lt hn).trans (h.froz i x hx)⟩
theorem eql_exact (a b a' b':Int) (w:World):(binOp .eql 35 (.agg #[.int .i64 a,.int .i64 b]) (.agg #[.int .i64 a',.int .i64 b'])).run Tryz.prog w = .ok (.bool (decide (a=a'/\b=b'))) w:=by
 have u3:=Tryz.underlying2
 have hS:Tryz.prog.underlying 35=some (.struct (Tryz.prog.fieldsOf 35)):=by kernel_rfl
 have hp:Tryz.prog.stoodInHeld 35=false:=by kernel_rfl
 rw[run_eql_struct,show (10000:Nat)=9999+1 from rfl,run_equalIn_agg w 9999 35 _ _ hS hp]
 simp only[Program.fieldsOf,Tryz.underlying35]
 go_simp
 by_cases h1:a=a'<;>by_cases h2:b=b'<;>simp[h1,h2]
theorem big_any (A:Option Addr) (n c:Nat) (w:World):Calls Tryz.prog 14 #[.slice A n c] w fun e w'=>e = .returned (.bool (decide (4096<n)))/\w=w':=by
 go_enter Tryz.func14,Tryz.ntmps14
 go_wp2_with (fail)
 go_ret
 exact⟨by by_cases h:4096<n<;>simp[h]<;>omega,rfl⟩
open Go.RowKit Mo Ps Ra Ex
theorem codeL_nat {p c h s m:Int} {own other:List Int} {v o:Int} {more:Bool} (H:codeL p c h s m own other v o more=0):∃c' h' s' K:Nat,c=c'/\h=h'/\s=s'/\m=two K/\K<=10/\isVar p c' h' s'=true/\1<=s'/\s'<=6/\PosP h' c' own/\PosP h' c' other/\CbOk K (v,o)/\more=true:=by
 obtain⟨hv,hr,h1,h2,hc,hm,_⟩:=iF H;have hvv:=ak hv
 obtain⟨c',rfl⟩:∃c':Nat,c=c':=⟨c.toNat,by omega⟩
 obtain⟨h',rfl⟩:∃h':Nat,h=h':=⟨h.toNat,by omega⟩
 obtain⟨s',rfl⟩:∃s':Nat,s=s':=⟨s.toNat,by omega⟩
 obtain⟨K,hK,rfl⟩:=fZ hr
 exact⟨c',h',s',K,rfl,rfl,rfl,rfl,hK,hv,by omega,by omega,bz h1,bz h2,cubB_ok hc,hm⟩
theorem numR_ok {o:Option E} {x d:Int} (H:(x,d,(0:Int))=numR o):∃e,o=some e/\x=e.num/\d=(e.depth:Int):=by
 cases o with
 | none=>unfold numR at H;simp at H
 | some e=>unfold numR at H;simp at H;exact⟨e,rfl,H.1,H.2⟩
theorem eqR_ok {p c h s m:Int} {bv:Bool} {own other:List Int} {v o x d k:Int} (H:(x,d,k)=eqR p c h s m bv own other v o) (hk:k=0):
  ∃(s':Nat) (e:E),s=s'/\isVar p c h s'=true/\rulB m=true/\cubB m v o=true/\eqv s' ⟨m,bv⟩ own other (v,o)=some e/\x=e.num/\d=(e.depth:Int):=by
 subst hk;unfold eqR at H
 split at H
 ·rename_i hc
  obtain⟨e,he,hx,hd⟩:=numR_ok H
  have hL:codeL p c h s m own other v o true=0:=by
   unfold codeE at hc
   split at hc
   ·assumption
   ·exact hc
  obtain⟨hv,hr,_,_,hcu,_⟩:=iF hL;have hvv:=ak hv
  obtain⟨s',rfl⟩:∃s':Nat,s=s':=⟨s.toNat,by omega⟩
  rw[Int.toNat_natCast]at he
  exact⟨s',e,rfl,hv,hr,hcu,he,hx,hd⟩
 ·rename_i hc
  injection H with _ H;injection H with _ H
  exact absurd H.symm hc
end Go.Proofs.YtkaiilmgemaljaaGreat

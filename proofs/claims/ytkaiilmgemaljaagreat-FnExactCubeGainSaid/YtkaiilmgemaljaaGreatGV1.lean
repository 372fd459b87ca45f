/- Part of one proof. There are no conditions. -/
import Derived.Test.YtkaiilmgemaljaaGreatGZk
import Derived.Test.YtkaiilmgemaljaaGreatGZm
import Derived.Test.YtkaiilmgemaljaaGreatGD2
set_option maxHeartbeats 0
set_option linter.unusedVariables false
set_option linter.unusedSimpArgs false
namespace Go.Proofs.YtkaiilmgemaljaaGreat
open Go.RowKit Ps Ra Ex
theorem mone_val {B:Int}:Val B ⟨-1,0⟩:=du fH
def RetCd (w:World) (o:Option E) (e:Ending) (w':World):Prop:=(match o with
 | none=>e = .returned (.tuple #[.agg #[.int .i64 0,.int .i64 0],.int .i64 3])
 | some x=>e = .returned (.tuple #[.agg #[.int .i64 x.num,.int .i64 (x.depth:Int)],.int .i64 0]))/\Below w.heap.size w w'
theorem bj (n:Int) (w:World):Calls Tryz.prog 132 #[.int .i64 n] w fun e w'=>e = .returned (.agg #[.int .i64 n,.int .i64 ((0:Nat):Int)])/\Below w.heap.size w w':=by
 go_enter Tryz.func132,Tryz.ntmps132
 go_wp2
 refine bodyPost_ret (v:=.agg #[.int .i64 n,.int .i64 ((0:Nat):Int)]) (by simp[results,Tryz.results132,go_sem]) rfl ⟨rfl,?_⟩
 repeat (first|exact Below.refl _ _|refine stw ?_ (by omega)|refine alw ?_ (by omega))
theorem valid_yes {B n:Int} {d:Nat} (h:Val B ⟨n,d⟩):valB B n d=true:=ij.2 h
theorem iS (p c h xn yn:Int) (s xd yd:Nat) (w:World) (hv:isVar p c h s=true) (hx:Val (sq s) ⟨xn,xd⟩) (hy:Val (sq s) ⟨yn,yd⟩):
  Calls Tryz.prog 133 #[.agg #[.int .i64 p,.int .i64 c,.int .i64 h,.int .i64 s],.agg #[.int .i64 xn,.int .i64 xd],.agg #[.int .i64 yn,.int .i64 yd]] w fun e w'=>e = .returned (.int .i64 0)/\Below w.heap.size w w':=by
 have HB:=h_ (Bel.rfl' w);have hvv:=ak hv
 have hs1:1<=s:=by omega
 have hs6:s<=6:=by omega
 obtain⟨hq1,hq36,_⟩:=sq_bd hs1 hs6;have hxd:xd<50:=aO hq1 hx;have hyd:yd<50:=aO hq1 hy
 have CV:Hid (∀W:World,Calls Tryz.prog 80 #[.agg #[.int .i64 p,.int .i64 c,.int .i64 h,.int .i64 s]] W fun e w'=>e = .returned (.bool true)/\Below W.heap.size W w'):=fun W=>by
  have:=aN p c h s W;rwa [hv]at this
 have C1:Hid (∀W:World,Calls Tryz.prog 86 #[.agg #[.int .i64 p,.int .i64 c,.int .i64 h,.int .i64 s],.agg #[.int .i64 xn,.int .i64 xd]] W fun e w'=>e = .returned (.bool true)/\Below W.heap.size W w'):=fun W=>by
  have:=eG p c h xn s xd W hs1 hs6 (by omega);rwa [valid_yes hx]at this
 have C2:Hid (∀W:World,Calls Tryz.prog 86 #[.agg #[.int .i64 p,.int .i64 c,.int .i64 h,.int .i64 s],.agg #[.int .i64 yn,.int .i64 yd]] W fun e w'=>e = .returned (.bool true)/\Below W.heap.size W w'):=fun W=>by
  have:=eG p c h yn s yd W hs1 hs6 (by omega);rwa [valid_yes hy]at this
 clear hv hvv hx hy
 go_enter Tryz.func133,Tryz.ntmps133
 go_wp2_with (fail)
 refine (CV.out _).mono ?_
 rintro e w1 ⟨rfl,hb⟩
 have K1:=h_ ((((Cel.new' _ #[.int .i64 p,.int .i64 c,.int .i64 h,.int .i64 s] _ (g:=w.heap.size) (by simp)).alloc _).alloc _).below hb)
 have K2:=h_ (((Cel.new' _ #[.int .i64 xn,.int .i64 (xd:Int)] _ (g:=w.heap.size+1) (by simp)).alloc _).below hb)
 have K3:=h_ ((Cel.new' _ #[.int .i64 yn,.int .i64 (yd:Int)] _ (g:=w.heap.size+2) (by simp)).below hb)
 replace HB:=h_ (Bel.trans (Bel.trans (Bel.trans (Bel.trans HB.out (Bel.alloc _ _)) (Bel.alloc _ _)) (Bel.alloc _ _)) hb);clear hb;have hz:=Below.size HB.out;have cK1_0:=K1.out.cell 0 _ rfl;have fK1_0:=K1.out.froz 0 _ rfl;have cK1_1:=K1.out.cell 1 _ rfl;have fK1_1:=K1.out.froz 1 _ rfl;have cK1_2:=K1.out.cell 2 _ rfl;have fK1_2:=K1.out.froz 2 _ rfl;have cK1_3:=K1.out.cell 3 _ rfl;have fK1_3:=K1.out.froz 3 _ rfl;have zK1:=K1.out.lt;have cK2_0:=K2.out.cell 0 _ rfl;have fK2_0:=K2.out.froz 0 _ rfl;have cK2_1:=K2.out.cell 1 _ rfl;have fK2_1:=K2.out.froz 1 _ rfl;have zK2:=K2.out.lt;have cK3_0:=K3.out.cell 0 _ rfl;have fK3_0:=K3.out.froz 0 _ rfl;have cK3_1:=K3.out.cell 1 _ rfl;have fK3_1:=K3.out.froz 1 _ rfl;have zK3:=K3.out.lt
 go_wp2_with (fail)
 refine (C1.out _).mono ?_
 rintro e w2 ⟨rfl,hb⟩
 clear cK1_0 fK1_0 cK1_1 fK1_1 cK1_2 fK1_2 cK1_3 fK1_3 zK1 cK2_0 fK2_0 cK2_1 fK2_1 zK2 cK3_0 fK3_0 cK3_1 fK3_1 zK3 hz;replace K1:=h_ (K1.out.below hb);replace K2:=h_ (K2.out.below hb);replace K3:=h_ (K3.out.below hb);replace HB:=h_ (Bel.trans HB.out hb);clear hb;have hz:=Below.size HB.out;have cK1_0:=K1.out.cell 0 _ rfl;have fK1_0:=K1.out.froz 0 _ rfl;have cK1_1:=K1.out.cell 1 _ rfl;have fK1_1:=K1.out.froz 1 _ rfl;have cK1_2:=K1.out.cell 2 _ rfl;have fK1_2:=K1.out.froz 2 _ rfl;have cK1_3:=K1.out.cell 3 _ rfl;have fK1_3:=K1.out.froz 3 _ rfl;have zK1:=K1.out.lt;have cK2_0:=K2.out.cell 0 _ rfl;have fK2_0:=K2.out.froz 0 _ rfl;have cK2_1:=K2.out.cell 1 _ rfl;have fK2_1:=K2.out.froz 1 _ rfl;have zK2:=K2.out.lt;have cK3_0:=K3.out.cell 0 _ rfl;have fK3_0:=K3.out.froz 0 _ rfl;have cK3_1:=K3.out.cell 1 _ rfl;have fK3_1:=K3.out.froz 1 _ rfl;have zK3:=K3.out.lt
 go_wp2_with (fail)
 refine (C2.out _).mono ?_
 rintro e w3 ⟨rfl,hb⟩
 clear cK1_0 fK1_0 cK1_1 fK1_1 cK1_2 fK1_2 cK1_3 fK1_3 zK1 cK2_0 fK2_0 cK2_1 fK2_1 zK2 cK3_0 fK3_0 cK3_1 fK3_1 zK3 hz;replace K1:=h_ (K1.out.below hb);replace K2:=h_ (K2.out.below hb);replace K3:=h_ (K3.out.below hb);replace HB:=h_ (Bel.trans HB.out hb);clear hb;have hz:=Below.size HB.out;have cK1_0:=K1.out.cell 0 _ rfl;have fK1_0:=K1.out.froz 0 _ rfl;have cK1_1:=K1.out.cell 1 _ rfl;have fK1_1:=K1.out.froz 1 _ rfl;have cK1_2:=K1.out.cell 2 _ rfl;have fK1_2:=K1.out.froz 2 _ rfl;have cK1_3:=K1.out.cell 3 _ rfl;have fK1_3:=K1.out.froz 3 _ rfl;have zK1:=K1.out.lt;have cK2_0:=K2.out.cell 0 _ rfl;have fK2_0:=K2.out.froz 0 _ rfl;have cK2_1:=K2.out.cell 1 _ rfl;have fK2_1:=K2.out.froz 1 _ rfl;have zK2:=K2.out.lt;have cK3_0:=K3.out.cell 0 _ rfl;have fK3_0:=K3.out.froz 0 _ rfl;have cK3_1:=K3.out.cell 1 _ rfl;have fK3_1:=K3.out.froz 1 _ rfl;have zK3:=K3.out.lt
 go_wp2_with (fail)
 go_ret
 exact⟨rfl,HB.out⟩
theorem hY (p c h xn yn:Int) (s xd yd:Nat) (w:World) (hv:isVar p c h s=true) (hx:Val (sq s) ⟨xn,xd⟩) (hy:Val (sq s) ⟨yn,yd⟩):
  Calls Tryz.prog 53 #[.agg #[.int .i64 p,.int .i64 c,.int .i64 h,.int .i64 s],.agg #[.int .i64 xn,.int .i64 (xd:Int)],.agg #[.int .i64 yn,.int .i64 (yd:Int)]] w (RetCd w (addE (sq s) ⟨xn,xd⟩ ⟨yn,yd⟩)):=by
 have HB:=h_ (Bel.rfl' w);have hvv:=ak hv
 have hs1:1<=s:=by omega
 have hs6:s<=6:=by omega
 obtain⟨hq1,hq36,_⟩:=sq_bd hs1 hs6
 have CC:=h_ fun (W:World)=>iS p c h xn yn s xd yd W hv hx hy
 have CA:=h_ fun (W:World)=>cA p c h xn yn s xd yd W hs1 hs6 hx hy
 generalize ho:addE (sq s) ⟨xn,xd⟩ ⟨yn,yd⟩=o at *;clear hv hvv hx ho
 rcases o with _|⟨m,d⟩
 focus
  refine ?za
 rotate_left
 focus
  refine ?zb
 rotate_left
 case' za|zb=>
  go_enter Tryz.func53,Tryz.ntmps53
  go_wp2_with (fail)
  refine (CC.out _).mono ?_
  rintro e w1 ⟨rfl,hb⟩
  have K1:=h_ (((((Cel.new' _ #[.int .i64 p,.int .i64 c,.int .i64 h,.int .i64 s] _ (g:=w.heap.size) (by simp)).alloc _).alloc _).alloc _).below hb)
  have K2:=h_ ((((Cel.new' _ #[.int .i64 xn,.int .i64 (xd:Int)] _ (g:=w.heap.size+1) (by simp)).alloc _).alloc _).below hb)
  have K3:=h_ (((Cel.new' _ #[.int .i64 yn,.int .i64 (yd:Int)] _ (g:=w.heap.size+2) (by simp)).alloc _).below hb)
  have K4:=h_ ((Cel.new' _ #[.int .i64 0,.int .i64 0] _ (g:=w.heap.size+3) (by simp)).below hb)
  replace HB:=h_ (Bel.trans (Bel.trans (Bel.trans (Bel.trans (Bel.trans HB.out (Bel.alloc _ _)) (Bel.alloc _ _)) (Bel.alloc _ _)) (Bel.alloc _ _)) hb);clear hb;have hz:=Below.size HB.out;have cK1_0:=K1.out.cell 0 _ rfl;have fK1_0:=K1.out.froz 0 _ rfl;have cK1_1:=K1.out.cell 1 _ rfl;have fK1_1:=K1.out.froz 1 _ rfl;have cK1_2:=K1.out.cell 2 _ rfl;have fK1_2:=K1.out.froz 2 _ rfl;have cK1_3:=K1.out.cell 3 _ rfl;have fK1_3:=K1.out.froz 3 _ rfl;have zK1:=K1.out.lt;have cK2_0:=K2.out.cell 0 _ rfl;have fK2_0:=K2.out.froz 0 _ rfl;have cK2_1:=K2.out.cell 1 _ rfl;have fK2_1:=K2.out.froz 1 _ rfl;have zK2:=K2.out.lt;have cK3_0:=K3.out.cell 0 _ rfl;have fK3_0:=K3.out.froz 0 _ rfl;have cK3_1:=K3.out.cell 1 _ rfl;have fK3_1:=K3.out.froz 1 _ rfl;have zK3:=K3.out.lt;have cK4_0:=K4.out.cell 0 _ rfl;have fK4_0:=K4.out.froz 0 _ rfl;have cK4_1:=K4.out.cell 1 _ rfl;have fK4_1:=K4.out.froz 1 _ rfl;have zK4:=K4.out.lt
  go_wp2_with (fail)
  refine (CA.out _).mono ?_
  rintro e w2 ⟨rfl,hb⟩
  clear cK1_0 fK1_0 cK1_1 fK1_1 cK1_2 fK1_2 cK1_3 fK1_3 zK1 cK2_0 fK2_0 cK2_1 fK2_1 zK2 cK3_0 fK3_0 cK3_1 fK3_1 zK3 cK4_0 fK4_0 cK4_1 fK4_1 zK4 hz;replace K1:=h_ (K1.out.below hb);replace K2:=h_ (K2.out.below hb);replace K3:=h_ (K3.out.below hb);replace K4:=h_ (K4.out.below hb);replace HB:=h_ (Bel.trans HB.out hb);clear hb;have hz:=Below.size HB.out;have cK1_0:=K1.out.cell 0 _ rfl;have fK1_0:=K1.out.froz 0 _ rfl;have cK1_1:=K1.out.cell 1 _ rfl;have fK1_1:=K1.out.froz 1 _ rfl;have cK1_2:=K1.out.cell 2 _ rfl;have fK1_2:=K1.out.froz 2 _ rfl;have cK1_3:=K1.out.cell 3 _ rfl;have fK1_3:=K1.out.froz 3 _ rfl;have zK1:=K1.out.lt;have cK2_0:=K2.out.cell 0 _ rfl;have fK2_0:=K2.out.froz 0 _ rfl;have cK2_1:=K2.out.cell 1 _ rfl;have fK2_1:=K2.out.froz 1 _ rfl;have zK2:=K2.out.lt;have cK3_0:=K3.out.cell 0 _ rfl;have fK3_0:=K3.out.froz 0 _ rfl;have cK3_1:=K3.out.cell 1 _ rfl;have fK3_1:=K3.out.froz 1 _ rfl;have zK3:=K3.out.lt;have cK4_0:=K4.out.cell 0 _ rfl;have fK4_0:=K4.out.froz 0 _ rfl;have cK4_1:=K4.out.cell 1 _ rfl;have fK4_1:=K4.out.froz 1 _ rfl;have zK4:=K4.out.lt
  go_wp2_with (fail)
 case' za=>
  refine bodyPost_ret (v:=.tuple #[.agg #[.int .i64 0,.int .i64 0],.int .i64 3]) (by simp[results,Tryz.results53,go_sem,cK1_0,fK1_0,cK1_1,fK1_1,cK1_2,fK1_2,cK1_3,fK1_3,zK1,cK2_0,fK2_0,cK2_1,fK2_1,zK2,cK3_0,fK3_0,cK3_1,fK3_1,zK3,cK4_0,fK4_0,cK4_1,fK4_1,zK4]) rfl (⟨rfl,?_⟩)
 case' zb=>
  refine bodyPost_ret (v:=.tuple #[.agg #[.int .i64 m,.int .i64 (d:Int)],.int .i64 0]) (by simp[results,Tryz.results53,go_sem,cK1_0,fK1_0,cK1_1,fK1_1,cK1_2,fK1_2,cK1_3,fK1_3,zK1,cK2_0,fK2_0,cK2_1,fK2_1,zK2,cK3_0,fK3_0,cK3_1,fK3_1,zK3,cK4_0,fK4_0,cK4_1,fK4_1,zK4]) rfl (⟨rfl,?_⟩)
 case za|zb=>
  repeat (first|exact HB.out|refine stw ?_ (by omega)|refine alw ?_ (by omega))
theorem jf (p c h xn:Int) (s xd k:Nat) (w:World) (hv:isVar p c h s=true) (hx:Val (sq s) ⟨xn,xd⟩) (hk1:1<=k) (hk9:k<=1000):
  Calls Tryz.prog 52 #[.agg #[.int .i64 p,.int .i64 c,.int .i64 h,.int .i64 s],.agg #[.int .i64 xn,.int .i64 (xd:Int)],.int .i64 (k:Int)] w (RetCd w (sclE (sq s) ⟨xn,xd⟩ k)):=by
 have HB:=h_ (Bel.rfl' w);have hvv:=ak hv
 have hs1:1<=s:=by omega
 have hs6:s<=6:=by omega
 obtain⟨hq1,hq36,_⟩:=sq_bd hs1 hs6
 have CC:=h_ fun (W:World)=>iS p c h xn xn s xd xd W hv hx hx
 have CA:=h_ fun (W:World)=>gE p c h xn s xd k W hs1 hs6 hx hk1 (by omega)
 have CI:Hid (∀W:World,Calls Tryz.prog 134 #[.int .i64 (k:Int),.int .i64 (-1000),.int .i64 1000] W fun e w'=>e = .returned (.bool true)/\W=w'):=fun W=>by
  have:=l01In_any (k:Int) (-1000) 1000 W;rwa [aW (by omega)]at this
 have hk0:(0:Int)<=k:=by omega
 generalize ho:sclE (sq s) ⟨xn,xd⟩ k=o at *;clear hv hvv hx ho
 rcases o with _|⟨m,d⟩
 focus
  refine ?za
 rotate_left
 focus
  refine ?zb
 rotate_left
 case' za|zb=>
  go_enter Tryz.func52,Tryz.ntmps52
  go_wp2_with (fail)
  refine (CC.out _).mono ?_
  rintro e w1 ⟨rfl,hb⟩
  have K1:=h_ ((((Cel.new' _ #[.int .i64 p,.int .i64 c,.int .i64 h,.int .i64 s] _ (g:=w.heap.size) (by simp)).alloc _).alloc _).below hb)
  have K2:=h_ (((Cel.new' _ #[.int .i64 xn,.int .i64 (xd:Int)] _ (g:=w.heap.size+1) (by simp)).alloc _).below hb)
  have K3:=h_ ((Cel.new' _ #[.int .i64 0,.int .i64 0] _ (g:=w.heap.size+2) (by simp)).below hb)
  replace HB:=h_ (Bel.trans (Bel.trans (Bel.trans (Bel.trans HB.out (Bel.alloc _ _)) (Bel.alloc _ _)) (Bel.alloc _ _)) hb);clear hb;have hz:=Below.size HB.out;have cK1_0:=K1.out.cell 0 _ rfl;have fK1_0:=K1.out.froz 0 _ rfl;have cK1_1:=K1.out.cell 1 _ rfl;have fK1_1:=K1.out.froz 1 _ rfl;have cK1_2:=K1.out.cell 2 _ rfl;have fK1_2:=K1.out.froz 2 _ rfl;have cK1_3:=K1.out.cell 3 _ rfl;have fK1_3:=K1.out.froz 3 _ rfl;have zK1:=K1.out.lt;have cK2_0:=K2.out.cell 0 _ rfl;have fK2_0:=K2.out.froz 0 _ rfl;have cK2_1:=K2.out.cell 1 _ rfl;have fK2_1:=K2.out.froz 1 _ rfl;have zK2:=K2.out.lt;have cK3_0:=K3.out.cell 0 _ rfl;have fK3_0:=K3.out.froz 0 _ rfl;have cK3_1:=K3.out.cell 1 _ rfl;have fK3_1:=K3.out.froz 1 _ rfl;have zK3:=K3.out.lt
  go_wp2_with (fail)
  refine (CI.out _).mono ?_
  rintro e W' ⟨rfl,rfl⟩
  go_wp2_with (fail)
  refine (CA.out _).mono ?_
  rintro e w2 ⟨rfl,hb⟩
  clear cK1_0 fK1_0 cK1_1 fK1_1 cK1_2 fK1_2 cK1_3 fK1_3 zK1 cK2_0 fK2_0 cK2_1 fK2_1 zK2 cK3_0 fK3_0 cK3_1 fK3_1 zK3 hz;replace K1:=h_ (K1.out.below hb);replace K2:=h_ (K2.out.below hb);replace K3:=h_ (K3.out.below hb);replace HB:=h_ (Bel.trans HB.out hb);clear hb;have hz:=Below.size HB.out;have cK1_0:=K1.out.cell 0 _ rfl;have fK1_0:=K1.out.froz 0 _ rfl;have cK1_1:=K1.out.cell 1 _ rfl;have fK1_1:=K1.out.froz 1 _ rfl;have cK1_2:=K1.out.cell 2 _ rfl;have fK1_2:=K1.out.froz 2 _ rfl;have cK1_3:=K1.out.cell 3 _ rfl;have fK1_3:=K1.out.froz 3 _ rfl;have zK1:=K1.out.lt;have cK2_0:=K2.out.cell 0 _ rfl;have fK2_0:=K2.out.froz 0 _ rfl;have cK2_1:=K2.out.cell 1 _ rfl;have fK2_1:=K2.out.froz 1 _ rfl;have zK2:=K2.out.lt;have cK3_0:=K3.out.cell 0 _ rfl;have fK3_0:=K3.out.froz 0 _ rfl;have cK3_1:=K3.out.cell 1 _ rfl;have fK3_1:=K3.out.froz 1 _ rfl;have zK3:=K3.out.lt
  go_wp2_with (fail)
 case' za=>
  refine bodyPost_ret (v:=.tuple #[.agg #[.int .i64 0,.int .i64 0],.int .i64 3]) (by simp[results,Tryz.results52,go_sem,cK1_0,fK1_0,cK1_1,fK1_1,cK1_2,fK1_2,cK1_3,fK1_3,zK1,cK2_0,fK2_0,cK2_1,fK2_1,zK2,cK3_0,fK3_0,cK3_1,fK3_1,zK3]) rfl (⟨rfl,?_⟩)
 case' zb=>
  refine bodyPost_ret (v:=.tuple #[.agg #[.int .i64 m,.int .i64 (d:Int)],.int .i64 0]) (by simp[results,Tryz.results52,go_sem,cK1_0,fK1_0,cK1_1,fK1_1,cK1_2,fK1_2,cK1_3,fK1_3,zK1,cK2_0,fK2_0,cK2_1,fK2_1,zK2,cK3_0,fK3_0,cK3_1,fK3_1,zK3]) rfl (⟨rfl,?_⟩)
 case za|zb=>
  repeat (first|exact HB.out|refine stw ?_ (by omega)|refine alw ?_ (by omega))
end Go.Proofs.YtkaiilmgemaljaaGreat

/- Contracts of the reference's l09Code, AddExact and ScaleExact at valid numbers. There are no conditions beyond those. -/
import Derived.Test.YtkaiilmgemaljaaGreatPZk
import Derived.Test.YtkaiilmgemaljaaGreatPZm
import Derived.Test.YtkaiilmgemaljaaGreatPZl
import Derived.Test.YtkaiilmgemaljaaGreatPN14
import Derived.Test.YtkaiilmgemaljaaGreatPR6
import Derived.Test.YtkaiilmgemaljaaGreatPU3
import Derived.Test.YtkaiilmgemaljaaGreatPD7
set_option linter.unusedVariables false
set_option linter.unusedSimpArgs false
namespace Go.Proofs.YtkaiilmgemaljaaGreat
open Go.RowKit Ps Ra Ex
def RetCd (w:World) (o:Option E) (e:Ending) (w':World):Prop:=(match o with
 | none=>e = .returned (.tuple #[.agg #[.int .i64 0,.int .i64 0],.int .i64 3])
 | some x=>e = .returned (.tuple #[.agg #[.int .i64 x.num,.int .i64 (x.depth:Int)],.int .i64 0]))∧Below w.heap.size w w'
theorem valid_yes {B n:Int} {d:Nat} (h:Val B ⟨n,d⟩):valB B n d=true:=valB_yes.2 h
theorem l09Code_val (p c h xn yn:Int) (s xd yd:Nat) (w:World) (hv:isVar p c h s=true) (hx:Val (sq s) ⟨xn,xd⟩) (hy:Val (sq s) ⟨yn,yd⟩):
  Calls Tryz.prog 133 #[.agg #[.int .i64 p,.int .i64 c,.int .i64 h,.int .i64 s],.agg #[.int .i64 xn,.int .i64 xd],.agg #[.int .i64 yn,.int .i64 yd]] w fun e w'=>e = .returned (.int .i64 0)∧Below w.heap.size w w':=by
 have HB:=Lib.hid (Bel.rfl' w);have hvv:=isVar_yes hv
 have hs1:1≤s:=by omega
 have hs6:s≤6:=by omega
 obtain⟨hq1,hq36,_⟩:=sq_bd hs1 hs6;have hxd:xd<50:=depth_lt hq1 hx;have hyd:yd<50:=depth_lt hq1 hy
 have CV:Hid (∀W:World,Calls Tryz.prog 80 #[.agg #[.int .i64 p,.int .i64 c,.int .i64 h,.int .i64 s]] W fun e w'=>e = .returned (.bool true)∧Below W.heap.size W w'):=fun W=>by
  have:=sIsVariant_any p c h s W;rwa [hv]at this
 have C1:Hid (∀W:World,Calls Tryz.prog 86 #[.agg #[.int .i64 p,.int .i64 c,.int .i64 h,.int .i64 s],.agg #[.int .i64 xn,.int .i64 xd]] W fun e w'=>e = .returned (.bool true)∧Below W.heap.size W w'):=fun W=>by
  have:=l09Valid_any p c h xn s xd W hs1 hs6 (by omega);rwa [valid_yes hx]at this
 have C2:Hid (∀W:World,Calls Tryz.prog 86 #[.agg #[.int .i64 p,.int .i64 c,.int .i64 h,.int .i64 s],.agg #[.int .i64 yn,.int .i64 yd]] W fun e w'=>e = .returned (.bool true)∧Below W.heap.size W w'):=fun W=>by
  have:=l09Valid_any p c h yn s yd W hs1 hs6 (by omega);rwa [valid_yes hy]at this
 clear hv hvv hx hy
 go_enter Tryz.func133,Tryz.ntmps133
 go_wp2_with (fail)
 refine (CV.out _).mono ?_
 rintro e w1 ⟨rfl,hb⟩
 have K1:=Lib.hid ((((Cel.new' _ #[.int .i64 p,.int .i64 c,.int .i64 h,.int .i64 s] _ (g:=w.heap.size) (by simp)).alloc _).alloc _).below hb)
 have K2:=Lib.hid (((Cel.new' _ #[.int .i64 xn,.int .i64 (xd:Int)] _ (g:=w.heap.size+1) (by simp)).alloc _).below hb)
 have K3:=Lib.hid ((Cel.new' _ #[.int .i64 yn,.int .i64 (yd:Int)] _ (g:=w.heap.size+2) (by simp)).below hb)
 replace HB:=Lib.hid (Bel.trans (Bel.trans (Bel.trans (Bel.trans HB.out (Bel.alloc _ _)) (Bel.alloc _ _)) (Bel.alloc _ _)) hb);clear hb;have hz:=Below.size HB.out;have cK1_0:=K1.out.cell 0 _ rfl;have fK1_0:=K1.out.froz 0 _ rfl;have cK1_1:=K1.out.cell 1 _ rfl;have fK1_1:=K1.out.froz 1 _ rfl;have cK1_2:=K1.out.cell 2 _ rfl;have fK1_2:=K1.out.froz 2 _ rfl;have cK1_3:=K1.out.cell 3 _ rfl;have fK1_3:=K1.out.froz 3 _ rfl;have zK1:=K1.out.lt;have cK2_0:=K2.out.cell 0 _ rfl;have fK2_0:=K2.out.froz 0 _ rfl;have cK2_1:=K2.out.cell 1 _ rfl;have fK2_1:=K2.out.froz 1 _ rfl;have zK2:=K2.out.lt;have cK3_0:=K3.out.cell 0 _ rfl;have fK3_0:=K3.out.froz 0 _ rfl;have cK3_1:=K3.out.cell 1 _ rfl;have fK3_1:=K3.out.froz 1 _ rfl;have zK3:=K3.out.lt
 go_wp2_with (fail)
 refine (C1.out _).mono ?_
 rintro e w2 ⟨rfl,hb⟩
 clear cK1_0 fK1_0 cK1_1 fK1_1 cK1_2 fK1_2 cK1_3 fK1_3 zK1 cK2_0 fK2_0 cK2_1 fK2_1 zK2 cK3_0 fK3_0 cK3_1 fK3_1 zK3 hz;replace K1:=Lib.hid (K1.out.below hb);replace K2:=Lib.hid (K2.out.below hb);replace K3:=Lib.hid (K3.out.below hb);replace HB:=Lib.hid (Bel.trans HB.out hb);clear hb;have hz:=Below.size HB.out;have cK1_0:=K1.out.cell 0 _ rfl;have fK1_0:=K1.out.froz 0 _ rfl;have cK1_1:=K1.out.cell 1 _ rfl;have fK1_1:=K1.out.froz 1 _ rfl;have cK1_2:=K1.out.cell 2 _ rfl;have fK1_2:=K1.out.froz 2 _ rfl;have cK1_3:=K1.out.cell 3 _ rfl;have fK1_3:=K1.out.froz 3 _ rfl;have zK1:=K1.out.lt;have cK2_0:=K2.out.cell 0 _ rfl;have fK2_0:=K2.out.froz 0 _ rfl;have cK2_1:=K2.out.cell 1 _ rfl;have fK2_1:=K2.out.froz 1 _ rfl;have zK2:=K2.out.lt;have cK3_0:=K3.out.cell 0 _ rfl;have fK3_0:=K3.out.froz 0 _ rfl;have cK3_1:=K3.out.cell 1 _ rfl;have fK3_1:=K3.out.froz 1 _ rfl;have zK3:=K3.out.lt
 go_wp2_with (fail)
 refine (C2.out _).mono ?_
 rintro e w3 ⟨rfl,hb⟩
 clear cK1_0 fK1_0 cK1_1 fK1_1 cK1_2 fK1_2 cK1_3 fK1_3 zK1 cK2_0 fK2_0 cK2_1 fK2_1 zK2 cK3_0 fK3_0 cK3_1 fK3_1 zK3 hz;replace K1:=Lib.hid (K1.out.below hb);replace K2:=Lib.hid (K2.out.below hb);replace K3:=Lib.hid (K3.out.below hb);replace HB:=Lib.hid (Bel.trans HB.out hb);clear hb;have hz:=Below.size HB.out;have cK1_0:=K1.out.cell 0 _ rfl;have fK1_0:=K1.out.froz 0 _ rfl;have cK1_1:=K1.out.cell 1 _ rfl;have fK1_1:=K1.out.froz 1 _ rfl;have cK1_2:=K1.out.cell 2 _ rfl;have fK1_2:=K1.out.froz 2 _ rfl;have cK1_3:=K1.out.cell 3 _ rfl;have fK1_3:=K1.out.froz 3 _ rfl;have zK1:=K1.out.lt;have cK2_0:=K2.out.cell 0 _ rfl;have fK2_0:=K2.out.froz 0 _ rfl;have cK2_1:=K2.out.cell 1 _ rfl;have fK2_1:=K2.out.froz 1 _ rfl;have zK2:=K2.out.lt;have cK3_0:=K3.out.cell 0 _ rfl;have fK3_0:=K3.out.froz 0 _ rfl;have cK3_1:=K3.out.cell 1 _ rfl;have fK3_1:=K3.out.froz 1 _ rfl;have zK3:=K3.out.lt
 go_wp2_with (fail)
 go_ret
 exact⟨rfl,HB.out⟩
set_option maxHeartbeats 1000000 in
theorem AddExact_val (p c h xn yn:Int) (s xd yd:Nat) (w:World) (hv:isVar p c h s=true) (hx:Val (sq s) ⟨xn,xd⟩) (hy:Val (sq s) ⟨yn,yd⟩):
  Calls Tryz.prog 53 #[.agg #[.int .i64 p,.int .i64 c,.int .i64 h,.int .i64 s],.agg #[.int .i64 xn,.int .i64 (xd:Int)],.agg #[.int .i64 yn,.int .i64 (yd:Int)]] w (RetCd w (addE (sq s) ⟨xn,xd⟩ ⟨yn,yd⟩)):=by
 have HB:=Lib.hid (Bel.rfl' w);have hvv:=isVar_yes hv
 have hs1:1≤s:=by omega
 have hs6:s≤6:=by omega
 obtain⟨hq1,hq36,_⟩:=sq_bd hs1 hs6
 have CC:=Lib.hid fun (W:World)=>l09Code_val p c h xn yn s xd yd W hv hx hy
 have CA:=Lib.hid fun (W:World)=>l09Add_any p c h xn yn s xd yd W hs1 hs6 hx hy
 generalize ho:addE (sq s) ⟨xn,xd⟩ ⟨yn,yd⟩=o at *;clear hv hvv hx ho
 rcases o with _|⟨m,d⟩
 ·
  go_enter Tryz.func53,Tryz.ntmps53
  go_wp2_with (fail)
  refine (CC.out _).mono ?_
  rintro e w1 ⟨rfl,hb⟩
  have K1:=Lib.hid (((((Cel.new' _ #[.int .i64 p,.int .i64 c,.int .i64 h,.int .i64 s] _ (g:=w.heap.size) (by simp)).alloc _).alloc _).alloc _).below hb)
  have K2:=Lib.hid ((((Cel.new' _ #[.int .i64 xn,.int .i64 (xd:Int)] _ (g:=w.heap.size+1) (by simp)).alloc _).alloc _).below hb)
  have K3:=Lib.hid (((Cel.new' _ #[.int .i64 yn,.int .i64 (yd:Int)] _ (g:=w.heap.size+2) (by simp)).alloc _).below hb)
  have K4:=Lib.hid ((Cel.new' _ #[.int .i64 0,.int .i64 0] _ (g:=w.heap.size+3) (by simp)).below hb)
  replace HB:=Lib.hid (Bel.trans (Bel.trans (Bel.trans (Bel.trans (Bel.trans HB.out (Bel.alloc _ _)) (Bel.alloc _ _)) (Bel.alloc _ _)) (Bel.alloc _ _)) hb);clear hb;have hz:=Below.size HB.out;have cK1_0:=K1.out.cell 0 _ rfl;have fK1_0:=K1.out.froz 0 _ rfl;have cK1_1:=K1.out.cell 1 _ rfl;have fK1_1:=K1.out.froz 1 _ rfl;have cK1_2:=K1.out.cell 2 _ rfl;have fK1_2:=K1.out.froz 2 _ rfl;have cK1_3:=K1.out.cell 3 _ rfl;have fK1_3:=K1.out.froz 3 _ rfl;have zK1:=K1.out.lt;have cK2_0:=K2.out.cell 0 _ rfl;have fK2_0:=K2.out.froz 0 _ rfl;have cK2_1:=K2.out.cell 1 _ rfl;have fK2_1:=K2.out.froz 1 _ rfl;have zK2:=K2.out.lt;have cK3_0:=K3.out.cell 0 _ rfl;have fK3_0:=K3.out.froz 0 _ rfl;have cK3_1:=K3.out.cell 1 _ rfl;have fK3_1:=K3.out.froz 1 _ rfl;have zK3:=K3.out.lt;have cK4_0:=K4.out.cell 0 _ rfl;have fK4_0:=K4.out.froz 0 _ rfl;have cK4_1:=K4.out.cell 1 _ rfl;have fK4_1:=K4.out.froz 1 _ rfl;have zK4:=K4.out.lt
  go_wp2_with (fail)
  refine (CA.out _).mono ?_
  rintro e w2 ⟨rfl,hb⟩
  clear cK1_0 fK1_0 cK1_1 fK1_1 cK1_2 fK1_2 cK1_3 fK1_3 zK1 cK2_0 fK2_0 cK2_1 fK2_1 zK2 cK3_0 fK3_0 cK3_1 fK3_1 zK3 cK4_0 fK4_0 cK4_1 fK4_1 zK4 hz;replace K1:=Lib.hid (K1.out.below hb);replace K2:=Lib.hid (K2.out.below hb);replace K3:=Lib.hid (K3.out.below hb);replace K4:=Lib.hid (K4.out.below hb);replace HB:=Lib.hid (Bel.trans HB.out hb);clear hb;have hz:=Below.size HB.out;have cK1_0:=K1.out.cell 0 _ rfl;have fK1_0:=K1.out.froz 0 _ rfl;have cK1_1:=K1.out.cell 1 _ rfl;have fK1_1:=K1.out.froz 1 _ rfl;have cK1_2:=K1.out.cell 2 _ rfl;have fK1_2:=K1.out.froz 2 _ rfl;have cK1_3:=K1.out.cell 3 _ rfl;have fK1_3:=K1.out.froz 3 _ rfl;have zK1:=K1.out.lt;have cK2_0:=K2.out.cell 0 _ rfl;have fK2_0:=K2.out.froz 0 _ rfl;have cK2_1:=K2.out.cell 1 _ rfl;have fK2_1:=K2.out.froz 1 _ rfl;have zK2:=K2.out.lt;have cK3_0:=K3.out.cell 0 _ rfl;have fK3_0:=K3.out.froz 0 _ rfl;have cK3_1:=K3.out.cell 1 _ rfl;have fK3_1:=K3.out.froz 1 _ rfl;have zK3:=K3.out.lt;have cK4_0:=K4.out.cell 0 _ rfl;have fK4_0:=K4.out.froz 0 _ rfl;have cK4_1:=K4.out.cell 1 _ rfl;have fK4_1:=K4.out.froz 1 _ rfl;have zK4:=K4.out.lt
  go_wp2_with (fail)
  refine bodyPost_ret (v:=.tuple #[.agg #[.int .i64 0,.int .i64 0],.int .i64 3]) (by simp[results,Tryz.results53,go_sem,cK1_0,fK1_0,cK1_1,fK1_1,cK1_2,fK1_2,cK1_3,fK1_3,zK1,cK2_0,fK2_0,cK2_1,fK2_1,zK2,cK3_0,fK3_0,cK3_1,fK3_1,zK3,cK4_0,fK4_0,cK4_1,fK4_1,zK4]) rfl (⟨rfl,?_⟩)
  repeat (first|exact HB.out|refine stw ?_ (by omega)|refine alw ?_ (by omega))
 ·
  go_enter Tryz.func53,Tryz.ntmps53
  go_wp2_with (fail)
  refine (CC.out _).mono ?_
  rintro e w1 ⟨rfl,hb⟩
  have K1:=Lib.hid (((((Cel.new' _ #[.int .i64 p,.int .i64 c,.int .i64 h,.int .i64 s] _ (g:=w.heap.size) (by simp)).alloc _).alloc _).alloc _).below hb)
  have K2:=Lib.hid ((((Cel.new' _ #[.int .i64 xn,.int .i64 (xd:Int)] _ (g:=w.heap.size+1) (by simp)).alloc _).alloc _).below hb)
  have K3:=Lib.hid (((Cel.new' _ #[.int .i64 yn,.int .i64 (yd:Int)] _ (g:=w.heap.size+2) (by simp)).alloc _).below hb)
  have K4:=Lib.hid ((Cel.new' _ #[.int .i64 0,.int .i64 0] _ (g:=w.heap.size+3) (by simp)).below hb)
  replace HB:=Lib.hid (Bel.trans (Bel.trans (Bel.trans (Bel.trans (Bel.trans HB.out (Bel.alloc _ _)) (Bel.alloc _ _)) (Bel.alloc _ _)) (Bel.alloc _ _)) hb);clear hb;have hz:=Below.size HB.out;have cK1_0:=K1.out.cell 0 _ rfl;have fK1_0:=K1.out.froz 0 _ rfl;have cK1_1:=K1.out.cell 1 _ rfl;have fK1_1:=K1.out.froz 1 _ rfl;have cK1_2:=K1.out.cell 2 _ rfl;have fK1_2:=K1.out.froz 2 _ rfl;have cK1_3:=K1.out.cell 3 _ rfl;have fK1_3:=K1.out.froz 3 _ rfl;have zK1:=K1.out.lt;have cK2_0:=K2.out.cell 0 _ rfl;have fK2_0:=K2.out.froz 0 _ rfl;have cK2_1:=K2.out.cell 1 _ rfl;have fK2_1:=K2.out.froz 1 _ rfl;have zK2:=K2.out.lt;have cK3_0:=K3.out.cell 0 _ rfl;have fK3_0:=K3.out.froz 0 _ rfl;have cK3_1:=K3.out.cell 1 _ rfl;have fK3_1:=K3.out.froz 1 _ rfl;have zK3:=K3.out.lt;have cK4_0:=K4.out.cell 0 _ rfl;have fK4_0:=K4.out.froz 0 _ rfl;have cK4_1:=K4.out.cell 1 _ rfl;have fK4_1:=K4.out.froz 1 _ rfl;have zK4:=K4.out.lt
  go_wp2_with (fail)
  refine (CA.out _).mono ?_
  rintro e w2 ⟨rfl,hb⟩
  clear cK1_0 fK1_0 cK1_1 fK1_1 cK1_2 fK1_2 cK1_3 fK1_3 zK1 cK2_0 fK2_0 cK2_1 fK2_1 zK2 cK3_0 fK3_0 cK3_1 fK3_1 zK3 cK4_0 fK4_0 cK4_1 fK4_1 zK4 hz;replace K1:=Lib.hid (K1.out.below hb);replace K2:=Lib.hid (K2.out.below hb);replace K3:=Lib.hid (K3.out.below hb);replace K4:=Lib.hid (K4.out.below hb);replace HB:=Lib.hid (Bel.trans HB.out hb);clear hb;have hz:=Below.size HB.out;have cK1_0:=K1.out.cell 0 _ rfl;have fK1_0:=K1.out.froz 0 _ rfl;have cK1_1:=K1.out.cell 1 _ rfl;have fK1_1:=K1.out.froz 1 _ rfl;have cK1_2:=K1.out.cell 2 _ rfl;have fK1_2:=K1.out.froz 2 _ rfl;have cK1_3:=K1.out.cell 3 _ rfl;have fK1_3:=K1.out.froz 3 _ rfl;have zK1:=K1.out.lt;have cK2_0:=K2.out.cell 0 _ rfl;have fK2_0:=K2.out.froz 0 _ rfl;have cK2_1:=K2.out.cell 1 _ rfl;have fK2_1:=K2.out.froz 1 _ rfl;have zK2:=K2.out.lt;have cK3_0:=K3.out.cell 0 _ rfl;have fK3_0:=K3.out.froz 0 _ rfl;have cK3_1:=K3.out.cell 1 _ rfl;have fK3_1:=K3.out.froz 1 _ rfl;have zK3:=K3.out.lt;have cK4_0:=K4.out.cell 0 _ rfl;have fK4_0:=K4.out.froz 0 _ rfl;have cK4_1:=K4.out.cell 1 _ rfl;have fK4_1:=K4.out.froz 1 _ rfl;have zK4:=K4.out.lt
  go_wp2_with (fail)
  refine bodyPost_ret (v:=.tuple #[.agg #[.int .i64 m,.int .i64 (d:Int)],.int .i64 0]) (by simp[results,Tryz.results53,go_sem,cK1_0,fK1_0,cK1_1,fK1_1,cK1_2,fK1_2,cK1_3,fK1_3,zK1,cK2_0,fK2_0,cK2_1,fK2_1,zK2,cK3_0,fK3_0,cK3_1,fK3_1,zK3,cK4_0,fK4_0,cK4_1,fK4_1,zK4]) rfl (⟨rfl,?_⟩)
  repeat (first|exact HB.out|refine stw ?_ (by omega)|refine alw ?_ (by omega))
theorem neq_exact (a b a' b':Int) (w:World):(binOp .neq 35 (.agg #[.int .i64 a,.int .i64 b]) (.agg #[.int .i64 a',.int .i64 b'])).run Tryz.prog w = .ok (.bool (!decide (a=a'∧b=b'))) w:=by
 have u3:=Tryz.underlying2
 have hS:Tryz.prog.underlying 35=some (.struct (Tryz.prog.fieldsOf 35)):=by kernel_rfl
 have hp:Tryz.prog.stoodInHeld 35=false:=by kernel_rfl
 rw[run_neq_struct,show (10000:Nat)=9999+1 from rfl,run_equalIn_agg w 9999 35 _ _ hS hp]
 simp only[Program.fieldsOf,Tryz.underlying35]
 go_simp
 by_cases h1:a=a'<;>by_cases h2:b=b'<;>simp[h1,h2]
theorem big_any (A:Option Addr) (n c:Nat) (w:World):Calls Tryz.prog 14 #[.slice A n c] w fun e w'=>e = .returned (.bool (decide (4096<n)))∧w=w':=by
 go_enter Tryz.func14,Tryz.ntmps14
 go_wp2_with (fail)
 go_ret
 exact⟨by by_cases h:4096<n<;>simp[h]<;>omega,rfl⟩
theorem OwnE.base {w:World} {b b':Nat} {v:Value} {xs:List E} (h:OwnE w b v xs) (hb:b'≤b):OwnE w b' v xs:=by
 obtain⟨h1,h2⟩:=h
 refine⟨h1,h2.imp id ?_⟩
 rintro⟨g,cap,cur,hv,hg,r⟩
 exact⟨g,cap,cur,hv,Nat.le_trans hb hg,r⟩
theorem EL.all {S:Nat→Prop} {w:World} {A:Option Addr} {n:Nat} {xs:List E} (h:EL S w A n xs):EL (fun _=>False) w A n xs:=⟨h.1,h.2.less fun _ h=>h.elim⟩
end Go.Proofs.YtkaiilmgemaljaaGreat

/- Part of one proof. There are no conditions. -/
import Derived.Test.YtkaiilmgemaljaaGreatCZr
import Derived.Test.YtkaiilmgemaljaaGreatCZb
import Derived.Test.YtkaiilmgemaljaaGreatCZm
set_option linter.unusedVariables false
set_option linter.unusedSimpArgs false
set_option maxRecDepth 100000
namespace Go.Proofs.YtkaiilmgemaljaaGreat
open Go.RowKit Ps Ra Ex
section
variable (p c h xn yn:Int) (s xd yd:Nat) (w:World)
theorem l09Code_yes (hv:isVar p c h s=true) (hx:Val (sq s) ⟨xn,xd⟩) (hy:Val (sq s) ⟨yn,yd⟩):
  Calls Tryz.prog 133 #[.agg #[.int .i64 p,.int .i64 c,.int .i64 h,.int .i64 s],.agg #[.int .i64 xn,.int .i64 xd],.agg #[.int .i64 yn,.int .i64 yd]] w fun e w'=>e = .returned (.int .i64 0)∧Below w.heap.size w w':=by
 have hs1:1≤s:=by have:=(zaj hv).2.2.2.2.2.2.1;omega
 have hs6:s≤6:=by have:=(zaj hv).2.2.2.2.2.2.2;omega
 have HF:Hid (Fr w (((w.alloc (.cells #[.int .i64 p,.int .i64 c,.int .i64 h,.int .i64 s] 25)).alloc (.cells #[.int .i64 xn,.int .i64 xd] 35)).alloc (.cells #[.int .i64 yn,.int .i64 yd] 35)) [[.int .i64 p,.int .i64 c,.int .i64 h,.int .i64 s],[.int .i64 xn,.int .i64 xd],[.int .i64 yn,.int .i64 yd]]):=(((Fr.start w).allocT (by simp) _ _).allocT (by simp) _ _).allocT (by simp) _ _
 have CV:Hid (∀W:World,Calls Tryz.prog 80 #[.agg #[.int .i64 p,.int .i64 c,.int .i64 h,.int .i64 s]] W fun e w'=>e = .returned (.bool true)∧Below W.heap.size W w'):=fun W=>by
  have:=zay p c h s W;rw[hv]at this;exact this
 have CX:Hid (∀W:World,Calls Tryz.prog 86 #[.agg #[.int .i64 p,.int .i64 c,.int .i64 h,.int .i64 s],.agg #[.int .i64 xn,.int .i64 xd]] W fun e w'=>e = .returned (.bool true)∧Below W.heap.size W w'):=fun W=>by
  have:=zcj p c h xn s xd W hs1 hs6 (by have:=zaJ (sq_bd hs1 hs6).1 hx;simp only at this;omega)
  rw[zdY.2 hx]at this
  exact this
 have CY:Hid (∀W:World,Calls Tryz.prog 86 #[.agg #[.int .i64 p,.int .i64 c,.int .i64 h,.int .i64 s],.agg #[.int .i64 yn,.int .i64 yd]] W fun e w'=>e = .returned (.bool true)∧Below W.heap.size W w'):=fun W=>by
  have:=zcj p c h yn s yd W hs1 hs6 (by have:=zaJ (sq_bd hs1 hs6).1 hy;simp only at this;omega)
  rw[zdY.2 hy]at this
  exact this
 clear hv hx hy hs1 hs6
 go_enter Tryz.func133,Tryz.ntmps133
 obtain⟨z0,c00,f00,c01,f01,c02,f02,c03,f03,z1,c10,f10,c11,f11,z2,c20,f20,c21,f21⟩:=HF.out.xf1
 go_wp2_with (fail)
 refine (CV.out _).mono ?_
 rintro e w1 ⟨rfl,hb⟩
 replace HF:=h_ (HF.out.below hb);clear hb;clear z0 c00 f00 c01 f01 c02 f02 c03 f03 z1 c10 f10 c11 f11 z2 c20 f20 c21 f21;obtain⟨z0,c00,f00,c01,f01,c02,f02,c03,f03,z1,c10,f10,c11,f11,z2,c20,f20,c21,f21⟩:=HF.out.xf1
 go_wp2_with (fail)
 refine (CX.out _).mono ?_
 rintro e w2 ⟨rfl,hb⟩
 replace HF:=h_ (HF.out.below hb);clear hb;clear z0 c00 f00 c01 f01 c02 f02 c03 f03 z1 c10 f10 c11 f11 z2 c20 f20 c21 f21;obtain⟨z0,c00,f00,c01,f01,c02,f02,c03,f03,z1,c10,f10,c11,f11,z2,c20,f20,c21,f21⟩:=HF.out.xf1
 go_wp2_with (fail)
 refine (CY.out _).mono ?_
 rintro e w3 ⟨rfl,hb⟩
 replace HF:=h_ (HF.out.below hb);clear hb
 go_wp2_with (fail)
 go_ret
 exact⟨rfl,HF.out.b⟩
theorem zeC (hv:isVar p c h s=true) (hx:Val (sq s) ⟨xn,xd⟩) (hy:Val (sq s) ⟨yn,yd⟩):
  Calls Tryz.prog 109 #[.agg #[.int .i64 p,.int .i64 c,.int .i64 h,.int .i64 s],.agg #[.int .i64 xn,.int .i64 xd],.agg #[.int .i64 yn,.int .i64 yd]] w fun e w'=>e = .returned (.tuple #[.int .i64 (cmpE (sq s) ⟨xn,xd⟩ ⟨yn,yd⟩),.int .i64 0])∧Below w.heap.size w w':=by
 have hs1:1≤s:=by have:=(zaj hv).2.2.2.2.2.2.1;omega
 have hs6:s≤6:=by have:=(zaj hv).2.2.2.2.2.2.2;omega
 have HF:Hid (Fr w (((w.alloc (.cells #[.int .i64 p,.int .i64 c,.int .i64 h,.int .i64 s] 25)).alloc (.cells #[.int .i64 xn,.int .i64 xd] 35)).alloc (.cells #[.int .i64 yn,.int .i64 yd] 35)) [[.int .i64 p,.int .i64 c,.int .i64 h,.int .i64 s],[.int .i64 xn,.int .i64 xd],[.int .i64 yn,.int .i64 yd]]):=(((Fr.start w).allocT (by simp) _ _).allocT (by simp) _ _).allocT (by simp) _ _
 have CC:=h_ fun (W:World)=>l09Code_yes p c h xn yn s xd yd W hv hx hy
 have CM:=h_ fun (W:World)=>zbk p c h xn yn s xd yd W hs1 hs6 hx hy
 clear hv hx hy hs1 hs6;generalize cmpE (sq s) ⟨xn,xd⟩ ⟨yn,yd⟩=k at *
 go_enter Tryz.func109,Tryz.ntmps109
 obtain⟨z0,c00,f00,c01,f01,c02,f02,c03,f03,z1,c10,f10,c11,f11,z2,c20,f20,c21,f21⟩:=HF.out.xf1
 go_wp2_with (fail)
 refine (CC.out _).mono ?_
 rintro e w1 ⟨rfl,hb⟩
 replace HF:=h_ (HF.out.below hb);clear hb;clear z0 c00 f00 c01 f01 c02 f02 c03 f03 z1 c10 f10 c11 f11 z2 c20 f20 c21 f21;obtain⟨z0,c00,f00,c01,f01,c02,f02,c03,f03,z1,c10,f10,c11,f11,z2,c20,f20,c21,f21⟩:=HF.out.xf1
 go_wp2_with (fail)
 refine (CM.out _).mono ?_
 rintro e w2 ⟨rfl,hb⟩
 replace HF:=h_ (HF.out.below hb);clear hb
 go_wp2_with (fail)
 refine bodyPost_ret (v:=.tuple #[.int .i64 k,.int .i64 0]) (by simp[results,Tryz.results109,go_sem]) rfl ?_
 exact⟨rfl,HF.out.b⟩
theorem w5_any (hv:isVar p c h s=true) (hx:Val (sq s) ⟨xn,xd⟩) (hy:Val (sq s) ⟨yn,yd⟩):
  Calls Tryz.prog 32 #[.agg #[.int .i64 p,.int .i64 c,.int .i64 h,.int .i64 s],.agg #[.int .i64 xn,.int .i64 xd],.agg #[.int .i64 yn,.int .i64 yd]] w fun e w'=>e = .returned (.int .i64 (cmpE (sq s) ⟨xn,xd⟩ ⟨yn,yd⟩))∧Below w.heap.size w w':=by
 have HF:Hid (Fr w (((w.alloc (.cells #[.int .i64 p,.int .i64 c,.int .i64 h,.int .i64 s] 25)).alloc (.cells #[.int .i64 xn,.int .i64 xd] 35)).alloc (.cells #[.int .i64 yn,.int .i64 yd] 35)) [[.int .i64 p,.int .i64 c,.int .i64 h,.int .i64 s],[.int .i64 xn,.int .i64 xd],[.int .i64 yn,.int .i64 yd]]):=(((Fr.start w).allocT (by simp) _ _).allocT (by simp) _ _).allocT (by simp) _ _
 have CC:=h_ fun (W:World)=>zeC p c h xn yn s xd yd W hv hx hy
 clear hv hx hy;generalize cmpE (sq s) ⟨xn,xd⟩ ⟨yn,yd⟩=k at *
 go_enter Tryz.func32,Tryz.ntmps32
 obtain⟨z0,c00,f00,c01,f01,c02,f02,c03,f03,z1,c10,f10,c11,f11,z2,c20,f20,c21,f21⟩:=HF.out.xf1
 go_wp2_with (fail)
 refine (CC.out _).mono ?_
 rintro e w1 ⟨rfl,hb⟩
 replace HF:=h_ (HF.out.below hb);clear hb
 go_wp2_with (fail)
 go_ret
 exact⟨rfl,HF.out.b⟩
end
theorem sIsExact_yes (p c h n:Int) (s d:Nat) (w:World) (hv:isVar p c h s=true) (hx:Val (sq s) ⟨n,d⟩):
  Calls Tryz.prog 41 #[.agg #[.int .i64 p,.int .i64 c,.int .i64 h,.int .i64 s],.agg #[.int .i64 n,.int .i64 d]] w fun e w'=>e = .returned (.bool true)∧Below w.heap.size w w':=by
 have hs1:1≤s:=by have:=(zaj hv).2.2.2.2.2.2.1;omega
 have hs6:s≤6:=by have:=(zaj hv).2.2.2.2.2.2.2;omega
 have HF:Hid (Fr w ((w.alloc (.cells #[.int .i64 p,.int .i64 c,.int .i64 h,.int .i64 s] 25)).alloc (.cells #[.int .i64 n,.int .i64 d] 35)) [[.int .i64 p,.int .i64 c,.int .i64 h,.int .i64 s],[.int .i64 n,.int .i64 d]]):=((Fr.start w).allocT (by simp) _ _).allocT (by simp) _ _
 have CV:Hid (∀W:World,Calls Tryz.prog 80 #[.agg #[.int .i64 p,.int .i64 c,.int .i64 h,.int .i64 s]] W fun e w'=>e = .returned (.bool true)∧Below W.heap.size W w'):=fun W=>by
  have:=zay p c h s W;rw[hv]at this;exact this
 have CX:Hid (∀W:World,Calls Tryz.prog 86 #[.agg #[.int .i64 p,.int .i64 c,.int .i64 h,.int .i64 s],.agg #[.int .i64 n,.int .i64 d]] W fun e w'=>e = .returned (.bool true)∧Below W.heap.size W w'):=fun W=>by
  have:=zcj p c h n s d W hs1 hs6 (by have:=zaJ (sq_bd hs1 hs6).1 hx;simp only at this;omega)
  rw[zdY.2 hx]at this
  exact this
 clear hv hx hs1 hs6
 go_enter Tryz.func41,Tryz.ntmps41
 obtain⟨z0,c00,f00,c01,f01,c02,f02,c03,f03,z1,c10,f10,c11,f11⟩:=HF.out.xf0
 go_wp2_with (fail)
 refine (CV.out _).mono ?_
 rintro e w1 ⟨rfl,hb⟩
 replace HF:=h_ (HF.out.below hb);clear hb;clear z0 c00 f00 c01 f01 c02 f02 c03 f03 z1 c10 f10 c11 f11;obtain⟨z0,c00,f00,c01,f01,c02,f02,c03,f03,z1,c10,f10,c11,f11⟩:=HF.out.xf0
 go_wp2_with (fail)
 refine (CX.out _).mono ?_
 rintro e w2 ⟨rfl,hb⟩
 replace HF:=h_ (HF.out.below hb);clear hb
 go_wp2_with (fail)
 go_ret
 exact⟨rfl,HF.out.b⟩
end Go.Proofs.YtkaiilmgemaljaaGreat

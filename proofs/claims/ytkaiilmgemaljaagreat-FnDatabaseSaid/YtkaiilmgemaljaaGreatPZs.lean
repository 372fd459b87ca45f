/- Joined texts of one proof: N6, N12. Each part tells what it shows. There are no conditions. -/
import Derived.Test.YtkaiilmgemaljaaGreatPZc
import Derived.Test.YtkaiilmgemaljaaGreatPShelf
import Derived.Test.YtkaiilmgemaljaaGreatPZb
set_option linter.unusedVariables false
set_option linter.unusedSimpArgs false
/- Contracts of the program's multiple of an exact number, and of comparing two. There are no conditions. -/
namespace Go.Proofs.YtkaiilmgemaljaaGreat
open Go.RowKit Ps Ra Ex
theorem Div64_low (lo y:Int) (w:World) (h0:0≤lo) (h1:lo<10000000000000000000) (hy:1≤y) (hy2:y≤1000):
  Calls Tryz.prog 206 #[.int .u64 0,.int .u64 lo,.int .u64 y] w fun e w'=>e = .returned (.tuple #[.int .u64 (lo / y),.int .u64 (lo % y)])∧Below w.heap.size w w':=by
 have b1:(y == 0)=false:=by simp;omega
 have b2:decide (y≤0)=false:=by simp;omega
 go_enter Tryz.func206,Tryz.ntmps206
 go_wp2
 go_quiet (fail)
 go_wp2
 go_ret2
 exact⟨rfl,below_drewN' (Below.refl _ _) _⟩
theorem Mul64_low (x k:Nat) (w:World) (h:(x:Int)*k≤9000000000000000000) (hx:x≤9000000000000000000) (hk:k≤9000000000000000000):
  Calls Tryz.prog 204 #[.int .u64 x,.int .u64 k] w fun e w'=>e = .returned (.tuple #[.int .u64 0,.int .u64 ((x:Int)*k)])∧w=w':=by
 refine (Tryz.bits_Mul64 x k (by omega) (by omega) w).mono fun e w' ⟨he,hw⟩=>⟨?_,hw.symm⟩
 rw[he]
 have e1 : x * k < 18446744073709551616 := by have : ((x * k : Nat) : Int) ≤ 9000000000000000000 := by rw [Int.natCast_mul]; exact h
                                              omega
 rw[Nat.div_eq_of_lt e1,Nat.mod_eq_of_lt e1,Int.natCast_mul];rfl
set_option maxHeartbeats 2000000 in
set_option maxRecDepth 10000 in
theorem scaleExact_wide (p c h xn:Int) (s d k:Nat) (w:World) (hs1:1≤s) (hs6:s≤6) (hx:Val (sq s) ⟨xn,d⟩) (hk1:1≤k) (hk9:k≤1024) (hV:(xn.natAbs:Int)*k≤9000000000000000000):
  Calls Tryz.prog 129 #[.agg #[.int .i64 p,.int .i64 c,.int .i64 h,.int .i64 s],.agg #[.int .i64 xn,.int .i64 d],.int .i64 k] w (RetE w (sclE (sq s) ⟨xn,d⟩ k)):=by
 obtain⟨hq1,hq36,_⟩:=sq_bd hs1 hs6
 have CB:=Lib.hid fun (W:World)=>baseOf_any p c h s W hs6
 have hd50:d<50:=depth_lt hq1 hx;have hx1 : -1000000000000000000≤xn:=hx.1;have hx2:xn≤1000000000000000000:=hx.2.1
 have hV0:0≤(xn.natAbs:Int)*k:=Int.mul_nonneg (by omega) (by omega)
 have CM0:=fun (W:World)=>Mul64_low xn.natAbs k W hV (by omega) (by omega)
 have H0:Hid (sclE (sq s) ⟨xn,d⟩ k=mk (sq s) (sgP xn k*((xn.natAbs:Int)*k)) d):=by
  have:=sgP_mul xn k;unfold Hid sclE
  rw[show (k:Int).natAbs=k by omega]at this
  show mk _ (xn*k) d=_
  rw[this]
 obtain⟨V,hVV⟩:∃V,(xn.natAbs:Int)*k=V:=⟨_,rfl⟩;rw[hVV]at CM0 hV hV0 H0
 have CM:Hid (∀W:World,Calls Tryz.prog 204 #[.int .u64 (xn.natAbs:Int),.int .u64 ((k:Int).natAbs:Int)] W fun e w'=>e = .returned (.tuple #[.int .u64 0,.int .u64 V])∧W=w'):=by
  intro W;rw[show (((k:Int).natAbs:Nat):Int)=(k:Int) by omega];exact CM0 W
 have habk:(((k:Int).natAbs:Nat):Int)≤1024:=by omega
 clear CM0 hVV hx
 have HF0:Hid (Fr w (((w.alloc (.cells #[.int .i64 p,.int .i64 c,.int .i64 h,.int .i64 s] 25)).alloc (.cells #[.int .i64 xn,.int .i64 d] 35)).alloc (.cells #[.int .i64 0,.int .i64 0] 35)) [[.int .i64 p,.int .i64 c,.int .i64 h,.int .i64 s],[.int .i64 xn,.int .i64 d],[.int .i64 0,.int .i64 0]]):=
  (((Fr.start w).allocT (by simp) _ _).allocT (by simp) _ _).allocT (by simp) _ _
 go_enter Tryz.func129,Tryz.ntmps129
 go_wp2_with (first|(go_at_call 203;refine (more_first (CB.out _)).mono ?_;rintro e w' ⟨rfl,t,rfl⟩)|(go_at_call 205;first|(refine (absolute_any xn _ (by omega) (by omega)).mono ?_;rintro e w' ⟨rfl,rfl⟩)|(refine (absolute_any (k:Int) _ (by omega) (by omega)).mono ?_;rintro e w' ⟨rfl,rfl⟩))|(go_at_call 204;refine (CM.out _).mono ?_;rintro e w' ⟨rfl,rfl⟩))
 go_loopw [9,10,11] (fun vh vl vd wr=>∃(j:Nat) (u:Int),j≤d∧vd = .int .i64 j∧vl = .int .u64 u∧vh = .int .u64 0∧0≤u∧u≤9000000000000000000∧Hid (sclE (sq s) ⟨xn,d⟩ k=mk (sq s) (sgP xn k*u) j)∧Fr w wr [[.int .i64 p,.int .i64 c,.int .i64 h,.int .i64 s],[.int .i64 xn,.int .i64 d],[.int .i64 0,.int .i64 0]]) (fun _ _ vd _=>(intOf vd).toNat)
 case atStart=>exact⟨d,V,Nat.le_refl _,rfl,rfl,rfl,hV0,hV,H0,HF0.out.more _⟩
 case round=>
  obtain⟨j,u,hj,rfl,rfl,rfl,hu0,hu1,HS,hF⟩:=hrel;have HF:=Lib.hid hF;clear hF;obtain⟨z0,c00,f00,c01,f01,c02,f02,c03,f03,z1,c10,f10,c11,f11,z2,c20,f20,c21,f21⟩:=HF.out.xf1
  by_cases hj0:j=0
  ·have hj2:¬0<(j:Int):=by omega
   have hj3:decide (0<(j:Int))=false:=by simp;omega
   have HJ:=Lib.hid hj0;clear hj0
   by_cases hbig:1000000000000000000<u
   ·
    have HR:Hid (sclE (sq s) ⟨xn,d⟩ k=none):=by
     rw[Hid,HS.out]
     refine mk_far (.inl HJ.out) ?_
     have e:maxNum=1000000000000000000:=rfl
     rcases sgP_one xn k with h'|h'<;>rw[h']<;>omega
    go_wp2_with (go_at_call 206;refine (more_first (Div64_low u (sq s) _ hu0 (by omega) hq1 (by omega))).mono ?_;rintro e w' ⟨rfl,t,rfl⟩)
    refine bodyPost_ret (v:=.tuple #[.agg #[.int .i64 0,.int .i64 0],.bool false]) (by simp[results,Tryz.results129,go_sem,c20,c21,z2,f20,f21]) rfl (RetE.mkN HR.out ?_)
    first|exact stw (stw HF.out.b (by omega)) (by omega)|exact stw (stw (HF.out.more _).b (by omega)) (by omega)
   ·
    have hdb:decide (1000000000000000000<u)=false:=by simp;omega
    by_cases hneg:xn<0
    ·
     have hk0:decide ((k:Int)<0)=false:=decide_eq_false (by omega)
     have hn0:decide (xn<0)=true:=decide_eq_true (by omega)
     have hsg:Hid (sclE (sq s) ⟨xn,d⟩ k=mk (sq s) (-u) j):=by
      have e:=HS.out
      rw[show sgP xn k = -1 by unfold sgP;rw[if_pos (by omega)],Int.neg_mul,Int.one_mul]at e
      exact e
     have CE:=fun (W:World)=>makeExact_any p c h (-u) s j W hs1 hs6 (by omega) (by omega) (by omega)
     rcases hmk:mk (sq s) (-u) j with _|⟨num,dep⟩
     ·
      have HR:=Lib.hid (hsg.out.trans hmk)
      have CE':Hid (∀W:World,Calls Tryz.prog 207 #[.agg #[.int .i64 p,.int .i64 c,.int .i64 h,.int .i64 s],.int .i64 (-u),.int .i64 j] W fun e w'=>e = .returned (.tuple #[.agg #[.int .i64 0,.int .i64 0],.bool false])∧Below W.heap.size W w'):=fun W=>by
       have:=CE W;rw[hmk]at this;exact this
      clear CE hmk
      go_wp2_with (first|(go_at_call 206;refine (more_first (Div64_low u (sq s) _ hu0 (by omega) hq1 (by omega))).mono ?_;rintro e w' ⟨rfl,t,rfl⟩)|(go_at_call 207;((with_reducible refine (more_first (CE'.out _)).mono ?_);rintro e w' ⟨rfl,t2,rfl⟩)))
      refine bodyPost_ret (v:=.tuple #[.agg #[.int .i64 0,.int .i64 0],.bool false]) (by simp[results,Tryz.results129,go_sem,c20,c21,z2,f20,f21]) rfl (RetE.mkN HR.out ?_)
      exact stw (stw (HF.out.more _).b (by omega)) (by omega)
     ·
      have HR:=Lib.hid (hsg.out.trans hmk)
      have CE':Hid (∀W:World,Calls Tryz.prog 207 #[.agg #[.int .i64 p,.int .i64 c,.int .i64 h,.int .i64 s],.int .i64 (-u),.int .i64 j] W fun e w'=>e = .returned (.tuple #[.agg #[.int .i64 num,.int .i64 dep],.bool true])∧Below W.heap.size W w'):=fun W=>by
       have:=CE W;rw[hmk]at this;exact this
      clear CE hmk
      go_wp2_with (first|(go_at_call 206;refine (more_first (Div64_low u (sq s) _ hu0 (by omega) hq1 (by omega))).mono ?_;rintro e w' ⟨rfl,t,rfl⟩)|(go_at_call 207;((with_reducible refine (more_first (CE'.out _)).mono ?_);rintro e w' ⟨rfl,t2,rfl⟩)))
      refine bodyPost_ret (v:=.tuple #[.agg #[.int .i64 num,.int .i64 dep],.bool true]) (by simp[results,Tryz.results129,go_sem,c20,c21,z2,f20,f21]) rfl (RetE.mkY HR.out ?_)
      exact stw (stw (HF.out.more _).b (by omega)) (by omega)
    ·
     have hk0:decide ((k:Int)<0)=false:=decide_eq_false (by omega)
     have hn0:decide (xn<0)=false:=decide_eq_false (by omega)
     have hsg:Hid (sclE (sq s) ⟨xn,d⟩ k=mk (sq s) u j):=by
      have e:=HS.out
      rw[show sgP xn k=1 by unfold sgP;rw[if_neg (by omega)],Int.one_mul]at e
      exact e
     have CE:=fun (W:World)=>makeExact_any p c h u s j W hs1 hs6 (by omega) (by omega) (by omega)
     rcases hmk:mk (sq s) (u) j with _|⟨num,dep⟩
     ·
      have HR:=Lib.hid (hsg.out.trans hmk)
      have CE':Hid (∀W:World,Calls Tryz.prog 207 #[.agg #[.int .i64 p,.int .i64 c,.int .i64 h,.int .i64 s],.int .i64 (u),.int .i64 j] W fun e w'=>e = .returned (.tuple #[.agg #[.int .i64 0,.int .i64 0],.bool false])∧Below W.heap.size W w'):=fun W=>by
       have:=CE W;rw[hmk]at this;exact this
      clear CE hmk
      go_wp2_with (first|(go_at_call 206;refine (more_first (Div64_low u (sq s) _ hu0 (by omega) hq1 (by omega))).mono ?_;rintro e w' ⟨rfl,t,rfl⟩)|(go_at_call 207;((with_reducible refine (more_first (CE'.out _)).mono ?_);rintro e w' ⟨rfl,t2,rfl⟩)))
      refine bodyPost_ret (v:=.tuple #[.agg #[.int .i64 0,.int .i64 0],.bool false]) (by simp[results,Tryz.results129,go_sem,c20,c21,z2,f20,f21]) rfl (RetE.mkN HR.out ?_)
      exact stw (stw (HF.out.more _).b (by omega)) (by omega)
     ·
      have HR:=Lib.hid (hsg.out.trans hmk)
      have CE':Hid (∀W:World,Calls Tryz.prog 207 #[.agg #[.int .i64 p,.int .i64 c,.int .i64 h,.int .i64 s],.int .i64 (u),.int .i64 j] W fun e w'=>e = .returned (.tuple #[.agg #[.int .i64 num,.int .i64 dep],.bool true])∧Below W.heap.size W w'):=fun W=>by
       have:=CE W;rw[hmk]at this;exact this
      clear CE hmk
      go_wp2_with (first|(go_at_call 206;refine (more_first (Div64_low u (sq s) _ hu0 (by omega) hq1 (by omega))).mono ?_;rintro e w' ⟨rfl,t,rfl⟩)|(go_at_call 207;((with_reducible refine (more_first (CE'.out _)).mono ?_);rintro e w' ⟨rfl,t2,rfl⟩)))
      refine bodyPost_ret (v:=.tuple #[.agg #[.int .i64 num,.int .i64 dep],.bool true]) (by simp[results,Tryz.results129,go_sem,c20,c21,z2,f20,f21]) rfl (RetE.mkY HR.out ?_)
      exact stw (stw (HF.out.more _).b (by omega)) (by omega)
  ·have hj1:0<(j:Int):=by omega
   have hjn:1≤j:=by omega
   have hjN:0<j:=by omega
   clear hj0
   by_cases hdiv:sq s ∣ u
   ·have hm0:((u % sq s:Int) != 0)=false:=by simp[Int.emod_eq_zero_of_dvd hdiv]
    have h':Hid (sclE (sq s) ⟨xn,d⟩ k=mk (sq s) (sgP xn k*(u / sq s)) (j-1)):=by
     have e:=HS.out
     rw[show j=(j-1)+1 by omega,mk_down (sgP_one xn k) hdiv]at e
     exact e
    have q0:0≤u / sq s:=Int.ediv_nonneg hu0 (by omega)
    have q1:u / sq s≤9000000000000000000:=Int.le_trans (Int.ediv_le_self _ hu0) hu1;clear hdiv
    go_wp2_with (go_at_call 206;refine (more_first (Div64_low u (sq s) _ hu0 (by omega) hq1 (by omega))).mono ?_;rintro e w' ⟨rfl,t,rfl⟩)
    go_roundw
    case rel=>exact⟨j-1,u / sq s,by omega,by go_num,rfl,by simp,q0,q1,h',HF.out.more _⟩
    case measure=>simp[intOf];omega
   ·have hm0:((u % sq s:Int) != 0)=true:=by simp;intro h';exact hdiv (Int.dvd_of_emod_eq_zero h')
    have hq0:0≤u % sq s:=Int.emod_nonneg _ (by omega)
    have hnd:Hid (¬sq s ∣ sgP xn k*u):=fun h'=>hdiv ((sg_dvd (sgP_one xn k)).1 h')
    clear hdiv
    by_cases hbig:1000000000000000000<u
    ·
     have HR:Hid (sclE (sq s) ⟨xn,d⟩ k=none):=by
      rw[Hid,HS.out]
      refine mk_far (.inr hnd.out) ?_
      have e:maxNum=1000000000000000000:=rfl
      rcases sgP_one xn k with h'|h'<;>rw[h']<;>omega
     go_wp2_with (go_at_call 206;refine (more_first (Div64_low u (sq s) _ hu0 (by omega) hq1 (by omega))).mono ?_;rintro e w' ⟨rfl,t,rfl⟩)
     refine bodyPost_ret (v:=.tuple #[.agg #[.int .i64 0,.int .i64 0],.bool false]) (by simp[results,Tryz.results129,go_sem,c20,c21,z2,f20,f21]) rfl (RetE.mkN HR.out ?_)
     first|exact stw (stw HF.out.b (by omega)) (by omega)|exact stw (stw (HF.out.more _).b (by omega)) (by omega)
    ·
     have hdb:decide (1000000000000000000<u)=false:=by simp;omega
     by_cases hneg:xn<0
     ·
      have hk0:decide ((k:Int)<0)=false:=decide_eq_false (by omega)
      have hn0:decide (xn<0)=true:=decide_eq_true (by omega)
      have hsg:Hid (sclE (sq s) ⟨xn,d⟩ k=mk (sq s) (-u) j):=by
       have e:=HS.out
       rw[show sgP xn k = -1 by unfold sgP;rw[if_pos (by omega)],Int.neg_mul,Int.one_mul]at e
       exact e
      have CE:=fun (W:World)=>makeExact_any p c h (-u) s j W hs1 hs6 (by omega) (by omega) (by omega)
      rcases hmk:mk (sq s) (-u) j with _|⟨num,dep⟩
      ·
       have HR:=Lib.hid (hsg.out.trans hmk)
       have CE':Hid (∀W:World,Calls Tryz.prog 207 #[.agg #[.int .i64 p,.int .i64 c,.int .i64 h,.int .i64 s],.int .i64 (-u),.int .i64 j] W fun e w'=>e = .returned (.tuple #[.agg #[.int .i64 0,.int .i64 0],.bool false])∧Below W.heap.size W w'):=fun W=>by
        have:=CE W;rw[hmk]at this;exact this
       clear CE hmk
       go_wp2_with (first|(go_at_call 206;refine (more_first (Div64_low u (sq s) _ hu0 (by omega) hq1 (by omega))).mono ?_;rintro e w' ⟨rfl,t,rfl⟩)|(go_at_call 207;((with_reducible refine (more_call (CE'.out _)).mono ?_);rintro e w' ⟨rfl,t2,rfl⟩)))
       refine bodyPost_ret (v:=.tuple #[.agg #[.int .i64 0,.int .i64 0],.bool false]) (by simp[results,Tryz.results129,go_sem,c20,c21,z2,f20,f21]) rfl (RetE.mkN HR.out ?_)
       exact stw (stw (HF.out.more _).b (by omega)) (by omega)
      ·
       have HR:=Lib.hid (hsg.out.trans hmk)
       have CE':Hid (∀W:World,Calls Tryz.prog 207 #[.agg #[.int .i64 p,.int .i64 c,.int .i64 h,.int .i64 s],.int .i64 (-u),.int .i64 j] W fun e w'=>e = .returned (.tuple #[.agg #[.int .i64 num,.int .i64 dep],.bool true])∧Below W.heap.size W w'):=fun W=>by
        have:=CE W;rw[hmk]at this;exact this
       clear CE hmk
       go_wp2_with (first|(go_at_call 206;refine (more_first (Div64_low u (sq s) _ hu0 (by omega) hq1 (by omega))).mono ?_;rintro e w' ⟨rfl,t,rfl⟩)|(go_at_call 207;((with_reducible refine (more_call (CE'.out _)).mono ?_);rintro e w' ⟨rfl,t2,rfl⟩)))
       refine bodyPost_ret (v:=.tuple #[.agg #[.int .i64 num,.int .i64 dep],.bool true]) (by simp[results,Tryz.results129,go_sem,c20,c21,z2,f20,f21]) rfl (RetE.mkY HR.out ?_)
       exact stw (stw (HF.out.more _).b (by omega)) (by omega)
     ·
      have hk0:decide ((k:Int)<0)=false:=decide_eq_false (by omega)
      have hn0:decide (xn<0)=false:=decide_eq_false (by omega)
      have hsg:Hid (sclE (sq s) ⟨xn,d⟩ k=mk (sq s) u j):=by
       have e:=HS.out
       rw[show sgP xn k=1 by unfold sgP;rw[if_neg (by omega)],Int.one_mul]at e
       exact e
      have CE:=fun (W:World)=>makeExact_any p c h u s j W hs1 hs6 (by omega) (by omega) (by omega)
      rcases hmk:mk (sq s) (u) j with _|⟨num,dep⟩
      ·
       have HR:=Lib.hid (hsg.out.trans hmk)
       have CE':Hid (∀W:World,Calls Tryz.prog 207 #[.agg #[.int .i64 p,.int .i64 c,.int .i64 h,.int .i64 s],.int .i64 (u),.int .i64 j] W fun e w'=>e = .returned (.tuple #[.agg #[.int .i64 0,.int .i64 0],.bool false])∧Below W.heap.size W w'):=fun W=>by
        have:=CE W;rw[hmk]at this;exact this
       clear CE hmk
       go_wp2_with (first|(go_at_call 206;refine (more_first (Div64_low u (sq s) _ hu0 (by omega) hq1 (by omega))).mono ?_;rintro e w' ⟨rfl,t,rfl⟩)|(go_at_call 207;((with_reducible refine (more_call (CE'.out _)).mono ?_);rintro e w' ⟨rfl,t2,rfl⟩)))
       refine bodyPost_ret (v:=.tuple #[.agg #[.int .i64 0,.int .i64 0],.bool false]) (by simp[results,Tryz.results129,go_sem,c20,c21,z2,f20,f21]) rfl (RetE.mkN HR.out ?_)
       exact stw (stw (HF.out.more _).b (by omega)) (by omega)
      ·
       have HR:=Lib.hid (hsg.out.trans hmk)
       have CE':Hid (∀W:World,Calls Tryz.prog 207 #[.agg #[.int .i64 p,.int .i64 c,.int .i64 h,.int .i64 s],.int .i64 (u),.int .i64 j] W fun e w'=>e = .returned (.tuple #[.agg #[.int .i64 num,.int .i64 dep],.bool true])∧Below W.heap.size W w'):=fun W=>by
        have:=CE W;rw[hmk]at this;exact this
       clear CE hmk
       go_wp2_with (first|(go_at_call 206;refine (more_first (Div64_low u (sq s) _ hu0 (by omega) hq1 (by omega))).mono ?_;rintro e w' ⟨rfl,t,rfl⟩)|(go_at_call 207;((with_reducible refine (more_call (CE'.out _)).mono ?_);rintro e w' ⟨rfl,t2,rfl⟩)))
       refine bodyPost_ret (v:=.tuple #[.agg #[.int .i64 num,.int .i64 dep],.bool true]) (by simp[results,Tryz.results129,go_sem,c20,c21,z2,f20,f21]) rfl (RetE.mkY HR.out ?_)
       exact stw (stw (HF.out.more _).b (by omega)) (by omega)
theorem scaleExact_any (p c h xn:Int) (s d k:Nat) (w:World) (hs1:1≤s) (hs6:s≤6) (hx:Val (sq s) ⟨xn,d⟩) (hk1:1≤k) (hk9:k≤9):
  Calls Tryz.prog 129 #[.agg #[.int .i64 p,.int .i64 c,.int .i64 h,.int .i64 s],.agg #[.int .i64 xn,.int .i64 d],.int .i64 k] w (RetE w (sclE (sq s) ⟨xn,d⟩ k)):=by
 have hx1 : -1000000000000000000≤xn:=hx.1;have hx2:xn≤1000000000000000000:=hx.2.1
 refine scaleExact_wide p c h xn s d k w hs1 hs6 hx hk1 (by omega) ?_
 have:=Int.mul_le_mul (show (xn.natAbs:Int)≤1000000000000000000 by omega) (show (k:Int)≤9 by omega) (by omega) (by omega)
 omega
end Go.Proofs.YtkaiilmgemaljaaGreat
/- Contracts of the lists of all rolls, of weights. There are no conditions. -/
namespace Go.Proofs.YtkaiilmgemaljaaGreat
open Go.RowKit Ps Ra Ex
theorem Tryz.infoR:(Tryz.prog.info? 39).map (fun i=>(i.zero,i.size,i.bytes))=some (some (.agg #[.int .i64 0,.int .i64 0]),2,16):=by kernel_rfl
def rollC (rs:List (Nat×Nat)):List Value:=rs.flatMap fun r=>[.int .i64 r.1,.int .i64 r.2]
theorem rollC_snoc (rs:List (Nat×Nat)) (a b:Nat):rollC (rs++[(a,b)])=rollC rs++[.int .i64 a,.int .i64 b]:=by simp[rollC]
theorem rollC_get:∀(rs:List (Nat×Nat)) (k:Nat),k<rs.length→(rollC rs).getD (k*2) undef = .int .i64 (rs.getD k (0,0)).1∧(rollC rs).getD (k*2+1) undef = .int .i64 (rs.getD k (0,0)).2
 | [],k,h=>by simp at h
 | r::rs,0,_=>by simp[rollC]
 | r :: rs, k + 1, h => by
   have := rollC_get rs k (by simpa using h)
   have e : rollC (r :: rs) = .int .i64 r.1 :: .int .i64 r.2 :: rollC rs := rfl
   rw [e, show (k + 1) * 2 = k * 2 + 1 + 1 by omega, show k * 2 + 1 + 1 + 1 = (k * 2 + 1) + 1 + 1 by omega]
   simpa using this
def OwnR (w:World) (base:Nat) (v:Value) (rs:List (Nat×Nat)):Prop:=w.ownsRow base 39 2 v rs.length (rollC rs)
def RL (S:Nat→Prop) (w:World) (A:Option Addr) (n:Nat) (rs:List (Nat×Nat)):Prop:=rs.length=n∧SLZ 2 S w A n (rollC rs)
theorem OwnR.read {S:Nat→Prop} {w:World} {base:Nat} {v:Value} {rs:List (Nat×Nat)} (h:OwnR w base v rs) (hS:∀k,base≤k→¬S k):∃A c,v = .slice A rs.length c∧RL S w A rs.length rs∧rs.length≤c:=by
 obtain⟨A,c,hv,hs,hc⟩:=row_read (S:=S) h (fun k hk=>hS k (World.ownsRow.lt h k hk).1) (by omega)
 exact⟨A,c,hv,⟨rfl,hs⟩,hc⟩
theorem RL.frm {S:Nat→Prop} {w w':World} {A:Option Addr} {n:Nat} {rs:List (Nat×Nat)} (h:RL S w A n rs) (hf:Frm S w w'):RL S w' A n rs:=⟨h.1,h.2.frm hf⟩
theorem RL.below {S:Nat→Prop} {w w':World} {A:Option Addr} {n:Nat} {rs:List (Nat×Nat)} (h:RL S w A n rs) (hb:Below w.heap.size w w'):RL S w' A n rs:=h.frm (Frm.of_below' S hb)
theorem RL.at {S:Nat→Prop} {w:World} {A:Option Addr} {n:Nat} {rs:List (Nat×Nat)} (h:RL S w A n rs) {k:Nat} (hk:k<n):∃b off,A=some ⟨b,off,none⟩∧b<w.heap.size∧
  w.cell? ⟨b,off+k*2,none⟩=some (.int .i64 (rs.getD k (0,0)).1)∧w.cell? ⟨b,off+k*2+1,none⟩=some (.int .i64 (rs.getD k (0,0)).2):=by
 obtain⟨hl,_,hc⟩:=h
 obtain⟨b,off,hA,hlt,_,hcell⟩:=hc (by omega)
 obtain⟨e1,e2⟩:=rollC_get rs k (by omega)
 exact⟨b,off,hA,hlt,by rw[hcell _ (by omega),e1],by rw[Nat.add_assoc,hcell _ (by omega),e2]⟩
def RetR (w:World) (rs:List (Nat×Nat)) (e:Ending) (w':World):Prop:=∃v,e = .returned v∧OwnR w' w.heap.size v rs∧Below w.heap.size w w'
theorem two_new (w:World) (a b:Int) (e:TypeId):∀j u,[Value.int .i64 a,.int .i64 b][j]? = some u→(w.alloc (.cells #[.int .i64 a,.int .i64 b] e)).cell? ((⟨w.heap.size,0,none⟩:Addr).add j)=some u:=by
 intro j u hu
 rw[Addr.add_lit];have hj:j<2:=(List.getElem?_eq_some_iff.1 hu).1
 obtain rfl|rfl:j=0∨j=1:=by omega
 all_goals (simp at hu;subst hu;simp[go_sem])
theorem two_cells (a b:Int):∀u∈[Value.int .i64 a,.int .i64 b],u.oneCell'=true:=fun u hu=>by
 simp at hu
 rcases hu with rfl|rfl<;>rfl
theorem rolls_le {a:Nat} (h:a≤6):(rollsN a).length≤21:=by
 have h1:=rollsN_length a
 have h2:a*(a+1)≤6*7:=Nat.mul_le_mul h (by omega)
 omega
set_option maxHeartbeats 2000000 in
set_option maxRecDepth 10000 in
theorem l09Rolls_any (p c h:Int) (s:Nat) (w:World) (hs6:s≤6):
  Calls Tryz.prog 87 #[.agg #[.int .i64 p,.int .i64 c,.int .i64 h,.int .i64 s]] w (RetR w (rollsN s)):=by
 obtain⟨i0,hi,hz0,hz1,hz2⟩:=info_parts Tryz.infoR
 have HF0:=Lib.hid (((Fr.start w).allocT (by simp) #[.int .i64 p,.int .i64 c,.int .i64 h,.int .i64 s] 25))
 have HF:Hid (Fr w ((w.alloc (.cells #[.int .i64 p,.int .i64 c,.int .i64 h,.int .i64 s] 25)).alloc (.cells #[] 39)) [[.int .i64 p,.int .i64 c,.int .i64 h,.int .i64 s]]):=HF0.out.alloc _
 have HO:Hid (OwnR ((w.alloc (.cells #[.int .i64 p,.int .i64 c,.int .i64 h,.int .i64 s] 25)).alloc (.cells #[] 39)) (w.heap.size+1) (.slice (some ⟨w.heap.size+1,0,none⟩) 0 0) (rollsN 0)):=by
  have:=row_made (w.alloc (.cells #[.int .i64 p,.int .i64 c,.int .i64 h,.int .i64 s] 25)) (base:=w.heap.size+1) 39 (z:=2) (n:=0) #[] (by simp) (by unfold maxLen;omega) rfl
  show World.ownsRow _ _ _ 2 _ 0 []
  simpa using this
 clear HF0
 go_enter Tryz.func87,Tryz.ntmps87
 go_wp2_with (fail)
 go_loopw [3,4,5] (fun v va vb wr=>∃a:Nat,a≤s∧va = .int .i64 ((a:Int)+1)∧OwnR wr (w.heap.size+1) v (rollsN a)∧Fr w wr [[.int .i64 p,.int .i64 c,.int .i64 h,.int .i64 s]]) (fun _ va _ _=>s+1-(intOf va).toNat)
 case atStart=>exact⟨0,Nat.zero_le _,rfl,HO.out,HF.out⟩
 case round=>
  obtain⟨a,ha,rfl,hO,hF⟩:=hrel;have HOa:=Lib.hid hO;have HFa:=Lib.hid hF;clear hO hF;obtain⟨z0,c00,f00,c01,f01,c02,f02,c03,f03⟩:=HFa.out.xf2
  by_cases hlt:a<s
  ·
   have hlti:(a:Int)+1≤(s:Int):=by omega
   have HL:=Lib.hid (rolls_le (a:=a) (by omega))
   go_wp2_with (fail)
   obtain⟨wo,rfl⟩:∃wo:World,wo=wr:=⟨_,rfl⟩
   go_loopw [3,5] (fun v vb wi=>∃b:Nat,b≤a+1∧vb = .int .i64 ((b:Int)+1)∧OwnR wi (w.heap.size+1) v (rollsN a++rowN (a+1) b)∧Fr w wi [[.int .i64 p,.int .i64 c,.int .i64 h,.int .i64 s]]) (fun _ vb _=>a+2-(intOf vb).toNat)
   case atStart=>exact⟨0,Nat.zero_le _,rfl,by rw[show rollsN a++rowN (a+1) 0=rollsN a by simp[rowN]];exact HOa.out,HFa.out⟩
   case round=>
    clear z0 c00 c01 c02 c03 f00 f01 f02 f03;obtain⟨b,hb,rfl,hO,hF⟩:=hrel;have HOb:=Lib.hid hO;have HFb:=Lib.hid hF;clear hO hF;obtain⟨z0,c00,f00,c01,f01,c02,f02,c03,f03⟩:=HFb.out.xf2
    by_cases hbl:b<a+1
    ·
     have hbi:(b:Int)+1≤(a:Int)+1:=by omega
     have HLb:Hid ((rollsN a++rowN (a+1) b).length≤28):=by unfold Hid;rw[List.length_append,rowN_length];have:=HL.out;omega
     go_wp2_with (at_builtin;refine wpList_append_own _ rfl _ _ 32 rfl (w.heap.size+1) 39 i0 (.agg #[.int .i64 0,.int .i64 0]) 2 16 Tryz.underlying32 hi hz0 hz1 hz2 rfl (by decide) _ _ _ rfl (row_alloc HOb.out _) ⟨wr.heap.size,0,none⟩ 1 1 [.int .i64 ((a:Int)+1),.int .i64 ((b:Int)+1)] rfl rfl (two_new _ _ _ _) (two_cells _ _) (by have:=HLb.out;unfold maxLen;omega) (by have:=HLb.out;omega) (by have:=HFb.out.z;simp at this;simp;omega) ?_;intro v' w1 hown hgrow _)
     have HF2:=Lib.hid ((HFb.out.alloc _).grow hgrow (row_alloc HOb.out _) (by simp))
     have HO2:Hid (OwnR w1 (w.heap.size+1) v' (rollsN a++rowN (a+1) (b+1))):=by
      unfold Hid OwnR
      rw[show rowN (a+1) (b+1)=rowN (a+1) b++[(a+1,b+1)] from rfl,← List.append_assoc,rollC_snoc,List.length_append]
      exact hown
     clear hown hgrow
     go_wp2_with (fail)
     go_roundw
     case rel=>exact⟨b+1,by omega,by go_num,HO2.out,HF2.out⟩
     case measure=>simp[intOf];omega
    ·
     have hba:b=a+1:=by omega
     subst hba
     go_wp2_with (fail)
     go_roundw
     case rel=>exact⟨a+1,by omega,by go_num,HOb.out,HFb.out⟩
     case measure=>simp[intOf];omega
  ·
   have has:a=s:=by omega
   subst has
   have HR:Hid (RetR w (rollsN a) (.returned _) wr):=⟨_,rfl,own_base HOa.out (by omega),HFa.out.b⟩
   go_wp2_with (fail)
   go_ret
   exact HR.out
set_option maxHeartbeats 2000000 in
set_option maxRecDepth 10000 in
theorem AllRolls_any (p c h:Int) (s:Nat) (w:World) (hv:isVar p c h s=true):
  Calls Tryz.prog 165 #[.agg #[.int .i64 p,.int .i64 c,.int .i64 h,.int .i64 s]] w (RetR w (rollsN s)):=by
 obtain⟨i0,hi,hz0,hz1,hz2⟩:=info_parts Tryz.infoR
 have hs6:s≤6:=by have:=(isVar_yes hv).2.2.2.2.2.2.2;omega
 have HF0:=Lib.hid (((Fr.start w).allocT (by simp) #[.int .i64 p,.int .i64 c,.int .i64 h,.int .i64 s] 25))
 have CV:Hid (∀W:World,Calls Tryz.prog 145 #[.agg #[.int .i64 p,.int .i64 c,.int .i64 h,.int .i64 s]] W fun e w'=>e = .returned (.bool true)∧Below W.heap.size W w'):=fun W=>by
  have:=IsVariant_any p c h s W;rwa [hv]at this
 clear hv
 go_enter Tryz.func165,Tryz.ntmps165
 go_wp2_with (go_at_call 145;((with_reducible refine (more_first (CV.out _)).mono ?_);rintro e w' ⟨rfl,t,rfl⟩))
 have HF:=Lib.hid (HF0.out.more t);have HO:Hid (OwnR (more (w.alloc (.cells #[.int .i64 p,.int .i64 c,.int .i64 h,.int .i64 s] 25)) t) (w.heap.size+1) (.slice none 0 0) (rollsN 0)):=World.ownsRow_nil _ _ _ _
 go_loopw [3,4,5] (fun v va vb wr=>∃a:Nat,a≤s∧va = .int .i64 ((a:Int)+1)∧OwnR wr (w.heap.size+1) v (rollsN a)∧Fr w wr [[.int .i64 p,.int .i64 c,.int .i64 h,.int .i64 s]]) (fun _ va _ _=>s+1-(intOf va).toNat)
 case atStart=>exact⟨0,Nat.zero_le _,rfl,HO.out,HF.out⟩
 case round=>
  obtain⟨a,ha,rfl,hO,hF⟩:=hrel;have HOa:=Lib.hid hO;have HFa:=Lib.hid hF;clear hO hF;obtain⟨z0,c00,f00,c01,f01,c02,f02,c03,f03⟩:=HFa.out.xf2
  by_cases hlt:a<s
  ·
   have hlti:(a:Int)+1≤(s:Int):=by omega
   have HL:=Lib.hid (rolls_le (a:=a) (by omega))
   go_wp2_with (fail)
   obtain⟨wo,rfl⟩:∃wo:World,wo=wr:=⟨_,rfl⟩
   go_loopw [3,5] (fun v vb wi=>∃b:Nat,b≤a+1∧vb = .int .i64 ((b:Int)+1)∧OwnR wi (w.heap.size+1) v (rollsN a++rowN (a+1) b)∧Fr w wi [[.int .i64 p,.int .i64 c,.int .i64 h,.int .i64 s]]) (fun _ vb _=>a+2-(intOf vb).toNat)
   case atStart=>exact⟨0,Nat.zero_le _,rfl,by rw[show rollsN a++rowN (a+1) 0=rollsN a by simp[rowN]];exact HOa.out,HFa.out⟩
   case round=>
    clear z0 c00 c01 c02 c03 f00 f01 f02 f03;obtain⟨b,hb,rfl,hO,hF⟩:=hrel;have HOb:=Lib.hid hO;have HFb:=Lib.hid hF;clear hO hF;obtain⟨z0,c00,f00,c01,f01,c02,f02,c03,f03⟩:=HFb.out.xf2
    by_cases hbl:b<a+1
    ·
     have hbi:(b:Int)+1≤(a:Int)+1:=by omega
     have HLb:Hid ((rollsN a++rowN (a+1) b).length≤28):=by unfold Hid;rw[List.length_append,rowN_length];have:=HL.out;omega
     go_wp2_with (at_builtin;refine wpList_append_own _ rfl _ _ 32 rfl (w.heap.size+1) 39 i0 (.agg #[.int .i64 0,.int .i64 0]) 2 16 Tryz.underlying32 hi hz0 hz1 hz2 rfl (by decide) _ _ _ rfl (row_alloc HOb.out _) ⟨wr.heap.size,0,none⟩ 1 1 [.int .i64 ((a:Int)+1),.int .i64 ((b:Int)+1)] rfl rfl (two_new _ _ _ _) (two_cells _ _) (by have:=HLb.out;unfold maxLen;omega) (by have:=HLb.out;omega) (by have:=HFb.out.z;simp at this;simp;omega) ?_;intro v' w1 hown hgrow _)
     have HF2:=Lib.hid ((HFb.out.alloc _).grow hgrow (row_alloc HOb.out _) (by simp))
     have HO2:Hid (OwnR w1 (w.heap.size+1) v' (rollsN a++rowN (a+1) (b+1))):=by
      unfold Hid OwnR
      rw[show rowN (a+1) (b+1)=rowN (a+1) b++[(a+1,b+1)] from rfl,← List.append_assoc,rollC_snoc,List.length_append]
      exact hown
     clear hown hgrow
     go_wp2_with (fail)
     go_roundw
     case rel=>exact⟨b+1,by omega,by go_num,HO2.out,HF2.out⟩
     case measure=>simp[intOf];omega
    ·
     have hba:b=a+1:=by omega
     subst hba
     go_wp2_with (fail)
     go_roundw
     case rel=>exact⟨a+1,by omega,by go_num,HOb.out,HFb.out⟩
     case measure=>simp[intOf];omega
  ·
   have has:a=s:=by omega
   subst has
   have HR:Hid (RetR w (rollsN a) (.returned _) wr):=⟨_,rfl,own_base HOa.out (by omega),HFa.out.b⟩
   go_wp2_with (fail)
   go_ret
   exact HR.out
def wgt (r:Nat×Nat):Nat:=if r.1=r.2 then 1 else 2
theorem wgt_weight (r:Nat×Nat):(wgt r:Int)=weight r:=by unfold wgt weight;split<;>rfl
theorem wgt_bd (r:Nat×Nat):1≤wgt r∧wgt r≤2:=by unfold wgt;split<;>omega
theorem IsRoll_yes (p c h:Int) (s a b:Nat) (w:World) (hv:isVar p c h s=true) (hb:1≤b) (hba:b≤a) (has:a≤s):
  Calls Tryz.prog 113 #[.agg #[.int .i64 p,.int .i64 c,.int .i64 h,.int .i64 s],.agg #[.int .i64 a,.int .i64 b]] w fun e w'=>e = .returned (.bool true)∧Below w.heap.size w w':=by
 have CV:Hid (∀W:World,Calls Tryz.prog 145 #[.agg #[.int .i64 p,.int .i64 c,.int .i64 h,.int .i64 s]] W fun e w'=>e = .returned (.bool true)∧Below W.heap.size W w'):=fun W=>by
  have:=IsVariant_any p c h s W;rwa [hv]at this
 have e1:=inB_yes (x:=(a:Int)) (lo:=1) (hi:=s) (by omega)
 have e2:=inB_yes (x:=(b:Int)) (lo:=1) (hi:=a) (by omega)
 have HB:Hid (Below w.heap.size w ((w.alloc (.cells #[.int .i64 p,.int .i64 c,.int .i64 h,.int .i64 s] 25)).alloc (.cells #[.int .i64 a,.int .i64 b] 39))):=alw ((Below.refl _ _).alloc (Nat.le_refl _) _) (Nat.le_refl _);clear hv
 go_enter Tryz.func113,Tryz.ntmps113
 go_wp2_with (first|(go_at_call 145;((with_reducible refine (more_first (CV.out _)).mono ?_);rintro e w' ⟨rfl,t,rfl⟩))|(go_at_call 116;refine (within_any _ _ _ _).mono ?_;rintro e w' ⟨rfl,rfl⟩))
 go_ret
 exact⟨rfl,blw HB.out (Nat.le_refl _)⟩
theorem RollWeight_any (p c h:Int) (s a b:Nat) (w:World) (hv:isVar p c h s=true) (hb:1≤b) (hba:b≤a) (has:a≤s):
  Calls Tryz.prog 234 #[.agg #[.int .i64 p,.int .i64 c,.int .i64 h,.int .i64 s],.agg #[.int .i64 a,.int .i64 b]] w fun e w'=>e = .returned (.int .i64 (wgt (a,b)))∧Below w.heap.size w w':=by
 have CR:=Lib.hid fun (W:World)=>IsRoll_yes p c h s a b W hv hb hba has
 have HB:Hid (Below w.heap.size w ((w.alloc (.cells #[.int .i64 p,.int .i64 c,.int .i64 h,.int .i64 s] 25)).alloc (.cells #[.int .i64 a,.int .i64 b] 39))):=alw ((Below.refl _ _).alloc (Nat.le_refl _) _) (Nat.le_refl _);clear hv
 by_cases hab:a=b
 ·have e1:((a:Int) == (b:Int))=true:=by simp[hab]
  have HW:Hid (wgt (a,b)=1):=if_pos hab;clear hab
  go_enter Tryz.func234,Tryz.ntmps234
  go_wp2_with (go_at_call 113;((with_reducible refine (more_first (CR.out _)).mono ?_);rintro e w' ⟨rfl,t,rfl⟩))
  go_ret
  exact⟨by rw[HW.out];rfl,blw HB.out (Nat.le_refl _)⟩
 ·have e1:((a:Int) == (b:Int))=false:=by simp;omega
  have HW:Hid (wgt (a,b)=2):=if_neg hab;clear hab
  go_enter Tryz.func234,Tryz.ntmps234
  go_wp2_with (go_at_call 113;((with_reducible refine (more_first (CR.out _)).mono ?_);rintro e w' ⟨rfl,t,rfl⟩))
  go_ret
  exact⟨by rw[HW.out];rfl,blw HB.out (Nat.le_refl _)⟩
end Go.Proofs.YtkaiilmgemaljaaGreat

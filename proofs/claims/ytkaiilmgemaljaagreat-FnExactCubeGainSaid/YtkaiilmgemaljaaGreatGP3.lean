/- Part of one proof. There are no conditions. -/
import Derived.Test.YtkaiilmgemaljaaGreatGZv
import Derived.Test.YtkaiilmgemaljaaGreatGD2
import Derived.Test.YtkaiilmgemaljaaGreatGE2
import Derived.Test.YtkaiilmgemaljaaGreatGZr
import Derived.Test.YtkaiilmgemaljaaGreatGZb
import Derived.Test.YtkaiilmgemaljaaGreatGZm
import Derived.Test.YtkaiilmgemaljaaGreatGQK
import Derived.Test.YtkaiilmgemaljaaGreatGZa
import Derived.Test.YtkaiilmgemaljaaGreatGZp
import Derived.Test.YtkaiilmgemaljaaGreatGM23
import Derived.Test.YtkaiilmgemaljaaGreatGV1
import Derived.Test.YtkaiilmgemaljaaGreatGN14
import Derived.Test.YtkaiilmgemaljaaGreatGL6
import Derived.Test.YtkaiilmgemaljaaGreatGN61
import Derived.Test.YtkaiilmgemaljaaGreatGM22
set_option linter.unusedVariables false
set_option linter.unusedSimpArgs false
set_option maxHeartbeats 0
set_option maxRecDepth 100000
namespace Go.Proofs.YtkaiilmgemaljaaGreat
open Go.RowKit Ps Ra Ex
def minE (B:Int) (x y:E):Option E:=addE B x (negE y)
theorem jb (p c h xn yn:Int) (s xd yd:Nat) (w:World) (hs1:1<=s) (hs6:s<=6) (hx:Val (sq s) ⟨xn,xd⟩) (hy:Val (sq s) ⟨yn,yd⟩):
  Calls Tryz.prog 85 #[.agg #[.int .i64 p,.int .i64 c,.int .i64 h,.int .i64 s],.agg #[.int .i64 xn,.int .i64 xd],.agg #[.int .i64 yn,.int .i64 yd]] w (RetE w (minE (sq s) ⟨xn,xd⟩ ⟨yn,yd⟩)):=by
 have hy1 : -1000000000000000000<=yn:=hy.1;have hy2:yn<=1000000000000000000:=hy.2.1
 rcases hm:minE (sq s) ⟨xn,xd⟩ ⟨yn,yd⟩with _|⟨m,d⟩
 focus
  have AD:Hid (∀W:World,Calls Tryz.prog 130 #[.agg #[.int .i64 p,.int .i64 c,.int .i64 h,.int .i64 s],.agg #[.int .i64 xn,.int .i64 xd],.agg #[.int .i64 (-yn),.int .i64 yd]] W fun e w'=>e = .returned (.tuple #[.agg #[.int .i64 0,.int .i64 0],.bool false])/\Below W.heap.size W w'):=fun W=>by
   have:=bI p c h xn (-yn) s xd yd W hs1 hs6 hx (du hy);rw[show addE (sq s) ⟨xn,xd⟩ ⟨-yn,yd⟩=minE (sq s) ⟨xn,xd⟩ ⟨yn,yd⟩from rfl,hm]at this;exact this
  refine ?za
 rotate_left
 focus
  have AD:Hid (∀W:World,Calls Tryz.prog 130 #[.agg #[.int .i64 p,.int .i64 c,.int .i64 h,.int .i64 s],.agg #[.int .i64 xn,.int .i64 xd],.agg #[.int .i64 (-yn),.int .i64 yd]] W fun e w'=>e = .returned (.tuple #[.agg #[.int .i64 m,.int .i64 d],.bool true])/\Below W.heap.size W w'):=fun W=>by
   have:=bI p c h xn (-yn) s xd yd W hs1 hs6 hx (du hy);rw[show addE (sq s) ⟨xn,xd⟩ ⟨-yn,yd⟩=minE (sq s) ⟨xn,xd⟩ ⟨yn,yd⟩from rfl,hm]at this;exact this
  refine ?zb
 rotate_left
 case' za|zb=>
  have HF:Hid (Fr w ((((w.alloc (.cells #[.int .i64 p,.int .i64 c,.int .i64 h,.int .i64 s] 25)).alloc (.cells #[.int .i64 xn,.int .i64 xd] 35)).alloc (.cells #[.int .i64 yn,.int .i64 yd] 35)).alloc (.cells #[.int .i64 0,.int .i64 0] 35)) [[.int .i64 p,.int .i64 c,.int .i64 h,.int .i64 s],[.int .i64 xn,.int .i64 xd],[.int .i64 yn,.int .i64 yd],[.int .i64 0,.int .i64 0]]):=
   ((((Fr.start w).allocT (by simp) _ _).allocT (by simp) _ _).allocT (by simp) _ _).allocT (by simp) _ _
  clear hx hy hm
  go_enter Tryz.func85,Tryz.ntmps85
  go_wp2_with (fail)
  refine (more_first (AD.out _)).mono ?_
  rintro e w' ⟨rfl,t,rfl⟩
  have HZ:=h_ (HF.out.more t);generalize more ((((w.alloc (.cells #[.int .i64 p,.int .i64 c,.int .i64 h,.int .i64 s] 25)).alloc (.cells #[.int .i64 xn,.int .i64 xd] 35)).alloc (.cells #[.int .i64 yn,.int .i64 yd] 35)).alloc (.cells #[.int .i64 0,.int .i64 0] 35)) t=Z at *;obtain⟨z0,c00,f00,c01,f01,c02,f02,c03,f03,z1,c10,f10,c11,f11,z2,c20,f20,c21,f21,z3,c30,f30,c31,f31⟩:=HZ.out.xf0
  go_wp2_with (fail)
 case za=>
  refine bodyPost_ret (v:=.tuple #[.agg #[.int .i64 0,.int .i64 0],.bool false]) (by simp[results,Tryz.results85,go_sem,c30,c31,z3,f30,f31]) rfl (RetE.mkN rfl ?_)
  repeat (first|exact HZ.out.b|refine stw ?_ (by omega))
 case zb=>
  refine bodyPost_ret (v:=.tuple #[.agg #[.int .i64 m,.int .i64 d],.bool true]) (by simp[results,Tryz.results85,go_sem,c30,c31,z3,f30,f31]) rfl (RetE.mkY rfl ?_)
  repeat (first|exact HZ.out.b|refine stw ?_ (by omega))
open Go.RowKit Mo Ps Ra Ex
theorem codeW_of_M {p c h s m:Int} {own other:List Int} {v o:Int} (H:codeM p c h s m own other v o true=0):codeW p c h s own other false=0:=by
 obtain⟨hcl,h1,h2⟩:=ki H;obtain⟨hv,hr,hp1,hp2,hcu,_,hgi⟩:=gp hcl;have hvv:=ak hv;obtain⟨K,hK,rfl⟩:=eU hr
 obtain⟨c',rfl⟩:∃c':Nat,c=c':=⟨c.toNat,by omega⟩
 obtain⟨h',rfl⟩:∃h':Nat,h=h':=⟨h.toNat,by omega⟩
 rw[eW hK]at hgi;obtain⟨hN,_⟩:=gi hgi
 have hT:codeT p c' h' s [own,other]=0:=by
  rw[iZ hv (fun j hj=>?_),if_pos (by simp only[Int.toNat_natCast];omega)]
  rcases j with _|_|j
  ·exact hp1
  ·exact hp2
  ·simp at hj;omega
 unfold codeW;rw[if_pos hT,if_neg]
 rintro (⟨a,_⟩|⟨a,_⟩)
 ·exact h1 a
 ·cases a
theorem mk_neg' {B:Int} (hB:1<=B) (n:Int) (d:Nat):mk B (-n) d=(mk B n d).map negE:=by
 have key:∀(n:Int) (x:E),mk B n d=some x->mk B (-n) d=some (negE x):=fun n x h=>by
  obtain⟨hv,hs⟩:=mk_val hB h
  refine mk_some hB (du hv) ?_
  simp only[Same,negE]at hs ⊢
  rw[Int.neg_mul,Int.neg_mul]
  omega
 cases h:mk B n d with
 | some x=>exact key n x h
 | none =>
   cases h' : mk B (-n) d with
   | none => rfl
   | some z =>
     have := key (-n) z h'; rw [Int.neg_neg, h] at this
     cases this
theorem cub_bd {B:Int} (hB:1<=B) {w y:E} (hu:Uni1 B w) (h:cubE B w=some y):Val B y/\Bd B 3 y:=by
 unfold cubE at h;obtain⟨t,h1,h2⟩:=cC h
 have b1:Bd B 1 w:=⟨by have:=hu.1;have:=az hB w.depth;omega,by have:=hu.2;omega⟩
 have b2:=bd_scl hB (k:=((2:Nat):Int)) (by omega) b1 h1
 have b3:Bd B 1 ⟨-1,0⟩:=⟨by show -(1*1)<=(-1:Int);omega,by show (-1:Int)<=1*1;omega⟩
 exact⟨kx hB h2,bd_add hB b2 b3 h2⟩
theorem cub_small {B:Int} (hB:1<=B) {y:E} (hv:Val B y) (hy:Bd B 3 y) : -3000000000000000<=y.num/\y.num<=3000000000000000:=by
 have h1:pw B y.depth<=1000000000000000:=hv.2.2.1;obtain⟨a,b⟩:=hy
 omega
def gainE (B:Int) (ox oy:Option E) (v:Int):Option E:=ox.bind fun x=>oy.bind fun y=>(sclE B y v).bind fun z=>minE B x z
theorem cub_of_M {p c h m:Int} {s':Nat} {own other:List Int} {v o:Int} (H:codeM p c h s' m own other v o true=0):cubR p c h s' own other=numR ((win s' own other).bind (cubE (sq s'))):=by
 unfold cubR;rw[if_pos (codeW_of_M H),Int.toNat_natCast]
noncomputable def cgR (p c h s m:Int) (bv:Bool) (own other:List Int) (v o:Int):Int×Int×Int:=
 if codeM p c h s m own other v o true=0 then numR (gainE (sq s.toNat) (eqv s.toNat ⟨m,bv⟩ own other (v,o)) ((win s.toNat own other).bind (cubE (sq s.toNat))) v) else (0,0,codeM p c h s m own other v o true)
theorem scl_neg {B:Int} (hB:1<=B) (y:E) (v:Int):mk B (-y.num*v) y.depth=(sclE B y v).map negE:=by
 rw[Int.neg_mul,mk_neg' hB]
 rfl
theorem pw_top:∀s,s<7->∀d,d<50->pw (sq s) d<=1000000000000000->pw (sq s) d<=281474976710656:=by decide +kernel
theorem jR (p c h a:Int) (s d:Nat) (x:E) (w:World) (hv:isVar p c h s=true) (ha1 : -1000000000000000000<=a) (ha2:a<=1000000000000000000) (hd:pw (sq s) d<=1000000000000000) (hd50:d<=50) (hm:mk (sq s) a d=some x):
  Calls Tryz.prog 137 #[.agg #[.int .i64 p,.int .i64 c,.int .i64 h,.int .i64 s],.int .i64 a,.int .i64 d] w fun e w'=>e = .returned (.tuple #[.agg #[.int .i64 x.num,.int .i64 (x.depth:Int)],.int .i64 0])/\Below w.heap.size w w':=by
 have hvv:=ak hv
 have hs1:1<=s:=by omega
 have hs6:s<=6:=by omega
 obtain⟨hq1,_,_⟩:=sq_bd hs1 hs6;have hpp:=az hq1 d
 have CV:Hid (∀W:World,Calls Tryz.prog 80 #[.agg #[.int .i64 p,.int .i64 c,.int .i64 h,.int .i64 s]] W fun e w'=>e = .returned (.bool true)/\Below W.heap.size W w'):=fun W=>by
  have:=aN p c h s W;rw[hv]at this;exact this
 have CS:Hid (∀W:World,Calls Tryz.prog 171 #[.agg #[.int .i64 p,.int .i64 c,.int .i64 h,.int .i64 s],.int .i64 d] W fun e w'=>e = .returned (.tuple #[.int .i64 (pw (sq s) d),.bool true])/\Below W.heap.size W w'):=fun W=>by
  have:=aH p c h s d W hs1 hs6 (by omega)
  rw[show scl (sq s) d=pw (sq s) d by unfold scl;rw[if_pos (show pw (sq s) d<=a8 from hd)],show sclB (sq s) d=true by unfold sclB;exact decide_eq_true hd]at this
  exact this
 obtain⟨n,e,fl,hf,hmk⟩:=dZ p c h a (pw (sq s) d) s d hs1 hs6 hd50 hpp (by omega) (by omega) (by omega) ⟨1,by omega⟩
 rw[Int.ediv_self (by omega),Int.mul_one,hm]at hmk
 cases fl
 ·cases hmk
 ·obtain rfl:x=⟨n,e⟩:=Option.some.inj hmk
  have CF:=h_ hf;clear hmk hm hf hv hvv hd;have hI1:inB a (-1000000000000000000) 1000000000000000000=true:=aW ⟨ha1,ha2⟩
  have hI2:inB (d:Int) 0 60=true:=aW ⟨by omega,by omega⟩
  have HF0:Hid (Fr w ((w.alloc (.cells #[.int .i64 p,.int .i64 c,.int .i64 h,.int .i64 s] 25)).alloc (.cells #[.int .i64 0,.int .i64 0] 35)) [[.int .i64 p,.int .i64 c,.int .i64 h,.int .i64 s],[.int .i64 0,.int .i64 0]]):=((Fr.start w).allocT (by simp) _ _).allocT (by simp) _ _
  have hmn:min (d:Int) 61=d:=by omega
  have hmx:max (0:Int) (d:Int)=d:=by omega
  generalize pw (sq s) d=P at *
  go_enter Tryz.func137,Tryz.ntmps137
  go_wp2_with (fail)
  refine (CV.out _).mono ?_
  rintro e1 w1 ⟨rfl,hb⟩
  have HF1:=h_ (HF0.out.below hb);clear hb HF0;obtain⟨z0,c00,f00,c01,f01,c02,f02,c03,f03,z1,c10,f10,c11,f11⟩:=HF1.out.xf1
  go_wp2_with (fail)
  clear z0 c00 f00 c01 f01 c02 f02 c03 f03 z1 c10 f10 c11 f11
  refine (CS.out _).mono ?_
  rintro e2 w2 ⟨rfl,hb⟩
  have HF2:=h_ (HF1.out.below hb);clear hb HF1;obtain⟨z0,c00,f00,c01,f01,c02,f02,c03,f03,z1,c10,f10,c11,f11⟩:=HF2.out.xf1
  go_wp2_with (go_at_call 134;refine (l01In_any _ _ _ _).mono ?_;rintro e' w' ⟨rfl,rfl⟩)
  clear z0 c00 f00 c01 f01 c02 f02 c03 f03 z1 c10 f10 c11 f11
  refine (CF.out _).mono ?_
  rintro e3 w3 ⟨rfl,hb⟩
  have HF3:=h_ (HF2.out.below hb);clear hb HF2;obtain⟨z0,c00,f00,c01,f01,c02,f02,c03,f03,z1,c10,f10,c11,f11⟩:=HF3.out.xf1
  go_wp2_with (fail)
  refine bodyPost_ret (v:=.tuple #[.agg #[.int .i64 n,.int .i64 (e:Int)],.int .i64 0]) (by simp[results,Tryz.results137,go_sem,c10,c11,z1,f10,f11]) rfl ⟨rfl,?_⟩
  repeat (first|exact HF3.out.b|refine stw ?_ (by omega)|refine alw ?_ (by omega))
end Go.Proofs.YtkaiilmgemaljaaGreat

/- Part of one proof. There are no conditions. -/
import Derived.Test.YtkaiilmgemaljaaGreatYZp
set_option linter.unusedVariables false
set_option linter.unusedSimpArgs false
namespace Go.Proofs.YtkaiilmgemaljaaGreat.Ra
open Go.Proofs.YtkaiilmgemaljaaGreat.Ex Go.Proofs.YtkaiilmgemaljaaGreat.Ps
def av (B:Int) (M:Nat) (e:E):Int:=e.num*pw B (M-e.depth)
theorem iZ (B:Int) {M d:Nat} (h:d<=M):pw B M=pw B (M-d)*pw B d:=by rw[<- fq];congr 1;omega
theorem av_up {B:Int} {M N:Nat} {e:E} (h:e.depth<=M) (hM:M<=N):av B N e=av B M e*pw B (N-M):=by
 unfold av
 rw[Int.mul_assoc,<- fq];congr 2;omega
theorem same_av {B:Int} (hB:1<=B) {x y:E} {M:Nat} (hx:x.depth<=M) (hy:y.depth<=M):Same B x y↔av B M x=av B M y:=by
 have p:=az hB (M-x.depth);have q:=az hB (M-y.depth);have px:=az hB x.depth;have py:=az hB y.depth;have e1:=iZ B hx;have e2:=iZ B hy;unfold Same av;generalize pw B (M-x.depth)=a at *;generalize pw B (M-y.depth)=b at *;generalize pw B x.depth=P at *;generalize pw B y.depth=Q at *;generalize x.num=u at *;generalize y.num=v at *;have e3:a*P=b*Q:=e1.symm.trans e2
 constructor
 ·intro h
  have hPQ:P*Q≠0:=Int.mul_ne_zero (by omega) (by omega)
  refine Int.eq_of_mul_eq_mul_right hPQ ?_
  have t1:u*a*(P*Q)=(u*Q)*(a*P):=by ac_rfl
  have t2:v*b*(P*Q)=(v*P)*(b*Q):=by ac_rfl
  rw[t1,t2,h,e3]
 ·intro h
  have hab:a*b≠0:=Int.mul_ne_zero (by omega) (by omega)
  refine Int.eq_of_mul_eq_mul_right hab ?_
  have t1:u*Q*(a*b)=(u*a)*(b*Q):=by ac_rfl
  have t2:v*P*(a*b)=(v*b)*(a*P):=by ac_rfl
  rw[t1,t2,h,e3]
theorem mk_strip' {B:Int} {n:Int} {d:Nat} {x:E} (h:mk B n d=some x):x=strip B d n:=by
 unfold mk at h
 split at h
 ·injection h with h;exact h.symm
 ·cases h
theorem av_mk {B:Int} (hB:1<=B) {n:Int} {d M:Nat} {x:E} (h:mk B n d=some x) (hd:d<=M):x.depth<=d/\av B M x=n*pw B (M-d):=by
 have h1:x.depth<=d:=by rw[mk_strip' h];exact iT d n
 have h2:=(same_av hB (Nat.le_trans h1 hd) (y:=⟨n,d⟩) hd).1 (mk_val hB h).2
 exact⟨h1,h2⟩
theorem av_inj {B:Int} (hB:1<=B) {x y:E} {M:Nat} (vx:Val B x) (vy:Val B y) (hx:x.depth<=M) (hy:y.depth<=M) (h:av B M x=av B M y):x=y:=
 gK hB vx.2.2.2.1 vy.2.2.2.1 ((same_av hB hx hy).2 h)
theorem add_av {B:Int} (hB:1<=B) {x y z:E} {M:Nat} (h:addE B x y=some z) (hx:x.depth<=M) (hy:y.depth<=M):z.depth<=max x.depth y.depth/\av B M z=av B M x+av B M y:=by
 obtain⟨h1,h2⟩:=av_mk (M:=M) hB h (by omega)
 refine⟨h1,?_⟩
 rw[h2]
 rw[av_up (e:=x) (M:=max x.depth y.depth) (N:=M) (by omega) (by omega),av_up (e:=y) (M:=max x.depth y.depth) (N:=M) (by omega) (by omega),<- Int.add_mul]
 rfl
theorem scl_av {B:Int} (hB:1<=B) {x z:E} {k:Int} {M:Nat} (h:sclE B x k=some z) (hx:x.depth<=M):z.depth<=x.depth/\av B M z=av B M x*k:=by
 obtain⟨h1,h2⟩:=av_mk (M:=M) hB h hx
 refine⟨h1,?_⟩
 rw[h2];unfold av;rw[Int.mul_right_comm]
theorem neg_av (B:Int) (x:E) (M:Nat):av B M (negE x) = -av B M x:=by
 unfold av negE;rw[Int.neg_mul]
theorem one_av (B:Int) (M:Nat):av B M oneE=pw B M:=by unfold av oneE;rw[Nat.sub_zero,Int.one_mul]
theorem zero_av (B:Int) (M:Nat):av B M bX=0:=by unfold av bX;rw[Int.zero_mul]
theorem oneM_av {B:Int} (hB:1<=B) {x z:E} {M:Nat} (h:oneM B x=some z) (hx:x.depth<=M):z.depth<=x.depth/\av B M z=pw B M-av B M x:=by
 obtain⟨h1,h2⟩:=add_av (M:=M) hB (x:=oneE) (y:=negE x) h (Nat.zero_le _) hx;rw[one_av,neg_av]at h2
 exact⟨Nat.le_trans h1 (by show max 0 x.depth<=_;omega),by omega⟩
def wgtL (l:List ((Nat×Nat)×E)):Int:=(l.map fun rx=>aI rx.1).sum
def avS (B:Int) (M:Nat) (l:List ((Nat×Nat)×E)):Int:=(l.map fun rx=>av B M rx.2*aI rx.1).sum
theorem avS_snoc (B:Int) (M:Nat) (l:List ((Nat×Nat)×E)) (r:Nat×Nat) (x:E):avS B M (l++[(r,x)])=avS B M l+av B M x*aI r:=by unfold avS;simp
theorem sum_av {B:Int} (hB:1<=B) {M:Nat}:∀{l:List ((Nat×Nat)×E)} {t:E},sumE B l=some t->(∀rx∈l,rx.2.depth<=M)->t.depth<=M/\av B M t=avS B M l:=by
 intro l
 induction l using aT with
 | nil =>
   intro t h _
   unfold sumE at h
   simp at h
   subst h
   exact ⟨Nat.zero_le _, zero_av B M⟩
 | snoc l rx ih =>
   obtain ⟨r, x⟩ := rx
   intro t h hm
   rw [fW] at h
   cases hs : sumE B l with
   | none => rw [hs] at h; cases h
   | some u =>
     obtain ⟨i1, i2⟩ := ih hs fun p hp => hm p (by simp [hp])
     have hx : x.depth <= M := hm (r, x) (by simp)
     rw [hs] at h
     simp only [Option.bind_some] at h
     cases hz : sclE B x (aI r) with
     | none => rw [hz] at h; cases h
     | some y =>
       rw [hz] at h
       simp only [Option.bind_some] at h
       obtain ⟨j1, j2⟩ := scl_av (M := M) hB hz hx
       obtain ⟨k1, k2⟩ := add_av (M := M) hB h i1 (by omega)
       exact ⟨by omega, by rw [k2, i2, j2, avS_snoc]⟩
end Go.Proofs.YtkaiilmgemaljaaGreat.Ra

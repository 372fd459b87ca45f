/- Part of one proof. There are no conditions. -/
import Derived.Test.YtkaiilmgemaljaaGreatTZp
set_option linter.unusedVariables false
set_option linter.unusedSimpArgs false
namespace Go.Proofs.YtkaiilmgemaljaaGreat.Ra
open Go.Proofs.YtkaiilmgemaljaaGreat.Ex Go.Proofs.YtkaiilmgemaljaaGreat.Ps
def av (B:Int) (M:Nat) (e:E):Int:=e.num*pw B (M-e.depth)
theorem iV (B:Int) {M d:Nat} (h:d<=M):pw B M=pw B (M-d)*pw B d:=by rw[<- fB];congr 1;omega
theorem av_self (B:Int) (e:E):av B e.depth e=e.num:=by unfold av;rw[Nat.sub_self,bA,Int.mul_one]
theorem av_up {B:Int} {M N:Nat} {e:E} (h:e.depth<=M) (hM:M<=N):av B N e=av B M e*pw B (N-M):=by
 unfold av
 rw[Int.mul_assoc,<- fB];congr 2;omega
theorem same_av {B:Int} (hB:1<=B) {x y:E} {M:Nat} (hx:x.depth<=M) (hy:y.depth<=M):Same B x y↔av B M x=av B M y:=by
 have p:=aA hB (M-x.depth);have q:=aA hB (M-y.depth);have px:=aA hB x.depth;have py:=aA hB y.depth;have e1:=iV B hx;have e2:=iV B hy;unfold Same av;generalize pw B (M-x.depth)=a at *;generalize pw B (M-y.depth)=b at *;generalize pw B x.depth=P at *;generalize pw B y.depth=Q at *;generalize x.num=u at *;generalize y.num=v at *;have e3:a*P=b*Q:=e1.symm.trans e2
 constructor
 ·intro h
  have hPQ:P*Q≠0:=Int.mul_ne_zero (by omega) (by omega)
  refine Int.eq_of_mul_eq_mul_right hPQ ?_
  have t1:u*a*(P*Q)=(u*Q)*(a*P):=by ac_rfl
  have t2:v*b*(P*Q)=(v*P)*(b*Q):=by ac_rfl
  rw[t1,t2,h,e3]
 ·intro h
  have hab:a*b≠0:=Int.mul_ne_zero (by omega) (by omega)
  refine Int.eq_of_mul_eq_mul_right hab ?_
  have t1:u*Q*(a*b)=(u*a)*(b*Q):=by ac_rfl
  have t2:v*P*(a*b)=(v*b)*(a*P):=by ac_rfl
  rw[t1,t2,h,e3]
theorem mk_strip' {B:Int} {n:Int} {d:Nat} {x:E} (h:mk B n d=some x):x=strip B d n:=by
 unfold mk at h
 split at h
 ·injection h with h;exact h.symm
 ·cases h
theorem av_mk {B:Int} (hB:1<=B) {n:Int} {d M:Nat} {x:E} (h:mk B n d=some x) (hd:d<=M):x.depth<=d/\av B M x=n*pw B (M-d):=by
 have h1:x.depth<=d:=by rw[mk_strip' h];exact eT d n
 have h2:=(same_av hB (Nat.le_trans h1 hd) (y:=⟨n,d⟩) hd).1 (mk_val hB h).2
 exact⟨h1,h2⟩
theorem av_inj {B:Int} (hB:1<=B) {x y:E} {M:Nat} (vx:Val B x) (vy:Val B y) (hx:x.depth<=M) (hy:y.depth<=M) (h:av B M x=av B M y):x=y:=
 fZ hB vx.2.2.2.1 vy.2.2.2.1 ((same_av hB hx hy).2 h)
theorem strip_abs {B:Int} (hB:1<=B):∀(d:Nat) (n:Int),(strip B d n).num.natAbs<=n.natAbs
 | 0,n=>Nat.le_refl _
 | d + 1, n => by
   unfold strip
   split
   · refine Nat.le_trans (strip_abs hB d (n / B)) ?_
     rename_i h
     obtain ⟨k, rfl⟩ := h
     rw [Int.mul_ediv_cancel_left _ (by omega), Int.natAbs_mul]
     exact Nat.le_mul_of_pos_left _ (by omega)
   · exact Nat.le_refl _
theorem mk_ok {B:Int} (hB:1<=B) {n:Int} {d:Nat} (h1 : -az<=n) (h2:n<=az) (h3:pw B d<=ao):∃x,mk B n d=some x:=by
 refine⟨strip B d n,?_⟩
 unfold mk;have ha:=strip_abs hB d n;have hp:=bJ hB (eT (B:=B) d n);rw[if_pos]
 refine⟨by unfold az at *;omega,by unfold az at *;omega,by omega,gU d n,fun h=>?_⟩
 subst h;rw[ft]
theorem add_av {B:Int} (hB:1<=B) {x y z:E} {M:Nat} (h:addE B x y=some z) (hx:x.depth<=M) (hy:y.depth<=M):z.depth<=max x.depth y.depth/\av B M z=av B M x+av B M y:=by
 obtain⟨h1,h2⟩:=av_mk (M:=M) hB h (by omega)
 refine⟨h1,?_⟩
 rw[h2]
 rw[av_up (e:=x) (M:=max x.depth y.depth) (N:=M) (by omega) (by omega),av_up (e:=y) (M:=max x.depth y.depth) (N:=M) (by omega) (by omega),<- Int.add_mul]
 rfl
theorem add_ok {B:Int} (hB:1<=B) {x y:E} (hx:Val B x) (hy:Val B y) (h1 : -az<=av B (max x.depth y.depth) x+av B (max x.depth y.depth) y) (h2:av B (max x.depth y.depth) x+av B (max x.depth y.depth) y<=az):∃z,addE B x y=some z:=by
 refine mk_ok hB h1 h2 ?_
 rcases Nat.le_total x.depth y.depth with h|h
 ·rw[Nat.max_eq_right h];exact hy.2.2.1
 ·rw[Nat.max_eq_left h];exact hx.2.2.1
theorem scl_av {B:Int} (hB:1<=B) {x z:E} {k:Int} {M:Nat} (h:sclE B x k=some z) (hx:x.depth<=M):z.depth<=x.depth/\av B M z=av B M x*k:=by
 obtain⟨h1,h2⟩:=av_mk (M:=M) hB h hx
 refine⟨h1,?_⟩
 rw[h2];unfold av;rw[Int.mul_right_comm]
theorem neg_av (B:Int) (x:E) (M:Nat):av B M (negE x) = -av B M x:=by
 unfold av negE;rw[Int.neg_mul]
theorem one_av (B:Int) (M:Nat):av B M oneE=pw B M:=by unfold av oneE;rw[Nat.sub_zero,Int.one_mul]
theorem zero_av (B:Int) (M:Nat):av B M aK=0:=by unfold av aK;rw[Int.zero_mul]
theorem oneM_av {B:Int} (hB:1<=B) {x z:E} {M:Nat} (h:oneM B x=some z) (hx:x.depth<=M):z.depth<=x.depth/\av B M z=pw B M-av B M x:=by
 obtain⟨h1,h2⟩:=add_av (M:=M) hB (x:=oneE) (y:=negE x) h (Nat.zero_le _) hx;rw[one_av,neg_av]at h2
 exact⟨Nat.le_trans h1 (by show max 0 x.depth<=_;omega),by omega⟩
def Uni1 (B:Int) (e:E):Prop:=0<=e.num/\e.num<=pw B e.depth
theorem gQ {B:Int} (hB:1<=B) {e:E} {M:Nat} (h:e.depth<=M):Uni1 B e↔0<=av B M e/\av B M e<=pw B M:=by
 have p:=aA hB (M-e.depth);have e1:=iV B h;unfold Uni1 av;rw[e1]
 constructor
 ·rintro⟨h1,h2⟩
  exact⟨Int.mul_nonneg h1 (by omega),by rw[Int.mul_comm];exact Int.mul_le_mul_of_nonneg_left h2 (by omega)⟩
 ·rintro⟨h1,h2⟩
  refine⟨Int.nonneg_of_mul_nonneg_left h1 (by omega),?_⟩
  rw[Int.mul_comm]at h2
  exact Int.le_of_mul_le_mul_left h2 (by omega)
theorem uni_one {B:Int}:Uni1 B oneE:=⟨by decide,by show (1:Int)<=1;omega⟩
theorem fq {B:Int}:Uni1 B aK:=⟨by decide,by show (0:Int)<=1;omega⟩
theorem jl {B:Int} (hB:1<=B) {x z:E} (h:oneM B x=some z) (hx:Uni1 B x):Uni1 B z:=by
 obtain⟨h1,h2⟩:=oneM_av (M:=x.depth) hB h (Nat.le_refl _);rw[gQ hB h1,h2];have:=(gQ hB (Nat.le_refl x.depth)).1 hx
 omega
theorem oneM_ok {B:Int} (hB:1<=B) {x:E} (hv:Val B x) (hx:Uni1 B x):∃z,oneM B x=some z:=by
 refine add_ok hB fb (ec hv) ?_ ?_
 all_goals
  have h0:max oneE.depth (negE x).depth=x.depth:=by show max 0 x.depth=_;omega
  rw[h0,one_av,neg_av,av_self];have:=hx.1;have:=hx.2;have:=hv.2.2.1;unfold az ao at *
  omega
theorem sub_ok {B:Int} (hB:1<=B) {x y:E} (vx:Val B x) (vy:Val B y) (ux:Uni1 B x) (uy:Uni1 B y):∃z,addE B x (negE y)=some z:=by
 refine add_ok hB vx (ec vy) ?_ ?_
 all_goals
  have e0:(negE y).depth=y.depth:=rfl;rw[neg_av,e0]
  have h1:=(gQ hB (show x.depth<=max x.depth y.depth by omega)).1 ux
  have h2:=(gQ hB (show y.depth<=max x.depth y.depth by omega)).1 uy
  have h3:pw B (max x.depth y.depth)<=ao:=by
   rcases Nat.le_total x.depth y.depth with h|h
   ·rw[Nat.max_eq_right h];exact vy.2.2.1
   ·rw[Nat.max_eq_left h];exact vx.2.2.1
  unfold az ao at *
  omega
def wgtL (l:List ((Nat×Nat)×E)):Int:=(l.map fun rx=>aH rx.1).sum
theorem gN (l:List ((Nat×Nat)×E)) (r:Nat×Nat) (x:E):wgtL (l++[(r,x)])=wgtL l+aH r:=by unfold wgtL;simp
theorem fW (r:Nat×Nat):1<=aH r:=by unfold aH;split<;>omega
theorem wgtL_nn:∀l,0<=wgtL l:=by
 intro l
 induction l with
 | nil=>simp[wgtL]
 | cons a l ih =>
   have := fW a.1
   simp only [wgtL, List.map_cons, List.sum_cons] at ih ⊢
   omega
def avS (B:Int) (M:Nat) (l:List ((Nat×Nat)×E)):Int:=(l.map fun rx=>av B M rx.2*aH rx.1).sum
theorem avS_snoc (B:Int) (M:Nat) (l:List ((Nat×Nat)×E)) (r:Nat×Nat) (x:E):avS B M (l++[(r,x)])=avS B M l+av B M x*aH r:=by unfold avS;simp
theorem sum_av {B:Int} (hB:1<=B) {M:Nat}:∀{l:List ((Nat×Nat)×E)} {t:E},sumE B l=some t->(∀rx∈l,rx.2.depth<=M)->t.depth<=M/\av B M t=avS B M l:=by
 intro l
 induction l using aJ with
 | nil =>
   intro t h _
   unfold sumE at h
   simp at h
   subst h
   exact ⟨Nat.zero_le _, zero_av B M⟩
 | snoc l rx ih =>
   obtain ⟨r, x⟩ := rx
   intro t h hm
   rw [fs] at h
   cases hs : sumE B l with
   | none => rw [hs] at h; cases h
   | some u =>
     obtain ⟨i1, i2⟩ := ih hs fun p hp => hm p (by simp [hp])
     have hx : x.depth <= M := hm (r, x) (by simp)
     rw [hs] at h
     simp only [Option.bind_some] at h
     cases hz : sclE B x (aH r) with
     | none => rw [hz] at h; cases h
     | some y =>
       rw [hz] at h
       simp only [Option.bind_some] at h
       obtain ⟨j1, j2⟩ := scl_av (M := M) hB hz hx
       obtain ⟨k1, k2⟩ := add_av (M := M) hB h i1 (by omega)
       exact ⟨by omega, by rw [k2, i2, j2, avS_snoc]⟩
theorem sum_ok {B:Int} (hB:1<=B) {M:Nat} (hM:pw B M<=ao):∀{l:List ((Nat×Nat)×E)},(∀rx∈l,rx.2.depth<=M/\-(pw B M)<=av B M rx.2/\av B M rx.2<=pw B M)->wgtL l<=100->∃t,sumE B l=some t/\t.depth<=M/\-(wgtL l*pw B M)<=av B M t/\av B M t<=wgtL l*pw B M:=by
 intro l
 induction l using aJ with
 | nil =>
   intro _ _
   refine ⟨aK, rfl, Nat.zero_le _, ?_, ?_⟩ <;> rw [zero_av] <;> simp [wgtL]
 | snoc l rx ih =>
   obtain ⟨r, x⟩ := rx
   intro hm hw
   have hp := aA hB M; have hwr := fW r
   have hwr2 : aH r <= 2 := by unfold aH; split <;> omega
   have hwl := wgtL_nn l; rw [gN] at hw
   obtain ⟨u, hu, u1, u2, u3⟩ := ih (fun p hq => hm p (by simp [hq])) (by omega)
   obtain ⟨x1, x2, x3⟩ := hm (r, x) (by simp)
   have x1' : x.depth <= M := x1
   have hmx : ∀ {e : E} {b : Int}, e.depth <= M -> 0 <= b -> -(b * pw B M) <= av B M e -> av B M e <= b * pw B M -> ∀ {d : Nat}, e.depth <= d -> d <= M -> -(b * pw B d) <= av B d e /\ av B d e <= b * pw B d := by
     intro e b he hb h1 h2 d hd hdM
     have hq := aA hB (M - d); have hud := av_up (B := B) hd hdM; rw [hud, iV B hdM] at h1 h2
     rw [show b * (pw B (M - d) * pw B d) = (b * pw B d) * pw B (M - d) by ac_rfl] at h1 h2
     rw [<- Int.neg_mul] at h1
     exact ⟨Int.le_of_mul_le_mul_right h1 (by omega), Int.le_of_mul_le_mul_right h2 (by omega)⟩
   have hpm : ∀ {d : Nat}, d <= M -> pw B d <= ao := fun hd => Int.le_trans (bJ hB hd) hM
   obtain ⟨y, hy⟩ : ∃ y, sclE B x (aH r) = some y := by
     have h1 := hmx x1' (by omega : (0 : Int) <= 1) (by rw [Int.one_mul]; exact x2) (by rw [Int.one_mul]; exact x3) (Nat.le_refl _) x1'
     rw [av_self, Int.one_mul] at h1; have hs := hpm x1'
     rcases show aH r = 1 \/ aH r = 2 by omega with e | e
     · exact mk_ok hB (by rw [e]; unfold az ao at *; omega) (by rw [e]; unfold az ao at *; omega) hs
     · exact mk_ok hB (by rw [e]; unfold az ao at *; omega) (by rw [e]; unfold az ao at *; omega) hs
   obtain ⟨j1, j2⟩ := scl_av (M := M) hB hy x1'
   have hyb : -(aH r * pw B M) <= av B M y /\ av B M y <= aH r * pw B M := by
     rw [j2, Int.mul_comm (av B M x)]
     exact ⟨by rw [<- Int.mul_neg]; exact Int.mul_le_mul_of_nonneg_left x2 (by omega), Int.mul_le_mul_of_nonneg_left x3 (by omega)⟩
   have vu := jm hB hu; have vy := gD hB hy
   have hD : max u.depth y.depth <= M := by omega
   have b1 := hmx u1 hwl u2 u3 (show u.depth <= max u.depth y.depth by omega) hD
   have b2 := hmx (show y.depth <= M by omega) (show 0 <= aH r by omega) hyb.1 hyb.2 (show y.depth <= max u.depth y.depth by omega) hD
   have hsc := hpm hD; have hq := aA hB (max u.depth y.depth)
   have w1 : wgtL l * pw B (max u.depth y.depth) <= 100 * ao := by
     refine Int.le_trans (Int.mul_le_mul_of_nonneg_left hsc hwl) ?_
     exact Int.mul_le_mul_of_nonneg_right (by omega) (by unfold ao; omega)
   have w2 : aH r * pw B (max u.depth y.depth) <= 2 * ao := by
     refine Int.le_trans (Int.mul_le_mul_of_nonneg_left hsc (by omega)) ?_
     exact Int.mul_le_mul_of_nonneg_right (by omega) (by unfold ao; omega)
   obtain ⟨t, ht⟩ := add_ok hB vu vy (by unfold az ao at *; omega) (by unfold az ao at *; omega)
   obtain ⟨k1, k2⟩ := add_av (M := M) hB ht u1 (by omega)
   refine ⟨t, by rw [fs, hu, Option.bind_some, hy, Option.bind_some, ht], by omega, ?_, ?_⟩
   · rw [k2, gN, Int.add_mul]; omega
   · rw [k2, gN, Int.add_mul]; omega
end Go.Proofs.YtkaiilmgemaljaaGreat.Ra

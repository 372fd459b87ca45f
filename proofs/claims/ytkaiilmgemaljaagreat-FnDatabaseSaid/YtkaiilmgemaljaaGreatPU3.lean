/- Plain facts on exact numbers over one common depth. No program is in sight; there are no conditions. -/
import Derived.Test.YtkaiilmgemaljaaGreatPZp
import Derived.Test.YtkaiilmgemaljaaGreatPZn
set_option linter.unusedVariables false
set_option linter.unusedSimpArgs false
namespace Go.Proofs.YtkaiilmgemaljaaGreat.Ra
open Go.Proofs.YtkaiilmgemaljaaGreat.Ex Go.Proofs.YtkaiilmgemaljaaGreat.Ps
def av (B:Int) (M:Nat) (e:E):Int:=e.num*pw B (M-e.depth)
theorem pw_cut (B:Int) {M d:Nat} (h:d≤M):pw B M=pw B (M-d)*pw B d:=by rw[← pw_add];congr 1;omega
theorem av_up {B:Int} {M N:Nat} {e:E} (h:e.depth≤M) (hM:M≤N):av B N e=av B M e*pw B (N-M):=by
 unfold av
 rw[Int.mul_assoc,← pw_add];congr 2;omega
theorem same_av {B:Int} (hB:1≤B) {x y:E} {M:Nat} (hx:x.depth≤M) (hy:y.depth≤M):Same B x y↔av B M x=av B M y:=by
 have p:=pw_pos hB (M-x.depth);have q:=pw_pos hB (M-y.depth);have px:=pw_pos hB x.depth;have py:=pw_pos hB y.depth;have e1:=pw_cut B hx;have e2:=pw_cut B hy;unfold Same av;generalize pw B (M-x.depth)=a at *;generalize pw B (M-y.depth)=b at *;generalize pw B x.depth=P at *;generalize pw B y.depth=Q at *;generalize x.num=u at *;generalize y.num=v at *;have e3:a*P=b*Q:=e1.symm.trans e2
 constructor
 ·intro h
  have hPQ:P*Q≠0:=Int.mul_ne_zero (by omega) (by omega)
  refine Int.eq_of_mul_eq_mul_right hPQ ?_
  have t1:u*a*(P*Q)=(u*Q)*(a*P):=by ac_rfl
  have t2:v*b*(P*Q)=(v*P)*(b*Q):=by ac_rfl
  rw[t1,t2,h,e3]
 ·intro h
  have hab:a*b≠0:=Int.mul_ne_zero (by omega) (by omega)
  refine Int.eq_of_mul_eq_mul_right hab ?_
  have t1:u*Q*(a*b)=(u*a)*(b*Q):=by ac_rfl
  have t2:v*P*(a*b)=(v*b)*(a*P):=by ac_rfl
  rw[t1,t2,h,e3]
theorem mk_strip' {B:Int} {n:Int} {d:Nat} {x:E} (h:mk B n d=some x):x=strip B d n:=by
 unfold mk at h
 split at h
 ·injection h with h;exact h.symm
 ·cases h
theorem av_mk {B:Int} (hB:1≤B) {n:Int} {d M:Nat} {x:E} (h:mk B n d=some x) (hd:d≤M):x.depth≤d∧av B M x=n*pw B (M-d):=by
 have h1:x.depth≤d:=by rw[mk_strip' h];exact strip_depth d n
 have h2:=(same_av hB (Nat.le_trans h1 hd) (y:=⟨n,d⟩) hd).1 (mk_val hB h).2
 exact⟨h1,h2⟩
theorem add_av {B:Int} (hB:1≤B) {x y z:E} {M:Nat} (h:addE B x y=some z) (hx:x.depth≤M) (hy:y.depth≤M):z.depth≤max x.depth y.depth∧av B M z=av B M x+av B M y:=by
 obtain⟨h1,h2⟩:=av_mk (M:=M) hB h (by omega)
 refine⟨h1,?_⟩
 rw[h2]
 rw[av_up (e:=x) (M:=max x.depth y.depth) (N:=M) (by omega) (by omega),av_up (e:=y) (M:=max x.depth y.depth) (N:=M) (by omega) (by omega),← Int.add_mul]
 rfl
theorem scl_av {B:Int} (hB:1≤B) {x z:E} {k:Int} {M:Nat} (h:sclE B x k=some z) (hx:x.depth≤M):z.depth≤x.depth∧av B M z=av B M x*k:=by
 obtain⟨h1,h2⟩:=av_mk (M:=M) hB h hx
 refine⟨h1,?_⟩
 rw[h2];unfold av;rw[Int.mul_right_comm]
theorem neg_av (B:Int) (x:E) (M:Nat):av B M (negE x) = -av B M x:=by
 unfold av negE;rw[Int.neg_mul]
theorem one_av (B:Int) (M:Nat):av B M oneE=pw B M:=by unfold av oneE;rw[Nat.sub_zero,Int.one_mul]
theorem zero_av (B:Int) (M:Nat):av B M zeroE'=0:=by unfold av zeroE';rw[Int.zero_mul]
theorem oneM_av {B:Int} (hB:1≤B) {x z:E} {M:Nat} (h:oneM B x=some z) (hx:x.depth≤M):z.depth≤x.depth∧av B M z=pw B M-av B M x:=by
 obtain⟨h1,h2⟩:=add_av (M:=M) hB (x:=oneE) (y:=negE x) h (Nat.zero_le _) hx;rw[one_av,neg_av]at h2
 exact⟨Nat.le_trans h1 (by show max 0 x.depth≤_;omega),by omega⟩
/-! ### numbers from 0 to 1 -/
def Uni1 (B:Int) (e:E):Prop:=0≤e.num∧e.num≤pw B e.depth
theorem uni_av {B:Int} (hB:1≤B) {e:E} {M:Nat} (h:e.depth≤M):Uni1 B e↔0≤av B M e∧av B M e≤pw B M:=by
 have p:=pw_pos hB (M-e.depth);have e1:=pw_cut B h;unfold Uni1 av;rw[e1]
 constructor
 ·rintro⟨h1,h2⟩
  exact⟨Int.mul_nonneg h1 (by omega),by rw[Int.mul_comm];exact Int.mul_le_mul_of_nonneg_left h2 (by omega)⟩
 ·rintro⟨h1,h2⟩
  refine⟨Int.nonneg_of_mul_nonneg_left h1 (by omega),?_⟩
  rw[Int.mul_comm]at h2
  exact Int.le_of_mul_le_mul_left h2 (by omega)
theorem uni_one {B:Int}:Uni1 B oneE:=⟨by decide,by show (1:Int)≤1;omega⟩
theorem uni_zero' {B:Int}:Uni1 B zeroE':=⟨by decide,by show (0:Int)≤1;omega⟩
theorem uni_oneM {B:Int} (hB:1≤B) {x z:E} (h:oneM B x=some z) (hx:Uni1 B x):Uni1 B z:=by
 obtain⟨h1,h2⟩:=oneM_av (M:=x.depth) hB h (Nat.le_refl _);rw[uni_av hB h1,h2];have:=(uni_av hB (Nat.le_refl x.depth)).1 hx
 omega
/-! ### sums over rolls -/
def wgtL (l:List ((Nat×Nat)×E)):Int:=(l.map fun rx=>weight rx.1).sum
theorem weight_pos (r:Nat×Nat):1≤weight r:=by unfold weight;split<;>omega
def avS (B:Int) (M:Nat) (l:List ((Nat×Nat)×E)):Int:=(l.map fun rx=>av B M rx.2*weight rx.1).sum
theorem avS_snoc (B:Int) (M:Nat) (l:List ((Nat×Nat)×E)) (r:Nat×Nat) (x:E):avS B M (l++[(r,x)])=avS B M l+av B M x*weight r:=by unfold avS;simp
theorem sum_av {B:Int} (hB:1≤B) {M:Nat}:∀{l:List ((Nat×Nat)×E)} {t:E},sumE B l=some t→(∀rx∈l,rx.2.depth≤M)→t.depth≤M∧av B M t=avS B M l:=by
 intro l
 induction l using snoc_ind with
 | nil =>
   intro t h _
   unfold sumE at h
   simp at h
   subst h
   exact ⟨Nat.zero_le _, zero_av B M⟩
 | snoc l rx ih =>
   obtain ⟨r, x⟩ := rx
   intro t h hm
   rw [sumE_snoc] at h
   cases hs : sumE B l with
   | none => rw [hs] at h; cases h
   | some u =>
     obtain ⟨i1, i2⟩ := ih hs fun p hp => hm p (by simp [hp])
     have hx : x.depth ≤ M := hm (r, x) (by simp)
     rw [hs] at h
     simp only [Option.bind_some] at h
     cases hz : sclE B x (weight r) with
     | none => rw [hz] at h; cases h
     | some y =>
       rw [hz] at h
       simp only [Option.bind_some] at h
       obtain ⟨j1, j2⟩ := scl_av (M := M) hB hz hx
       obtain ⟨k1, k2⟩ := add_av (M := M) hB h i1 (by omega)
       exact ⟨by omega, by rw [k2, i2, j2, avS_snoc]⟩
theorem bestS_mem {B:Int} {f:List Int→Option E} {l:List (List Int)} {t:Nat×Nat×E} (h:bestS B f l=some t):t.2.2=zeroE'∨∃q∈l,f q=some t.2.2:=by
 induction l using snoc_ind generalizing t with
 | nil=>rw[bestS_nil]at h;injection h with h;subst h;exact .inl rfl
 | snoc l q ih =>
   rw [bestS_snoc] at h
   cases hs : bestS B f l with
   | none => rw [hs] at h; cases h
   | some u =>
     rw [hs] at h
     cases hf : f q with
     | none => rw [hf] at h; cases h
     | some x =>
       rw [hf] at h
       simp only [Option.bind_some, Option.map_some, Option.some.injEq] at h
       subst h
       split
       · exact .inr ⟨q, by simp, hf⟩
       · rcases ih hs with i | ⟨p, hp, i⟩
         · exact .inl i
         · exact .inr ⟨p, by simp [hp], i⟩
theorem allS_mem {g:Nat×Nat→Option E} {l:List (Nat×Nat)} {t:List E} (h:allS g l=some t):∀x∈t,∃r∈l,g r=some x:=by
 induction l using snoc_ind generalizing t with
 | nil=>unfold allS at h;simp at h;subst h;intro x hx;cases hx
 | snoc l q ih =>
   rw [allS_snoc] at h
   cases hs : allS g l with
   | none => rw [hs] at h; cases h
   | some u =>
     rw [hs] at h
     cases hf : g q with
     | none => rw [hf] at h; cases h
     | some x =>
       rw [hf] at h
       simp only [Option.bind_some, Option.map_some, Option.some.injEq] at h
       subst h
       intro y hy
       rcases List.mem_append.1 hy with hy | hy
       · obtain ⟨r, hr, e⟩ := ih hs y hy; exact ⟨r, by simp [hr], e⟩
       · rw [List.mem_singleton] at hy; subst hy; exact ⟨q, by simp, hf⟩
/-! ### weights -/
theorem sum_rowN (a:Nat):∀k,k<a→((rowN a k).map weight).sum=2*(k:Int)
 | 0,_=>by simp[rowN]
 | k + 1, h => by
   rw [rowN, List.map_append, List.sum_append, sum_rowN a k (by omega)]
   simp [weight, show a ≠ k + 1 by omega]
   omega
theorem sum_rollsN:∀s:Nat,((rollsN s).map weight).sum=(s:Int)*s
 | 0=>by simp[rollsN]
 | a + 1 => by
   rw [rollsN, rowN, List.map_append, List.sum_append, List.map_append, List.sum_append, sum_rollsN a, sum_rowN (a + 1) a (by omega)]
   simp [weight]
   rw [Int.add_mul, Int.mul_add]
   omega
theorem wgtL_zip:∀(l:List (Nat×Nat)) (xs:List E),l.length=xs.length→wgtL (l.zip xs)=(l.map weight).sum
 | [],[],_=>rfl
 | [],_::_,h=>by simp at h
 | _::_,[],h=>by simp at h
 | r :: l, x :: xs, h => by
   have := wgtL_zip l xs (by simpa using h)
   unfold wgtL at this ⊢
   simp [this]
theorem wgtL_rolls {s:Nat} {xs:List E} (h:xs.length=(rollsN s).length):wgtL ((rollsN s).zip xs)=sq s:=by
 rw[wgtL_zip _ _ h.symm,sum_rollsN];rfl
theorem zip_mem {l:List (Nat×Nat)} {xs:List E} {P:E→Prop} (h:∀x∈xs,P x):∀rx∈l.zip xs,P rx.2:=fun _ hq=>h _ (List.of_mem_zip hq).2
/-! ### means of numbers from 0 to 1 -/
theorem depth_all:∀xs:List E,∃M,∀x∈xs,x.depth≤M
 | []=>⟨0,fun x h=>by cases h⟩
 | a :: l => by
   obtain ⟨M, h⟩ := depth_all l
   refine ⟨max M a.depth, fun x hx => ?_⟩
   rcases List.mem_cons.1 hx with rfl | hx
   · omega
   · have := h x hx; omega
theorem avS_bd {B:Int} {M:Nat} {a b:Int}:∀{l:List ((Nat×Nat)×E)},(∀rx∈l,a≤av B M rx.2∧av B M rx.2≤b)→a*wgtL l≤avS B M l∧avS B M l≤b*wgtL l:=by
 intro l
 induction l with
 | nil=>intro _;simp[avS,wgtL]
 | cons rx l ih =>
   intro h
   obtain ⟨i1, i2⟩ := ih fun p hp => h p (by simp [hp])
   obtain ⟨h1, h2⟩ := h rx (by simp)
   have hw := weight_pos rx.1
   have e1 : avS B M (rx :: l) = av B M rx.2 * weight rx.1 + avS B M l := by simp [avS]
   have e2 : wgtL (rx :: l) = weight rx.1 + wgtL l := by simp [wgtL]
   have k1 := Int.mul_le_mul_of_nonneg_right h1 (show 0 ≤ weight rx.1 by omega)
   have k2 := Int.mul_le_mul_of_nonneg_right h2 (show 0 ≤ weight rx.1 by omega)
   rw [e1, e2, Int.mul_add, Int.mul_add]
   omega
theorem mean_av {B:Int} (hB:1≤B) {rs:List (Nat×Nat)} {xs:List E} {x:E} {M:Nat} (h:meanE B rs xs=some x) (hm:∀y∈xs,y.depth≤M):x.depth≤M+1∧av B (M+1) x=avS B M (rs.zip xs):=by
 unfold meanE at h
 cases hs:sumE B (rs.zip xs) with
 | none=>rw[hs]at h;cases h
 | some t =>
   rw [hs, Option.bind_some] at h; obtain ⟨h1, h2⟩ := sum_av (M := M) hB hs (zip_mem hm)
   obtain ⟨k1, k2⟩ := av_mk (M := M + 1) hB h (by omega)
   refine ⟨by omega, ?_⟩
   rw [k2, ← h2, show M + 1 - (t.depth + 1) = M - t.depth by omega]
   rfl
theorem mean_uni {s:Nat} (hB:1≤sq s) {xs:List E} {x:E} (h:meanE (sq s) (rollsN s) xs=some x) (hl:xs.length=(rollsN s).length) (hu:∀y∈xs,Uni1 (sq s) y):Uni1 (sq s) x:=by
 obtain⟨M,hM⟩:=depth_all xs;obtain⟨h1,h2⟩:=mean_av hB h hM;rw[uni_av hB h1,h2]
 have hb:=avS_bd (B:=sq s) (M:=M) (a:=0) (b:=pw (sq s) M) (l:=(rollsN s).zip xs) fun rx hr=>by
  have hx:=(List.of_mem_zip hr).2
  exact (uni_av hB (hM _ hx)).1 (hu _ hx)
 rw[wgtL_rolls hl,Int.zero_mul]at hb
 exact⟨hb.1,by rw[pw_succ];exact hb.2⟩
/-! ### win chances -/
theorem val_uni {s:Nat} (hB:1≤sq s):∀(f:Nat) {own other:List Int} {e:E},val s f own other=some e→Uni1 (sq s) e
 | 0,own,other,e,h=>by cases h
 | f + 1, own, other, e, h => by
   unfold val at h
   split at h
   · injection h with h; subst h; exact uni_one
   · split at h
     · injection h with h; subst h; exact uni_zero'
     · cases hs : allS (fun r => (bestS (s * s) (fun q => (val s f other q).bind (oneM (s * s))) (resultsL own r.1 r.2)).map fun t => t.2.2) (rollsN s) with
       | none => rw [hs] at h; cases h
       | some xs =>
         rw [hs] at h
         refine mean_uni hB h (allS_length hs) fun y hy => ?_
         obtain ⟨r, _, hr⟩ := allS_mem hs y hy
         cases ht : bestS (s * s) (fun q => (val s f other q).bind (oneM (s * s))) (resultsL own r.1 r.2) with
         | none => rw [ht] at hr; cases hr
         | some t =>
           rw [ht] at hr
           have hy' : t.2.2 = y := by simpa using hr
           rw [← hy']
           rcases bestS_mem ht with h0 | ⟨q, _, hq⟩
           · rw [h0]; exact uni_zero'
           · cases hv : val s f other q with
             | none => rw [hv] at hq; cases hq
             | some z => rw [hv] at hq; exact uni_oneM hB hq (val_uni hB f hv)
theorem win_uni {s:Nat} (hB:1≤sq s) {own other:List Int} {e:E} (h:win s own other=some e):Uni1 (sq s) e:=val_uni hB _ h
theorem wsum_ge (f g:Nat→Int):∀(p:List Int) (k:Nat),(∀x∈p,0≤x)→(∀i,k≤i→i<k+p.length→f i≤g i)→wsum f k p≤wsum g k p
 | [],_,_,_=>Int.le_refl _
 | a :: p, k, h, hf => by
   have := wsum_ge f g p (k + 1) (fun x hx => h x (by simp [hx])) (fun i h1 h2 => hf i (by omega) (by simp at h2 ⊢; omega))
   have h1 := hf k (Nat.le_refl _) (by simp)
   have h2 := Int.mul_le_mul_of_nonneg_right h1 (h a (by simp))
   show f k * a + _ ≤ g k * a + _
   omega
theorem wsum_const (m:Int):∀(p:List Int) (k:Nat),wsum (fun _=>m) k p=m*p.sum
 | [],_=>by show (0:Int)=m*0;simp
 | a :: p, k => by
   show m * a + _ = m * (a + p.sum)
   rw [wsum_const m p (k + 1), Int.mul_add]
theorem pips_lo {p:List Int} (h:∀x∈p,0≤x):p.sum≤pips p:=by
 have:=wsum_ge (fun _=>1) (fun i=>(i:Int)+1) p 0 h (fun i _ _=>by omega)
 rw[wsum_const,Int.one_mul]at this
 exact this
theorem pips_hi {h c:Nat} {p:List Int} (hp:PosP h c p):pips p≤(h:Int)*c:=by
 have:=wsum_ge (fun i=>(i:Int)+1) (fun _=>(h:Int)) p 0 hp.2.1 (fun i _ hi=>by have:=hp.1;omega)
 rw[wsum_const]at this
 exact Int.le_trans this (Int.mul_le_mul_of_nonneg_left hp.2.2 (by omega))
/-! ### luck -/
end Go.Proofs.YtkaiilmgemaljaaGreat.Ra

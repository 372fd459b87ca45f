/- Plain facts on equities for money: the roll equity, the doubled equity, the equity, by fuel and without it. No program is in sight; there are no conditions beyond those that each states. -/
import Derived.Test.YtkaiilmgemaljaaGreatPZp
import Derived.Test.YtkaiilmgemaljaaGreatPZo
import Derived.Test.YtkaiilmgemaljaaGreatPZq
import Derived.Test.YtkaiilmgemaljaaGreatPR18
import Derived.Test.YtkaiilmgemaljaaGreatPU3
set_option linter.unusedVariables false
set_option linter.unusedSimpArgs false
namespace Go.Proofs.YtkaiilmgemaljaaGreat.Mo
open Go.Proofs.YtkaiilmgemaljaaGreat.Ex Go.Proofs.YtkaiilmgemaljaaGreat.Ps Go.Proofs.YtkaiilmgemaljaaGreat.Ra
abbrev Cb:=Int×Int
structure Ru where
 most:Int
 bv:Bool
def whl (n:Int):E:=⟨n,0⟩
abbrev RF:=List Int→List Int→Cb→Option E
section
variable (B:Int) (r:Ru) (R:RF) (own other:List Int) (c:Cb)
end
/-! ### valid cubes -/
def two (k:Nat):Int:=2 ^ k
theorem two_succ (k:Nat):two (k+1)=2*two k:=by unfold two;rw[Int.pow_succ,Int.mul_comm]
theorem two_pos (k:Nat):1≤two k:=by
 induction k with
 | zero=>decide
 | succ k ih=>rw[two_succ];omega
theorem two_mono {a b:Nat} (h:a≤b):two a≤two b:=by
 induction b with
 | zero => obtain rfl : a = 0 := by omega
           exact Int.le_refl _
 | succ b ih =>
   have := two_pos b
   by_cases e : a ≤ b
   · have := ih e; rw [two_succ]; omega
   · obtain rfl : a = b + 1 := by omega
     exact Int.le_refl _
def CbOk (K:Nat) (c:Cb):Prop:=∃k,k≤K∧c.1=two k∧((k=0∧c.2=0)∨(1≤k∧(c.2=1∨c.2=2)))
open Go.Proofs.YtkaiilmgemaljaaGreat Go.Proofs.YtkaiilmgemaljaaGreat.Ex Go.Proofs.YtkaiilmgemaljaaGreat.Ps Go.Proofs.YtkaiilmgemaljaaGreat.Ra
def Bd (B C:Int) (x:E):Prop:=-(C*pw B x.depth)≤x.num∧x.num≤C*pw B x.depth
theorem bd_same {B C:Int} (hB:1≤B) {x y:E} (h:Same B x y) (hy:Bd B C y):Bd B C x:=by
 obtain⟨h1,h2⟩:=hy;have hp:=pw_pos hB y.depth;have hq:=pw_pos hB x.depth
 simp only[Same]at h
 have m1:=Int.mul_le_mul_of_nonneg_right h1 (show 0≤pw B x.depth by omega)
 have m2:=Int.mul_le_mul_of_nonneg_right h2 (show 0≤pw B x.depth by omega)
 rw[← h]at m1 m2
 constructor
 ·refine Int.le_of_mul_le_mul_right (a:=pw B y.depth) ?_ (by omega)
  rw[Int.neg_mul,Int.mul_right_comm,← Int.neg_mul]
  exact m1
 ·refine Int.le_of_mul_le_mul_right (a:=pw B y.depth) ?_ (by omega)
  rw[Int.mul_right_comm C]
  exact m2
theorem bd_mono {B C D:Int} (hB:1≤B) (h:C≤D) {x:E} (hx:Bd B C x):Bd B D x:=by
 have hp:=pw_pos hB x.depth
 have:=Int.mul_le_mul_of_nonneg_right h (show 0≤pw B x.depth by omega)
 exact⟨by have:=hx.1;omega,by have:=hx.2;omega⟩
theorem bd_whl {B C n:Int} (h1 : -C≤n) (h2:n≤C):Bd B C (whl n):=⟨by show -(C*1)≤n;omega,by show n≤C*1;omega⟩
theorem bd_zero {B C:Int} (h:0≤C):Bd B C zeroE':=⟨by show -(C*1)≤0;omega,by show 0≤C*1;omega⟩
theorem bd_up {B C:Int} (hB:1≤B) {x:E} (h:Bd B C x) {m:Nat} (hm:x.depth≤m):Bd B C ⟨x.num*pw B (m-x.depth),m⟩:=by
 have e:pw B m=pw B x.depth*pw B (m-x.depth):=by rw[← pw_add];congr 1;omega
 have hp:=pw_pos hB (m-x.depth)
 have m1:=Int.mul_le_mul_of_nonneg_right h.1 (show 0≤pw B (m-x.depth) by omega)
 have m2:=Int.mul_le_mul_of_nonneg_right h.2 (show 0≤pw B (m-x.depth) by omega)
 constructor
 ·show -(C*pw B m)≤x.num*pw B (m-x.depth)
  rw[e,← Int.mul_assoc,← Int.neg_mul];exact m1
 ·show x.num*pw B (m-x.depth)≤C*pw B m
  rw[e,← Int.mul_assoc];exact m2
theorem bd_mk {B C:Int} (hB:1≤B) {n:Int} {d:Nat} {x:E} (h:mk B n d=some x) (hn:Bd B C ⟨n,d⟩):Bd B C x:=bd_same hB (mk_val hB h).2 hn
theorem bd_sum {B C D:Int} (hB:1≤B) {x y:E} (hx:Bd B C x) (hy:Bd B D y):Bd B (C+D) ⟨x.num*pw B (max x.depth y.depth-x.depth)+y.num*pw B (max x.depth y.depth-y.depth),max x.depth y.depth⟩:=by
 have h1:=bd_up hB hx (m:=max x.depth y.depth) (by omega)
 have h2:=bd_up hB hy (m:=max x.depth y.depth) (by omega)
 have e:(C+D)*pw B (max x.depth y.depth)=C*pw B (max x.depth y.depth)+D*pw B (max x.depth y.depth):=Int.add_mul _ _ _;obtain⟨a1,a2⟩:=h1;obtain⟨b1,b2⟩:=h2
 simp only at a1 a2 b1 b2
 exact⟨by show -((C+D)*pw B (max x.depth y.depth))≤_;rw[e];simp only;omega,by show _≤(C+D)*pw B (max x.depth y.depth);rw[e];simp only;omega⟩
theorem bd_add {B C D:Int} (hB:1≤B) {x y z:E} (hx:Bd B C x) (hy:Bd B D y) (h:addE B x y=some z):Bd B (C+D) z:=bd_mk hB h (bd_sum hB hx hy)
theorem bd_scl {B C k:Int} (hB:1≤B) (hk:0≤k) {x z:E} (hx:Bd B C x) (h:sclE B x k=some z):Bd B (k*C) z:=by
 refine bd_mk hB h ?_
 have m1:=Int.mul_le_mul_of_nonneg_right hx.1 hk;have m2:=Int.mul_le_mul_of_nonneg_right hx.2 hk
 have e:k*C*pw B x.depth=C*pw B x.depth*k:=by rw[Int.mul_comm k C,Int.mul_right_comm]
 exact⟨by show -(k*C*pw B x.depth)≤x.num*k;rw[e,← Int.neg_mul];exact m1,by show x.num*k≤k*C*pw B x.depth;rw[e];exact m2⟩
theorem bd_sumE {B C:Int} (hB:1≤B) (hC:0≤C) (l:List ((Nat×Nat)×E)):(∀rx∈l,Bd B C rx.2)→∀{t:E},sumE B l=some t→Bd B ((l.map fun rx=>weight rx.1).sum*C) t:=by
 induction l using snoc_ind with
 | nil =>
   intro _ t h
   unfold sumE at h
   simp at h
   rw [← h]
   exact bd_zero (by simp)
 | snoc l rx ih =>
   intro hl t h
   obtain ⟨r, x⟩ := rx; rw [sumE_snoc] at h
   cases hs : sumE B l with
   | none => rw [hs] at h; cases h
   | some u =>
     rw [hs] at h
     simp only [Option.bind_some] at h
     cases hm : sclE B x (weight r) with
     | none => rw [hm] at h; cases h
     | some y =>
       rw [hm] at h
       have h1 := ih (fun rx hr => hl rx (List.mem_append.2 (.inl hr))) hs
       have h2 := bd_scl hB (k := weight r) (by unfold weight; split <;> omega) (hl (r, x) (by simp)) hm
       have h3 := bd_add hB h1 h2 h; rw [List.map_append, List.sum_append]
       simp only [List.map_cons, List.map_nil, List.sum_cons, List.sum_nil, Int.add_zero]
       rw [Int.add_mul]
       exact h3
theorem weights_zip (rs:List (Nat×Nat)):∀xs:List E,((rs.zip xs).map fun rx=>weight rx.1).sum≤(rs.map weight).sum:=by
 induction rs with
 | nil=>intro xs;simp
 | cons r rs ih =>
   intro xs
   have hw : 0 ≤ weight r := by unfold weight; split <;> omega
   have hp : ∀ l : List (Nat × Nat), 0 ≤ (l.map weight).sum := fun l => by
     induction l with
     | nil => simp
     | cons a l ih => rw [List.map_cons, List.sum_cons]; have : 0 ≤ weight a := by unfold weight; split <;> omega
                      omega
   cases xs with
   | nil => have := hp rs; simp only [List.zip_nil_right, List.map_nil, List.sum_nil, List.map_cons, List.sum_cons]; omega
   | cons x xs => have := ih xs; simp only [List.zip_cons_cons, List.map_cons, List.sum_cons]; omega
theorem weights_all:∀s,s<7→((rollsN s).map weight).sum=sq s:=by decide
theorem bd_mean {s:Nat} (hs1:1≤s) (hs6:s≤6) {C:Int} (hC:0≤C) {xs:List E} (hx:∀x∈xs,Bd (sq s) C x) {e:E} (h:meanE (sq s) (rollsN s) xs=some e):Bd (sq s) C e:=by
 obtain⟨hB,_,_⟩:=sq_bd hs1 hs6;unfold meanE at h
 cases ht:sumE (sq s) ((rollsN s).zip xs) with
 | none=>rw[ht]at h;cases h
 | some t =>
   rw [ht] at h
   simp only [Option.bind_some] at h
   have h1 := bd_sumE hB hC _ (fun rx hr => hx rx.2 (List.of_mem_zip hr).2) ht
   have h2 := weights_zip (rollsN s) xs
   rw [weights_all s (by omega)] at h2
   have h3 := bd_mono hB (Int.mul_le_mul_of_nonneg_right h2 hC) h1
   refine bd_mk hB h ?_
   have e2 : C * pw (sq s) (t.depth + 1) = sq s * C * pw (sq s) t.depth := by rw [pw_succ, ← Int.mul_assoc, Int.mul_comm (C * _) (sq s), Int.mul_assoc]
   exact ⟨by show -(C * pw (sq s) (t.depth + 1)) ≤ t.num; rw [e2]; exact h3.1, by show t.num ≤ C * pw (sq s) (t.depth + 1); rw [e2]; exact h3.2⟩
section
variable {B:Int} {K:Nat} {bv:Bool} {R:RF} {own other:List Int} {c:Cb}
theorem CbOk.val {K:Nat} {c:Cb} (h:CbOk K c):1≤c.1∧c.1≤two K:=by
 obtain⟨k,h1,h2,_⟩:=h;rw[h2]
 exact⟨two_pos k,two_mono h1⟩
end
theorem pw_tight:∀s,s<7→∀m,m<50→pw (sq s) m≤maxScale→pw (sq s) m≤300000000000000:=by decide
theorem add_some {s:Nat} (hs1:1≤s) (hs6:s≤6) {x y:E} (hx:Val (sq s) x) (hy:Val (sq s) y) (bx:Bd (sq s) 1024 x) (by':Bd (sq s) 1024 y):∃z,addE (sq s) x y=some z:=by
 obtain⟨hB,_,h3⟩:=sq_bd hs1 hs6;obtain⟨n,hn⟩:∃n,n=x.num*pw (sq s) (max x.depth y.depth-x.depth)+y.num*pw (sq s) (max x.depth y.depth-y.depth):=⟨_,rfl⟩;obtain⟨m,hm⟩:∃m,m=max x.depth y.depth:=⟨_,rfl⟩
 have hb:=bd_sum hB bx by'
 rw[← hn,← hm]at hb
 have hmx:pw (sq s) m≤maxScale:=by
  rcases Nat.le_total x.depth y.depth with h|h
  ·rw[hm,show max x.depth y.depth=y.depth by omega];exact hy.2.2.1
  ·rw[hm,show max x.depth y.depth=x.depth by omega];exact hx.2.2.1
 have hadd:addE (sq s) x y=mk (sq s) n m:=by unfold addE;rw[← hn,← hm]
 have hsame:=strip_same hB m n;have hbs:=bd_same hB hsame hb;have hd:=strip_depth (B:=sq s) m n;rw[hadd];unfold mk
 refine⟨_,if_pos ?_⟩
 obtain⟨z,hz⟩:∃z,z=strip (sq s) m n:=⟨_,rfl⟩;rw[← hz]at hbs hd ⊢;have hpz:pw (sq s) z.depth≤maxScale:=Int.le_trans (pw_mono hB hd) hmx
 have hlow:Low (sq s) z:=by rw[hz];exact strip_low m n
 rcases h3 with h1|h4
 ·have hz1:z=⟨n,0⟩:=by rw[hz,h1];exact strip_one m n
  have hp1:pw (sq s) z.depth=1:=by rw[hz1];rfl
  unfold Bd at hbs;rw[hp1]at hbs
  refine⟨?_,?_,hpz,hlow,fun _=>by rw[hz1]⟩
  ·unfold maxNum;have:=hbs.1;omega
  ·unfold maxNum;have:=hbs.2;omega
 ·have hz50:z.depth<50:=by
   apply Classical.byContradiction
   intro h
   have:=pw_big (B:=sq s) (by omega) (d:=z.depth) (by omega)
   omega
  have ht:=pw_tight s (by omega) z.depth hz50 hpz
  have hp0:=pw_pos hB z.depth;obtain⟨b1,b2⟩:=hbs;obtain⟨P,hP⟩:∃P,P=pw (sq s) z.depth:=⟨_,rfl⟩;rw[← hP]at b1 b2 ht hp0
  refine⟨?_,?_,hpz,hlow,fun h=>by omega⟩
  ·unfold maxNum;omega
  ·unfold maxNum;omega
end Go.Proofs.YtkaiilmgemaljaaGreat.Mo
namespace Go.Proofs.YtkaiilmgemaljaaGreat
open Go.RowKit Mo Ps Ra Ex
theorem lstS_all {B:Int} {f:List Int→Option E} {P:E→Prop} (h0:P zeroE') {l:List (List Int)}:∀{t:Nat×Nat×E},(∀q∈l,∀x,f q=some x→P x)→lstS B f l=some t→P t.2.2:=by
 induction l using snoc_ind with
 | nil=>intro t _ h;rw[lstS_nil]at h;injection h with h;subst h;exact h0
 | snoc l q ih =>
   intro t hf h
   rw [lstS_snoc] at h
   cases hs : lstS B f l with
   | none => rw [hs] at h; cases h
   | some u =>
     rw [hs] at h
     cases hq : f q with
     | none => rw [hq] at h; cases h
     | some x =>
       rw [hq] at h
       simp only [Option.bind_some, Option.map_some, Option.some.injEq] at h
       subst h
       split
       · exact hf q (by simp) x hq
       · exact ih (t := u) (fun y hy => hf y (by simp [hy])) hs
theorem xp_bd {h c s:Nat} (hs1:1≤s) (hs6:s≤6):∀(f:Nat) {p:List Int} {e:E},PosP h c p→pips p<f→xp s p=some e→Bd (sq s) (pips p) e
 | 0,p,e,hp,h1,_=>by have:=pips_nonneg hp.2.1;omega
 | f + 1, p, e, hp, h1, he => by
   have hB := (sq_bd hs1 hs6).1; have hn := pips_nonneg hp.2.1
   by_cases h0 : p.sum = 0
   · rw [xp_zero h0] at he
     injection he with he; subst he
     exact bd_zero hn
   · rw [xp_eq hp h0] at he
     cases hA : allS (rollL s p) (rollsN s) with
     | none => rw [hA] at he; cases he
     | some xs =>
       rw [hA] at he
       cases hM : meanE (sq s) (rollsN s) xs with
       | none =>
         have hM' : meanE (s * s) (rollsN s) xs = none := hM
         rw [Option.bind_some, hM'] at he; cases he
       | some m =>
         have hM' : meanE (s * s) (rollsN s) xs = some m := hM; rw [Option.bind_some, hM', Option.bind_some] at he
         have hp1 : 1 ≤ pips p := by
           have := pips_lo hp.2.1
           have h2 : 0 ≤ p.sum := by
             have h3 : ∀ l : List Int, (∀ x ∈ l, 0 ≤ x) → 0 ≤ l.sum := fun l => by
               induction l with
               | nil => intro _; simp
               | cons a l ih => intro hl; have h4 := ih fun x hx => hl x (by simp [hx]); have h5 := hl a (by simp); simp; omega
             exact h3 p hp.2.1
           omega
         have hm : Bd (sq s) (pips p - 1) m := by
           refine bd_mean hs1 hs6 (by omega) (fun x hx => ?_) hM
           obtain ⟨r, hr, hrx⟩ := allS_mem hA x hx; obtain ⟨r1, r2, r3⟩ := mem_rollsN.1 hr; unfold rollL at hrx
           cases hl : lstS (s * s) (xp s) (resultsL p r.1 r.2) with
           | none => rw [hl] at hrx; cases hrx
           | some t =>
             rw [hl] at hrx; injection hrx with hrx; subst hrx
             refine lstS_all (P := fun e => Bd (sq s) (pips p - 1) e) (bd_zero (by omega)) (fun q hq x hqx => ?_) hl
             obtain ⟨q1, q2, q3⟩ := results_pos (by omega) r1 hp q hq
             have hq4 := q3 h0
             exact bd_mono hB (by omega) (xp_bd hs1 hs6 f q1 (by omega) hqx)
         have h1b : Bd (sq s) 1 oneE := bd_whl (C := 1) (by omega) (by omega)
         have hz := bd_add hB hm h1b he
         rwa [show pips p - 1 + 1 = pips p by omega] at hz
theorem uni_bd {B:Int} (hB:1≤B) {e:E} (h:Uni1 B e):Bd B 1 e:=⟨by have:=h.1;have:=pw_pos hB e.depth;omega,by have:=h.2;omega⟩
theorem famD_bd {p:Int} {c h s:Nat} {k:Int} {i:Nat} {e:E} (hv:isVar p c h s=true) (hk:k=1∨k=2) (hi:i<dbN h c k) (he:famD h c s k i=some e):Bd (sq s) 360 e:=by
 have hvv:=isVar_yes hv
 have hs1:1≤s:=by omega
 have hs6:s≤6:=by omega
 have hB:=(sq_bd hs1 hs6).1
 have hh24:h≤24:=by omega
 have hc15:c≤15:=by omega
 unfold famD at he
 rcases hk with rfl|rfl
 ·rw[if_neg (show ¬(1:Int)=2 by omega)]at he
  have hiw:i<wys h c:=by unfold dbN at hi;rwa [if_neg (by omega)]at hi
  have hp:=(atP_pos hiw).1;unfold rollsF at he
  have h1:=xp_bd hs1 hs6 ( (pips (atP h c i)).toNat+1) hp (by omega) he
  have h2:=pips_hi hp
  have h3:(h:Int)*c≤360:=by
   have h4:h*c≤24*15:=Nat.mul_le_mul hh24 hc15
   rw[← Int.natCast_mul];omega
  exact bd_mono hB (by omega) h1
 ·rw[if_pos rfl]at he
  unfold winsF at he
  split at he
  ·injection he with he;subst he;exact bd_zero (by omega)
  ·exact bd_mono hB (by omega) (uni_bd hB (win_uni hB he))
theorem add_one_ne {B:Int} (hB:1≤B) {x y:E} (h:addE B x oneE=some y):x≠y:=by
 intro e
 subst e;have h1:=(add_av hB h (M:=x.depth) (Nat.le_refl _) (Nat.zero_le _)).2;rw[one_av]at h1;have:=pw_pos hB x.depth
 omega
theorem famD_plus {p:Int} {c h s:Nat} {k:Int} {i:Nat} {e:E} (hv:isVar p c h s=true) (hk:k=1∨k=2) (hi:i<dbN h c k) (he:famD h c s k i=some e) (hval:Val (sq s) e):∃y,addE (sq s) e oneE=some y∧Val (sq s) y∧e≠y:=by
 have hvv:=isVar_yes hv
 have hs1:1≤s:=by omega
 have hs6:s≤6:=by omega
 have hB:=(sq_bd hs1 hs6).1
 obtain⟨y,hy⟩:=add_some hs1 hs6 hval one_val (bd_mono hB (by omega) (famD_bd hv hk hi he)) (bd_whl (C:=1024) (n:=1) (by omega) (by omega))
 exact⟨y,hy,addE_val hB hy,add_one_ne hB hy⟩
end Go.Proofs.YtkaiilmgemaljaaGreat

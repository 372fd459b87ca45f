/- Part of one proof. There are no conditions. -/
import Derived.Test.YtgjapehpkakkbaaGreatDJ1
import Derived.Test.YtgjapehpkakkbaaGreatDJ6
import Derived.Test.YtgjapehpkakkbaaGreatDZk
import Derived.Test.YtgjapehpkakkbaaGreatDZm
import Derived.Test.YtgjapehpkakkbaaGreatDZl
set_option linter.unusedVariables false
set_option linter.unusedSimpArgs false
namespace Go.Proofs.YtgjapehpkakkbaaGreat.Mo
open Go.Proofs.YtgjapehpkakkbaaGreat Go.Proofs.YtgjapehpkakkbaaGreat.Ex Go.Proofs.YtgjapehpkakkbaaGreat.Ps Go.Proofs.YtgjapehpkakkbaaGreat.Ra
def Bd (B C:Int) (x:E):Prop:=-(C*pw B x.depth)≤x.num∧x.num≤C*pw B x.depth
theorem bd_same {B C:Int} (hB:1≤B) {x y:E} (h:Same B x y) (hy:Bd B C y):Bd B C x:=by
 obtain⟨h1,h2⟩:=hy;have hp:=pw_pos hB y.depth;have hq:=pw_pos hB x.depth
 simp only[Same]at h
 have m1:=Int.mul_le_mul_of_nonneg_right h1 (show 0≤pw B x.depth by omega)
 have m2:=Int.mul_le_mul_of_nonneg_right h2 (show 0≤pw B x.depth by omega)
 rw[← h]at m1 m2
 constructor
 ·refine Int.le_of_mul_le_mul_right (a:=pw B y.depth) ?_ (by omega)
  rw[Int.neg_mul,Int.mul_right_comm,← Int.neg_mul]
  exact m1
 ·refine Int.le_of_mul_le_mul_right (a:=pw B y.depth) ?_ (by omega)
  rw[Int.mul_right_comm C]
  exact m2
theorem bd_mono {B C D:Int} (hB:1≤B) (h:C≤D) {x:E} (hx:Bd B C x):Bd B D x:=by
 have hp:=pw_pos hB x.depth
 have:=Int.mul_le_mul_of_nonneg_right h (show 0≤pw B x.depth by omega)
 exact⟨by have:=hx.1;omega,by have:=hx.2;omega⟩
theorem bd_neg {B C:Int} {x:E} (h:Bd B C x):Bd B C (negE x):=⟨by have:=h.2;show _≤-x.num;show -(C*pw B x.depth)≤-x.num;omega,by have:=h.1;show -x.num≤C*pw B x.depth;omega⟩
theorem bd_whl {B C n:Int} (h1 : -C≤n) (h2:n≤C):Bd B C (whl n):=⟨by show -(C*1)≤n;omega,by show n≤C*1;omega⟩
theorem bd_zero {B C:Int} (h:0≤C):Bd B C zeroE':=⟨by show -(C*1)≤0;omega,by show 0≤C*1;omega⟩
theorem bd_up {B C:Int} (hB:1≤B) {x:E} (h:Bd B C x) {m:Nat} (hm:x.depth≤m):Bd B C ⟨x.num*pw B (m-x.depth),m⟩:=by
 have e:pw B m=pw B x.depth*pw B (m-x.depth):=by rw[← pw_add];congr 1;omega
 have hp:=pw_pos hB (m-x.depth)
 have m1:=Int.mul_le_mul_of_nonneg_right h.1 (show 0≤pw B (m-x.depth) by omega)
 have m2:=Int.mul_le_mul_of_nonneg_right h.2 (show 0≤pw B (m-x.depth) by omega)
 constructor
 ·show -(C*pw B m)≤x.num*pw B (m-x.depth)
  rw[e,← Int.mul_assoc,← Int.neg_mul];exact m1
 ·show x.num*pw B (m-x.depth)≤C*pw B m
  rw[e,← Int.mul_assoc];exact m2
theorem bd_mk {B C:Int} (hB:1≤B) {n:Int} {d:Nat} {x:E} (h:mk B n d=some x) (hn:Bd B C ⟨n,d⟩):Bd B C x:=bd_same hB (mk_val hB h).2 hn
theorem bd_sum {B C D:Int} (hB:1≤B) {x y:E} (hx:Bd B C x) (hy:Bd B D y):Bd B (C+D) ⟨x.num*pw B (max x.depth y.depth-x.depth)+y.num*pw B (max x.depth y.depth-y.depth),max x.depth y.depth⟩:=by
 have h1:=bd_up hB hx (m:=max x.depth y.depth) (by omega)
 have h2:=bd_up hB hy (m:=max x.depth y.depth) (by omega)
 have e:(C+D)*pw B (max x.depth y.depth)=C*pw B (max x.depth y.depth)+D*pw B (max x.depth y.depth):=Int.add_mul _ _ _;obtain⟨a1,a2⟩:=h1;obtain⟨b1,b2⟩:=h2
 simp only at a1 a2 b1 b2
 exact⟨by show -((C+D)*pw B (max x.depth y.depth))≤_;rw[e];simp only;omega,by show _≤(C+D)*pw B (max x.depth y.depth);rw[e];simp only;omega⟩
theorem bd_add {B C D:Int} (hB:1≤B) {x y z:E} (hx:Bd B C x) (hy:Bd B D y) (h:addE B x y=some z):Bd B (C+D) z:=bd_mk hB h (bd_sum hB hx hy)
theorem bd_scl {B C k:Int} (hB:1≤B) (hk:0≤k) {x z:E} (hx:Bd B C x) (h:sclE B x k=some z):Bd B (k*C) z:=by
 refine bd_mk hB h ?_
 have m1:=Int.mul_le_mul_of_nonneg_right hx.1 hk;have m2:=Int.mul_le_mul_of_nonneg_right hx.2 hk
 have e:k*C*pw B x.depth=C*pw B x.depth*k:=by rw[Int.mul_comm k C,Int.mul_right_comm]
 exact⟨by show -(k*C*pw B x.depth)≤x.num*k;rw[e,← Int.neg_mul];exact m1,by show x.num*k≤k*C*pw B x.depth;rw[e];exact m2⟩
theorem bd_sumE {B C:Int} (hB:1≤B) (hC:0≤C) (l:List ((Nat×Nat)×E)):(∀rx∈l,Bd B C rx.2)→∀{t:E},sumE B l=some t→Bd B ((l.map fun rx=>weight rx.1).sum*C) t:=by
 induction l using snoc_ind with
 | nil =>
   intro _ t h
   unfold sumE at h
   simp at h
   rw [← h]
   exact bd_zero (by simp)
 | snoc l rx ih =>
   intro hl t h
   obtain ⟨r, x⟩ := rx; rw [sumE_snoc] at h
   cases hs : sumE B l with
   | none => rw [hs] at h; cases h
   | some u =>
     rw [hs] at h
     simp only [Option.bind_some] at h
     cases hm : sclE B x (weight r) with
     | none => rw [hm] at h; cases h
     | some y =>
       rw [hm] at h
       have h1 := ih (fun rx hr => hl rx (List.mem_append.2 (.inl hr))) hs
       have h2 := bd_scl hB (k := weight r) (by unfold weight; split <;> omega) (hl (r, x) (by simp)) hm
       have h3 := bd_add hB h1 h2 h; rw [List.map_append, List.sum_append]
       simp only [List.map_cons, List.map_nil, List.sum_cons, List.sum_nil, Int.add_zero]
       rw [Int.add_mul]
       exact h3
theorem weights_zip (rs:List (Nat×Nat)):∀xs:List E,((rs.zip xs).map fun rx=>weight rx.1).sum≤(rs.map weight).sum:=by
 induction rs with
 | nil=>intro xs;simp
 | cons r rs ih =>
   intro xs
   have hw : 0 ≤ weight r := by unfold weight; split <;> omega
   have hp : ∀ l : List (Nat × Nat), 0 ≤ (l.map weight).sum := fun l => by
     induction l with
     | nil => simp
     | cons a l ih => rw [List.map_cons, List.sum_cons]; have : 0 ≤ weight a := by unfold weight; split <;> omega
                      omega
   cases xs with
   | nil => have := hp rs; simp only [List.zip_nil_right, List.map_nil, List.sum_nil, List.map_cons, List.sum_cons]; omega
   | cons x xs => have := ih xs; simp only [List.zip_cons_cons, List.map_cons, List.sum_cons]; omega
theorem weights_all:∀s,s<7→((rollsN s).map weight).sum=sq s:=by decide
theorem bd_mean {s:Nat} (hs1:1≤s) (hs6:s≤6) {C:Int} (hC:0≤C) {xs:List E} (hx:∀x∈xs,Bd (sq s) C x) {e:E} (h:meanE (sq s) (rollsN s) xs=some e):Bd (sq s) C e:=by
 obtain⟨hB,_,_⟩:=sq_bd hs1 hs6;unfold meanE at h
 cases ht:sumE (sq s) ((rollsN s).zip xs) with
 | none=>rw[ht]at h;cases h
 | some t =>
   rw [ht] at h
   simp only [Option.bind_some] at h
   have h1 := bd_sumE hB hC _ (fun rx hr => hx rx.2 (List.of_mem_zip hr).2) ht
   have h2 := weights_zip (rollsN s) xs
   rw [weights_all s (by omega)] at h2
   have h3 := bd_mono hB (Int.mul_le_mul_of_nonneg_right h2 hC) h1
   refine bd_mk hB h ?_
   have e2 : C * pw (sq s) (t.depth + 1) = sq s * C * pw (sq s) t.depth := by rw [pw_succ, ← Int.mul_assoc, Int.mul_comm (C * _) (sq s), Int.mul_assoc]
   exact ⟨by show -(C * pw (sq s) (t.depth + 1)) ≤ t.num; rw [e2]; exact h3.1, by show t.num ≤ C * pw (sq s) (t.depth + 1); rw [e2]; exact h3.2⟩
theorem bestS_pr {P:E→Prop} (h0:P zeroE') {B:Int} {f:List Int→Option E} (hf:∀q x,f q=some x→P x) {l:List (List Int)}:∀{t:Nat×Nat×E},bestS B f l=some t→P t.2.2:=by
 induction l using snoc_ind with
 | nil=>intro t h;rw[bestS_nil]at h;injection h with h;subst h;exact h0
 | snoc l q ih =>
   intro t h
   rw [bestS_snoc] at h
   cases hs : bestS B f l with
   | none => rw [hs] at h; cases h
   | some u =>
     rw [hs] at h
     cases hq : f q with
     | none => rw [hq] at h; cases h
     | some x =>
       rw [hq] at h
       simp only [Option.bind_some, Option.map_some, Option.some.injEq] at h
       subst h
       split
       · exact hf q x hq
       · exact ih (t := u) hs
theorem allS_pr {P:E→Prop} {g:Nat×Nat→Option E} (hg:∀r x,g r=some x→P x) {l:List (Nat×Nat)}:∀{xs:List E},allS g l=some xs→∀x∈xs,P x:=by
 induction l using snoc_ind with
 | nil=>intro xs h x hx;unfold allS at h;simp at h;subst h;simp at hx
 | snoc l r ih =>
   intro xs h x hx
   rw [allS_snoc] at h
   cases hs : allS g l with
   | none => rw [hs] at h; cases h
   | some u =>
     rw [hs] at h
     cases hr : g r with
     | none => rw [hr] at h; cases h
     | some y =>
       rw [hr] at h
       simp only [Option.bind_some, Option.map_some, Option.some.injEq] at h
       subst h
       rcases List.mem_append.1 hx with hx | hx
       · exact ih hs x hx
       · have : x = y := by simpa using hx
         rw [this]; exact hg r y hr
section
variable {B:Int} {K:Nat} {bv:Bool} {R:RF} {own other:List Int} {c:Cb}
theorem CbOk.val {K:Nat} {c:Cb} (h:CbOk K c):1≤c.1∧c.1≤two K:=by
 obtain⟨k,h1,h2,_⟩:=h;rw[h2]
 exact⟨two_pos k,two_mono h1⟩
theorem bevG_bd (hc:CbOk K c) (hb:bvr ⟨two K,bv⟩ c=true) (hR:∀c,CbOk K c→∀e,R own other c=some e→Bd B (two K) e) {y:E×Bool} (h:bevG B ⟨two K,bv⟩ R own other c=some y):Bd B (two K) y.1:=by
 unfold bvr at hb
 simp only[Bool.and_eq_true,decide_eq_true_eq]at hb
 unfold bevG at h
 cases hx:R own other (4*c.1,2) with
 | none=>rw[hx]at h;cases h
 | some x =>
   rw [hx, Option.bind_some] at h
   have hx' := hR _ (hc.up (j := 2) (by omega) hb.2) x hx
   split at h
   · rename_i hr
     unfold rcn at hr
     simp only [Bool.and_eq_true, decide_eq_true_eq] at hr
     cases hy : R own other (8 * c.1, 2) with
     | none => rw [hy] at h; cases h
     | some y' =>
       rw [hy, Option.map_some] at h; injection h with h; subst h
       split
       · exact hR _ (hc.up (j := 3) (by omega) hr.2) y' hy
       · exact hx'
   · injection h with h; subst h; exact hx'
theorem dblG_bd (hc:CbOk K c) (hm:may ⟨two K,bv⟩ c=true) (hR:∀c,CbOk K c→∀e,R own other c=some e→Bd B (two K) e) {y:E×Int} (h:dblG B ⟨two K,bv⟩ R own other c=some y):Bd B (two K) y.1:=by
 have hv:=hc.val;have hm2:c.2≠2∧2*c.1≤two K:=of_decide_eq_true hm;rw[dblG_eq]at h
 cases hx:R own other (2*c.1,2) with
 | none=>rw[hx]at h;cases h
 | some x =>
   rw [hx, Option.bind_some] at h
   have hl : Bd B (two K) (les B x c) := by
     unfold les
     split
     · exact hR _ (hc.up (j := 1) (by omega) hm2.2) x hx
     · exact bd_whl (by omega) hv.2
   split at h
   · rename_i hb
     cases hy : bevG B ⟨two K, bv⟩ R own other c with
     | none => rw [hy] at h; cases h
     | some y' =>
       rw [hy, Option.map_some] at h; injection h with h; subst h
       split
       · exact bevG_bd hc hb hR hy
       · exact hl
   · injection h with h; subst h; exact hl
theorem eqG_bd (hc:CbOk K c) (hR:∀c,CbOk K c→∀e,R own other c=some e→Bd B (two K) e) {y:E} (h:eqG B ⟨two K,bv⟩ R own other c=some y):Bd B (two K) y:=by
 have hv:=hc.val;unfold eqG at h
 split at h
 ·injection h with h;subst h;exact bd_whl (by omega) hv.2
 ·split at h
  ·injection h with h;subst h;exact bd_whl (by omega) (by omega)
  ·cases hx:R own other c with
   | none=>rw[hx]at h;cases h
   | some x =>
     rw [hx, Option.bind_some] at h
     split at h
     · rename_i hm
       cases hy : dblG B ⟨two K, bv⟩ R own other c with
       | none => rw [hy] at h; cases h
       | some y' =>
         rw [hy, Option.map_some] at h; injection h with h; subst h
         split
         · exact dblG_bd hc hm hR hy
         · exact hR c hc x hx
     · injection h with h; subst h; exact hR c hc x hx
end
theorem rolF_bd {s:Nat} (hs1:1≤s) (hs6:s≤6) {K:Nat} {bv:Bool}:∀(f:Nat) {own other:List Int} {c:Cb},CbOk K c→∀e,rolF s ⟨two K,bv⟩ f own other c=some e→Bd (sq s) (two K) e
 | 0,own,other,c,_,e,h=>by cases h
 | f + 1, own, other, c, hc, e, h => by
   have hp := two_pos K; unfold rolF at h
   cases hs : allS (fun ro => (bestS (sq s) (fun q => (eqG (sq s) ⟨two K, bv⟩ (rolF s ⟨two K, bv⟩ f) other q (swp c)).map negE) (resultsL own ro.1 ro.2)).map fun t => t.2.2) (rollsN s) with
   | none => rw [hs] at h; cases h
   | some xs =>
     rw [hs] at h
     refine bd_mean hs1 hs6 (by omega) (allS_pr (fun r x hx => ?_) hs) h
     cases hb : bestS (sq s) (fun q => (eqG (sq s) ⟨two K, bv⟩ (rolF s ⟨two K, bv⟩ f) other q (swp c)).map negE) (resultsL own r.1 r.2) with
     | none => rw [hb] at hx; cases hx
     | some t =>
       rw [hb, Option.map_some] at hx; injection hx with hx; subst hx
       refine bestS_pr (P := Bd (sq s) (two K)) (bd_zero (by omega)) (fun q y hy => ?_) hb
       cases hq : eqG (sq s) ⟨two K, bv⟩ (rolF s ⟨two K, bv⟩ f) other q (swp c) with
       | none => rw [hq] at hy; cases hy
       | some z =>
         rw [hq, Option.map_some] at hy; injection hy with hy; subst hy
         exact bd_neg (eqG_bd hc.swp (fun cc hcc e he => rolF_bd hs1 hs6 f hcc e he) hq)
theorem rol_bd {s:Nat} (hs1:1≤s) (hs6:s≤6) {K:Nat} {bv:Bool} {own other:List Int} {c:Cb} (hc:CbOk K c) {e:E} (h:rol s ⟨two K,bv⟩ own other c=some e):Bd (sq s) (two K) e:=rolF_bd hs1 hs6 _ hc e h
theorem dbl_bd {s:Nat} (hs1:1≤s) (hs6:s≤6) {K:Nat} {bv:Bool} {own other:List Int} {c:Cb} (hc:CbOk K c) (hm:may ⟨two K,bv⟩ c=true) {y:E×Int} (h:dblG (sq s) ⟨two K,bv⟩ (rol s ⟨two K,bv⟩) own other c=some y):Bd (sq s) (two K) y.1:=dblG_bd hc hm (fun cc hcc e he=>rol_bd hs1 hs6 hcc he) h
theorem pw_tight:∀s,s<7→∀m,m<50→pw (sq s) m≤maxScale→pw (sq s) m≤300000000000000:=by decide
theorem add_some {s:Nat} (hs1:1≤s) (hs6:s≤6) {x y:E} (hx:Val (sq s) x) (hy:Val (sq s) y) (bx:Bd (sq s) 1024 x) (by':Bd (sq s) 1024 y):∃z,addE (sq s) x y=some z:=by
 obtain⟨hB,_,h3⟩:=sq_bd hs1 hs6;obtain⟨n,hn⟩:∃n,n=x.num*pw (sq s) (max x.depth y.depth-x.depth)+y.num*pw (sq s) (max x.depth y.depth-y.depth):=⟨_,rfl⟩;obtain⟨m,hm⟩:∃m,m=max x.depth y.depth:=⟨_,rfl⟩
 have hb:=bd_sum hB bx by'
 rw[← hn,← hm]at hb
 have hmx:pw (sq s) m≤maxScale:=by
  rcases Nat.le_total x.depth y.depth with h|h
  ·rw[hm,show max x.depth y.depth=y.depth by omega];exact hy.2.2.1
  ·rw[hm,show max x.depth y.depth=x.depth by omega];exact hx.2.2.1
 have hadd:addE (sq s) x y=mk (sq s) n m:=by unfold addE;rw[← hn,← hm]
 have hsame:=strip_same hB m n;have hbs:=bd_same hB hsame hb;have hd:=strip_depth (B:=sq s) m n;rw[hadd];unfold mk
 refine⟨_,if_pos ?_⟩
 obtain⟨z,hz⟩:∃z,z=strip (sq s) m n:=⟨_,rfl⟩;rw[← hz]at hbs hd ⊢;have hpz:pw (sq s) z.depth≤maxScale:=Int.le_trans (pw_mono hB hd) hmx
 have hlow:Low (sq s) z:=by rw[hz];exact strip_low m n
 rcases h3 with h1|h4
 ·have hz1:z=⟨n,0⟩:=by rw[hz,h1];exact strip_one m n
  have hp1:pw (sq s) z.depth=1:=by rw[hz1];rfl
  unfold Bd at hbs;rw[hp1]at hbs
  refine⟨?_,?_,hpz,hlow,fun _=>by rw[hz1]⟩
  ·unfold maxNum;have:=hbs.1;omega
  ·unfold maxNum;have:=hbs.2;omega
 ·have hz50:z.depth<50:=by
   apply Classical.byContradiction
   intro h
   have:=pw_big (B:=sq s) (by omega) (d:=z.depth) (by omega)
   omega
  have ht:=pw_tight s (by omega) z.depth hz50 hpz
  have hp0:=pw_pos hB z.depth;obtain⟨b1,b2⟩:=hbs;obtain⟨P,hP⟩:∃P,P=pw (sq s) z.depth:=⟨_,rfl⟩;rw[← hP]at b1 b2 ht hp0
  refine⟨?_,?_,hpz,hlow,fun h=>by omega⟩
  ·unfold maxNum;omega
  ·unfold maxNum;omega
end Go.Proofs.YtgjapehpkakkbaaGreat.Mo
namespace Go.Proofs.YtgjapehpkakkbaaGreat
open Go.RowKit Ps Ra Ex
def RetCd (w:World) (o:Option E) (e:Ending) (w':World):Prop:=(match o with
 | none=>e = .returned (.tuple #[.agg #[.int .i64 0,.int .i64 0],.int .i64 3])
 | some x=>e = .returned (.tuple #[.agg #[.int .i64 x.num,.int .i64 (x.depth:Int)],.int .i64 0]))∧Below w.heap.size w w'
theorem valid_yes {B n:Int} {d:Nat} (h:Val B ⟨n,d⟩):valB B n d=true:=valB_yes.2 h
theorem l09Code_val (p c h xn yn:Int) (s xd yd:Nat) (w:World) (hv:isVar p c h s=true) (hx:Val (sq s) ⟨xn,xd⟩) (hy:Val (sq s) ⟨yn,yd⟩):
  Calls Tryz.prog 199 #[.agg #[.int .i64 p,.int .i64 c,.int .i64 h,.int .i64 s],.agg #[.int .i64 xn,.int .i64 xd],.agg #[.int .i64 yn,.int .i64 yd]] w fun e w'=>e = .returned (.int .i64 0)∧Below w.heap.size w w':=by
 have HB:=h_ (Bel.rfl' w);have hvv:=isVar_yes hv
 have hs1:1≤s:=by omega
 have hs6:s≤6:=by omega
 obtain⟨hq1,hq36,_⟩:=sq_bd hs1 hs6;have hxd:xd<50:=depth_lt hq1 hx;have hyd:yd<50:=depth_lt hq1 hy
 have CV:Hid (∀W:World,Calls Tryz.prog 69 #[.agg #[.int .i64 p,.int .i64 c,.int .i64 h,.int .i64 s]] W fun e w'=>e = .returned (.bool true)∧Below W.heap.size W w'):=fun W=>by
  have:=sIsVariant_any p c h s W;rwa [hv]at this
 have C1:Hid (∀W:World,Calls Tryz.prog 75 #[.agg #[.int .i64 p,.int .i64 c,.int .i64 h,.int .i64 s],.agg #[.int .i64 xn,.int .i64 xd]] W fun e w'=>e = .returned (.bool true)∧Below W.heap.size W w'):=fun W=>by
  have:=l09Valid_any p c h xn s xd W hs1 hs6 (by omega);rwa [valid_yes hx]at this
 have C2:Hid (∀W:World,Calls Tryz.prog 75 #[.agg #[.int .i64 p,.int .i64 c,.int .i64 h,.int .i64 s],.agg #[.int .i64 yn,.int .i64 yd]] W fun e w'=>e = .returned (.bool true)∧Below W.heap.size W w'):=fun W=>by
  have:=l09Valid_any p c h yn s yd W hs1 hs6 (by omega);rwa [valid_yes hy]at this
 clear hv hvv hx hy
 go_enter Tryz.func199,Tryz.ntmps199
 go_wp2_with (fail)
 refine (CV.out _).mono ?_
 rintro e w1 ⟨rfl,hb⟩
 have K1:=h_ ((((Cel.new' _ #[.int .i64 p,.int .i64 c,.int .i64 h,.int .i64 s] _ (g:=w.heap.size) (by simp)).alloc _).alloc _).below hb)
 have K2:=h_ (((Cel.new' _ #[.int .i64 xn,.int .i64 (xd:Int)] _ (g:=w.heap.size+1) (by simp)).alloc _).below hb)
 have K3:=h_ ((Cel.new' _ #[.int .i64 yn,.int .i64 (yd:Int)] _ (g:=w.heap.size+2) (by simp)).below hb)
 replace HB:=h_ (Bel.trans (Bel.trans (Bel.trans (Bel.trans HB.out (Bel.alloc _ _)) (Bel.alloc _ _)) (Bel.alloc _ _)) hb);clear hb;have hz:=Below.size HB.out;have cK1_0:=K1.out.cell 0 _ rfl;have fK1_0:=K1.out.froz 0 _ rfl;have cK1_1:=K1.out.cell 1 _ rfl;have fK1_1:=K1.out.froz 1 _ rfl;have cK1_2:=K1.out.cell 2 _ rfl;have fK1_2:=K1.out.froz 2 _ rfl;have cK1_3:=K1.out.cell 3 _ rfl;have fK1_3:=K1.out.froz 3 _ rfl;have zK1:=K1.out.lt;have cK2_0:=K2.out.cell 0 _ rfl;have fK2_0:=K2.out.froz 0 _ rfl;have cK2_1:=K2.out.cell 1 _ rfl;have fK2_1:=K2.out.froz 1 _ rfl;have zK2:=K2.out.lt;have cK3_0:=K3.out.cell 0 _ rfl;have fK3_0:=K3.out.froz 0 _ rfl;have cK3_1:=K3.out.cell 1 _ rfl;have fK3_1:=K3.out.froz 1 _ rfl;have zK3:=K3.out.lt
 go_wp2_with (fail)
 refine (C1.out _).mono ?_
 rintro e w2 ⟨rfl,hb⟩
 clear cK1_0 fK1_0 cK1_1 fK1_1 cK1_2 fK1_2 cK1_3 fK1_3 zK1 cK2_0 fK2_0 cK2_1 fK2_1 zK2 cK3_0 fK3_0 cK3_1 fK3_1 zK3 hz;replace K1:=h_ (K1.out.below hb);replace K2:=h_ (K2.out.below hb);replace K3:=h_ (K3.out.below hb);replace HB:=h_ (Bel.trans HB.out hb);clear hb;have hz:=Below.size HB.out;have cK1_0:=K1.out.cell 0 _ rfl;have fK1_0:=K1.out.froz 0 _ rfl;have cK1_1:=K1.out.cell 1 _ rfl;have fK1_1:=K1.out.froz 1 _ rfl;have cK1_2:=K1.out.cell 2 _ rfl;have fK1_2:=K1.out.froz 2 _ rfl;have cK1_3:=K1.out.cell 3 _ rfl;have fK1_3:=K1.out.froz 3 _ rfl;have zK1:=K1.out.lt;have cK2_0:=K2.out.cell 0 _ rfl;have fK2_0:=K2.out.froz 0 _ rfl;have cK2_1:=K2.out.cell 1 _ rfl;have fK2_1:=K2.out.froz 1 _ rfl;have zK2:=K2.out.lt;have cK3_0:=K3.out.cell 0 _ rfl;have fK3_0:=K3.out.froz 0 _ rfl;have cK3_1:=K3.out.cell 1 _ rfl;have fK3_1:=K3.out.froz 1 _ rfl;have zK3:=K3.out.lt
 go_wp2_with (fail)
 refine (C2.out _).mono ?_
 rintro e w3 ⟨rfl,hb⟩
 clear cK1_0 fK1_0 cK1_1 fK1_1 cK1_2 fK1_2 cK1_3 fK1_3 zK1 cK2_0 fK2_0 cK2_1 fK2_1 zK2 cK3_0 fK3_0 cK3_1 fK3_1 zK3 hz;replace K1:=h_ (K1.out.below hb);replace K2:=h_ (K2.out.below hb);replace K3:=h_ (K3.out.below hb);replace HB:=h_ (Bel.trans HB.out hb);clear hb;have hz:=Below.size HB.out;have cK1_0:=K1.out.cell 0 _ rfl;have fK1_0:=K1.out.froz 0 _ rfl;have cK1_1:=K1.out.cell 1 _ rfl;have fK1_1:=K1.out.froz 1 _ rfl;have cK1_2:=K1.out.cell 2 _ rfl;have fK1_2:=K1.out.froz 2 _ rfl;have cK1_3:=K1.out.cell 3 _ rfl;have fK1_3:=K1.out.froz 3 _ rfl;have zK1:=K1.out.lt;have cK2_0:=K2.out.cell 0 _ rfl;have fK2_0:=K2.out.froz 0 _ rfl;have cK2_1:=K2.out.cell 1 _ rfl;have fK2_1:=K2.out.froz 1 _ rfl;have zK2:=K2.out.lt;have cK3_0:=K3.out.cell 0 _ rfl;have fK3_0:=K3.out.froz 0 _ rfl;have cK3_1:=K3.out.cell 1 _ rfl;have fK3_1:=K3.out.froz 1 _ rfl;have zK3:=K3.out.lt
 go_wp2_with (fail)
 go_ret
 exact⟨rfl,HB.out⟩
set_option maxHeartbeats 1000000 in
theorem AddExact_val (p c h xn yn:Int) (s xd yd:Nat) (w:World) (hv:isVar p c h s=true) (hx:Val (sq s) ⟨xn,xd⟩) (hy:Val (sq s) ⟨yn,yd⟩):
  Calls Tryz.prog 171 #[.agg #[.int .i64 p,.int .i64 c,.int .i64 h,.int .i64 s],.agg #[.int .i64 xn,.int .i64 (xd:Int)],.agg #[.int .i64 yn,.int .i64 (yd:Int)]] w (RetCd w (addE (sq s) ⟨xn,xd⟩ ⟨yn,yd⟩)):=by
 have HB:=h_ (Bel.rfl' w);have hvv:=isVar_yes hv
 have hs1:1≤s:=by omega
 have hs6:s≤6:=by omega
 obtain⟨hq1,hq36,_⟩:=sq_bd hs1 hs6
 have CC:=h_ fun (W:World)=>l09Code_val p c h xn yn s xd yd W hv hx hy
 have CA:=h_ fun (W:World)=>l09Add_any p c h xn yn s xd yd W hs1 hs6 hx hy
 generalize ho:addE (sq s) ⟨xn,xd⟩ ⟨yn,yd⟩=o at *;clear hv hvv hx ho
 rcases o with _|⟨m,d⟩
 ·
  go_enter Tryz.func171,Tryz.ntmps171
  go_wp2_with (fail)
  refine (CC.out _).mono ?_
  rintro e w1 ⟨rfl,hb⟩
  have K1:=h_ (((((Cel.new' _ #[.int .i64 p,.int .i64 c,.int .i64 h,.int .i64 s] _ (g:=w.heap.size) (by simp)).alloc _).alloc _).alloc _).below hb)
  have K2:=h_ ((((Cel.new' _ #[.int .i64 xn,.int .i64 (xd:Int)] _ (g:=w.heap.size+1) (by simp)).alloc _).alloc _).below hb)
  have K3:=h_ (((Cel.new' _ #[.int .i64 yn,.int .i64 (yd:Int)] _ (g:=w.heap.size+2) (by simp)).alloc _).below hb)
  have K4:=h_ ((Cel.new' _ #[.int .i64 0,.int .i64 0] _ (g:=w.heap.size+3) (by simp)).below hb)
  replace HB:=h_ (Bel.trans (Bel.trans (Bel.trans (Bel.trans (Bel.trans HB.out (Bel.alloc _ _)) (Bel.alloc _ _)) (Bel.alloc _ _)) (Bel.alloc _ _)) hb);clear hb;have hz:=Below.size HB.out;have cK1_0:=K1.out.cell 0 _ rfl;have fK1_0:=K1.out.froz 0 _ rfl;have cK1_1:=K1.out.cell 1 _ rfl;have fK1_1:=K1.out.froz 1 _ rfl;have cK1_2:=K1.out.cell 2 _ rfl;have fK1_2:=K1.out.froz 2 _ rfl;have cK1_3:=K1.out.cell 3 _ rfl;have fK1_3:=K1.out.froz 3 _ rfl;have zK1:=K1.out.lt;have cK2_0:=K2.out.cell 0 _ rfl;have fK2_0:=K2.out.froz 0 _ rfl;have cK2_1:=K2.out.cell 1 _ rfl;have fK2_1:=K2.out.froz 1 _ rfl;have zK2:=K2.out.lt;have cK3_0:=K3.out.cell 0 _ rfl;have fK3_0:=K3.out.froz 0 _ rfl;have cK3_1:=K3.out.cell 1 _ rfl;have fK3_1:=K3.out.froz 1 _ rfl;have zK3:=K3.out.lt;have cK4_0:=K4.out.cell 0 _ rfl;have fK4_0:=K4.out.froz 0 _ rfl;have cK4_1:=K4.out.cell 1 _ rfl;have fK4_1:=K4.out.froz 1 _ rfl;have zK4:=K4.out.lt
  go_wp2_with (fail)
  refine (CA.out _).mono ?_
  rintro e w2 ⟨rfl,hb⟩
  clear cK1_0 fK1_0 cK1_1 fK1_1 cK1_2 fK1_2 cK1_3 fK1_3 zK1 cK2_0 fK2_0 cK2_1 fK2_1 zK2 cK3_0 fK3_0 cK3_1 fK3_1 zK3 cK4_0 fK4_0 cK4_1 fK4_1 zK4 hz;replace K1:=h_ (K1.out.below hb);replace K2:=h_ (K2.out.below hb);replace K3:=h_ (K3.out.below hb);replace K4:=h_ (K4.out.below hb);replace HB:=h_ (Bel.trans HB.out hb);clear hb;have hz:=Below.size HB.out;have cK1_0:=K1.out.cell 0 _ rfl;have fK1_0:=K1.out.froz 0 _ rfl;have cK1_1:=K1.out.cell 1 _ rfl;have fK1_1:=K1.out.froz 1 _ rfl;have cK1_2:=K1.out.cell 2 _ rfl;have fK1_2:=K1.out.froz 2 _ rfl;have cK1_3:=K1.out.cell 3 _ rfl;have fK1_3:=K1.out.froz 3 _ rfl;have zK1:=K1.out.lt;have cK2_0:=K2.out.cell 0 _ rfl;have fK2_0:=K2.out.froz 0 _ rfl;have cK2_1:=K2.out.cell 1 _ rfl;have fK2_1:=K2.out.froz 1 _ rfl;have zK2:=K2.out.lt;have cK3_0:=K3.out.cell 0 _ rfl;have fK3_0:=K3.out.froz 0 _ rfl;have cK3_1:=K3.out.cell 1 _ rfl;have fK3_1:=K3.out.froz 1 _ rfl;have zK3:=K3.out.lt;have cK4_0:=K4.out.cell 0 _ rfl;have fK4_0:=K4.out.froz 0 _ rfl;have cK4_1:=K4.out.cell 1 _ rfl;have fK4_1:=K4.out.froz 1 _ rfl;have zK4:=K4.out.lt
  go_wp2_with (fail)
  refine bodyPost_ret (v:=.tuple #[.agg #[.int .i64 0,.int .i64 0],.int .i64 3]) (by simp[results,Tryz.results171,go_sem,cK1_0,fK1_0,cK1_1,fK1_1,cK1_2,fK1_2,cK1_3,fK1_3,zK1,cK2_0,fK2_0,cK2_1,fK2_1,zK2,cK3_0,fK3_0,cK3_1,fK3_1,zK3,cK4_0,fK4_0,cK4_1,fK4_1,zK4]) rfl (⟨rfl,?_⟩)
  repeat (first|exact HB.out|refine stw ?_ (by omega)|refine alw ?_ (by omega))
 ·
  go_enter Tryz.func171,Tryz.ntmps171
  go_wp2_with (fail)
  refine (CC.out _).mono ?_
  rintro e w1 ⟨rfl,hb⟩
  have K1:=h_ (((((Cel.new' _ #[.int .i64 p,.int .i64 c,.int .i64 h,.int .i64 s] _ (g:=w.heap.size) (by simp)).alloc _).alloc _).alloc _).below hb)
  have K2:=h_ ((((Cel.new' _ #[.int .i64 xn,.int .i64 (xd:Int)] _ (g:=w.heap.size+1) (by simp)).alloc _).alloc _).below hb)
  have K3:=h_ (((Cel.new' _ #[.int .i64 yn,.int .i64 (yd:Int)] _ (g:=w.heap.size+2) (by simp)).alloc _).below hb)
  have K4:=h_ ((Cel.new' _ #[.int .i64 0,.int .i64 0] _ (g:=w.heap.size+3) (by simp)).below hb)
  replace HB:=h_ (Bel.trans (Bel.trans (Bel.trans (Bel.trans (Bel.trans HB.out (Bel.alloc _ _)) (Bel.alloc _ _)) (Bel.alloc _ _)) (Bel.alloc _ _)) hb);clear hb;have hz:=Below.size HB.out;have cK1_0:=K1.out.cell 0 _ rfl;have fK1_0:=K1.out.froz 0 _ rfl;have cK1_1:=K1.out.cell 1 _ rfl;have fK1_1:=K1.out.froz 1 _ rfl;have cK1_2:=K1.out.cell 2 _ rfl;have fK1_2:=K1.out.froz 2 _ rfl;have cK1_3:=K1.out.cell 3 _ rfl;have fK1_3:=K1.out.froz 3 _ rfl;have zK1:=K1.out.lt;have cK2_0:=K2.out.cell 0 _ rfl;have fK2_0:=K2.out.froz 0 _ rfl;have cK2_1:=K2.out.cell 1 _ rfl;have fK2_1:=K2.out.froz 1 _ rfl;have zK2:=K2.out.lt;have cK3_0:=K3.out.cell 0 _ rfl;have fK3_0:=K3.out.froz 0 _ rfl;have cK3_1:=K3.out.cell 1 _ rfl;have fK3_1:=K3.out.froz 1 _ rfl;have zK3:=K3.out.lt;have cK4_0:=K4.out.cell 0 _ rfl;have fK4_0:=K4.out.froz 0 _ rfl;have cK4_1:=K4.out.cell 1 _ rfl;have fK4_1:=K4.out.froz 1 _ rfl;have zK4:=K4.out.lt
  go_wp2_with (fail)
  refine (CA.out _).mono ?_
  rintro e w2 ⟨rfl,hb⟩
  clear cK1_0 fK1_0 cK1_1 fK1_1 cK1_2 fK1_2 cK1_3 fK1_3 zK1 cK2_0 fK2_0 cK2_1 fK2_1 zK2 cK3_0 fK3_0 cK3_1 fK3_1 zK3 cK4_0 fK4_0 cK4_1 fK4_1 zK4 hz;replace K1:=h_ (K1.out.below hb);replace K2:=h_ (K2.out.below hb);replace K3:=h_ (K3.out.below hb);replace K4:=h_ (K4.out.below hb);replace HB:=h_ (Bel.trans HB.out hb);clear hb;have hz:=Below.size HB.out;have cK1_0:=K1.out.cell 0 _ rfl;have fK1_0:=K1.out.froz 0 _ rfl;have cK1_1:=K1.out.cell 1 _ rfl;have fK1_1:=K1.out.froz 1 _ rfl;have cK1_2:=K1.out.cell 2 _ rfl;have fK1_2:=K1.out.froz 2 _ rfl;have cK1_3:=K1.out.cell 3 _ rfl;have fK1_3:=K1.out.froz 3 _ rfl;have zK1:=K1.out.lt;have cK2_0:=K2.out.cell 0 _ rfl;have fK2_0:=K2.out.froz 0 _ rfl;have cK2_1:=K2.out.cell 1 _ rfl;have fK2_1:=K2.out.froz 1 _ rfl;have zK2:=K2.out.lt;have cK3_0:=K3.out.cell 0 _ rfl;have fK3_0:=K3.out.froz 0 _ rfl;have cK3_1:=K3.out.cell 1 _ rfl;have fK3_1:=K3.out.froz 1 _ rfl;have zK3:=K3.out.lt;have cK4_0:=K4.out.cell 0 _ rfl;have fK4_0:=K4.out.froz 0 _ rfl;have cK4_1:=K4.out.cell 1 _ rfl;have fK4_1:=K4.out.froz 1 _ rfl;have zK4:=K4.out.lt
  go_wp2_with (fail)
  refine bodyPost_ret (v:=.tuple #[.agg #[.int .i64 m,.int .i64 (d:Int)],.int .i64 0]) (by simp[results,Tryz.results171,go_sem,cK1_0,fK1_0,cK1_1,fK1_1,cK1_2,fK1_2,cK1_3,fK1_3,zK1,cK2_0,fK2_0,cK2_1,fK2_1,zK2,cK3_0,fK3_0,cK3_1,fK3_1,zK3,cK4_0,fK4_0,cK4_1,fK4_1,zK4]) rfl (⟨rfl,?_⟩)
  repeat (first|exact HB.out|refine stw ?_ (by omega)|refine alw ?_ (by omega))
end Go.Proofs.YtgjapehpkakkbaaGreat
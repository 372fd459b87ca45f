/- Part of one proof. There are no conditions. -/
import Derived.Test.YtkaiilmgemaljaaGreatYM2
import Derived.Test.YtkaiilmgemaljaaGreatYZq
import Derived.Test.YtkaiilmgemaljaaGreatYE1
import Derived.Test.YtkaiilmgemaljaaGreatYM31
set_option linter.unusedVariables false
set_option linter.unusedSimpArgs false
namespace Go.Proofs.YtkaiilmgemaljaaGreat.Mo
open Go.Proofs.YtkaiilmgemaljaaGreat Go.Proofs.YtkaiilmgemaljaaGreat.Ex Go.Proofs.YtkaiilmgemaljaaGreat.Ps Go.Proofs.YtkaiilmgemaljaaGreat.Ra
def Bd (B C:Int) (x:E):Prop:=-(C*pw B x.depth)<=x.num/\x.num<=C*pw B x.depth
theorem bd_same {B C:Int} (hB:1<=B) {x y:E} (h:Same B x y) (hy:Bd B C y):Bd B C x:=by
 obtain⟨h1,h2⟩:=hy;have hp:=az hB y.depth;have hq:=az hB x.depth
 simp only[Same]at h
 have m1:=Int.mul_le_mul_of_nonneg_right h1 (show 0<=pw B x.depth by omega)
 have m2:=Int.mul_le_mul_of_nonneg_right h2 (show 0<=pw B x.depth by omega)
 rw[<- h]at m1 m2
 constructor
 ·refine Int.le_of_mul_le_mul_right (a:=pw B y.depth) ?_ (by omega)
  rw[Int.neg_mul,Int.mul_right_comm,<- Int.neg_mul]
  exact m1
 ·refine Int.le_of_mul_le_mul_right (a:=pw B y.depth) ?_ (by omega)
  rw[Int.mul_right_comm C]
  exact m2
theorem bd_mono {B C D:Int} (hB:1<=B) (h:C<=D) {x:E} (hx:Bd B C x):Bd B D x:=by
 have hp:=az hB x.depth
 have:=Int.mul_le_mul_of_nonneg_right h (show 0<=pw B x.depth by omega)
 exact⟨by have:=hx.1;omega,by have:=hx.2;omega⟩
theorem bd_neg {B C:Int} {x:E} (h:Bd B C x):Bd B C (negE x):=⟨by have:=h.2;show _<=-x.num;show -(C*pw B x.depth)<=-x.num;omega,by have:=h.1;show -x.num<=C*pw B x.depth;omega⟩
theorem bd_whl {B C n:Int} (h1 : -C<=n) (h2:n<=C):Bd B C (whl n):=⟨by show -(C*1)<=n;omega,by show n<=C*1;omega⟩
theorem bd_zero {B C:Int} (h:0<=C):Bd B C bX:=⟨by show -(C*1)<=0;omega,by show 0<=C*1;omega⟩
theorem bd_up {B C:Int} (hB:1<=B) {x:E} (h:Bd B C x) {m:Nat} (hm:x.depth<=m):Bd B C ⟨x.num*pw B (m-x.depth),m⟩:=by
 have e:pw B m=pw B x.depth*pw B (m-x.depth):=by rw[<- fq];congr 1;omega
 have hp:=az hB (m-x.depth)
 have m1:=Int.mul_le_mul_of_nonneg_right h.1 (show 0<=pw B (m-x.depth) by omega)
 have m2:=Int.mul_le_mul_of_nonneg_right h.2 (show 0<=pw B (m-x.depth) by omega)
 constructor
 ·show -(C*pw B m)<=x.num*pw B (m-x.depth)
  rw[e,<- Int.mul_assoc,<- Int.neg_mul];exact m1
 ·show x.num*pw B (m-x.depth)<=C*pw B m
  rw[e,<- Int.mul_assoc];exact m2
theorem bd_mk {B C:Int} (hB:1<=B) {n:Int} {d:Nat} {x:E} (h:mk B n d=some x) (hn:Bd B C ⟨n,d⟩):Bd B C x:=bd_same hB (mk_val hB h).2 hn
theorem bd_sum {B C D:Int} (hB:1<=B) {x y:E} (hx:Bd B C x) (hy:Bd B D y):Bd B (C+D) ⟨x.num*pw B (max x.depth y.depth-x.depth)+y.num*pw B (max x.depth y.depth-y.depth),max x.depth y.depth⟩:=by
 have h1:=bd_up hB hx (m:=max x.depth y.depth) (by omega)
 have h2:=bd_up hB hy (m:=max x.depth y.depth) (by omega)
 have e:(C+D)*pw B (max x.depth y.depth)=C*pw B (max x.depth y.depth)+D*pw B (max x.depth y.depth):=Int.add_mul _ _ _;obtain⟨a1,a2⟩:=h1;obtain⟨b1,b2⟩:=h2
 simp only at a1 a2 b1 b2
 exact⟨by show -((C+D)*pw B (max x.depth y.depth))<=_;rw[e];simp only;omega,by show _<=(C+D)*pw B (max x.depth y.depth);rw[e];simp only;omega⟩
theorem bd_add {B C D:Int} (hB:1<=B) {x y z:E} (hx:Bd B C x) (hy:Bd B D y) (h:addE B x y=some z):Bd B (C+D) z:=bd_mk hB h (bd_sum hB hx hy)
theorem bd_scl {B C k:Int} (hB:1<=B) (hk:0<=k) {x z:E} (hx:Bd B C x) (h:sclE B x k=some z):Bd B (k*C) z:=by
 refine bd_mk hB h ?_
 have m1:=Int.mul_le_mul_of_nonneg_right hx.1 hk;have m2:=Int.mul_le_mul_of_nonneg_right hx.2 hk
 have e:k*C*pw B x.depth=C*pw B x.depth*k:=by rw[Int.mul_comm k C,Int.mul_right_comm]
 exact⟨by show -(k*C*pw B x.depth)<=x.num*k;rw[e,<- Int.neg_mul];exact m1,by show x.num*k<=k*C*pw B x.depth;rw[e];exact m2⟩
theorem bd_sumE {B C:Int} (hB:1<=B) (hC:0<=C) (l:List ((Nat×Nat)×E)):(∀rx∈l,Bd B C rx.2)->∀{t:E},sumE B l=some t->Bd B ((l.map fun rx=>aI rx.1).sum*C) t:=by
 induction l using aT with
 | nil =>
   intro _ t h
   unfold sumE at h
   simp at h
   rw [<- h]
   exact bd_zero (by simp)
 | snoc l rx ih =>
   intro hl t h
   obtain ⟨r, x⟩ := rx; rw [fW] at h
   cases hs : sumE B l with
   | none => rw [hs] at h; cases h
   | some u =>
     rw [hs] at h
     simp only [Option.bind_some] at h
     cases hm : sclE B x (aI r) with
     | none => rw [hm] at h; cases h
     | some y =>
       rw [hm] at h
       have h1 := ih (fun rx hr => hl rx (List.mem_append.2 (.inl hr))) hs
       have h2 := bd_scl hB (k := aI r) (by unfold aI; split <;> omega) (hl (r, x) (by simp)) hm
       have h3 := bd_add hB h1 h2 h; rw [List.map_append, List.sum_append]
       simp only [List.map_cons, List.map_nil, List.sum_cons, List.sum_nil, Int.add_zero]
       rw [Int.add_mul]
       exact h3
theorem weights_zip (rs:List (Nat×Nat)):∀xs:List E,((rs.zip xs).map fun rx=>aI rx.1).sum<=(rs.map aI).sum:=by
 induction rs with
 | nil=>intro xs;simp
 | cons r rs ih =>
   intro xs
   have hw : 0 <= aI r := by unfold aI; split <;> omega
   have hp : ∀ l : List (Nat × Nat), 0 <= (l.map aI).sum := fun l => by
     induction l with
     | nil => simp
     | cons a l ih => rw [List.map_cons, List.sum_cons]; have : 0 ≤ aI a := by unfold aI; split <;> omega
                      omega
   cases xs with
   | nil => have := hp rs; simp only [List.zip_nil_right, List.map_nil, List.sum_nil, List.map_cons, List.sum_cons]; omega
   | cons x xs => have := ih xs; simp only [List.zip_cons_cons, List.map_cons, List.sum_cons]; omega
theorem weights_all:∀s,s<7->((ae s).map aI).sum=sq s:=by decide
theorem bd_mean {s:Nat} (hs1:1<=s) (hs6:s<=6) {C:Int} (hC:0<=C) {xs:List E} (hx:∀x∈xs,Bd (sq s) C x) {e:E} (h:meanE (sq s) (ae s) xs=some e):Bd (sq s) C e:=by
 obtain⟨hB,_,_⟩:=sq_bd hs1 hs6;unfold meanE at h
 cases ht:sumE (sq s) ((ae s).zip xs) with
 | none=>rw[ht]at h;cases h
 | some t =>
   rw [ht] at h
   simp only [Option.bind_some] at h
   have h1 := bd_sumE hB hC _ (fun rx hr => hx rx.2 (List.of_mem_zip hr).2) ht
   have h2 := weights_zip (ae s) xs
   rw [weights_all s (by omega)] at h2
   have h3 := bd_mono hB (Int.mul_le_mul_of_nonneg_right h2 hC) h1
   refine bd_mk hB h ?_
   have e2 : C * pw (sq s) (t.depth + 1) = sq s * C * pw (sq s) t.depth := by rw [bE, <- Int.mul_assoc, Int.mul_comm (C * _) (sq s), Int.mul_assoc]
   exact ⟨by show -(C * pw (sq s) (t.depth + 1)) <= t.num; rw [e2]; exact h3.1, by show t.num <= C * pw (sq s) (t.depth + 1); rw [e2]; exact h3.2⟩
theorem bestS_pr {P:E->Prop} (h0:P bX) {B:Int} {f:List Int->Option E} (hf:∀q x,f q=some x->P x) {l:List (List Int)}:∀{t:Nat×Nat×E},bestS B f l=some t->P t.2.2:=by
 induction l using aT with
 | nil=>intro t h;rw[gx]at h;injection h with h;subst h;exact h0
 | snoc l q ih =>
   intro t h
   rw [a8] at h
   cases hs : bestS B f l with
   | none => rw [hs] at h; cases h
   | some u =>
     rw [hs] at h
     cases hq : f q with
     | none => rw [hq] at h; cases h
     | some x =>
       rw [hq] at h
       simp only [Option.bind_some, Option.map_some, Option.some.injEq] at h
       subst h
       split
       · exact hf q x hq
       · exact ih (t := u) hs
theorem allS_pr {P:E->Prop} {g:Nat×Nat->Option E} (hg:∀r x,g r=some x->P x) {l:List (Nat×Nat)}:∀{xs:List E},allS g l=some xs->∀x∈xs,P x:=by
 induction l using aT with
 | nil=>intro xs h x hx;unfold allS at h;simp at h;subst h;simp at hx
 | snoc l r ih =>
   intro xs h x hx
   rw [ct] at h
   cases hs : allS g l with
   | none => rw [hs] at h; cases h
   | some u =>
     rw [hs] at h
     cases hr : g r with
     | none => rw [hr] at h; cases h
     | some y =>
       rw [hr] at h
       simp only [Option.bind_some, Option.map_some, Option.some.injEq] at h
       subst h
       rcases List.mem_append.1 hx with hx | hx
       · exact ih hs x hx
       · have : x = y := by simpa using hx
         rw [this]; exact hg r y hr
section
variable {B:Int} {K:Nat} {bv:Bool} {R:RF} {own other:List Int} {c:Cb}
theorem CbOk.val {K:Nat} {c:Cb} (h:CbOk K c):1<=c.1/\c.1<=two K:=by
 obtain⟨k,h1,h2,_⟩:=h;rw[h2]
 exact⟨dA k,cj h1⟩
end
open Go.Proofs.YtkaiilmgemaljaaGreat Go.Proofs.YtkaiilmgemaljaaGreat.Ex Go.Proofs.YtkaiilmgemaljaaGreat.Ps Go.Proofs.YtkaiilmgemaljaaGreat.Ra
theorem bU {α β:Type} {o:Option α} {f:α->Option β} {y:β} (h:o.bind f=some y):∃x,o=some x/\f x=some y:=by
 cases o with
 | none=>cases h
 | some x=>exact⟨x,rfl,h⟩
theorem cI {α β:Type} {o:Option α} {f:α->β} {y:β} (h:o.map f=some y):∃x,o=some x/\f x=y:=by
 cases o with
 | none=>cases h
 | some x=>exact⟨x,rfl,Option.some.inj h⟩
section
variable {B:Int} {r:Ru} {R:RF} {own other:List Int}
theorem eqG_cases {c:Cb} {y:E} (h:eqG B r R own other c=some y):(own.sum=0/\y=whl c.1)\/(own.sum≠0/\other.sum=0/\y=whl (-c.1))\/
  (own.sum≠0/\other.sum≠0/\∃x,R own other c=some x/\((may r c=false/\y=x)\/(may r c=true/\∃d,dblG B r R own other c=some d/\y=if ltE B x d.1 then d.1 else x))):=by
 unfold eqG at h
 split at h
 ·rename_i h0
  exact .inl ⟨h0,(Option.some.inj h).symm⟩
 ·rename_i h0
  split at h
  ·rename_i h1
   exact .inr (.inl ⟨h0,h1,(Option.some.inj h).symm⟩)
  ·rename_i h1
   obtain⟨x,hx,h⟩:=bU h
   refine .inr (.inr ⟨h0,h1,x,hx,?_⟩)
   split at h
   ·rename_i hm
    obtain⟨d,hd,h⟩:=cI h
    exact .inr ⟨hm,d,hd,h.symm⟩
   ·rename_i hm
    refine .inl ⟨?_,(Option.some.inj h).symm⟩
    cases hk:may r c with
    | false=>rfl
    | true=>exact absurd hk hm
theorem up_le (hB:1<=B) {z x:E} {y:E} (h:LE B z x):LE B z (if ltE B x y then y else x):=by
 split
 ·rename_i hl;exact gj hB h (lt_le hl)
 ·exact h
theorem les_le (B:Int) (x:E) (c:Cb):LE B (les B x c) (whl c.1):=by
 unfold les
 split
 ·rename_i h;exact lt_le h
 ·exact kj B _
theorem dblG_facts (hB:1<=B) {c:Cb} {D:E} {a:Int} (h:dblG B r R own other c=some (D,a)):LE B D (whl c.1)/\(∃x,R own other (2*c.1,2)=some x/\LE B D x)/\
  ((D=whl c.1/\a=2)\/(ltE B D (whl c.1)=true/\((a=1/\R own other (2*c.1,2)=some D)\/(a=3/\bvr r c=true/\R own other (4*c.1,2)=some D)\/(a=4/\rcn r c=true/\R own other (8*c.1,2)=some D)))):=by
 rw[kx]at h;obtain⟨x,hx,h⟩:=bU h;have hl:=les_le B x c
 have hlx:LE B (les B x c) x:=by
  unfold les
  split
  ·exact kj B _
  ·rename_i hn
   refine le_lt.2 ?_
   cases hk:ltE B x (whl c.1) with
   | false=>rfl
   | true=>exact absurd hk hn
 have base:some (les B x c,lesA B x c)=some (D,a)->LE B D (whl c.1)/\(∃x,R own other (2*c.1,2)=some x/\LE B D x)/\
   ((D=whl c.1/\a=2)\/(ltE B D (whl c.1)=true/\((a=1/\R own other (2*c.1,2)=some D)\/(a=3/\bvr r c=true/\R own other (4*c.1,2)=some D)\/(a=4/\rcn r c=true/\R own other (8*c.1,2)=some D)))):=by
  intro e
  injection e with e;injection e with e1 e2
  refine⟨by rw[<- e1];exact hl,⟨x,hx,by rw[<- e1];exact hlx⟩,?_⟩
  rcases les_cases B x c with⟨l1,l2,_,l4⟩|⟨l1,l2,_⟩
  ·exact .inr ⟨by rw[<- e1,l1];exact l4,.inl ⟨by rw[<- e2,l2],by rw[<- e1,l1];exact hx⟩⟩
  ·exact .inl ⟨by rw[<- e1,l1],by rw[<- e2,l2]⟩
 split at h
 ·rename_i hb
  obtain⟨y,hy,h⟩:=cI h
  split at h
  ·rename_i hlt
   injection h with e1 e2
   have hD:ltE B D (whl c.1)=true:=by
    rw[<- e1];have k:=le_lt.1 hl
    cases hk:ltE B y.1 (whl c.1) with
    | true=>rfl
    | false=>exact absurd (le_lt.1 (gj hB hl (le_lt.2 hk))) (by rw[hlt];decide)
   refine⟨lt_le hD,⟨x,hx,by rw[<- e1];exact gj hB (lt_le hlt) hlx⟩,.inr ⟨hD,?_⟩⟩
   unfold bevG at hy;obtain⟨u,hu,hy⟩:=bU hy
   split at hy
   ·rename_i hrc
    obtain⟨w,hw,hy⟩:=cI hy
    split at hy
    ·subst hy
     exact .inr (.inr ⟨by rw[<- e2];rfl,hrc,by rw[<- e1];exact hw⟩)
    ·subst hy
     exact .inr (.inl ⟨by rw[<- e2];rfl,hb,by rw[<- e1];exact hu⟩)
   ·injection hy with hy
    subst hy
    exact .inr (.inl ⟨by rw[<- e2];rfl,hb,by rw[<- e1];exact hu⟩)
  ·exact base (by rw[h])
 ·exact base h
end
theorem allS_pt {g g':Nat×Nat->Option E} {l:List (Nat×Nat)} {xs ys:List E} (h:allS g l=some xs) (k:allS g' l=some ys) {P:E->E->Prop} (hp:∀r∈l,∀x y,g r=some x->g' r=some y->P x y):xs.length=ys.length/\xs.length=l.length/\∀i,i<xs.length->P (xs.getD i bX) (ys.getD i bX):=by
 have h1:=fN h;have h2:=fN k
 exact⟨by omega,h1,fun i hi=>hp _ (ar l (0,0) (k:=i) (by omega)) _ _ (allS_get h i (by omega)) (allS_get k i (by omega))⟩
theorem bd_le {B C:Int} {x:E}:Bd B C x↔LE B (whl (-C)) x/\LE B x (whl C):=by
 unfold Bd Ra.LE whl
 simp only[bf,Int.mul_one,Int.neg_mul]
theorem eqG_own {B:Int} (hB:1<=B) {r:Ru} {R:RF} {own other:List Int} {c:Cb} (hc:0<=c.1) (hR:∀e,R own other c=some e->Bd B c.1 e) {y:E} (h:eqG B r R own other c=some y):Bd B c.1 y:=by
 rcases eqG_cases h with⟨_,rfl⟩|⟨_,_,rfl⟩|⟨_,_,x,hx,⟨_,rfl⟩|⟨_,d,hd,rfl⟩⟩
 ·exact bd_whl (by omega) (by omega)
 ·exact bd_whl (by omega) (by omega)
 ·exact hR _ hx
 ·obtain⟨h1,h2⟩:=bd_le.1 (hR x hx)
  refine bd_le.2 ⟨up_le hB h1,?_⟩
  split
  ·exact (dblG_facts (D:=d.1) (a:=d.2) hB hd).1
  ·exact h2
theorem rolF_own {s:Nat} (hs1:1<=s) (hs6:s<=6) {r:Ru}:∀(f:Nat) {own other:List Int} {c:Cb},0<=c.1->∀e,rolF s r f own other c=some e->Bd (sq s) c.1 e
 | 0,own,other,c,_,e,h=>by cases h
 | f + 1, own, other, c, hc, e, h => by
   unfold rolF at h; obtain ⟨xs, hs, h⟩ := bU h
   refine bd_mean hs1 hs6 hc (allS_pr (fun ro x hx => ?_) hs) h
   obtain ⟨t, hb, rfl⟩ := cI hx
   refine bestS_pr (P := Bd (sq s) c.1) (bd_zero hc) (fun q y hy => ?_) hb
   obtain ⟨z, hq, rfl⟩ := cI hy; have hsw : (swp c).1 = c.1 := iP c
   have := eqG_own (sq_bd hs1 hs6).1 (c := swp c) (by omega) (fun e he => rolF_own hs1 hs6 f (by omega) e he) hq
   rw [hsw] at this
   exact bd_neg this
theorem rol_own {s:Nat} (hs1:1<=s) (hs6:s<=6) {r:Ru} {own other:List Int} {c:Cb} (hc:0<=c.1) {e:E} (h:rol s r own other c=some e):Bd (sq s) c.1 e:=rolF_own hs1 hs6 _ hc e h
theorem eqv_own {s:Nat} (hs1:1<=s) (hs6:s<=6) {r:Ru} {own other:List Int} {c:Cb} (hc:0<=c.1) {e:E} (h:eqv s r own other c=some e):Bd (sq s) c.1 e:=eqG_own (sq_bd hs1 hs6).1 hc (fun _ he=>rol_own hs1 hs6 hc he) h
open Go.Proofs.YtkaiilmgemaljaaGreat Go.Proofs.YtkaiilmgemaljaaGreat.Ex Go.Proofs.YtkaiilmgemaljaaGreat.Ps Go.Proofs.YtkaiilmgemaljaaGreat.Ra
def Tw (B:Int) (a w:E):Prop:=∀M,a.depth<=M->w.depth<=M->av B M a=2*av B M w-pw B M
theorem tw_of {B:Int} (hB:1<=B) {a w:E} {M:Nat} (ha:a.depth<=M) (hw:w.depth<=M) (h:av B M a=2*av B M w-pw B M):Tw B a w:=by
 intro N hNa hNw
 obtain⟨K,hK⟩:∃K,K=max M N:=⟨_,rfl⟩
 have e1:=av_up (B:=B) ha (show M<=K by omega)
 have e2:=av_up (B:=B) hw (show M<=K by omega)
 have e3:=av_up (B:=B) hNa (show N<=K by omega)
 have e4:=av_up (B:=B) hNw (show N<=K by omega)
 have p1:=iZ B (show M<=K by omega)
 have p2:=iZ B (show N<=K by omega)
 have hp:=az hB (K-N)
 have k:av B K a=2*av B K w-pw B K:=by
  rw[e1,e2,p1,h,Int.sub_mul,Int.mul_assoc,Int.mul_comm (pw B M)]
 rw[e3,e4,p2,Int.mul_comm (pw B (K-N)),<- Int.mul_assoc,<- Int.sub_mul]at k
 exact Int.eq_of_mul_eq_mul_right (by omega) k
theorem tw_le {B:Int} (hB:1<=B) {a w b u:E} (h:Tw B a w) (k:Tw B b u):LE B a b↔LE B w u:=by
 obtain⟨M,hM⟩:∃M,M=max (max a.depth w.depth) (max b.depth u.depth):=⟨_,rfl⟩
 have e1:=h M (by omega) (by omega)
 have e2:=k M (by omega) (by omega)
 rw[le_av hB (M:=M) (by omega) (by omega),le_av hB (M:=M) (by omega) (by omega),e1,e2]
 constructor
 ·intro h;omega
 ·intro h;omega
theorem le_asymm {B:Int} (hB:1<=B) {x y:E} (h:LE B x y) (k:LE B y x) (M:Nat) (hx:x.depth<=M) (hy:y.depth<=M):av B M x=av B M y:=by
 have h1:=(le_av hB hx hy).1 h;have h2:=(le_av hB hy hx).1 k
 omega
theorem tw_best {B:Int} (hB:1<=B) {f g:List Int->Option E} {l:List (List Int)} (hl:l≠[]) {t u:Nat×Nat×E} (h:bestS B f l=some t) (k:bestS B g l=some u) (hfg:∀q∈l,∀x y,f q=some x->g q=some y->Tw B x y):Tw B t.2.2 u.2.2:=by
 obtain⟨i1,i2⟩:=bestS_at h hl;obtain⟨j1,j2⟩:=bestS_at k hl;have hm:=ar l [] i1;have hn:=ar l [] j1;obtain⟨y,hy⟩:=bestS_all k _ hm;obtain⟨x,hx⟩:=bestS_all h _ hn;have t1:=hfg _ hm _ _ i2 hy;have t2:=hfg _ hn _ _ hx j2;have l1:=bestS_top hB h _ hn _ hx;have l2:=bestS_top hB k _ hm _ hy;have l3:=(tw_le hB t2 t1).1 l1;obtain⟨M,hM⟩:∃M,M=max (max t.2.2.depth u.2.2.depth) y.depth:=⟨_,rfl⟩
 refine tw_of hB (M:=M) (by omega) (by omega) ?_
 rw[t1 M (by omega) (by omega),le_asymm hB l2 l3 M (by omega) (by omega)]
theorem avS_tw {B:Int} {M:Nat}:∀{rs:List (Nat×Nat)} {xs ys:List E},xs.length=ys.length->(∀i,i<xs.length->av B M (xs.getD i bX)=2*av B M (ys.getD i bX)-pw B M)->avS B M (rs.zip xs)=2*avS B M (rs.zip ys)-pw B M*wgtL (rs.zip xs):=by
 intro rs
 induction rs with
 | nil=>intro xs ys _ _;simp[avS,wgtL]
 | cons r rs ih =>
   intro xs ys hl hi
   cases xs with
   | nil =>
     cases ys with
     | nil => simp [avS, wgtL]
     | cons y ys => simp at hl
   | cons x xs =>
     cases ys with
     | nil => simp at hl
     | cons y ys =>
       have h0 := hi 0 (by simp)
       have h1 := ih (xs := xs) (ys := ys) (by simpa using hl) fun i hx => by have := hi (i + 1) (by simpa using hx); simpa [List.getD] using this
       have h0' : av B M x = 2 * av B M y - pw B M := by simpa [List.getD] using h0
       have e1 : avS B M ((r, x) :: rs.zip xs) = av B M x * aI r + avS B M (rs.zip xs) := by simp [avS]
       have e2 : avS B M ((r, y) :: rs.zip ys) = av B M y * aI r + avS B M (rs.zip ys) := by simp [avS]
       have e3 : wgtL ((r, x) :: rs.zip xs) = aI r + wgtL (rs.zip xs) := by simp [wgtL]
       rw [List.zip_cons_cons, List.zip_cons_cons, e1, e2, e3, h1, h0', Int.mul_add, Int.mul_add, Int.sub_mul, Int.mul_assoc]
       omega
theorem tw_mean {s:Nat} (hB:1<=sq s) {xs ys:List E} {x y:E} (h:meanE (sq s) (ae s) xs=some x) (k:meanE (sq s) (ae s) ys=some y) (hl:xs.length=ys.length) (hr:xs.length=(ae s).length) (hi:∀i,i<xs.length->Tw (sq s) (xs.getD i bX) (ys.getD i bX)):Tw (sq s) x y:=by
 obtain⟨M1,hM1⟩:=jh xs;obtain⟨M2,hM2⟩:=jh ys;obtain⟨M,hM⟩:∃M,M=max M1 M2:=⟨_,rfl⟩
 obtain⟨d1,e1⟩:=mean_av (M:=M) hB h fun z hz=>by have:=hM1 z hz;omega
 obtain⟨d2,e2⟩:=mean_av (M:=M) hB k fun z hz=>by have:=hM2 z hz;omega
 refine tw_of hB d1 d2 ?_
 rw[e1,e2,avS_tw hl fun i hx=>hi i hx M (by have:=hM1 _ (ar xs bX hx);omega) (by have:=hM2 _ (ar ys bX (k:=i) (by omega));omega),wgtL_rolls hr,bE]
theorem tw_minus {B:Int} (hB:1<=B) {a w z:E} (h:Tw B a w) (k:oneM B w=some z):Tw B (negE a) z:=by
 obtain⟨M,hM⟩:∃M,M=max a.depth w.depth:=⟨_,rfl⟩
 obtain⟨d,e⟩:=oneM_av hB k (M:=M) (by omega)
 refine tw_of hB (M:=M) (show a.depth<=M by omega) (by omega) ?_
 rw[neg_av,h M (by omega) (by omega),e]
 omega
theorem swp_nd:swp (1,0)=(1,0):=rfl
theorem nd_eqG {h c s:Nat} (hB:1<=sq s):∀(f:Nat) {own other:List Int} {a w:E},PosP h c own->PosP h c other->eqG (sq s) ⟨1,false⟩ (rolF s ⟨1,false⟩ f) own other (1,0)=some a->val s f own other=some w->Tw (sq s) a w
 | 0,own,other,a,w,_,_,_,hw=>by cases hw
 | f + 1, own, other, a, w, ho, ht, ha, hw => by
   unfold val at hw
   rcases eqG_cases ha with ⟨h0, rfl⟩ | ⟨h0, h1, rfl⟩ | ⟨h0, h1, x, hx, ha⟩
   · rw [if_pos h0] at hw
     injection hw with hw; subst hw
     refine tw_of hB (M := 0) (Nat.le_refl _) (Nat.le_refl _) ?_
     show (1 : Int) * pw (sq s) 0 = 2 * (1 * pw (sq s) 0) - pw (sq s) 0
     rw [bf]; rfl
   · rw [if_neg h0, if_pos h1] at hw
     injection hw with hw; subst hw
     refine tw_of hB (M := 0) (Nat.le_refl _) (Nat.le_refl _) ?_
     show (-1 : Int) * pw (sq s) 0 = 2 * (0 * pw (sq s) 0) - pw (sq s) 0
     rw [bf]; rfl
   · rw [if_neg h0, if_neg h1] at hw
     have hax : a = x := by
       rcases ha with ⟨_, e⟩ | ⟨hm, _⟩
       · exact e
       · exact absurd hm (by decide)
     subst hax; unfold rolF at hx; obtain ⟨xs, hxs, hx⟩ := bU hx; obtain ⟨ys, hys, hw⟩ := bU hw
     have hys' : allS (fun r => (bestS (sq s) (fun q => (val s f other q).bind (oneM (sq s))) (resultsL own r.1 r.2)).map fun t => t.2.2) (ae s) = some ys := hys
     have hw' : meanE (sq s) (ae s) ys = some w := hw
     obtain ⟨l1, l2, l3⟩ := allS_pt hxs hys' (P := Tw (sq s)) fun ro hro x y hx hy => by
       obtain ⟨t, ht', rfl⟩ := cI hx; obtain ⟨u, hu, rfl⟩ := cI hy; obtain ⟨r1, r2, r3⟩ := aQ.1 hro
       refine tw_best hB (du (by omega) r1 ho) ht' hu fun q hq x y hx hy => ?_
       obtain ⟨x', hx', rfl⟩ := cI hx; obtain ⟨y', hy', hz⟩ := bU hy; rw [swp_nd] at hx'
       exact tw_minus hB (nd_eqG hB f ht (aE (by omega) r1 ho q hq).1 hx' hy') hz
     exact tw_mean hB hx hw' l1 l2 l3
theorem nd_eqv {h c s:Nat} (hB:1<=sq s) {own other:List Int} {a w:E} (ho:PosP h c own) (ht:PosP h c other) (ha:eqv s ⟨1,false⟩ own other (1,0)=some a) (hw:win s own other=some w):Tw (sq s) a w:=nd_eqG hB _ ho ht ha hw
end Go.Proofs.YtkaiilmgemaljaaGreat.Mo

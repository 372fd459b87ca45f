/- Part of one proof. There are no conditions. -/
import Derived.Test.YtgjapehpkakkbaaGreatDZp
import Derived.Test.YtgjapehpkakkbaaGreatDZo
set_option linter.unusedVariables false
set_option linter.unusedSimpArgs false
namespace Go.Proofs.YtgjapehpkakkbaaGreat.Mo
open Go.Proofs.YtgjapehpkakkbaaGreat.Ex Go.Proofs.YtgjapehpkakkbaaGreat.Ps Go.Proofs.YtgjapehpkakkbaaGreat.Ra
abbrev Cb:=Int×Int
def swp (c:Cb):Cb:=if c.2=1 then (c.1,2) else if c.2=2 then (c.1,1) else c
structure Ru where
 most:Int
 bv:Bool
def may (r:Ru) (c:Cb):Bool:=decide (c.2≠2∧2*c.1≤r.most)
def bvr (r:Ru) (c:Cb):Bool:=may r c&&r.bv&&decide (4*c.1≤r.most)
def rcn (r:Ru) (c:Cb):Bool:=may r c&&r.bv&&decide (8*c.1≤r.most)
def whl (n:Int):E:=⟨n,0⟩
abbrev RF:=List Int→List Int→Cb→Option E
section
variable (B:Int) (r:Ru) (R:RF) (own other:List Int) (c:Cb)
def bevG:Option (E×Bool):=(R own other (4*c.1,2)).bind fun x=>if rcn r c then (R own other (8*c.1,2)).map fun y=>if ltE B x y then (y,true) else (x,false) else some (x,false)
def dblG:Option (E×Int):=(R own other (2*c.1,2)).bind fun x=>
 if bvr r c then (bevG B r R own other c).map fun y=>
  if ltE B y.1 (if ltE B x (whl c.1) then x else whl c.1) then (y.1,if y.2 then 4 else 3) else (if ltE B x (whl c.1) then (x,1) else (whl c.1,2))
 else some (if ltE B x (whl c.1) then (x,1) else (whl c.1,2))
def eqG:Option E:=if own.sum=0 then some (whl c.1) else if other.sum=0 then some (whl (-c.1)) else
 (R own other c).bind fun x=>if may r c then (dblG B r R own other c).map fun y=>if ltE B x y.1 then y.1 else x else some x
end
theorem bevG_congr {B:Int} {r:Ru} {R R':RF} {own other:List Int} {c:Cb} (h:∀c,R own other c=R' own other c):bevG B r R own other c=bevG B r R' own other c:=by unfold bevG;rw[h,h]
theorem dblG_congr {B:Int} {r:Ru} {R R':RF} {own other:List Int} {c:Cb} (h:∀c,R own other c=R' own other c):dblG B r R own other c=dblG B r R' own other c:=by unfold dblG;rw[h,bevG_congr h]
theorem eqG_congr {B:Int} {r:Ru} {R R':RF} {own other:List Int} {c:Cb} (h:own.sum≠0→other.sum≠0→∀c,R own other c=R' own other c):eqG B r R own other c=eqG B r R' own other c:=by
 unfold eqG
 by_cases h0:own.sum=0
 ·rw[if_pos h0,if_pos h0]
 ·rw[if_neg h0,if_neg h0]
  by_cases h1:other.sum=0
  ·rw[if_pos h1,if_pos h1]
  ·rw[if_neg h1,if_neg h1,h h0 h1,dblG_congr (h h0 h1)]
noncomputable def rolF (s:Nat) (r:Ru):Nat→RF
 | 0=>fun _ _ _=>none
 | f+1=>fun own other c=>(allS (fun ro=>(bestS (sq s) (fun q=>(eqG (sq s) r (rolF s r f) other q (swp c)).map negE) (resultsL own ro.1 ro.2)).map fun t=>t.2.2) (rollsN s)).bind (meanE (sq s) (rollsN s))
theorem rolF_fuel {h c s:Nat} {r:Ru}:∀(f g:Nat) {own other:List Int} (cb:Cb),PosP h c own→PosP h c other→own.sum≠0→pips own+pips other<f→pips own+pips other<g→rolF s r f own other cb=rolF s r g own other cb
 | 0,_,own,other,cb,ho,ht,_,h1,_=>by have:=pips_nonneg ho.2.1;have:=pips_nonneg ht.2.1;omega
 | _+1,0,own,other,cb,ho,ht,_,_,h2=>by have:=pips_nonneg ho.2.1;have:=pips_nonneg ht.2.1;omega
 | f + 1, g + 1, own, other, cb, ho, ht, h0, h1, h2 => by
   unfold rolF
   congr 1
   refine allS_congr fun ro hr => ?_
   obtain ⟨r1, r2, r3⟩ := mem_rollsN.1 hr
   congr 1
   refine bestS_congr fun q hq => ?_
   obtain ⟨q1, q2, q3⟩ := results_pos (by omega) r1 ho q hq
   have := q3 h0
   congr 1
   exact eqG_congr fun k0 k1 cc => rolF_fuel f g cc ht q1 k0 (by omega) (by omega)
noncomputable def rol (s:Nat) (r:Ru):RF:=fun own other c=>rolF s r (fuel own other) own other c
noncomputable def eqv (s:Nat) (r:Ru) (own other:List Int) (c:Cb):Option E:=eqG (sq s) r (rol s r) own other c
noncomputable def neqv (s:Nat) (r:Ru) (other:List Int) (c:Cb) (q:List Int):Option E:=(eqv s r other q (swp c)).map negE
noncomputable def mbest (s:Nat) (r:Ru) (own other:List Int) (c:Cb) (ro:Nat×Nat):Option (Nat×Nat×E):=bestS (sq s) (neqv s r other c) (resultsL own ro.1 ro.2)
noncomputable def mroll (s:Nat) (r:Ru) (own other:List Int) (c:Cb) (ro:Nat×Nat):Option E:=(mbest s r own other c ro).map fun t=>t.2.2
theorem rol_eq {h c s:Nat} {r:Ru} {own other:List Int} (cb:Cb) (ho:PosP h c own) (ht:PosP h c other) (h0:own.sum≠0):
  rol s r own other cb=(allS (mroll s r own other cb) (rollsN s)).bind (meanE (sq s) (rollsN s)):=by
 have hp:=pips_nonneg ho.2.1;have hq:=pips_nonneg ht.2.1;unfold rol fuel rolF
 congr 1
 refine allS_congr fun ro hr=>?_
 obtain⟨r1,r2,r3⟩:=mem_rollsN.1 hr;unfold mroll mbest
 congr 1
 refine bestS_congr fun q hq=>?_
 obtain⟨q1,q2,q3⟩:=results_pos (by omega) r1 ho q hq
 have:=q3 h0;have:=pips_nonneg q1.2.1;unfold neqv eqv
 congr 1
 refine eqG_congr fun k0 k1 cc=>?_
 unfold rol
 exact rolF_fuel _ (fuel other q) cc ht q1 k0 (by omega) (by unfold fuel;omega)
/-! ### valid cubes -/
def two (k:Nat):Int:=2 ^ k
theorem two_succ (k:Nat):two (k+1)=2*two k:=by unfold two;rw[Int.pow_succ,Int.mul_comm]
theorem two_pos (k:Nat):1≤two k:=by
 induction k with
 | zero=>decide
 | succ k ih=>rw[two_succ];omega
theorem two_mono {a b:Nat} (h:a≤b):two a≤two b:=by
 induction b with
 | zero => obtain rfl : a = 0 := by omega
           exact Int.le_refl _
 | succ b ih =>
   have := two_pos b
   by_cases e : a ≤ b
   · have := ih e; rw [two_succ]; omega
   · obtain rfl : a = b + 1 := by omega
     exact Int.le_refl _
def CbOk (K:Nat) (c:Cb):Prop:=∃k,k≤K∧c.1=two k∧((k=0∧c.2=0)∨(1≤k∧(c.2=1∨c.2=2)))
theorem CbOk.swp {K:Nat} {c:Cb} (h:CbOk K c):CbOk K (swp c):=by
 obtain⟨k,h1,h2,h3⟩:=h;unfold Mo.swp
 rcases h3 with⟨h3,h4⟩|⟨h3,h4|h4⟩
 ·rw[if_neg (by omega),if_neg (by omega)];exact⟨k,h1,h2,.inl ⟨h3,h4⟩⟩
 ·rw[if_pos h4];exact⟨k,h1,h2,.inr ⟨h3,.inr rfl⟩⟩
 ·rw[if_neg (by omega),if_pos h4];exact⟨k,h1,h2,.inr ⟨h3,.inl rfl⟩⟩
theorem CbOk.up {K j:Nat} {c:Cb} (h:CbOk K c) (hj:1≤j) (hm:two j*c.1≤two K):CbOk K (two j*c.1,2):=by
 obtain⟨k,h1,h2,_⟩:=h
 have e:two j*c.1=two (k+j):=by rw[h2];unfold two;rw[Int.pow_add,Int.mul_comm]
 refine⟨k+j,?_,e,.inr ⟨by omega,.inr rfl⟩⟩
 rw[e]at hm
 apply Classical.byContradiction
 intro hn
 have:=two_mono (show K+1≤k+j by omega)
 have:=two_pos K;rw[two_succ]at *
 omega
theorem CbOk.v0 {K:Nat} {c:Cb} (h:CbOk K c):1≤c.1∧c.1≤two K∧0≤c.2∧c.2≤2:=by
 obtain⟨k,h1,h2,h3⟩:=h;have:=two_mono h1;have:=two_pos k
 omega
theorem whl_val {B:Int} {n:Int} (h1 : -maxNum≤n) (h2:n≤maxNum):Val B (whl n):=⟨h1,h2,by show (1:Int)≤maxScale;decide,.inl rfl,fun _=>rfl⟩
end Go.Proofs.YtgjapehpkakkbaaGreat.Mo
namespace Go.Proofs.YtgjapehpkakkbaaGreat.Mo
open Go.Proofs.YtgjapehpkakkbaaGreat.Ex Go.Proofs.YtgjapehpkakkbaaGreat.Ps Go.Proofs.YtgjapehpkakkbaaGreat.Ra
section
variable {B:Int} {r:Ru} {R:RF} {own other:List Int} {c:Cb}
theorem bevG_val (hR:∀c e,R own other c=some e→Val B e) {y:E×Bool} (h:bevG B r R own other c=some y):Val B y.1:=by
 unfold bevG at h
 cases hx:R own other (4*c.1,2) with
 | none=>rw[hx]at h;cases h
 | some x =>
   rw [hx, Option.bind_some] at h
   split at h
   · cases hy : R own other (8 * c.1, 2) with
     | none => rw [hy] at h; cases h
     | some y' =>
       rw [hy, Option.map_some] at h; injection h with h; subst h
       split
       · exact hR _ _ hy
       · exact hR _ _ hx
   · injection h with h; subst h; exact hR _ _ hx
def les (B:Int) (x:E) (c:Cb):E:=if ltE B x (whl c.1) then x else whl c.1
def lesA (B:Int) (x:E) (c:Cb):Int:=if ltE B x (whl c.1) then 1 else 2
theorem les_val {x:E} (hx:Val B x) (hc:Val B (whl c.1)):Val B (les B x c):=by unfold les;split<;>assumption
theorem dblG_eq:dblG B r R own other c=(R own other (2*c.1,2)).bind fun x=>
  if bvr r c then (bevG B r R own other c).map fun y=>if ltE B y.1 (les B x c) then (y.1,if y.2 then 4 else 3) else (les B x c,lesA B x c) else some (les B x c,lesA B x c):=by
 unfold dblG les lesA
 congr 1
 funext x
 by_cases h:ltE B x (whl c.1)=true
 ·simp[h]
 ·simp[h]
theorem dblG_val (hR:∀c e,R own other c=some e→Val B e) (hc:Val B (whl c.1)) {y:E×Int} (h:dblG B r R own other c=some y):Val B y.1:=by
 rw[dblG_eq]at h
 cases hx:R own other (2*c.1,2) with
 | none=>rw[hx]at h;cases h
 | some x =>
   rw [hx, Option.bind_some] at h; have hl := les_val (hR _ _ hx) hc
   split at h
   · cases hy : bevG B r R own other c with
     | none => rw [hy] at h; cases h
     | some y' =>
       rw [hy, Option.map_some] at h; injection h with h; subst h
       split
       · exact bevG_val hR hy
       · exact hl
   · injection h with h; subst h; exact hl
theorem eqG_val (hR:∀c e,R own other c=some e→Val B e) (hc:Val B (whl c.1)) (hc2:Val B (whl (-c.1))) {y:E} (h:eqG B r R own other c=some y):Val B y:=by
 unfold eqG at h
 split at h
 ·injection h with h;subst h;exact hc
 ·split at h
  ·injection h with h;subst h;exact hc2
  ·cases hx:R own other c with
   | none=>rw[hx]at h;cases h
   | some x =>
     rw [hx, Option.bind_some] at h
     split at h
     · cases hy : dblG B r R own other c with
       | none => rw [hy] at h; cases h
       | some y' =>
         rw [hy, Option.map_some] at h; injection h with h; subst h
         split
         · exact dblG_val hR hc hy
         · exact hR _ _ hx
     · injection h with h; subst h; exact hR _ _ hx
end
theorem rolF_val {s:Nat} (hB:1≤sq s) {r:Ru}:∀(f:Nat) {own other:List Int} {c:Cb} {e:E},rolF s r f own other c=some e→Val (sq s) e
 | 0,own,other,c,e,h=>by cases h
 | f + 1, own, other, c, e, h => by
   unfold rolF at h
   cases hs : allS (fun ro => (bestS (sq s) (fun q => (eqG (sq s) r (rolF s r f) other q (swp c)).map negE) (resultsL own ro.1 ro.2)).map fun t => t.2.2) (rollsN s) with
   | none => rw [hs] at h; cases h
   | some xs => rw [hs] at h; exact meanE_val hB h
theorem rol_val {s:Nat} (hB:1≤sq s) {r:Ru} {own other:List Int} {c:Cb} {e:E} (h:rol s r own other c=some e):Val (sq s) e:=rolF_val hB _ h
theorem whl_val' {B:Int} {n:Int} (h1 : -100000≤n) (h2:n≤100000):Val B (whl n):=whl_val (by unfold maxNum;omega) (by unfold maxNum;omega)
theorem eqv_val {s:Nat} (hB:1≤sq s) {r:Ru} {own other:List Int} {c:Cb} (h0 : -100000≤c.1) (h1:c.1≤100000) {e:E} (h:eqv s r own other c=some e):Val (sq s) e:=
 eqG_val (fun c e h=>rol_val hB h) (whl_val' (by omega) (by omega)) (whl_val' (by omega) (by omega)) h
theorem swp_fst (c:Cb):(swp c).1=c.1:=by
 unfold swp
 split
 ·rfl
 ·split<;>rfl
theorem neqv_val {s:Nat} (hB:1≤sq s) {r:Ru} {other:List Int} {c:Cb} (h0 : -100000≤c.1) (h1:c.1≤100000) {q:List Int} {e:E} (h:neqv s r other c q=some e):Val (sq s) e:=by
 unfold neqv at h
 cases hx:eqv s r other q (swp c) with
 | none=>rw[hx]at h;cases h
 | some x =>
   rw [hx, Option.map_some] at h; injection h with h; subst h
   exact neg_val (eqv_val hB (by rw [swp_fst]; exact h0) (by rw [swp_fst]; exact h1) hx)
theorem mroll_val {s:Nat} (hB:1≤sq s) {r:Ru} {own other:List Int} {c:Cb} (h0 : -100000≤c.1) (h1:c.1≤100000) (ro:Nat×Nat) (e:E) (h:mroll s r own other c ro=some e):Val (sq s) e:=by
 unfold mroll mbest at h
 cases hb:bestS (sq s) (neqv s r other c) (resultsL own ro.1 ro.2) with
 | none=>rw[hb]at h;cases h
 | some u =>
   rw [hb] at h
   simp only [Option.map_some, Option.some.injEq] at h
   subst h
   exact bestS_val hB (fun q x h => neqv_val hB h0 h1 h) hb
theorem mroll_best (s:Nat) (r:Ru) (own other:List Int) (c:Cb) (a b:Nat):mroll s r own other c (a,b)=(bestS (sq s) (neqv s r other c) (resultsL own a b)).map fun t=>t.2.2:=rfl
end Go.Proofs.YtgjapehpkakkbaaGreat.Mo
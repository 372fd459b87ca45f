/- Plain facts on the expected numbers of rolls: the least of some positions, the number as a function of a position. No program is in sight; there are no conditions beyond those that each states. -/
import Derived.Test.YtkaiilmgemaljaaGreatJZp
set_option linter.unusedVariables false
set_option linter.unusedSimpArgs false
namespace Go.Proofs.YtkaiilmgemaljaaGreat.Ra
open Go.Proofs.YtkaiilmgemaljaaGreat.Ex Go.Proofs.YtkaiilmgemaljaaGreat.Ps
def lstS (B:Int) (f:List Int→Option E) (l:List (List Int)):Option (Nat×Nat×E):=
 l.foldl (fun s q=>s.bind fun t=>(f q).map fun x=>if t.1=0∨ltE B x t.2.2 then (t.1+1,t.1,x) else (t.1+1,t.2.1,t.2.2)) (some (0,0,zeroE'))
theorem lstS_nil (B:Int) (f:List Int→Option E):lstS B f []=some (0,0,zeroE'):=rfl
theorem lstS_snoc (B:Int) (f:List Int→Option E) (l:List (List Int)) (q:List Int):
  lstS B f (l++[q])=(lstS B f l).bind fun t=>(f q).map fun x=>if t.1=0∨ltE B x t.2.2 then (t.1+1,t.1,x) else (t.1+1,t.2.1,t.2.2):=by
 unfold lstS;rw[List.foldl_append];rfl
theorem lstS_none {B:Int} {f:List Int→Option E} {l k:List (List Int)} (h:lstS B f l=none):lstS B f (l++k)=none:=by
 unfold lstS at h ⊢;rw[List.foldl_append,h];clear h
 induction k with
 | nil=>rfl
 | cons q r ih=>exact ih
theorem lstS_count {B:Int} {f:List Int→Option E} {l:List (List Int)} {t:Nat×Nat×E} (h:lstS B f l=some t):t.1=l.length∧(t.2.1<l.length∨l=[]):=by
 induction l using snoc_ind generalizing t with
 | nil=>rw[lstS_nil]at h;injection h with h;subst h;exact⟨rfl,.inr rfl⟩
 | snoc l q ih =>
   rw [lstS_snoc] at h
   cases hs : lstS B f l with
   | none => rw [hs] at h; cases h
   | some u =>
     rw [hs] at h; obtain ⟨i1, i2⟩ := ih hs
     cases hf : f q with
     | none => rw [hf] at h; cases h
     | some x =>
       rw [hf] at h
       simp only [Option.bind_some, Option.map_some, Option.some.injEq] at h
       subst h
       split
       · simp [i1]
       · simp only [List.length_append, List.length_singleton]
         refine ⟨by omega, .inl ?_⟩
         rcases i2 with i2 | i2
         · omega
         · rename_i hc; subst i2; simp at i1; exact absurd (.inl i1) hc
theorem lstS_congr {B:Int} {f g:List Int→Option E}:∀{l:List (List Int)},(∀q∈l,f q=g q)→lstS B f l=lstS B g l:=by
 intro l
 induction l using snoc_ind with
 | nil=>intro _;rfl
 | snoc l q ih =>
   intro h
   rw [lstS_snoc, lstS_snoc, ih fun p hp => h p (by simp [hp]), h q (by simp)]
theorem lstS_val {B:Int} {f:List Int→Option E} (hf:∀q x,f q=some x→Val B x) {l:List (List Int)}:∀{t:Nat×Nat×E},lstS B f l=some t→Val B t.2.2:=by
 induction l using snoc_ind with
 | nil=>intro t h;rw[lstS_nil]at h;injection h with h;subst h;exact zero_val
 | snoc l q ih =>
   intro t h
   rw [lstS_snoc] at h
   cases hs : lstS B f l with
   | none => rw [hs] at h; cases h
   | some u =>
     rw [hs] at h
     cases hq : f q with
     | none => rw [hq] at h; cases h
     | some x =>
       rw [hq] at h
       simp only [Option.bind_some, Option.map_some, Option.some.injEq] at h
       subst h
       split
       · exact hf q x hq
       · exact ih (t := u) hs
theorem lst_snoc_getD {α:Type} (l:List α) (d:α) {k:Nat} (h:k<l.length):l.take (k+1)=l.take k++[l.getD k d]:=by
 rw[List.take_succ_eq_append_getElem h];simp[List.getD,h]
theorem lstS_stop {B:Int} {f:List Int→Option E} {l:List (List Int)} {k:Nat} (hk:k<l.length) {t:Nat×Nat×E} (hs:lstS B f (l.take k)=some t) (hq:f (l.getD k [])=none):lstS B f l=none:=by
 have h1:lstS B f (l.take (k+1))=none:=by rw[lst_snoc_getD l [] hk,lstS_snoc,hs,hq];rfl
 have:=lstS_none (k:=l.drop (k+1)) h1
 rwa [List.take_append_drop]at this
theorem lstS_go {B:Int} {f:List Int→Option E} {l:List (List Int)} {k a:Nat} {m x:E} (hk:k<l.length) (hs:lstS B f (l.take k)=some (k,a,m)) (hq:f (l.getD k [])=some x) (h:k=0∨ltE B x m=true):
  lstS B f (l.take (k+1))=some (k+1,k,x):=by
 rw[lst_snoc_getD l [] hk,lstS_snoc,hs,hq]
 simp[h]
theorem lstS_keep {B:Int} {f:List Int→Option E} {l:List (List Int)} {k a:Nat} {m x:E} (hk:k<l.length) (hs:lstS B f (l.take k)=some (k,a,m)) (hq:f (l.getD k [])=some x) (h0:k≠0) (h:ltE B x m=false):
  lstS B f (l.take (k+1))=some (k+1,a,m):=by
 rw[lst_snoc_getD l [] hk,lstS_snoc,hs,hq]
 simp[h0,h]
/-! ### the expected number of rolls -/
noncomputable def xpF (s:Nat):Nat→List Int→Option E
 | 0,_=>none
 | f+1,p=>if p.sum=0 then some zeroE' else ((allS (fun r=>(lstS (s*s) (xpF s f) (resultsL p r.1 r.2)).map fun t=>t.2.2) (rollsN s)).bind (meanE (s*s) (rollsN s))).bind fun m=>addE (s*s) m oneE
noncomputable def xp (s:Nat) (p:List Int):Option E:=xpF s ((pips p).toNat+1) p
theorem xpF_fuel {h c s:Nat}:∀(f g:Nat) {p:List Int},PosP h c p→pips p<f→pips p<g→xpF s f p=xpF s g p
 | 0,_,p,hp,h1,_=>by have:=pips_nonneg hp.2.1;omega
 | _+1,0,p,hp,_,h2=>by have:=pips_nonneg hp.2.1;omega
 | f + 1, g + 1, p, hp, h1, h2 => by
   unfold xpF
   by_cases h0 : p.sum = 0
   · rw [if_pos h0, if_pos h0]
   · rw [if_neg h0, if_neg h0]
     congr 2
     refine allS_congr fun r hr => ?_
     obtain ⟨r1, r2, r3⟩ := mem_rollsN.1 hr
     congr 1
     refine lstS_congr fun q hq => ?_
     obtain ⟨q1, q2, q3⟩ := results_pos (by omega) r1 hp q hq
     have := q3 h0
     exact xpF_fuel f g q1 (by omega) (by omega)
noncomputable def rollL (s:Nat) (p:List Int) (r:Nat×Nat):Option E:=(lstS (s*s) (xp s) (resultsL p r.1 r.2)).map fun t=>t.2.2
theorem xp_eq {h c s:Nat} {p:List Int} (hp:PosP h c p) (h0:p.sum≠0):
  xp s p=((allS (rollL s p) (rollsN s)).bind (meanE (s*s) (rollsN s))).bind fun m=>addE (s*s) m oneE:=by
 have hn:=pips_nonneg hp.2.1;unfold xp xpF;rw[if_neg h0]
 congr 2
 refine allS_congr fun r hr=>?_
 obtain⟨r1,r2,r3⟩:=mem_rollsN.1 hr;unfold rollL
 congr 1
 refine lstS_congr fun q hq=>?_
 obtain⟨q1,q2,q3⟩:=results_pos (by omega) r1 hp q hq
 have:=q3 h0;have:=pips_nonneg q1.2.1;unfold xp
 exact xpF_fuel _ _ q1 (by omega) (by omega)
theorem xp_zero {s:Nat} {p:List Int} (h0:p.sum=0):xp s p=some zeroE':=by unfold xp xpF;rw[if_pos h0]
theorem xp_val {s:Nat} (hB:1≤((s:Int)*s)) {p:List Int} {x:E} (h:xp s p=some x):Val (s*s) x:=by
 unfold xp at h;generalize (pips p).toNat+1=f at h
 cases f with
 | zero=>unfold xpF at h;cases h
 | succ f =>
   unfold xpF at h
   split at h
   · injection h with h; subst h; exact zero_val
   · cases hm : ((allS (fun r => (lstS (s * s) (xpF s f) (resultsL p r.1 r.2)).map fun t => t.2.2) (rollsN s)).bind (meanE (s * s) (rollsN s))) with
     | none => rw [hm] at h; cases h
     | some m => rw [hm] at h; exact addE_val hB h
theorem rollL_val {s:Nat} (hB:1≤((s:Int)*s)) (p:List Int) (r:Nat×Nat) (x:E) (h:rollL s p r=some x):Val (s*s) x:=by
 unfold rollL at h
 cases hb:lstS (s*s) (xp s) (resultsL p r.1 r.2) with
 | none=>rw[hb]at h;cases h
 | some u =>
   rw [hb] at h
   simp only [Option.map_some, Option.some.injEq] at h
   subst h
   exact lstS_val (fun q x h => xp_val hB h) hb
end Go.Proofs.YtkaiilmgemaljaaGreat.Ra

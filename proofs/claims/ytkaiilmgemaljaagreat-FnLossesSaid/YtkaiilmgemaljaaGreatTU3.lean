/- Part of one proof. There are no conditions. -/
import Derived.Test.YtkaiilmgemaljaaGreatTU2
set_option linter.unusedVariables false
set_option linter.unusedSimpArgs false
namespace Go.Proofs.YtkaiilmgemaljaaGreat.Ra
open Go.Proofs.YtkaiilmgemaljaaGreat.Ex Go.Proofs.YtkaiilmgemaljaaGreat.Ps
def turns (p:List Int):Nat:=((pips p+1) / 2).toNat
theorem pips_zero {p:List Int} (h:∀x∈p,0<=x) (h0:p.sum=0):pips p=0:=gK _ p 0 h h0
theorem wsum_ge (f g:Nat->Int):∀(p:List Int) (k:Nat),(∀x∈p,0<=x)->(∀i,k<=i->i<k+p.length->f i<=g i)->wsum f k p<=wsum g k p
 | [],_,_,_=>Int.le_refl _
 | a :: p, k, h, hf => by
   have := wsum_ge f g p (k + 1) (fun x hx => h x (by simp [hx])) (fun i h1 h2 => hf i (by omega) (by simp at h2 ⊢; omega))
   have h1 := hf k (Nat.le_refl _) (by simp)
   have h2 := Int.mul_le_mul_of_nonneg_right h1 (h a (by simp))
   show f k * a + _ <= g k * a + _
   omega
theorem fU (m:Int):∀(p:List Int) (k:Nat),wsum (fun _=>m) k p=m*p.sum
 | [],_=>by show (0:Int)=m*0;simp
 | a :: p, k => by
   show m * a + _ = m * (a + p.sum)
   rw [fU m p (k + 1), Int.mul_add]
theorem pips_lo {p:List Int} (h:∀x∈p,0<=x):p.sum<=pips p:=by
 have:=wsum_ge (fun _=>1) (fun i=>(i:Int)+1) p 0 h (fun i _ _=>by omega)
 rw[fU,Int.one_mul]at this
 exact this
theorem pips_hi {h c:Nat} {p:List Int} (hp:PosP h c p):pips p<=(h:Int)*c:=by
 have:=wsum_ge (fun i=>(i:Int)+1) (fun _=>(h:Int)) p 0 hp.2.1 (fun i _ hi=>by have:=hp.1;omega)
 rw[fU]at this
 exact Int.le_trans this (Int.mul_le_mul_of_nonneg_left hp.2.2 (by omega))
theorem di {h c:Nat} {d1 d2:Nat} {ds:List Nat} {p:List Int} (hd:∀d∈d1::d2::ds,1<=d) (hp:PosP h c p) (h0:p.sum≠0):∀q∈reach (d1::d2::ds) p,pips q+2<=pips p\/q.sum=0:=by
 intro q hq
 rw[bg,if_neg h0]at hq;obtain⟨m,hm,hqm⟩:=List.mem_flatMap.1 hq
 obtain⟨h1,h2,_⟩:=bR (hd d1 (by simp)) hp hm
 by_cases hm0:m.sum=0
 ·rw[eC _ hm0,List.mem_singleton]at hqm
  subst hqm
  exact .inr hm0
 ·have:=(aW (fun d hd'=>hd d (by simp at hd' ⊢;exact .inr hd')) h1 q hqm).2.2 (by simp) hm0
  exact .inl (by omega)
theorem fA {h c:Nat} {a b:Nat} {p:List Int} (ha:1<=a) (hb:1<=b) (hp:PosP h c p) (h0:p.sum≠0):∀q∈resultsL p a b,turns q+1<=turns p:=by
 intro q hq
 have hq1:=(ax ha hb hp q hq).1;have hs:=d5 hp.2.1;have hlo:=pips_lo hp.2.1
 have key:pips q+2<=pips p\/q.sum=0:=by
  obtain⟨ds,hds,hq⟩:=(eZ ha hb hp q).1 hq;unfold dice at hds
  split at hds
  ·rw[List.mem_singleton]at hds
   subst hds
   exact di (by simp;omega) hp h0 q hq
  ·simp only[List.mem_cons,List.not_mem_nil,or_false]at hds
   rcases hds with rfl|rfl
   ·exact di (by simp;omega) hp h0 q hq
   ·exact di (by simp;omega) hp h0 q hq
 have hqn:=aB hq1.2.1;unfold turns
 rcases key with k|k
 ·omega
 ·have:=pips_zero hq1.2.1 k
  omega
theorem val_ok {h c s:Nat} (hB:1<=sq s) (hB2:sq s<=36) {D:Nat} (hD:pw (sq s) D<=ao):∀(f:Nat) {own other:List Int},PosP h c own->PosP h c other->pips own+pips other<f->turns own+turns other<=D->∃e,val s f own other=some e/\e.depth<=turns own+turns other
 | 0,own,other,ho,ht,h1,_=>by have:=aB ho.2.1;have:=aB ht.2.1;omega
 | f + 1, own, other, ho, ht, h1, h2 => by
   unfold val
   by_cases h0 : own.sum = 0
   · rw [if_pos h0]; exact ⟨_, rfl, Nat.zero_le _⟩
   rw [if_neg h0]
   by_cases h3 : other.sum = 0
   · rw [if_pos h3]; exact ⟨_, rfl, Nat.zero_le _⟩
   rw [if_neg h3]
   have key : ∀ r ∈ ae s, ∀ q ∈ resultsL own r.1 r.2, ∃ x, (val s f other q).bind (oneM (s * s)) = some x /\ x.depth + 1 <= turns own + turns other := by
     intro r hr q hq
     obtain ⟨r1, r2, r3⟩ := bI.1 hr
     obtain ⟨q1, _, q3⟩ := ax (by omega) r1 ho q hq
     have hq3 := q3 h0
     have ht3 := fA (by omega) r1 ho h0 q hq
     obtain ⟨e, he, hed⟩ := val_ok hB hB2 hD f ht q1 (by omega) (by omega)
     obtain ⟨z, hz⟩ := oneM_ok hB (val_val hB f he) (ji hB f he)
     refine ⟨z, by rw [he, Option.bind_some]; exact hz, ?_⟩
     have := (oneM_av (M := e.depth) hB hz (Nat.le_refl _)).1
     omega
   have hpo : 0 < pips own := by have := pips_lo ho.2.1; have := d5 ho.2.1; omega
   have hto : 1 <= turns own := by unfold turns; omega
   obtain ⟨M, hM⟩ : ∃ M, turns own + turns other = M + 1 := ⟨turns own + turns other - 1, by omega⟩
   have hbest : ∀ r ∈ ae s, ∃ x, ((bestS (s * s) (fun q => (val s f other q).bind (oneM (s * s))) (resultsL own r.1 r.2)).map fun t => t.2.2) = some x /\ x.depth <= M /\ Uni1 (sq s) x := by
     intro r hr
     obtain ⟨t, ht'⟩ := bestS_ok (B := s * s) (f := fun q => (val s f other q).bind (oneM (s * s))) (l := resultsL own r.1 r.2) fun q hq => by
       obtain ⟨x, hx, _⟩ := key r hr q hq
       exact ⟨x, hx⟩
     refine ⟨t.2.2, by rw [ht']; rfl, ?_⟩
     rcases fQ ht' with e | ⟨q, hq, e⟩
     · rw [e]; exact ⟨Nat.zero_le _, fq⟩
     · obtain ⟨x, hx, hd⟩ := key r hr q hq
       have e' : (val s f other q).bind (oneM (s * s)) = some t.2.2 := e; rw [hx] at e'; injection e' with e'; rw [<- e']
       refine ⟨by omega, ?_⟩
       cases hv : val s f other q with
       | none => rw [hv] at hx; cases hx
       | some z => rw [hv] at hx; exact jl hB hx (ji hB f hv)
   obtain ⟨xs, hxs⟩ := allS_ok fun r hr => (hbest r hr).imp fun x hx => hx.1
   rw [hxs, Option.bind_some, hM]
   refine mean_ok hB hB2 (iA hxs) (fun y hy => ?_) (by rw [<- hM]; exact Int.le_trans (bJ hB h2) hD)
   obtain ⟨r, hr, e⟩ := allS_mem hxs y hy; obtain ⟨x, hx, hd, hu⟩ := hbest r hr
   have hyx : y = x := by rw [hx] at e; injection e with e; exact e.symm
   rw [hyx]; have := (gQ hB hd).1 hu; have := aA hB M
   exact ⟨hd, by omega, by omega⟩
theorem win_ok {h c s:Nat} (hB:1<=sq s) (hB2:sq s<=36) {D:Nat} (hD:pw (sq s) D<=ao) {own other:List Int} (ho:PosP h c own) (ht:PosP h c other) (h2:turns own+turns other<=D):∃e,win s own other=some e/\e.depth<=turns own+turns other:=
 val_ok hB hB2 hD _ ho ht (by have:=aB ho.2.1;have:=aB ht.2.1;unfold fuel;omega) h2
theorem best_ok {h c s:Nat} (hB:1<=sq s) (hB2:sq s<=36) {D:Nat} (hD:pw (sq s) D<=ao) {own other:List Int} (ho:PosP h c own) (ht:PosP h c other) (h0:own.sum≠0) (h2:turns own+turns other<=D) {r:Nat×Nat} (h11:1<=r.1) (h12:1<=r.2):∃t,best s own other r=some t/\t.2.2.depth+1<=turns own+turns other:=by
 have hpo:0<pips own:=by have:=pips_lo ho.2.1;have:=d5 ho.2.1;omega
 have hto:1<=turns own:=by unfold turns;omega
 have key:∀q∈resultsL own r.1 r.2,∃x,sec s other q=some x/\x.depth+1<=turns own+turns other:=by
  intro q hq
  obtain⟨q1,_,_⟩:=ax h11 h12 ho q hq;have ht3:=fA h11 h12 ho h0 q hq
  obtain⟨e,he,hed⟩:=win_ok hB hB2 hD ht q1 (by omega)
  obtain⟨z,hz⟩:=oneM_ok hB (win_val hB he) (win_uni hB he)
  refine⟨z,by unfold sec;rw[he,Option.bind_some];exact hz,?_⟩
  have:=(oneM_av (M:=e.depth) hB hz (Nat.le_refl _)).1
  omega
 obtain⟨t,ht'⟩:=bestS_ok (B:=s*s) (f:=sec s other) (l:=resultsL own r.1 r.2) fun q hq=>(key q hq).imp fun x hx=>hx.1
 refine⟨t,ht',?_⟩
 rcases fQ ht' with e|⟨q,hq,e⟩
 ·rw[e];show 0+1<=_;omega
 ·obtain⟨x,hx,hd⟩:=key q hq
  rw[hx]at e;injection e with e
  rw[<- e];exact hd
end Go.Proofs.YtkaiilmgemaljaaGreat.Ra

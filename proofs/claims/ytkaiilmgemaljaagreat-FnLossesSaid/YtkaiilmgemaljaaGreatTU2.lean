/- Part of one proof. There are no conditions. -/
import Derived.Test.YtkaiilmgemaljaaGreatTU1
import Derived.Test.YtkaiilmgemaljaaGreatTZp
import Derived.Test.YtkaiilmgemaljaaGreatTZn
set_option linter.unusedVariables false
set_option linter.unusedSimpArgs false
namespace Go.Proofs.YtkaiilmgemaljaaGreat.Ra
open Go.Proofs.YtkaiilmgemaljaaGreat.Ex Go.Proofs.YtkaiilmgemaljaaGreat.Ps
theorem fQ {B:Int} {f:List Int->Option E} {l:List (List Int)} {t:Nat×Nat×E} (h:bestS B f l=some t):t.2.2=aK\/∃q∈l,f q=some t.2.2:=by
 induction l using aJ generalizing t with
 | nil=>rw[er]at h;injection h with h;subst h;exact .inl rfl
 | snoc l q ih =>
   rw [aV] at h
   cases hs : bestS B f l with
   | none => rw [hs] at h; cases h
   | some u =>
     rw [hs] at h
     cases hf : f q with
     | none => rw [hf] at h; cases h
     | some x =>
       rw [hf] at h
       simp only [Option.bind_some, Option.map_some, Option.some.injEq] at h
       subst h
       split
       · exact .inr ⟨q, by simp, hf⟩
       · rcases ih hs with i | ⟨p, hp, i⟩
         · exact .inl i
         · exact .inr ⟨p, by simp [hp], i⟩
theorem bestS_ok {B:Int} {f:List Int->Option E} {l:List (List Int)} (h:∀q∈l,∃x,f q=some x):∃t,bestS B f l=some t:=by
 induction l using aJ with
 | nil=>exact⟨_,er B f⟩
 | snoc l q ih =>
   obtain ⟨u, hu⟩ := ih fun p hp => h p (by simp [hp])
   obtain ⟨x, hx⟩ := h q (by simp)
   rw [aV, hu, Option.bind_some, hx, Option.map_some]
   exact ⟨_, rfl⟩
theorem bestS_all {B:Int} {f:List Int->Option E} {l:List (List Int)} {t:Nat×Nat×E} (h:bestS B f l=some t):∀q∈l,∃x,f q=some x:=by
 induction l using aJ generalizing t with
 | nil=>intro q hq;cases hq
 | snoc l q ih =>
   rw [aV] at h
   cases hs : bestS B f l with
   | none => rw [hs] at h; cases h
   | some u =>
     rw [hs] at h
     cases hf : f q with
     | none => rw [hf] at h; cases h
     | some x =>
       intro p hp
       rcases List.mem_append.1 hp with hp | hp
       · exact ih hs p hp
       · rw [List.mem_singleton] at hp; subst hp; exact ⟨x, hf⟩
theorem allS_mem {g:Nat×Nat->Option E} {l:List (Nat×Nat)} {t:List E} (h:allS g l=some t):∀x∈t,∃r∈l,g r=some x:=by
 induction l using aJ generalizing t with
 | nil=>unfold allS at h;simp at h;subst h;intro x hx;cases hx
 | snoc l q ih =>
   rw [cw] at h
   cases hs : allS g l with
   | none => rw [hs] at h; cases h
   | some u =>
     rw [hs] at h
     cases hf : g q with
     | none => rw [hf] at h; cases h
     | some x =>
       rw [hf] at h
       simp only [Option.bind_some, Option.map_some, Option.some.injEq] at h
       subst h
       intro y hy
       rcases List.mem_append.1 hy with hy | hy
       · obtain ⟨r, hr, e⟩ := ih hs y hy; exact ⟨r, by simp [hr], e⟩
       · rw [List.mem_singleton] at hy; subst hy; exact ⟨q, by simp, hf⟩
theorem allS_ok {g:Nat×Nat->Option E} {l:List (Nat×Nat)} (h:∀r∈l,∃x,g r=some x):∃t,allS g l=some t:=by
 induction l using aJ with
 | nil=>exact⟨[],rfl⟩
 | snoc l q ih =>
   obtain ⟨u, hu⟩ := ih fun p hp => h p (by simp [hp])
   obtain ⟨x, hx⟩ := h q (by simp)
   rw [cw, hu, Option.bind_some, hx, Option.map_some]
   exact ⟨_, rfl⟩
theorem sum_rowN (a:Nat):∀k,k<a->((rowN a k).map aH).sum=2*(k:Int)
 | 0,_=>by simp[rowN]
 | k + 1, h => by
   rw [rowN, List.map_append, List.sum_append, sum_rowN a k (by omega)]
   simp [aH, show a ≠ k + 1 by omega]
   omega
theorem iP:∀s:Nat,((ae s).map aH).sum=(s:Int)*s
 | 0=>by simp[ae]
 | a + 1 => by
   rw [ae, rowN, List.map_append, List.sum_append, List.map_append, List.sum_append, iP a, sum_rowN (a + 1) a (by omega)]
   simp [aH]
   rw [Int.add_mul, Int.mul_add]
   omega
theorem wgtL_zip:∀(l:List (Nat×Nat)) (xs:List E),l.length=xs.length->wgtL (l.zip xs)=(l.map aH).sum
 | [],[],_=>rfl
 | [],_::_,h=>by simp at h
 | _::_,[],h=>by simp at h
 | r :: l, x :: xs, h => by
   have := wgtL_zip l xs (by simpa using h)
   unfold wgtL at this ⊢
   simp [this]
theorem iM {s:Nat} {xs:List E} (h:xs.length=(ae s).length):wgtL ((ae s).zip xs)=sq s:=by
 rw[wgtL_zip _ _ h.symm,iP];rfl
theorem zip_mem {l:List (Nat×Nat)} {xs:List E} {P:E->Prop} (h:∀x∈xs,P x):∀rx∈l.zip xs,P rx.2:=fun _ hq=>h _ (List.of_mem_zip hq).2
theorem depth_all:∀xs:List E,∃M,∀x∈xs,x.depth<=M
 | []=>⟨0,fun x h=>by cases h⟩
 | a :: l => by
   obtain ⟨M, h⟩ := depth_all l
   refine ⟨max M a.depth, fun x hx => ?_⟩
   rcases List.mem_cons.1 hx with rfl | hx
   · omega
   · have := h x hx; omega
theorem avS_bd {B:Int} {M:Nat} {a b:Int}:∀{l:List ((Nat×Nat)×E)},(∀rx∈l,a<=av B M rx.2/\av B M rx.2<=b)->a*wgtL l<=avS B M l/\avS B M l<=b*wgtL l:=by
 intro l
 induction l with
 | nil=>intro _;simp[avS,wgtL]
 | cons rx l ih =>
   intro h
   obtain ⟨i1, i2⟩ := ih fun p hp => h p (by simp [hp])
   obtain ⟨h1, h2⟩ := h rx (by simp)
   have hw := fW rx.1
   have e1 : avS B M (rx :: l) = av B M rx.2 * aH rx.1 + avS B M l := by simp [avS]
   have e2 : wgtL (rx :: l) = aH rx.1 + wgtL l := by simp [wgtL]
   have k1 := Int.mul_le_mul_of_nonneg_right h1 (show 0 <= aH rx.1 by omega)
   have k2 := Int.mul_le_mul_of_nonneg_right h2 (show 0 <= aH rx.1 by omega)
   rw [e1, e2, Int.mul_add, Int.mul_add]
   omega
theorem mean_av {B:Int} (hB:1<=B) {rs:List (Nat×Nat)} {xs:List E} {x:E} {M:Nat} (h:meanE B rs xs=some x) (hm:∀y∈xs,y.depth<=M):x.depth<=M+1/\av B (M+1) x=avS B M (rs.zip xs):=by
 unfold meanE at h
 cases hs:sumE B (rs.zip xs) with
 | none=>rw[hs]at h;cases h
 | some t =>
   rw [hs, Option.bind_some] at h; obtain ⟨h1, h2⟩ := sum_av (M := M) hB hs (zip_mem hm)
   obtain ⟨k1, k2⟩ := av_mk (M := M + 1) hB h (by omega)
   refine ⟨by omega, ?_⟩
   rw [k2, <- h2, show M + 1 - (t.depth + 1) = M - t.depth by omega]
   rfl
theorem mean_uni {s:Nat} (hB:1<=sq s) {xs:List E} {x:E} (h:meanE (sq s) (ae s) xs=some x) (hl:xs.length=(ae s).length) (hu:∀y∈xs,Uni1 (sq s) y):Uni1 (sq s) x:=by
 obtain⟨M,hM⟩:=depth_all xs;obtain⟨h1,h2⟩:=mean_av hB h hM;rw[gQ hB h1,h2]
 have hb:=avS_bd (B:=sq s) (M:=M) (a:=0) (b:=pw (sq s) M) (l:=(ae s).zip xs) fun rx hr=>by
  have hx:=(List.of_mem_zip hr).2
  exact (gQ hB (hM _ hx)).1 (hu _ hx)
 rw[iM hl,Int.zero_mul]at hb
 exact⟨hb.1,by rw[bh];exact hb.2⟩
theorem mean_ok {s:Nat} (hB:1<=sq s) (hB2:sq s<=36) {xs:List E} {M:Nat} (hl:xs.length=(ae s).length) (hm:∀y∈xs,y.depth<=M/\-(pw (sq s) M)<=av (sq s) M y/\av (sq s) M y<=pw (sq s) M) (hM:pw (sq s) (M+1)<=ao):∃x,meanE (sq s) (ae s) xs=some x/\x.depth<=M+1:=by
 have hM0:pw (sq s) M<=ao:=Int.le_trans (bJ hB (by omega)) hM
 have hw:=iM hl
 obtain⟨t,ht,t1,t2,t3⟩:=sum_ok hB hM0 (l:=(ae s).zip xs) (fun rx hr=>hm _ (List.of_mem_zip hr).2) (by omega)
 rw[hw]at t2 t3;have hp:=aA hB (M-t.depth)
 have hn : -(az)<=t.num/\t.num<=az:=by
  have e:sq s*pw (sq s) M=pw (sq s) (M+1):=by rw[bh,Int.mul_comm]
  rw[e]at t2 t3
  have hq : -ao<=t.num*pw (sq s) (M-t.depth)/\t.num*pw (sq s) (M-t.depth)<=ao:=by unfold av at t2 t3;omega
  generalize pw (sq s) (M-t.depth)=k at *
  have:(t.num.natAbs:Int)<=ao:=by
   have h1:(t.num*k).natAbs=t.num.natAbs*k.natAbs:=Int.natAbs_mul _ _
   have h2:t.num.natAbs<=t.num.natAbs*k.natAbs:=Nat.le_mul_of_pos_right _ (by omega)
   have h3:((t.num*k).natAbs:Int)<=ao:=by omega
   omega
  unfold az ao at *
  omega
 obtain⟨x,hx⟩:=mk_ok hB (n:=t.num) (d:=t.depth+1) hn.1 hn.2 (Int.le_trans (bJ hB (by omega)) hM)
 refine⟨x,by unfold meanE;rw[ht,Option.bind_some,hx],?_⟩
 have:=(av_mk (M:=t.depth+1) hB hx (Nat.le_refl _)).1
 omega
theorem ji {s:Nat} (hB:1<=sq s):∀(f:Nat) {own other:List Int} {e:E},val s f own other=some e->Uni1 (sq s) e
 | 0,own,other,e,h=>by cases h
 | f + 1, own, other, e, h => by
   unfold val at h
   split at h
   · injection h with h; subst h; exact uni_one
   · split at h
     · injection h with h; subst h; exact fq
     · cases hs : allS (fun r => (bestS (s * s) (fun q => (val s f other q).bind (oneM (s * s))) (resultsL own r.1 r.2)).map fun t => t.2.2) (ae s) with
       | none => rw [hs] at h; cases h
       | some xs =>
         rw [hs] at h
         refine mean_uni hB h (iA hs) fun y hy => ?_
         obtain ⟨r, _, hr⟩ := allS_mem hs y hy
         cases ht : bestS (s * s) (fun q => (val s f other q).bind (oneM (s * s))) (resultsL own r.1 r.2) with
         | none => rw [ht] at hr; cases hr
         | some t =>
           rw [ht] at hr
           have hy' : t.2.2 = y := by simpa using hr
           rw [<- hy']
           rcases fQ ht with h0 | ⟨q, _, hq⟩
           · rw [h0]; exact fq
           · cases hv : val s f other q with
             | none => rw [hv] at hq; cases hq
             | some z => rw [hv] at hq; exact jl hB hq (ji hB f hv)
theorem win_uni {s:Nat} (hB:1<=sq s) {own other:List Int} {e:E} (h:win s own other=some e):Uni1 (sq s) e:=ji hB _ h
theorem sec_uni {s:Nat} (hB:1<=sq s) {other q:List Int} {e:E} (h:sec s other q=some e):Uni1 (sq s) e:=by
 unfold sec at h
 cases hw:win s other q with
 | none=>rw[hw]at h;cases h
 | some x=>rw[hw]at h;exact jl hB h (win_uni hB hw)
theorem best_uni {s:Nat} (hB:1<=sq s) {own other:List Int} {r:Nat×Nat} {t:Nat×Nat×E} (h:best s own other r=some t):Uni1 (sq s) t.2.2:=by
 rcases fQ h with h0|⟨q,_,hq⟩
 ·rw[h0];exact fq
 ·exact sec_uni hB hq
end Go.Proofs.YtkaiilmgemaljaaGreat.Ra

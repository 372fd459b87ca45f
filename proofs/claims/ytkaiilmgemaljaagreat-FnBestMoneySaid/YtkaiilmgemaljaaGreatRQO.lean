/- Part of one proof. There are no conditions. -/
import Derived.Test.YtkaiilmgemaljaaGreatRQL
set_option linter.unusedVariables false
set_option linter.unusedSimpArgs false
namespace Go.Proofs.YtkaiilmgemaljaaGreat
open Go.RowKit
section
variable {P:Program} {w:World}
def JN (S:Nat->Prop) (I0:World->Prop) (I1:Value->World->Prop) (c:Nat) (w:World) (n:Nat) (G:Nat->Value->Nat->Nat->World->Prop) (L:Nat->Bool) (vs:Nat->Value) (W:World):Prop:=
 Frm S w W/\((L c=false/\I0 W)\/(L c=true/\I1 (vs c) W))/\∃lo hi:Nat->Nat,(∀i,i<n->L i=true->G i (vs i) (lo i) (hi i) W/\w.heap.size<=lo i/\lo i<=hi i/\hi i<=W.heap.size)/\∀i j,i<n->j<n->L i=true->L j=true->i≠j->hi i<=lo j\/hi j<=lo i
theorem fj {id:Nat} {Q:Exit->Act->World->Prop} {a:Act} {l:List Oper} (n:Nat) (X:Nat->Bool) (ds:Nat->Nat) (S:Nat->Prop) (I0:World->Prop) (I1:Value->World->Prop) (c:Nat) (G:Nat->Value->Nat->Nat->World->Prop)
  (hm:P.follows .mixedOrders=true) (hB:ii l.toArray n X ds a.tmps.size=true) (hQ:∀(c:List PanicEntry) (a:Act) (d:Tmp) (v:Value) (w:World),Q (.panic c) (Act.put a (some d) v) w->Q (.panic c) a w)
  (hc:c<n) (hXc:X c=false) (i0:I0 w) (ib0:∀W W',I0 W->Below W.heap.size W W'->I0 W') (ib1:∀v W W',I1 v W->Below W.heap.size W W'->I1 v W')
  (stab:∀i v lo hi W W',w.heap.size<=lo->G i v lo hi W->Frm S W W'->G i v lo hi W')
  (early:∀i o,i<n→X i=true→l[i]? = some o→∀(a':Act) (W:World),Frm S w W→(I0 W∨∃v,I1 v W)→(∀t,(∀i,i<n→ds i≠t)→a'.tmps.getD t undef=a.tmps.getD t undef)→
   (∀j,j<n->Region.waitsFor .any l.toArray i j=true->∃lo hi,G j (a'.tmps.getD (ds j) undef) lo hi W)->∃v,(∀W',(execOp a'.eval o).run P W' = .ok (.value v) W')/\G i v W.heap.size W.heap.size W)
  (step:∀i o,i<n→X i=false→i≠c→l[i]? = some o→∀(a':Act) (W:World),Frm S w W→(I0 W∨∃v,I1 v W)→(∀t,(∀i,i<n→ds i≠t)→a'.tmps.getD t undef=a.tmps.getD t undef)→
   (∀j,j<n->Region.waitsFor .any l.toArray i j=true->∃lo hi,G j (a'.tmps.getD (ds j) undef) lo hi W)->MStep P o a' W (fun v W'=>Below W.heap.size W W'/\G i v W.heap.size W'.heap.size W'))
  (once:∀o,l[c]? = some o→∀(a':Act) (W:World),Frm S w W→I0 W→(∀t,(∀i,i<n→ds i≠t)→a'.tmps.getD t undef=a.tmps.getD t undef)→
   (∀j,j<n->Region.waitsFor .any l.toArray c j=true->∃lo hi,G j (a'.tmps.getD (ds j) undef) lo hi W)->MStep P o a' W (fun v W'=>Frm S W W'/\I1 v W'/\G c v W.heap.size W'.heap.size W'))
  (tail:∀(v:Nat->Value) (W:World) (lo hi:Nat->Nat),Frm S w W->I1 (v c) W->(∀i,i<n->G i (v i) (lo i) (hi i) W/\w.heap.size<=lo i/\lo i<=hi i/\hi i<=W.heap.size)->(∀i j,i<n->j<n->i≠j->hi i<=lo j\/hi j<=lo i)->wpList P l.toArray Q (l.drop n) (putV a ds v n) W):
  (Code.region id l.toArray true).wp P Q a w:=by
 have upd:∀{i:Nat} {L:Nat->Bool} {vs:Nat->Value} {W W':World} {v:Value} {L':Nat->Bool} {vs':Nat->Value},JN S I0 I1 c w n G L vs W->Frm S W W'->G i v W.heap.size W'.heap.size W'->Upd n i v L vs L' vs'->((L' c=false/\I0 W')\/(L' c=true/\I1 (vs' c) W'))->JN S I0 I1 c w n G L' vs' W':=by
  rintro i L vs W W' v L' vs' ⟨hb,_,lo,hh,h1,h2⟩ hb' hG ⟨u1,u2,u3⟩ hI
  have hz:w.heap.size<=W.heap.size:=hb.size;have hz':W.heap.size<=W'.heap.size:=hb'.size
  refine⟨hb.trans hb',hI,fun k=>if k=i then W.heap.size else lo k,fun k=>if k=i then W'.heap.size else hh k,fun k hk hL=>?_,fun k m hk hm' hLk hLm hne=>?_⟩
  ·by_cases e:k=i
   ·subst e
    simp only[if_true]
    rw[u2]
    exact⟨hG,hz,hz',Nat.le_refl _⟩
   ·simp only[if_neg e]
    obtain⟨v1,v2⟩:=u3 k hk e;rw[v1]at hL;obtain⟨g1,g2,g3,g4⟩:=h1 k hk hL;rw[v2]
    exact⟨stab _ _ _ _ _ _ g2 g1 hb',g2,g3,by omega⟩
  ·by_cases e:k=i
   ·subst e
    have em:m≠k:=Ne.symm hne
    simp only[if_true,if_neg em]
    obtain⟨v1,_⟩:=u3 m hm' em;rw[v1]at hLm;have:=(h1 m hm' hLm).2.2.2
    exact .inr (by omega)
   ·by_cases e2:m=i
    ·subst e2
     simp only[if_true,if_neg e]
     obtain⟨v1,_⟩:=u3 k hk e;rw[v1]at hLk;have:=(h1 k hk hLk).2.2.2
     exact .inl (by omega)
    ·simp only[if_neg e,if_neg e2]
     obtain⟨v1,_⟩:=u3 k hk e;obtain⟨v2,_⟩:=u3 m hm' e2;rw[v1]at hLk;rw[v2]at hLm
     exact h2 k m hk hm' hLk hLm hne
 have keepI:∀{i:Nat} {L:Nat->Bool} {vs:Nat->Value} {W W':World} {v:Value} {L':Nat->Bool} {vs':Nat->Value},i≠c->Below W.heap.size W W'->Upd n i v L vs L' vs'->((L c=false/\I0 W)\/(L c=true/\I1 (vs c) W))->((L' c=false/\I0 W')\/(L' c=true/\I1 (vs' c) W')):=by
  rintro i L vs W W' v L' vs' hne hb ⟨u1,u2,u3⟩ hI
  obtain⟨v1,v2⟩:=u3 c hc (Ne.symm hne);rw[v1,v2]
  exact hI.imp (fun⟨h1,h2⟩=>⟨h1,ib0 _ _ h2 hb⟩) fun⟨h1,h2⟩=>⟨h1,ib1 _ _ _ h2 hb⟩
 have anyI:∀{L:Nat->Bool} {vs:Nat->Value} {W:World},((L c=false/\I0 W)\/(L c=true/\I1 (vs c) W))->(I0 W\/∃v,I1 v W):=fun h=>h.imp (fun h=>h.2) fun h=>⟨_,h.2⟩
 refine ce n X ds (JN S I0 I1 c w n G) hm hB hQ ?_ ?_ ?_ ?_
 ·intro vs
  have hb:Below w.heap.size w { w with drawn:=w.drawn+1 }:=⟨rfl,rfl,rfl,Nat.le_refl _,fun _ _=>rfl⟩
  exact⟨Frm.of_below' _ hb,.inl ⟨rfl,ib0 _ _ i0 hb⟩,fun _=>0,fun _=>0,fun i _ h=>(by cases h),fun i j _ _ h=>(by cases h)⟩
 ·intro i o hi hX ho L a' W hJ hun hfar hdep
  have hJ':=hJ;obtain⟨hb,hI,lo,hh,h1,h2⟩:=hJ'
  have hne:i≠c:=fun e=>by rw[e,hXc]at hX;cases hX
  obtain⟨v,hv,hG⟩:=early i o hi hX ho a' W hb (anyI (L:=L) (vs:=fun k=>a'.tmps.getD (ds k) undef) hI) hfar fun j hj hw=>⟨lo j,hh j,(h1 j hj (hdep j hj hw)).1⟩
  exact⟨v,hv,fun L' vs' hu=>upd hJ (Frm.refl _ _) hG hu (keepI hne (Below.refl _ _) hu hI)⟩
 ·intro i o hi hX ho L a' W hJ hun hfar hdep
  have hJ':=hJ;obtain⟨hb,hI,lo,hh,h1,h2⟩:=hJ'
  by_cases hne:i=c
  ·subst hne
   have h0:I0 W:=by
    rcases hI with⟨_,h⟩|⟨h,_⟩
    ·exact h
    ·rw[hun]at h;cases h
   exact (once o ho a' W hb h0 hfar fun j hj hw=>⟨lo j,hh j,(h1 j hj (hdep j hj hw)).1⟩).mono fun v W' ⟨hb',hI',hG⟩ L' vs' hu=>upd hJ hb' hG hu (.inr ⟨hu.1,by rw[hu.2.1];exact hI'⟩)
  ·exact (step i o hi hX hne ho a' W hb (anyI (L:=L) (vs:=fun k=>a'.tmps.getD (ds k) undef) hI) hfar fun j hj hw=>⟨lo j,hh j,(h1 j hj (hdep j hj hw)).1⟩).mono fun v W' ⟨hb',hG⟩ L' vs' hu=>upd hJ (Frm.of_below' _ hb') hG hu (keepI hne hb' hu hI)
 ·intro L v W hL hJ
  obtain⟨hb,hI,lo,hh,h1,h2⟩:=hJ
  have h1':I1 (v c) W:=by
   rcases hI with⟨h,_⟩|⟨_,h⟩
   ·rw[hL c hc]at h;cases h
   ·exact h
  exact tail v W lo hh hb h1' (fun i hi=>h1 i hi (hL i hi)) fun i j hi hj hne=>h2 i j hi hj (hL i hi) (hL j hj) hne
end
open Go.RowKit
section
variable {P:Program} {w:World}
def JO (c:Nat) (w:World) (n:Nat) (G:Bool->Nat->Value->Nat->Nat->World->Prop) (L:Nat->Bool) (vs:Nat->Value) (W:World):Prop:=
 Below w.heap.size w W/\∃lo hi:Nat->Nat,(∀i,i<n->L i=true->G (L c) i (vs i) (lo i) (hi i) W/\w.heap.size<=lo i/\lo i<=hi i/\hi i<=W.heap.size)/\∀i j,i<n->j<n->L i=true->L j=true->i≠j->hi i<=lo j\/hi j<=lo i
theorem dQ {id:Nat} {Q:Exit->Act->World->Prop} {a:Act} {l:List Oper} (n:Nat) (X:Nat->Bool) (ds:Nat->Nat) (d c:Nat) (G:Bool->Nat->Value->Nat->Nat->World->Prop)
  (hm:P.follows .mixedOrders=true) (hB:ii l.toArray n X ds a.tmps.size=true) (hQ:∀(c:List PanicEntry) (a:Act) (d:Tmp) (v:Value) (w:World),Q (.panic c) (Act.put a (some d) v) w->Q (.panic c) a w)
  (hc:c<n) (hd:d<n) (hXc:X c=false) (hcd:Region.waitsFor .any l.toArray c d=true)
  (stab:∀b i v lo hi W W',w.heap.size<=lo->hi<=W.heap.size->G b i v lo hi W->Below W.heap.size W W'->G b i v lo hi W')
  (conv:∀i v lo hi W W',w.heap.size<=lo->hi<=W.heap.size->G false i v lo hi W->(i≠d->Frm (fun k=>w.heap.size<=k/\¬(lo<=k/\k<hi)) W W')->G true i v lo hi W')
  (early:∀b i o,i<n→X i=true→l[i]? = some o→∀(a':Act) (W:World),Below w.heap.size w W→(∀t,(∀i,i<n→ds i≠t)→a'.tmps.getD t undef=a.tmps.getD t undef)→
   (∀j,j<n->Region.waitsFor .any l.toArray i j=true->∃lo hi,G b j (a'.tmps.getD (ds j) undef) lo hi W)->∃v,(∀W',(execOp a'.eval o).run P W' = .ok (.value v) W')/\G b i v W.heap.size W.heap.size W)
  (step:∀b i o,i<n→X i=false→i≠c→l[i]? = some o→∀(a':Act) (W:World),Below w.heap.size w W→(∀t,(∀i,i<n→ds i≠t)→a'.tmps.getD t undef=a.tmps.getD t undef)→
   (∀j,j<n->Region.waitsFor .any l.toArray i j=true->∃lo hi,G b j (a'.tmps.getD (ds j) undef) lo hi W)->MStep P o a' W (fun v W'=>Below W.heap.size W W'/\G b i v W.heap.size W'.heap.size W'))
  (once:∀o,l[c]? = some o→∀(a':Act) (W:World) (lo hi:Nat),Below w.heap.size w W→w.heap.size≤lo→hi≤W.heap.size→G false d (a'.tmps.getD (ds d) undef) lo hi W→(∀t,(∀i,i<n→ds i≠t)→a'.tmps.getD t undef=a.tmps.getD t undef)→
   (∀j,j<n->Region.waitsFor .any l.toArray c j=true->∃lo hi,G false j (a'.tmps.getD (ds j) undef) lo hi W)->MStep P o a' W (fun v W'=>Frm (fun k=>lo<=k/\k<hi) W W'/\G true c v W.heap.size W'.heap.size W'))
  (tail:∀(v:Nat->Value) (W:World) (lo hi:Nat->Nat),Below w.heap.size w W->(∀i,i<n->G true i (v i) (lo i) (hi i) W/\w.heap.size<=lo i/\lo i<=hi i/\hi i<=W.heap.size)->(∀i j,i<n->j<n->i≠j->hi i<=lo j\/hi j<=lo i)->wpList P l.toArray Q (l.drop n) (putV a ds v n) W):
  (Code.region id l.toArray true).wp P Q a w:=by
 have fin:∀{i:Nat} {L:Nat->Bool} {a':Act} {W:World} {lo hh:Nat->Nat},Below w.heap.size w W->(∀i,i<n->L i=true->G (L c) i (a'.tmps.getD (ds i) undef) (lo i) (hh i) W/\w.heap.size<=lo i/\lo i<=hh i/\hh i<=W.heap.size)->(∀i j,i<n->j<n->L i=true->L j=true->i≠j->hh i<=lo j\/hh j<=lo i)->
 ∀ (v : Value) (W' : World) (L' : Nat → Bool) (vs' : Nat → Value), W.heap.size ≤ W'.heap.size → Below w.heap.size w W' → Upd n i v L (fun k => a'.tmps.getD (ds k) undef) L' vs' → G (L' c) i v W.heap.size W'.heap.size W' → (∀ k, k < n → k ≠ i → L k = true → G (L' c) k (a'.tmps.getD (ds k) undef) (lo k) (hh k) W') → JO c w n G L' vs' W' := by
    intro i L a' W lo hh hb h1 h2
    rintro v W' L' vs' hz' hbw ⟨u1, u2, u3⟩ hG hold
    have hz : w.heap.size <= W.heap.size := hb.size
    refine ⟨hbw, fun k => if k = i then W.heap.size else lo k, fun k => if k = i then W'.heap.size else hh k, fun k hk hL => ?_, fun k m hk hm' hLk hLm hne => ?_⟩
    · by_cases e : k = i
      · subst e
        simp only [if_true]
        rw [u2]
        exact ⟨hG, hz, hz', Nat.le_refl _⟩
      · simp only [if_neg e]
        obtain ⟨v1, v2⟩ := u3 k hk e; rw [v1] at hL; obtain ⟨g1, g2, g3, g4⟩ := h1 k hk hL; rw [v2]
        exact ⟨hold k hk e hL, g2, g3, by omega⟩
    · by_cases e : k = i
      · subst e
        have em : m ≠ k := Ne.symm hne
        simp only [if_true, if_neg em]
        obtain ⟨v1, _⟩ := u3 m hm' em; rw [v1] at hLm; have := (h1 m hm' hLm).2.2.2
        exact .inr (by omega)
      · by_cases e2 : m = i
        · subst e2
          simp only [if_true, if_neg e]
          obtain ⟨v1, _⟩ := u3 k hk e; rw [v1] at hLk; have := (h1 k hk hLk).2.2.2
          exact .inl (by omega)
        · simp only [if_neg e, if_neg e2]
          obtain ⟨v1, _⟩ := u3 k hk e; obtain ⟨v2, _⟩ := u3 m hm' e2; rw [v1] at hLk; rw [v2] at hLm
          exact h2 k m hk hm' hLk hLm hne
 refine ce n X ds (JO c w n G) hm hB hQ ?_ ?_ ?_ ?_
 ·intro vs
  exact⟨⟨rfl,rfl,rfl,Nat.le_refl _,fun _ _=>rfl⟩,fun _=>0,fun _=>0,fun i _ h=>(by cases h),fun i j _ _ h=>(by cases h)⟩
 ·intro i o hi hX ho L a' W hJ hun hfar hdep
  obtain⟨hb,lo,hh,h1,h2⟩:=hJ
  have hic:i≠c:=fun e=>by rw[e,hXc]at hX;cases hX
  obtain⟨v,hv,hG⟩:=early (L c) i o hi hX ho a' W hb hfar fun j hj hw=>⟨lo j,hh j,(h1 j hj (hdep j hj hw)).1⟩
  refine⟨v,hv,fun L' vs' hu=>?_⟩
  have hL':L' c=L c:=(hu.2.2 c hc (Ne.symm hic)).1
  refine fin hb h1 h2 v W L' vs' (Nat.le_refl _) hb hu (by rw[hL'];exact hG) fun k hk hne hL=>?_
  rw[hL']
  exact (h1 k hk hL).1
 ·intro i o hi hX ho L a' W hJ hun hfar hdep
  obtain⟨hb,lo,hh,h1,h2⟩:=hJ
  by_cases hic:i=c
  ·subst hic
   obtain⟨gd,gd2,gd3,gd4⟩:=h1 d hd (hdep d hd hcd);rw[hun]at gd
   refine (once o ho a' W (lo d) (hh d) hb gd2 gd4 gd hfar fun j hj hw=>⟨lo j,hh j,by have:=(h1 j hj (hdep j hj hw)).1;rwa [hun]at this⟩).mono ?_
   rintro v W' ⟨hf,hG⟩ L' vs' hu
   have hL':L' i=true:=hu.1
   refine fin hb h1 h2 v W' L' vs' hf.size ?_ hu (by rw[hL'];exact hG) fun k hk hne hL=>?_
   ·exact⟨hf.os.trans hb.os,hf.tape.trans hb.tape,hf.output.trans hb.output,Nat.le_trans hb.size hf.size,fun k hk=>(hf.block k (Nat.lt_of_lt_of_le hk hb.size) fun h=>by omega).trans (hb.block k hk)⟩
   ·rw[hL']
    obtain⟨g1,g2,g3,g4⟩:=h1 k hk hL;rw[hun]at g1
    refine conv k _ _ _ W W' g2 g4 g1 fun hkd=>hf.mono fun j hj=>⟨by omega,fun h=>?_⟩
    rcases h2 k d hk hd hL (hdep d hd hcd) hkd with h|h<;>omega
  ·refine (step (L c) i o hi hX hic ho a' W hb hfar fun j hj hw=>⟨lo j,hh j,(h1 j hj (hdep j hj hw)).1⟩).mono ?_
   rintro v W' ⟨hb',hG⟩ L' vs' hu
   have hL':L' c=L c:=(hu.2.2 c hc (Ne.symm hic)).1
   refine fin hb h1 h2 v W' L' vs' hb'.size (hb.trans (hb'.mono hb.size)) hu (by rw[hL'];exact hG) fun k hk hne hL=>?_
   rw[hL'];obtain⟨g1,g2,g3,g4⟩:=h1 k hk hL
   exact stab _ _ _ _ _ _ _ g2 g4 g1 hb'
 ·intro L v W hL hJ
  obtain⟨hb,lo,hh,h1,h2⟩:=hJ;rw[hL c hc]at h1
  exact tail v W lo hh hb (fun i hi=>h1 i hi (hL i hi)) fun i j hi hj hne=>h2 i j hi hj (hL i hi) (hL j hj) hne
end
end Go.Proofs.YtkaiilmgemaljaaGreat

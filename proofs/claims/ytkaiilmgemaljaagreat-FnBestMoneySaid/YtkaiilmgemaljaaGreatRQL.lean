/- Part of one proof. There are no conditions. -/
import Derived.Test.YtkaiilmgemaljaaGreatRM10
set_option linter.unusedVariables false
set_option linter.unusedSimpArgs false
namespace Go.Proofs.YtkaiilmgemaljaaGreat
open Go.RowKit
section
variable {P:Program} {w:World}
theorem jm {id:Nat} {Q:Exit->Act->World->Prop} {a:Act} {l:List Oper} (n:Nat) (X:Nat->Bool) (ds:Nat->Nat) (G:Nat->Value->Nat->Nat->World->Prop)
  (hm:P.follows .mixedOrders=true) (hB:ii l.toArray n X ds a.tmps.size=true) (hQ:∀(c:List PanicEntry) (a:Act) (d:Tmp) (v:Value) (w:World),Q (.panic c) (Act.put a (some d) v) w->Q (.panic c) a w)
  (stab:∀i v lo hi W W',G i v lo hi W->Below W.heap.size W W'->G i v lo hi W')
  (early:∀i o,i<n→X i=true→l[i]? = some o→∀(a':Act) (W:World),Below w.heap.size w W→(∀t,(∀i,i<n→ds i≠t)→a'.tmps.getD t undef=a.tmps.getD t undef)→
   (∀j,j<n->Region.waitsFor .any l.toArray i j=true->∃lo hi,G j (a'.tmps.getD (ds j) undef) lo hi W)->∃v,(∀W',(execOp a'.eval o).run P W' = .ok (.value v) W')/\G i v W.heap.size W.heap.size W)
  (step:∀i o,i<n→X i=false→l[i]? = some o→∀(a':Act) (W:World),Below w.heap.size w W→(∀t,(∀i,i<n→ds i≠t)→a'.tmps.getD t undef=a.tmps.getD t undef)→
   (∀j,j<n->Region.waitsFor .any l.toArray i j=true->∃lo hi,G j (a'.tmps.getD (ds j) undef) lo hi W)->MStep P o a' W (fun v W'=>Below W.heap.size W W'/\G i v W.heap.size W'.heap.size W'))
  (tail:∀(v:Nat->Value) (W:World) (lo hi:Nat->Nat),Below w.heap.size w W->(∀i,i<n->G i (v i) (lo i) (hi i) W/\w.heap.size<=lo i/\lo i<=hi i/\hi i<=W.heap.size)->(∀i j,i<n->j<n->i≠j->hi i<=lo j\/hi j<=lo i)->wpList P l.toArray Q (l.drop n) (putV a ds v n) W):
  (Code.region id l.toArray true).wp P Q a w:=by
 have upd:∀{i:Nat} {L:Nat->Bool} {vs:Nat->Value} {W W':World} {v:Value} {L':Nat->Bool} {vs':Nat->Value},JK w n G L vs W->Below W.heap.size W W'->G i v W.heap.size W'.heap.size W'->Upd n i v L vs L' vs'->JK w n G L' vs' W':=by
  rintro i L vs W W' v L' vs' ⟨hb,lo,hh,h1,h2⟩ hb' hG ⟨u1,u2,u3⟩
  have hz:w.heap.size<=W.heap.size:=hb.size;have hz':W.heap.size<=W'.heap.size:=hb'.size
  refine⟨hb.trans (hb'.mono hz),fun k=>if k=i then W.heap.size else lo k,fun k=>if k=i then W'.heap.size else hh k,fun k hk hL=>?_,fun k m hk hm' hLk hLm hne=>?_⟩
  ·by_cases e:k=i
   ·subst e
    simp only[if_true]
    rw[u2]
    exact⟨hG,hz,hz',Nat.le_refl _⟩
   ·simp only[if_neg e]
    obtain⟨v1,v2⟩:=u3 k hk e;rw[v1]at hL;obtain⟨g1,g2,g3,g4⟩:=h1 k hk hL;rw[v2]
    exact⟨stab _ _ _ _ _ _ g1 hb',g2,g3,by omega⟩
  ·by_cases e:k=i
   ·subst e
    have em:m≠k:=Ne.symm hne
    simp only[if_true,if_neg em]
    obtain⟨v1,_⟩:=u3 m hm' em;rw[v1]at hLm;have:=(h1 m hm' hLm).2.2.2
    exact .inr (by omega)
   ·by_cases e2:m=i
    ·subst e2
     simp only[if_true,if_neg e]
     obtain⟨v1,_⟩:=u3 k hk e;rw[v1]at hLk;have:=(h1 k hk hLk).2.2.2
     exact .inl (by omega)
    ·simp only[if_neg e,if_neg e2]
     obtain⟨v1,_⟩:=u3 k hk e;obtain⟨v2,_⟩:=u3 m hm' e2;rw[v1]at hLk;rw[v2]at hLm
     exact h2 k m hk hm' hLk hLm hne
 refine ce n X ds (JK w n G) hm hB hQ ?_ ?_ ?_ ?_
 ·intro vs
  exact⟨⟨rfl,rfl,rfl,Nat.le_refl _,fun _ _=>rfl⟩,fun _=>0,fun _=>0,fun i _ h=>(by cases h),fun i j _ _ h=>(by cases h)⟩
 ·intro i o hi hX ho L a' W hJ hun hfar hdep
  have hJ':=hJ;obtain⟨hb,lo,hh,h1,h2⟩:=hJ'
  obtain⟨v,hv,hG⟩:=early i o hi hX ho a' W hb hfar fun j hj hw=>⟨lo j,hh j,(h1 j hj (hdep j hj hw)).1⟩
  exact⟨v,hv,fun L' vs' hu=>upd hJ (Below.refl _ _) hG hu⟩
 ·intro i o hi hX ho L a' W hJ hun hfar hdep
  have hJ':=hJ;obtain⟨hb,lo,hh,h1,h2⟩:=hJ'
  exact (step i o hi hX ho a' W hb hfar fun j hj hw=>⟨lo j,hh j,(h1 j hj (hdep j hj hw)).1⟩).mono fun v W' ⟨hb',hG⟩ L' vs' hu=>upd hJ hb' hG hu
 ·intro L v W hL hJ
  obtain⟨hb,lo,hh,h1,h2⟩:=hJ
  exact tail v W lo hh hb (fun i hi=>h1 i hi (hL i hi)) fun i j hi hj hne=>h2 i j hi hj (hL i hi) (hL j hj) hne
end
end Go.Proofs.YtkaiilmgemaljaaGreat

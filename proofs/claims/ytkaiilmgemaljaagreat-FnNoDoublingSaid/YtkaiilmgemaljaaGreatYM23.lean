/- Part of one proof. There are no conditions. -/
import Derived.Test.YtkaiilmgemaljaaGreatYQL
import Derived.Test.YtkaiilmgemaljaaGreatYM14
import Derived.Test.YtkaiilmgemaljaaGreatYM22
set_option linter.unusedVariables false
set_option linter.unusedSimpArgs false
set_option maxHeartbeats 0
set_option maxRecDepth 100000
namespace Go.Proofs.YtkaiilmgemaljaaGreat
open Go.RowKit
section
variable {P:Program} {w:World}
def JN (S:Nat->Prop) (I0:World->Prop) (I1:Value->World->Prop) (c:Nat) (w:World) (n:Nat) (G:Nat->Value->Nat->Nat->World->Prop) (L:Nat->Bool) (vs:Nat->Value) (W:World):Prop:=
 Frm S w W/\((L c=false/\I0 W)\/(L c=true/\I1 (vs c) W))/\∃lo hi:Nat->Nat,(∀i,i<n->L i=true->G i (vs i) (lo i) (hi i) W/\w.heap.size<=lo i/\lo i<=hi i/\hi i<=W.heap.size)/\∀i j,i<n->j<n->L i=true->L j=true->i≠j->hi i<=lo j\/hi j<=lo i
theorem fi {id:Nat} {Q:Exit->Act->World->Prop} {a:Act} {l:List Oper} (n:Nat) (X:Nat->Bool) (ds:Nat->Nat) (S:Nat->Prop) (I0:World->Prop) (I1:Value->World->Prop) (c:Nat) (G:Nat->Value->Nat->Nat->World->Prop)
  (hm:P.follows .mixedOrders=true) (hB:ig l.toArray n X ds a.tmps.size=true) (hQ:∀(c:List PanicEntry) (a:Act) (d:Tmp) (v:Value) (w:World),Q (.panic c) (Act.put a (some d) v) w->Q (.panic c) a w)
  (hc:c<n) (hXc:X c=false) (i0:I0 w) (ib0:∀W W',I0 W->Below W.heap.size W W'->I0 W') (ib1:∀v W W',I1 v W->Below W.heap.size W W'->I1 v W')
  (stab:∀i v lo hi W W',w.heap.size<=lo->G i v lo hi W->Frm S W W'->G i v lo hi W')
  (early:∀i o,i<n→X i=true→l[i]? = some o→∀(a':Act) (W:World),Frm S w W→(I0 W∨∃v,I1 v W)→(∀t,(∀i,i<n→ds i≠t)→a'.tmps.getD t undef=a.tmps.getD t undef)→
   (∀j,j<n->Region.waitsFor .any l.toArray i j=true->∃lo hi,G j (a'.tmps.getD (ds j) undef) lo hi W)->∃v,(∀W',(execOp a'.eval o).run P W' = .ok (.value v) W')/\G i v W.heap.size W.heap.size W)
  (step:∀i o,i<n→X i=false→i≠c→l[i]? = some o→∀(a':Act) (W:World),Frm S w W→(I0 W∨∃v,I1 v W)→(∀t,(∀i,i<n→ds i≠t)→a'.tmps.getD t undef=a.tmps.getD t undef)→
   (∀j,j<n->Region.waitsFor .any l.toArray i j=true->∃lo hi,G j (a'.tmps.getD (ds j) undef) lo hi W)->MStep P o a' W (fun v W'=>Below W.heap.size W W'/\G i v W.heap.size W'.heap.size W'))
  (once:∀o,l[c]? = some o→∀(a':Act) (W:World),Frm S w W→I0 W→(∀t,(∀i,i<n→ds i≠t)→a'.tmps.getD t undef=a.tmps.getD t undef)→
   (∀j,j<n->Region.waitsFor .any l.toArray c j=true->∃lo hi,G j (a'.tmps.getD (ds j) undef) lo hi W)->MStep P o a' W (fun v W'=>Frm S W W'/\I1 v W'/\G c v W.heap.size W'.heap.size W'))
  (tail:∀(v:Nat->Value) (W:World) (lo hi:Nat->Nat),Frm S w W->I1 (v c) W->(∀i,i<n->G i (v i) (lo i) (hi i) W/\w.heap.size<=lo i/\lo i<=hi i/\hi i<=W.heap.size)->(∀i j,i<n->j<n->i≠j->hi i<=lo j\/hi j<=lo i)->wpList P l.toArray Q (l.drop n) (putV a ds v n) W):
  (Code.region id l.toArray true).wp P Q a w:=by
 have upd:∀{i:Nat} {L:Nat->Bool} {vs:Nat->Value} {W W':World} {v:Value} {L':Nat->Bool} {vs':Nat->Value},JN S I0 I1 c w n G L vs W->Frm S W W'->G i v W.heap.size W'.heap.size W'->Upd n i v L vs L' vs'->((L' c=false/\I0 W')\/(L' c=true/\I1 (vs' c) W'))->JN S I0 I1 c w n G L' vs' W':=by
  rintro i L vs W W' v L' vs' ⟨hb,_,lo,hh,h1,h2⟩ hb' hG ⟨u1,u2,u3⟩ hI
  have hz:w.heap.size<=W.heap.size:=hb.size;have hz':W.heap.size<=W'.heap.size:=hb'.size
  refine⟨hb.trans hb',hI,fun k=>if k=i then W.heap.size else lo k,fun k=>if k=i then W'.heap.size else hh k,fun k hk hL=>?_,fun k m hk hm' hLk hLm hne=>?_⟩
  ·by_cases e:k=i
   ·subst e
    simp only[if_true]
    rw[u2]
    exact⟨hG,hz,hz',Nat.le_refl _⟩
   ·simp only[if_neg e]
    obtain⟨v1,v2⟩:=u3 k hk e;rw[v1]at hL;obtain⟨g1,g2,g3,g4⟩:=h1 k hk hL;rw[v2]
    exact⟨stab _ _ _ _ _ _ g2 g1 hb',g2,g3,by omega⟩
  ·by_cases e:k=i
   ·subst e
    have em:m≠k:=Ne.symm hne
    simp only[if_true,if_neg em]
    obtain⟨v1,_⟩:=u3 m hm' em;rw[v1]at hLm;have:=(h1 m hm' hLm).2.2.2
    exact .inr (by omega)
   ·by_cases e2:m=i
    ·subst e2
     simp only[if_true,if_neg e]
     obtain⟨v1,_⟩:=u3 k hk e;rw[v1]at hLk;have:=(h1 k hk hLk).2.2.2
     exact .inl (by omega)
    ·simp only[if_neg e,if_neg e2]
     obtain⟨v1,_⟩:=u3 k hk e;obtain⟨v2,_⟩:=u3 m hm' e2;rw[v1]at hLk;rw[v2]at hLm
     exact h2 k m hk hm' hLk hLm hne
 have keepI:∀{i:Nat} {L:Nat->Bool} {vs:Nat->Value} {W W':World} {v:Value} {L':Nat->Bool} {vs':Nat->Value},i≠c->Below W.heap.size W W'->Upd n i v L vs L' vs'->((L c=false/\I0 W)\/(L c=true/\I1 (vs c) W))->((L' c=false/\I0 W')\/(L' c=true/\I1 (vs' c) W')):=by
  rintro i L vs W W' v L' vs' hne hb ⟨u1,u2,u3⟩ hI
  obtain⟨v1,v2⟩:=u3 c hc (Ne.symm hne);rw[v1,v2]
  exact hI.imp (fun⟨h1,h2⟩=>⟨h1,ib0 _ _ h2 hb⟩) fun⟨h1,h2⟩=>⟨h1,ib1 _ _ _ h2 hb⟩
 have anyI:∀{L:Nat->Bool} {vs:Nat->Value} {W:World},((L c=false/\I0 W)\/(L c=true/\I1 (vs c) W))->(I0 W\/∃v,I1 v W):=fun h=>h.imp (fun h=>h.2) fun h=>⟨_,h.2⟩
 refine cO n X ds (JN S I0 I1 c w n G) hm hB hQ ?_ ?_ ?_ ?_
 ·intro vs
  have hb:Below w.heap.size w { w with drawn:=w.drawn+1 }:=⟨rfl,rfl,rfl,Nat.le_refl _,fun _ _=>rfl⟩
  exact⟨Frm.of_below' _ hb,.inl ⟨rfl,ib0 _ _ i0 hb⟩,fun _=>0,fun _=>0,fun i _ h=>(by cases h),fun i j _ _ h=>(by cases h)⟩
 ·intro i o hi hX ho L a' W hJ hun hfar hdep
  have hJ':=hJ;obtain⟨hb,hI,lo,hh,h1,h2⟩:=hJ'
  have hne:i≠c:=fun e=>by rw[e,hXc]at hX;cases hX
  obtain⟨v,hv,hG⟩:=early i o hi hX ho a' W hb (anyI (L:=L) (vs:=fun k=>a'.tmps.getD (ds k) undef) hI) hfar fun j hj hw=>⟨lo j,hh j,(h1 j hj (hdep j hj hw)).1⟩
  exact⟨v,hv,fun L' vs' hu=>upd hJ (Frm.refl _ _) hG hu (keepI hne (Below.refl _ _) hu hI)⟩
 ·intro i o hi hX ho L a' W hJ hun hfar hdep
  have hJ':=hJ;obtain⟨hb,hI,lo,hh,h1,h2⟩:=hJ'
  by_cases hne:i=c
  ·subst hne
   have h0:I0 W:=by
    rcases hI with⟨_,h⟩|⟨h,_⟩
    ·exact h
    ·rw[hun]at h;cases h
   exact (once o ho a' W hb h0 hfar fun j hj hw=>⟨lo j,hh j,(h1 j hj (hdep j hj hw)).1⟩).mono fun v W' ⟨hb',hI',hG⟩ L' vs' hu=>upd hJ hb' hG hu (.inr ⟨hu.1,by rw[hu.2.1];exact hI'⟩)
  ·exact (step i o hi hX hne ho a' W hb (anyI (L:=L) (vs:=fun k=>a'.tmps.getD (ds k) undef) hI) hfar fun j hj hw=>⟨lo j,hh j,(h1 j hj (hdep j hj hw)).1⟩).mono fun v W' ⟨hb',hG⟩ L' vs' hu=>upd hJ (Frm.of_below' _ hb') hG hu (keepI hne hb' hu hI)
 ·intro L v W hL hJ
  obtain⟨hb,hI,lo,hh,h1,h2⟩:=hJ
  have h1':I1 (v c) W:=by
   rcases hI with⟨h,_⟩|⟨_,h⟩
   ·rw[hL c hc]at h;cases h
   ·exact h
  exact tail v W lo hh hb h1' (fun i hi=>h1 i hi (hL i hi)) fun i j hi hj hne=>h2 i j hi hj (hL i hi) (hL j hj) hne
end
open Go.RowKit
section
variable {P:Program} {w:World}
def JO (c:Nat) (w:World) (n:Nat) (G:Bool->Nat->Value->Nat->Nat->World->Prop) (L:Nat->Bool) (vs:Nat->Value) (W:World):Prop:=
 Below w.heap.size w W/\∃lo hi:Nat->Nat,(∀i,i<n->L i=true->G (L c) i (vs i) (lo i) (hi i) W/\w.heap.size<=lo i/\lo i<=hi i/\hi i<=W.heap.size)/\∀i j,i<n->j<n->L i=true->L j=true->i≠j->hi i<=lo j\/hi j<=lo i
theorem fS {id:Nat} {Q:Exit->Act->World->Prop} {a:Act} {l:List Oper} (n:Nat) (X:Nat->Bool) (ds:Nat->Nat) (d c:Nat) (G:Bool->Nat->Value->Nat->Nat->World->Prop)
  (hm:P.follows .mixedOrders=true) (hB:ig l.toArray n X ds a.tmps.size=true) (hQ:∀(c:List PanicEntry) (a:Act) (d:Tmp) (v:Value) (w:World),Q (.panic c) (Act.put a (some d) v) w->Q (.panic c) a w)
  (hc:c<n) (hd:d<n) (hXc:X c=false) (hcd:Region.waitsFor .any l.toArray c d=true)
  (stab:∀b i v lo hi W W',w.heap.size<=lo->hi<=W.heap.size->G b i v lo hi W->Below W.heap.size W W'->G b i v lo hi W')
  (conv:∀i v lo hi W W',w.heap.size<=lo->hi<=W.heap.size->G false i v lo hi W->(i≠d->Frm (fun k=>w.heap.size<=k/\¬(lo<=k/\k<hi)) W W')->G true i v lo hi W')
  (early:∀b i o,i<n→X i=true→l[i]? = some o→∀(a':Act) (W:World),Below w.heap.size w W→(∀t,(∀i,i<n→ds i≠t)→a'.tmps.getD t undef=a.tmps.getD t undef)→
   (∀j,j<n->Region.waitsFor .any l.toArray i j=true->∃lo hi,G b j (a'.tmps.getD (ds j) undef) lo hi W)->∃v,(∀W',(execOp a'.eval o).run P W' = .ok (.value v) W')/\G b i v W.heap.size W.heap.size W)
  (step:∀b i o,i<n→X i=false→i≠c→l[i]? = some o→∀(a':Act) (W:World),Below w.heap.size w W→(∀t,(∀i,i<n→ds i≠t)→a'.tmps.getD t undef=a.tmps.getD t undef)→
   (∀j,j<n->Region.waitsFor .any l.toArray i j=true->∃lo hi,G b j (a'.tmps.getD (ds j) undef) lo hi W)->MStep P o a' W (fun v W'=>Below W.heap.size W W'/\G b i v W.heap.size W'.heap.size W'))
  (once:∀o,l[c]? = some o→∀(a':Act) (W:World) (lo hi:Nat),Below w.heap.size w W→w.heap.size≤lo→hi≤W.heap.size→G false d (a'.tmps.getD (ds d) undef) lo hi W→(∀t,(∀i,i<n→ds i≠t)→a'.tmps.getD t undef=a.tmps.getD t undef)→
   (∀j,j<n->Region.waitsFor .any l.toArray c j=true->∃lo hi,G false j (a'.tmps.getD (ds j) undef) lo hi W)->MStep P o a' W (fun v W'=>Frm (fun k=>lo<=k/\k<hi) W W'/\G true c v W.heap.size W'.heap.size W'))
  (tail:∀(v:Nat->Value) (W:World) (lo hi:Nat->Nat),Below w.heap.size w W->(∀i,i<n->G true i (v i) (lo i) (hi i) W/\w.heap.size<=lo i/\lo i<=hi i/\hi i<=W.heap.size)->(∀i j,i<n->j<n->i≠j->hi i<=lo j\/hi j<=lo i)->wpList P l.toArray Q (l.drop n) (putV a ds v n) W):
  (Code.region id l.toArray true).wp P Q a w:=by
 have fin:∀{i:Nat} {L:Nat->Bool} {a':Act} {W:World} {lo hh:Nat->Nat},Below w.heap.size w W->(∀i,i<n->L i=true->G (L c) i (a'.tmps.getD (ds i) undef) (lo i) (hh i) W/\w.heap.size<=lo i/\lo i<=hh i/\hh i<=W.heap.size)->(∀i j,i<n->j<n->L i=true->L j=true->i≠j->hh i<=lo j\/hh j<=lo i)->
 ∀ (v : Value) (W' : World) (L' : Nat → Bool) (vs' : Nat → Value), W.heap.size ≤ W'.heap.size → Below w.heap.size w W' → Upd n i v L (fun k => a'.tmps.getD (ds k) undef) L' vs' → G (L' c) i v W.heap.size W'.heap.size W' → (∀ k, k < n → k ≠ i → L k = true → G (L' c) k (a'.tmps.getD (ds k) undef) (lo k) (hh k) W') → JO c w n G L' vs' W' := by
    intro i L a' W lo hh hb h1 h2
    rintro v W' L' vs' hz' hbw ⟨u1, u2, u3⟩ hG hold
    have hz : w.heap.size <= W.heap.size := hb.size
    refine ⟨hbw, fun k => if k = i then W.heap.size else lo k, fun k => if k = i then W'.heap.size else hh k, fun k hk hL => ?_, fun k m hk hm' hLk hLm hne => ?_⟩
    · by_cases e : k = i
      · subst e
        simp only [if_true]
        rw [u2]
        exact ⟨hG, hz, hz', Nat.le_refl _⟩
      · simp only [if_neg e]
        obtain ⟨v1, v2⟩ := u3 k hk e; rw [v1] at hL; obtain ⟨g1, g2, g3, g4⟩ := h1 k hk hL; rw [v2]
        exact ⟨hold k hk e hL, g2, g3, by omega⟩
    · by_cases e : k = i
      · subst e
        have em : m ≠ k := Ne.symm hne
        simp only [if_true, if_neg em]
        obtain ⟨v1, _⟩ := u3 m hm' em; rw [v1] at hLm; have := (h1 m hm' hLm).2.2.2
        exact .inr (by omega)
      · by_cases e2 : m = i
        · subst e2
          simp only [if_true, if_neg e]
          obtain ⟨v1, _⟩ := u3 k hk e; rw [v1] at hLk; have := (h1 k hk hLk).2.2.2
          exact .inl (by omega)
        · simp only [if_neg e, if_neg e2]
          obtain ⟨v1, _⟩ := u3 k hk e; obtain ⟨v2, _⟩ := u3 m hm' e2; rw [v1] at hLk; rw [v2] at hLm
          exact h2 k m hk hm' hLk hLm hne
 refine cO n X ds (JO c w n G) hm hB hQ ?_ ?_ ?_ ?_
 ·intro vs
  exact⟨⟨rfl,rfl,rfl,Nat.le_refl _,fun _ _=>rfl⟩,fun _=>0,fun _=>0,fun i _ h=>(by cases h),fun i j _ _ h=>(by cases h)⟩
 ·intro i o hi hX ho L a' W hJ hun hfar hdep
  obtain⟨hb,lo,hh,h1,h2⟩:=hJ
  have hic:i≠c:=fun e=>by rw[e,hXc]at hX;cases hX
  obtain⟨v,hv,hG⟩:=early (L c) i o hi hX ho a' W hb hfar fun j hj hw=>⟨lo j,hh j,(h1 j hj (hdep j hj hw)).1⟩
  refine⟨v,hv,fun L' vs' hu=>?_⟩
  have hL':L' c=L c:=(hu.2.2 c hc (Ne.symm hic)).1
  refine fin hb h1 h2 v W L' vs' (Nat.le_refl _) hb hu (by rw[hL'];exact hG) fun k hk hne hL=>?_
  rw[hL']
  exact (h1 k hk hL).1
 ·intro i o hi hX ho L a' W hJ hun hfar hdep
  obtain⟨hb,lo,hh,h1,h2⟩:=hJ
  by_cases hic:i=c
  ·subst hic
   obtain⟨gd,gd2,gd3,gd4⟩:=h1 d hd (hdep d hd hcd);rw[hun]at gd
   refine (once o ho a' W (lo d) (hh d) hb gd2 gd4 gd hfar fun j hj hw=>⟨lo j,hh j,by have:=(h1 j hj (hdep j hj hw)).1;rwa [hun]at this⟩).mono ?_
   rintro v W' ⟨hf,hG⟩ L' vs' hu
   have hL':L' i=true:=hu.1
   refine fin hb h1 h2 v W' L' vs' hf.size ?_ hu (by rw[hL'];exact hG) fun k hk hne hL=>?_
   ·exact⟨hf.os.trans hb.os,hf.tape.trans hb.tape,hf.output.trans hb.output,Nat.le_trans hb.size hf.size,fun k hk=>(hf.block k (Nat.lt_of_lt_of_le hk hb.size) fun h=>by omega).trans (hb.block k hk)⟩
   ·rw[hL']
    obtain⟨g1,g2,g3,g4⟩:=h1 k hk hL;rw[hun]at g1
    refine conv k _ _ _ W W' g2 g4 g1 fun hkd=>hf.mono fun j hj=>⟨by omega,fun h=>?_⟩
    rcases h2 k d hk hd hL (hdep d hd hcd) hkd with h|h<;>omega
  ·refine (step (L c) i o hi hX hic ho a' W hb hfar fun j hj hw=>⟨lo j,hh j,(h1 j hj (hdep j hj hw)).1⟩).mono ?_
   rintro v W' ⟨hb',hG⟩ L' vs' hu
   have hL':L' c=L c:=(hu.2.2 c hc (Ne.symm hic)).1
   refine fin hb h1 h2 v W' L' vs' hb'.size (hb.trans (hb'.mono hb.size)) hu (by rw[hL'];exact hG) fun k hk hne hL=>?_
   rw[hL'];obtain⟨g1,g2,g3,g4⟩:=h1 k hk hL
   exact stab _ _ _ _ _ _ _ g2 g4 g1 hb'
 ·intro L v W hL hJ
  obtain⟨hb,lo,hh,h1,h2⟩:=hJ;rw[hL c hc]at h1
  exact tail v W lo hh hb (fun i hi=>h1 i hi (hL i hi)) fun i j hi hj hne=>h2 i j hi hj (hL i hi) (hL j hj) hne
end
open Go.RowKit Mo Ps Ra Ex
def codeE (p c h s m:Int) (own other:List Int) (v o:Int):Int:=
 if codeL p c h s m own other v o true=0 then (if own.sum=0/\other.sum=0 then 5 else 0) else codeL p c h s m own other v o true
noncomputable def eqR (p c h s m:Int) (bv:Bool) (own other:List Int) (v o:Int):Int×Int×Int:=
 if codeE p c h s m own other v o=0 then numR (eqv s.toNat ⟨m,bv⟩ own other (v,o)) else (0,0,codeE p c h s m own other v o)
theorem codeL_small (p c h s m:Int) (own other:List Int) (v o:Int) (more:Bool):0<=codeL p c h s m own other v o more/\codeL p c h s m own other v o more<=3:=by
 unfold codeL
 split
 ·split
  ·split<;>omega
  ·omega
 ·omega
def moG (p:Int) (c h s K:Nat) (bv j:Bool) (A B:Option Addr) (ca cb:Nat) (v o:Int) (ov:Option E) (fl:Bool) (i:Nat) (u:Value) (lo hi:Nat) (W:World):Prop:=
 match i with
 | 0=>u = .agg #[.int .i64 p,.int .i64 c,.int .i64 h,.int .i64 s]
 | 1=>u = .agg #[.int .i64 (two K),.bool bv,.bool j]
 | 2=>∃m:MT,m.t.p=p/\m.t.c=c/\m.t.h=h/\m.t.s=s/\m.K=K/\m.bv=bv/\u = .pointer (some ⟨m.bm,0,none⟩)/\m.Ok/\(fl=false->MonI m m.S W/\∀k,m.S k->lo<=k/\k<hi)
 | 3=>u = .slice A h ca
 | 4=>u = .slice B h cb
 | 5=>u = .agg #[.int .i64 v,.int .i64 o]
 | 6=>u = .tuple #[exV ov,.bool ov.isSome]
 | 7=>u = .tuple #[exV ov,.bool ov.isSome]
 | 8=>u=exV ov
 | 9=>u = .bool ov.isSome
 | _=>u = .pointer (some ⟨lo,0,none⟩)/\lo<hi/\(W.cell? ⟨lo,0,none⟩=some (.int .i64 0)/\W.cell? ⟨lo,1,none⟩=some (.int .i64 0))/\∀j,j<2->W.frozen? ⟨lo,j,none⟩=false
theorem moG_stab {w:World} {p:Int} {c h s K:Nat} {bv j:Bool} {A B:Option Addr} {ca cb:Nat} {v o:Int} {ov:Option E} (fl:Bool) (i:Nat) (u:Value) (lo hi:Nat) (W W':World) (_:w.heap.size<=lo) (_:hi<=W.heap.size) (hg:moG p c h s K bv j A B ca cb v o ov fl i u lo hi W) (hb:Below W.heap.size W W'):moG p c h s K bv j A B ca cb v o ov fl i u lo hi W':=by
 unfold moG at *
 split at hg<;>first
  | exact hg
  | (obtain ⟨m, h1, h2, h3, h4, h5, h6, h7, h8, h9⟩ := hg
     exact ⟨m, h1, h2, h3, h4, h5, h6, h7, h8, fun hf => ⟨(h9 hf).1.below hb, (h9 hf).2⟩⟩)
  | (obtain ⟨h1, h2, ⟨h3, h4⟩, h5⟩ := hg
     exact ⟨h1, h2, ⟨ab h3 hb, ab h4 hb⟩, fun j hj => (hb.frozen (p := ⟨lo, j, none⟩) (World.block_lt_of_cell? W ⟨lo, 0, none⟩ h3)).trans (h5 j hj)⟩)
theorem moG_conv {w:World} {p:Int} {c h s K:Nat} {bv j:Bool} {A B:Option Addr} {ca cb:Nat} {v o:Int} {ov:Option E} (i:Nat) (u:Value) (lo hi:Nat) (W W':World) (_:w.heap.size<=lo) (_:hi<=W.heap.size) (hg:moG p c h s K bv j A B ca cb v o ov false i u lo hi W) (hf:i≠2->Frm (fun k=>w.heap.size<=k/\¬(lo<=k/\k<hi)) W W'):moG p c h s K bv j A B ca cb v o ov true i u lo hi W':=by
 unfold moG at *
 split at hg<;>first
  | exact hg
  | (obtain ⟨m, h1, h2, h3, h4, h5, h6, h7, h8, h9⟩ := hg
     exact ⟨m, h1, h2, h3, h4, h5, h6, h7, h8, fun hx => by cases hx⟩)
  | (obtain ⟨h1, h2, ⟨h3, h4⟩, h5⟩ := hg
     have hf' := hf (by assumption)
     have hn : ¬ (w.heap.size <= lo /\ ¬ (lo <= lo /\ lo < hi)) := fun hx => hx.2 ⟨Nat.le_refl _, h2⟩
     exact ⟨h1, h2, ⟨hf'.cell' h3 hn, hf'.cell' h4 hn⟩, fun j hj => (aK hf' (World.block_lt_of_cell? W ⟨lo, 0, none⟩ h3) hn).trans (h5 j hj)⟩)
theorem iQ {xs:List Int} (hp:∀x∈xs,0<=x):0<=xs.sum:=by
 induction xs with
 | nil=>simp
 | cons a l ih=>rw[List.sum_cons];have:=hp a (by simp);have:=ih fun x hx=>hp x (by simp[hx]);omega
theorem jn (p c h s m:Int) (bv j:Bool) (A B:Option Addr) (n k ca cb:Nat) (own other:List Int) (v o:Int) (w:World) (hA:SL w A n own) (hB:SL w B k other) (hca:n<=ca) (hcb:k<=cb):
  Calls Tryz.prog 30 #[.agg #[.int .i64 p,.int .i64 c,.int .i64 h,.int .i64 s],.agg #[.int .i64 m,.bool bv,.bool j],.slice A n ca,.slice B k cb,.agg #[.int .i64 v,.int .i64 o]] w (RetN w (eqR p c h s m bv own other v o)):=by
 have HF0:Hid (Fr w ((((w.alloc (.cells #[.int .i64 p,.int .i64 c,.int .i64 h,.int .i64 s] 25)).alloc (.cells #[.int .i64 m,.bool bv,.bool j] 53)).alloc (.cells #[.int .i64 v,.int .i64 o] 55)).alloc (.cells #[.int .i64 0,.int .i64 0] 35)) [[.int .i64 p,.int .i64 c,.int .i64 h,.int .i64 s],[.int .i64 m,.bool bv,.bool j],[.int .i64 v,.int .i64 o],[.int .i64 0,.int .i64 0]]):=((((Fr.start w).allocT (by simp) _ _).allocT (by simp) _ _).allocT (by simp) _ _).allocT (by simp) _ _
 have HA0:=h_ (hA.below HF0.out.b);have HB0:=h_ (hB.below HF0.out.b);have HAL:=h_ hA.1;have HBL:=h_ hB.1;have CK:=h_ (jw p c h s m bv j A B n k ca cb own other v o true _ HA0.out HB0.out);clear hA hB
 by_cases hcl:codeL p c h s m own other v o true=0
 focus
  obtain⟨hv,hr,hp1,hp2,hcu,_,hgi⟩:=iF hcl;have hvv:=ak hv;obtain⟨K,hK,rfl⟩:=fZ hr
  obtain⟨c',rfl⟩:∃c':Nat,c=c':=⟨c.toNat,by omega⟩
  obtain⟨h',rfl⟩:∃h':Nat,h=h':=⟨h.toNat,by omega⟩
  obtain⟨s',rfl⟩:∃s':Nat,s=s':=⟨s.toNat,by omega⟩
  rw[iB hK]at hgi;obtain⟨hN,_⟩:=kr hgi;have HP1:=h_ (bz hp1);have HP2:=h_ (bz hp2);have hcb0:=cubB_ok hcu
  have hnh:h'=n:=by rw[<- HAL.out];exact (HP1.out.1).symm
  have hmh:h'=k:=by rw[<- HBL.out];exact (HP2.out.1).symm
  subst hnh;subst hmh
  have CNEW:=h_ fun (W:World)=>newMoney_any p c' h' s' K bv j W hv hN hK
  have HCM:Hid (codeM p c' h' s' (two K) own other v o true=if own.sum=0\/other.sum=0 then 5 else 0):=by unfold Hid codeM;rw[if_pos hcl]
  have HWC:Hid (eqR p c' h' s' (two K) bv own other v o=if own.sum=0/\other.sum=0 then (0,0,5) else numR (eqv s' ⟨two K,bv⟩ own other (v,o))):=by
   unfold Hid eqR codeE;rw[if_pos hcl]
   simp only[Int.toNat_natCast]
   split<;>rfl
  obtain⟨ov,hov⟩:∃ov,ov=eqv s' ⟨two K,bv⟩ own other (v,o):=⟨_,rfl⟩;rw[<- hov]at HWC
  have HALL:Hid (∀(m:MT),m.t.c=c'->m.t.h=h'->m.t.s=s'->m.K=K->m.bv=bv->m.Ok->∀W:World,MonI m m.S W->SQ m.S W A h' own->SQ m.S W B h' other->Calls Tryz.prog 104 #[.pointer (some ⟨m.bm,0,none⟩),.slice A h' ca,.slice B h' cb,.agg #[.int .i64 v,.int .i64 o]] W (RetMo m m.S W ov)):=by
   intro m e1 e2 e3 e4 e5 hok W hI h1 h2
   subst e1 e2 e3 e4 e5;rw[hov]
   exact equity_all m hok HP1.out HP2.out hcb0 m.S A B ca cb W (fun k hk hs=>by have:=hI.ltS k hs;omega) hI h1 hca h2 hcb
  have TOA:=h_ fun (W:World) (hx:SL W A h' own)=>bO A h' ca own W hx HP1.out.2.1 (by have:=HP1.out.2.2;omega) (by omega)
  have TOB:=h_ fun (W:World) (hx:SL W B h' other)=>bO B h' cb other W hx HP2.out.2.1 (by have:=HP2.out.2.2;omega) (by omega)
  have hs1:0<=own.sum:=iQ HP1.out.2.1;have hs2:0<=other.sum:=iQ HP2.out.2.1
  have hs3:own.sum<=15:=by have:=HP1.out.2.2;omega
  have hs4:other.sum<=15:=by have:=HP2.out.2.2;omega
  have hws:IntKind.i64.wrap (own.sum+other.sum)=own.sum+other.sum:=IntWalk.i64_in _ (by omega)
  clear hcl hv hr hp1 hp2 hcu hgi hvv hov HAL HBL;generalize eqR p c' h' s' (two K) bv own other v o=rr at *;generalize own.sum=x1 at *;generalize other.sum=x2 at *
  by_cases hz:x1=0\/x2=0
  focus
   rw[if_pos hz]at HCM
   rw[HCM.out]at CK
   by_cases hz2:x1+x2 > 0
   focus
    have HWR:Hid (rr=numR ov):=by unfold Hid;rw[HWC.out,if_neg (by omega)]
    have b1:decide (0<x1+x2)=true:=decide_eq_true hz2;clear HWC HCM hz
    refine ?zd
   rotate_left
   focus
    have HWR:Hid (rr=(0,0,5)):=by unfold Hid;rw[HWC.out,if_pos (by omega)]
    have b1:decide (0<x1+x2)=false:=decide_eq_false hz2;clear HWC HCM hz HALL CNEW
    refine ?zf
  rotate_left 2
  focus
   rw[if_neg hz]at HCM
   rw[HCM.out]at CK
   have HWR:Hid (rr=numR ov):=by unfold Hid;rw[HWC.out,if_neg fun h=>hz (.inl h.1)]
   clear HWC HCM hz
   refine ?zc
 rotate_left 3
 focus
  have HCM:codeM p c h s m own other v o true=codeL p c h s m own other v o true:=by unfold codeM;rw[if_neg hcl]
  have HWR:Hid (eqR p c h s m bv own other v o=(0,0,codeL p c h s m own other v o true)):=by
   unfold Hid eqR codeE;rw[if_neg hcl,if_neg hcl]
  have hsm:=codeL_small p c h s m own other v o true;rw[HCM]at CK;clear HCM;generalize codeL p c h s m own other v o true=kk at *
  have b0:(kk != 0)=true:=by simp[hcl]
  have b5:(kk == 5)=false:=by simp;omega
  clear hcl hsm
  refine ?ze
 rotate_left
 case' ze|zf|zc|zd=>
  go_enter Tryz.func30,Tryz.ntmps30
  go_wp2_with (fail)
  refine CK.out.mono ?_
  rintro e w1 ⟨rfl,hb1⟩
 case' zc|zd=>
  have HFX:=h_ (HF0.out.below hb1);have HAX:=h_ (HA0.out.below hb1);have HBX:=h_ (HB0.out.below hb1);clear CK hb1 HF0 HA0 HB0;obtain⟨z0,c00,f00,c01,f01,c02,f02,c03,f03,z1,c10,f10,c11,f11,c12,f12,z2,c20,f20,c21,f21,z3,c30,f30,c31,f31⟩:=HFX.out.xf7
 case' zc=>
  go_wp2_with (fail)
  clear z0 c00 f00 c01 f01 c02 f02 c03 f03 z1 c10 f10 c11 f11 c12 f12 z2 c20 f20 c21 f21 z3 c30 f30 c31 f31
 case' zd=>
  go_wp2_with (first|(go_at_call_of 74 A;refine (TOA.out _ HAX.out).mono ?_;rintro e w' ⟨rfl,rfl⟩)|(go_at_call_of 74 B;refine (TOB.out _ HBX.out).mono ?_;rintro e w' ⟨rfl,rfl⟩))
  clear z0 c00 f00 c01 f01 c02 f02 c03 f03 z1 c10 f10 c11 f11 c12 f12 z2 c20 f20 c21 f21 z3 c30 f30 c31 f31
 case zc|zd=>
  refine fS 11 (fun i=>i == 9) (fun i=>if i=7 then 35 else if i<7 then i+36 else if i=10 then 13 else i+35) 2 6 (moG p c' h' s' K bv j A B ca cb v o ov) (by kernel_rfl) (by kernel_rfl) (fun _ _ _ _ _ h=>h) (by omega) (by omega) rfl (by kernel_rfl) moG_stab moG_conv ?_ ?_ ?_ ?_
  ·intro fl i op hi hX ho a' X hbX hfar hdep
   have hi8:i=9:=by simpa using hX
   subst hi8
   simp at ho
   subst ho
   obtain⟨_,_,d0⟩:=hdep 7 (by omega) (by kernel_rfl)
   replace d0:a'.tmps.getD 35 undef = .tuple #[exV ov,.bool ov.isSome]:=d0
   exact⟨.bool ov.isSome,fun W'=>by simp only[execOp,Act.eval,d0];go_simp,rfl⟩
  ·intro fl i op hi hX hne ho a' X hbX hfar hdep
   have e2:a'.tmps.getD 2 undef = .slice A h' ca:=(hfar 2 (by decide)).trans rfl
   have e3:a'.tmps.getD 3 undef = .slice B h' cb:=(hfar 3 (by decide)).trans rfl
   have e5:a'.tmps.getD 5 undef = .pointer (some ⟨w.heap.size,0,none⟩):=(hfar 5 (by decide)).trans rfl
   have e6:a'.tmps.getD 6 undef = .pointer (some ⟨w.heap.size+1,0,none⟩):=(hfar 6 (by decide)).trans rfl
   have e9:a'.tmps.getD 9 undef = .pointer (some ⟨w.heap.size+1+1,0,none⟩):=(hfar 9 (by decide)).trans rfl
   have HFh:=h_ (HFX.out.below hbX);obtain⟨z0,c00,f00,c01,f01,c02,f02,c03,f03,z1,c10,f10,c11,f11,c12,f12,z2,c20,f20,c21,f21,z3,c30,f30,c31,f31⟩:=HFh.out.xf7
   have hi9:i=0\/i=1\/i=2\/i=3\/i=4\/i=5\/i=7\/i=8\/i=10:=by simp at hX;omega
   clear hne hX
   rcases hi9 with rfl|rfl|rfl|rfl|rfl|rfl|rfl|rfl|rfl
   all_goals
    simp at ho
    subst ho
   ·exact .inl ⟨.agg #[.int .i64 p,.int .i64 c',.int .i64 h',.int .i64 s'],X,by simp only[execOp,Act.eval,e5];go_simp,Below.refl _ _,rfl⟩
   ·exact .inl ⟨.agg #[.int .i64 (two K),.bool bv,.bool j],X,by simp only[execOp,Act.eval,e6];go_simp,Below.refl _ _,rfl⟩
   ·obtain⟨_,_,d0⟩:=hdep 0 (by omega) (by kernel_rfl)
    obtain⟨_,_,d1⟩:=hdep 1 (by omega) (by kernel_rfl)
    replace d0:a'.tmps.getD 36 undef = .agg #[.int .i64 p,.int .i64 c',.int .i64 h',.int .i64 s']:=d0;replace d1:a'.tmps.getD 37 undef = .agg #[.int .i64 (two K),.bool bv,.bool j]:=d1
    refine .inr ⟨103,#[.agg #[.int .i64 p,.int .i64 c',.int .i64 h',.int .i64 s'],.agg #[.int .i64 (two K),.bool bv,.bool j]],by simp only[execOp,Act.eval,d0,d1];go_simp,?_⟩
    refine (CNEW.out X).mono ?_
    rintro e X' ⟨m,m1,m2,m3,m4,m5,m6,rfl,hok,hI,hlow,hb'⟩
    exact⟨_,rfl,hb',m,m1,m2,m3,m4,m5,m6,rfl,hok,fun _=>⟨hI,fun k hk=>⟨hlow k hk,hI.ltS k hk⟩⟩⟩
   ·exact .inl ⟨.slice A h' ca,X,by simp only[execOp,Act.eval,e2];go_simp,Below.refl _ _,rfl⟩
   ·exact .inl ⟨.slice B h' cb,X,by simp only[execOp,Act.eval,e3];go_simp,Below.refl _ _,rfl⟩
   ·exact .inl ⟨.agg #[.int .i64 v,.int .i64 o],X,by simp only[execOp,Act.eval,e9];go_simp,Below.refl _ _,rfl⟩
   ·obtain⟨_,_,d0⟩:=hdep 6 (by omega) (by kernel_rfl)
    replace d0:a'.tmps.getD 42 undef = .tuple #[exV ov,.bool ov.isSome]:=d0
    exact .inl ⟨.tuple #[exV ov,.bool ov.isSome],X,by simp only[execOp,Act.eval,d0];go_simp,Below.refl _ _,rfl⟩
   ·obtain⟨_,_,d0⟩:=hdep 7 (by omega) (by kernel_rfl)
    replace d0:a'.tmps.getD 35 undef = .tuple #[exV ov,.bool ov.isSome]:=d0
    exact .inl ⟨exV ov,X,by simp only[execOp,Act.eval,d0];go_simp,Below.refl _ _,rfl⟩
   ·refine .inl ⟨.pointer (some ⟨X.heap.size,0,none⟩),X.alloc (.cells #[.int .i64 0,.int .i64 0] 35),by kernel_rfl,(Below.refl _ _).alloc (Nat.le_refl _) _,rfl,by simp,⟨by simp[go_sem],by simp[go_sem]⟩,fun j hj=>?_⟩
    have:j=0\/j=1:=by omega
    rcases this with rfl|rfl<;>simp[go_sem]
  ·intro op ho a' X lo hi hbX hlo hhi hgd hfar hdep
   simp at ho
   subst ho;obtain⟨m,m1,m2,m3,m4,m5,m6,d2,hok,hI⟩:=hgd;replace d2:a'.tmps.getD 38 undef = .pointer (some ⟨m.bm,0,none⟩):=d2;obtain⟨hI,hrng⟩:=hI rfl
   obtain⟨_,_,d3⟩:=hdep 3 (by omega) (by kernel_rfl)
   obtain⟨_,_,d4⟩:=hdep 4 (by omega) (by kernel_rfl)
   obtain⟨_,_,d5⟩:=hdep 5 (by omega) (by kernel_rfl)
   replace d3:a'.tmps.getD 39 undef = .slice A h' ca:=d3;replace d4:a'.tmps.getD 40 undef = .slice B h' cb:=d4;replace d5:a'.tmps.getD 41 undef = .agg #[.int .i64 v,.int .i64 o]:=d5
   refine .inr ⟨104,#[.pointer (some ⟨m.bm,0,none⟩),.slice A h' ca,.slice B h' cb,.agg #[.int .i64 v,.int .i64 o]],by simp only[execOp,Act.eval,d2,d3,d4,d5];go_simp,?_⟩
   refine (HALL.out m m2 m3 m4 m5 m6 hok X hI ((SQ.of_sl HAX.out fun k hk=>Nat.le_trans hlo (hrng k hk).1).below hbX) ((SQ.of_sl HBX.out fun k hk=>Nat.le_trans hlo (hrng k hk).1).below hbX)).mono ?_
   rintro e X' ⟨rfl,_,hf'⟩
   exact⟨_,rfl,hf'.mono hrng,rfl⟩
  intro u X lo hh hbX hg hd
  have g0:u 0 = .agg #[.int .i64 p,.int .i64 c',.int .i64 h',.int .i64 s']:=(hg 0 (by omega)).1
  have g1:u 1 = .agg #[.int .i64 (two K),.bool bv,.bool j]:=(hg 1 (by omega)).1
  obtain⟨mm,_,_,_,_,_,_,g2,_,_⟩:moG p c' h' s' K bv j A B ca cb v o ov true 2 (u 2) (lo 2) (hh 2) X:=(hg 2 (by omega)).1
  have g3:u 3 = .slice A h' ca:=(hg 3 (by omega)).1
  have g4:u 4 = .slice B h' cb:=(hg 4 (by omega)).1
  have g5:u 5 = .agg #[.int .i64 v,.int .i64 o]:=(hg 5 (by omega)).1
  have g6:u 6 = .tuple #[exV ov,.bool ov.isSome]:=(hg 6 (by omega)).1
  have g7:u 7 = .tuple #[exV ov,.bool ov.isSome]:=(hg 7 (by omega)).1
  have g8:u 8=exV ov:=(hg 8 (by omega)).1
  have g9:u 9 = .bool ov.isSome:=(hg 9 (by omega)).1
  obtain⟨g10,l10,⟨k10,k11⟩,f10'⟩:moG p c' h' s' K bv j A B ca cb v o ov true 10 (u 10) (lo 10) (hh 10) X:=(hg 10 (by omega)).1
  have hlo:=(hg 10 (by omega)).2.1
  clear hg hd;obtain⟨b13,hb13⟩:∃b13,b13=lo 10:=⟨_,rfl⟩;rw[<- hb13]at g10 l10 k10 k11 f10' hlo
  have fa0:=f10' 0 (by omega)
  have fa1:=f10' 1 (by omega)
  have kz:=World.block_lt_of_cell? X _ k10;have HF3:=h_ (HFX.out.below hbX)
  have hz4:w.heap.size+4<=b13:=by have:=HFX.out.z;simp at this;omega
  have n1:¬b13=w.heap.size+1+1+1:=by omega
  have n2:¬w.heap.size+1+1+1=b13:=by omega
  clear hbX HFX f10' hlo CNEW HALL HAX HBX l10
  simp only[List.drop_succ_cons,List.drop_zero,putV,g0,g1,g2,g3,g4,g5,g6,g7,g8,g9,g10,Act.put]
  clear g0 g1 g2 g3 g4 g5 g6 g7 g8 g9 g10 hb13
  rcases ov with _|⟨xn,xd⟩
  ·have HRR:Hid (rr=(0,0,3)):=HWR.out
   unfold exV
   simp only[Option.getD_none,Option.isSome_none]
   obtain⟨z0,c00,f00,c01,f01,c02,f02,c03,f03,z1,c10,f10,c11,f11,c12,f12,z2,c20,f20,c21,f21,z3,c30,f30,c31,f31⟩:=HF3.out.xf7
   go_wp2_with (fail)
   refine bodyPost_ret (v:=.tuple #[.agg #[.int .i64 0,.int .i64 0],.int .i64 3]) (by simp[results,Tryz.results30,go_sem,c30,c31,z3,f30,f31]) rfl (RetN.mk' HRR.out ?_)
   repeat (first|exact HF3.out.b|refine stw ?_ (by omega)|refine alw ?_ (by omega))
  ·have HRR:Hid (rr=(xn,(xd:Int),0)):=HWR.out
   unfold exV
   simp only[Option.getD_some,Option.isSome_some]
   obtain⟨z0,c00,f00,c01,f01,c02,f02,c03,f03,z1,c10,f10,c11,f11,c12,f12,z2,c20,f20,c21,f21,z3,c30,f30,c31,f31⟩:=HF3.out.xf7
   go_wp2_with (fail)
   refine bodyPost_ret (v:=.tuple #[.agg #[.int .i64 xn,.int .i64 (xd:Int)],.int .i64 0]) (by simp[results,Tryz.results30,go_sem,c30,c31,z3,f30,f31]) rfl (RetN.mk' HRR.out ?_)
   repeat (first|exact HF3.out.b|refine stw ?_ (by omega)|refine alw ?_ (by omega))
 case' ze=>
  have HF2:=h_ (HF0.out.below hb1);clear CK hb1 HF0 HA0 HB0;obtain⟨z0,c00,f00,c01,f01,c02,f02,c03,f03,z1,c10,f10,c11,f11,c12,f12,z2,c20,f20,c21,f21,z3,c30,f30,c31,f31⟩:=HF2.out.xf7
  go_wp2_with (fail)
  refine bodyPost_ret (v:=.tuple #[.agg #[.int .i64 0,.int .i64 0],.int .i64 kk]) (by simp[results,Tryz.results30,go_sem,c30,c31,z3,f30,f31]) rfl (RetN.mk' HWR.out ?_)
 case' zf=>
  have HF2:=h_ (HF0.out.below hb1);have HAX:=h_ (HA0.out.below hb1);have HBX:=h_ (HB0.out.below hb1);clear CK hb1 HF0 HA0 HB0;obtain⟨z0,c00,f00,c01,f01,c02,f02,c03,f03,z1,c10,f10,c11,f11,c12,f12,z2,c20,f20,c21,f21,z3,c30,f30,c31,f31⟩:=HF2.out.xf7
  go_wp2_with (first|(go_at_call_of 74 A;refine (TOA.out _ HAX.out).mono ?_;rintro e w' ⟨rfl,rfl⟩)|(go_at_call_of 74 B;refine (TOB.out _ HBX.out).mono ?_;rintro e w' ⟨rfl,rfl⟩))
  refine bodyPost_ret (v:=.tuple #[.agg #[.int .i64 0,.int .i64 0],.int .i64 5]) (by simp[results,Tryz.results30,go_sem,c30,c31,z3,f30,f31]) rfl (RetN.mk' HWR.out ?_)
 case ze|zf=>
  repeat (first|exact HF2.out.b|refine stw ?_ (by omega)|refine alw ?_ (by omega))
end Go.Proofs.YtkaiilmgemaljaaGreat

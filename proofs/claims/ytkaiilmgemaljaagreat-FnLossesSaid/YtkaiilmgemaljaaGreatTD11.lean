/- Part of one proof. There are no conditions. -/
import Derived.Test.YtkaiilmgemaljaaGreatTD7
import Derived.Test.YtkaiilmgemaljaaGreatTQW
set_option linter.unusedVariables false
set_option linter.unusedSimpArgs false
namespace Go.Proofs.YtkaiilmgemaljaaGreat
open Go.RowKit
def SomG (g:Nat) (C:Option Addr) (n c:Nat) (bs:List Int) (W:World):Prop:=∃q,SrcG W g C n c bs q
theorem SomG.below {g:Nat} {C:Option Addr} {n c:Nat} {bs:List Int} {W W':World} (h:SomG g C n c bs W) (hb:Below W.heap.size W W'):SomG g C n c bs W':=h.elim fun q h=>⟨q,h.below hb⟩
theorem SomG.alloc {g:Nat} {C:Option Addr} {n c:Nat} {bs:List Int} {W:World} (h:SomG g C n c bs W) (o:Obj):SomG g C n c bs (W.alloc o):=h.below (Bel.alloc W o)
theorem SomG.frm {O:Nat->Prop} {g:Nat} {C:Option Addr} {n c:Nat} {bs:List Int} {W W':World} (h:SomG g C n c bs W) (hf:Frm O W W') (hO:∀k,O k->g<k):SomG g C n c bs W':=h.elim fun q h=>⟨q,h.frm hf hO⟩
structure JQ (n:Nat) (S:Nat->Prop) (V:World) (Inv:World->Prop) (G:List RP) (K:List (Nat×List Value)) (T:List (Nat×Nat×List Value×(List Value->Prop))) (L:Nat->Bool) (vs:Nat->Value) (W:World):Prop where
 f:Frm S V W
 i:Inv W
 g:∀k,k<n->L k=true->GL G k (vs k) W
 c:∀x∈K,Cel W x.1 x.2
 t:∀x∈T,(L x.2.1=false->Cel W x.1 x.2.2.1)/\(L x.2.1=true->∃cs,x.2.2.2 cs/\Cel W x.1 cs)
section
variable {n:Nat} {S:Nat->Prop} {V:World} {Inv:World->Prop} {G:List RP} {K:List (Nat×List Value)} {T:List (Nat×Nat×List Value×(List Value->Prop))} {L L':Nat->Bool} {vs vs':Nat->Value} {W W':World} {i:Nat} {v:Value} {ds:Nat->Option Nat}
theorem JQ.ext (h:∀k,k<n->vs k=vs' k) (H:JQ n S V Inv G K T L vs W):JQ n S V Inv G K T L vs' W:=⟨H.f,H.i,fun k hk hl=>by rw[<- h k hk];exact H.g k hk hl,H.c,H.t⟩
theorem JQ.go (H:JQ n S V Inv G K T L vs W) (hu:UpdS n i ds v L vs L' vs') (hT:∀x∈T,x.2.1<n) (hst:∀k v W W',GL G k v W->Frm S W W'->GL G k v W') (hK:∀x∈K,¬S x.1) (hf:Frm S W W') (hi:Inv W')
  (hg:(ds i≠none->GL G i v W')/\(ds i=none->∀u,GL G i u W')) (ht:∀x∈T,(x.2.1≠i->∀cs,Cel W x.1 cs->Cel W' x.1 cs)/\(x.2.1=i->∃cs,x.2.2.2 cs/\Cel W' x.1 cs)):JQ n S V Inv G K T L' vs' W':=by
 obtain⟨u1,u2,u3⟩:=hu
 refine⟨H.f.trans hf,hi,fun k hk hl=>?_,fun x hx=>(H.c x hx).frmN hf (hK x hx),fun x hx=>?_⟩
 ·by_cases e:k=i
  ·subst e
   by_cases hd:ds k=none
   ·exact hg.2 hd _
   ·rw[u2 hd];exact hg.1 hd
  ·obtain⟨e1,e2⟩:=u3 k hk e
   rw[e2]
   exact hst _ _ _ _ (H.g k hk (by rw[<- e1];exact hl)) hf
 ·obtain⟨t1,t2⟩:=H.t x hx
  obtain⟨k1,k2⟩:=ht x hx
  by_cases e:x.2.1=i
  ·refine⟨fun h=>(by rw[e,u1]at h;cases h),fun _=>k2 e⟩
  ·have e1:=(u3 _ (hT x hx) e).1
   refine⟨fun h=>k1 e _ (t1 (by rw[<- e1];exact h)),fun h=>?_⟩
   obtain⟨cs,h1,h2⟩:=t2 (by rw[<- e1];exact h)
   exact⟨cs,h1,k1 e _ h2⟩
theorem JQ.pure (H:JQ n S V Inv G K T L vs W) (hu:UpdS n i ds v L vs L' vs') (hT:∀x∈T,x.2.1<n/\x.2.1≠i) (hst:∀k v W W',GL G k v W->Frm S W W'->GL G k v W') (hK:∀x∈K,¬S x.1) (hd:ds i≠none) (hg:GL G i v W):JQ n S V Inv G K T L' vs' W:=
 H.go hu (fun x hx=>(hT x hx).1) hst hK (Frm.refl _ _) H.i ⟨fun _=>hg,fun h=>absurd h hd⟩ fun x hx=>⟨fun _ _ h=>h,fun e=>absurd e (hT x hx).2⟩
theorem JQ.call {g:Nat} (H:JQ n S V Inv G K T L vs W) (hu:UpdS n i ds v L vs L' vs') (hT:∀x∈T,x.2.1<n/\x.2.1≠i/\x.1≠g) (hst:∀k v W W',GL G k v W->Frm S W W'->GL G k v W') (hK:∀x∈K,¬S x.1) (hd:ds i≠none) (hS:S g) (hf:Frm (fun j=>j=g) W W') (hi:Inv W') (hg:GL G i v W'):JQ n S V Inv G K T L' vs' W':=
 H.go hu (fun x hx=>(hT x hx).1) hst hK (hf.mono fun k hk=>by rw[hk];exact hS) hi ⟨fun _=>hg,fun h=>absurd h hd⟩ fun x hx=>⟨fun _ _ h=>h.frmN hf (hT x hx).2.2,fun e=>absurd e (hT x hx).2.1⟩
theorem JQ.fill {b:Nat} {cs:List Value} (H:JQ n S V Inv G K T L vs W) (hu:UpdS n i ds v L vs L' vs') (hT:∀x∈T,x.2.1<n/\((x.2.1=i/\x.1=b/\x.2.2.2 cs)\/(x.2.1≠i/\x.1≠b))) (hst:∀k v W W',GL G k v W->Frm S W W'->GL G k v W') (hK:∀x∈K,¬S x.1) (hd:ds i=none) (hS:S b) (hf:Frm (fun j=>j=b) W W') (hi:Inv W') (hg:∀u,GL G i u W') (hc:Cel W' b cs):JQ n S V Inv G K T L' vs' W':=
 H.go hu (fun x hx=>(hT x hx).1) hst hK (hf.mono fun k hk=>by rw[hk];exact hS) hi ⟨fun h=>absurd hd h,fun _=>hg⟩ fun x hx=>by
  rcases (hT x hx).2 with⟨h1,h2,h3⟩|⟨h1,h2⟩
  ·exact⟨fun h=>absurd h1 h,fun _=>⟨cs,h3,by rw[h2];exact hc⟩⟩
  ·exact⟨fun _ _ h=>h.frmN hf h2,fun h=>absurd h h1⟩
end
theorem im (W:World) (b:Nat) (v0 v1:Value):Frm (fun j=>j=b) W ((W.setCell ⟨b,0,none⟩ v0).setCell ⟨b,1,none⟩ v1):=(Frm.set W b 0 v0).trans (Frm.set _ b 1 v1)
theorem frm_st3 (W:World) (b:Nat) (v0 v1 v2:Value):Frm (fun j=>j=b) W (((W.setCell ⟨b,0,none⟩ v0).setCell ⟨b,1,none⟩ v1).setCell ⟨b,2,none⟩ v2):=(im W b v0 v1).trans (Frm.set _ b 2 v2)
theorem frm_st4 (W:World) (b:Nat) (v0 v1 v2 v3:Value):Frm (fun j=>j=b) W ((((W.setCell ⟨b,0,none⟩ v0).setCell ⟨b,1,none⟩ v1).setCell ⟨b,2,none⟩ v2).setCell ⟨b,3,none⟩ v3):=(frm_st3 W b v0 v1 v2).trans (Frm.set _ b 3 v3)
theorem Cel.st2 {W:World} {b:Nat} {x0 x1:Value} (h:Cel W b [x0,x1]) (v0 v1:Value):Cel ((W.setCell ⟨b,0,none⟩ v0).setCell ⟨b,1,none⟩ v1) b [v0,v1]:=(h.st (i:=0) (v:=v0) (by simp)).st (i:=1) (v:=v1) (by simp)
theorem Cel.st4 {W:World} {b:Nat} {x0 x1 x2 x3:Value} (h:Cel W b [x0,x1,x2,x3]) (v0 v1 v2 v3:Value):Cel ((((W.setCell ⟨b,0,none⟩ v0).setCell ⟨b,1,none⟩ v1).setCell ⟨b,2,none⟩ v2).setCell ⟨b,3,none⟩ v3) b [v0,v1,v2,v3]:=(((h.st (i:=0) (v:=v0) (by simp)).st (i:=1) (v:=v1) (by simp)).st (i:=2) (v:=v2) (by simp)).st (i:=3) (v:=v3) (by simp)
end Go.Proofs.YtkaiilmgemaljaaGreat

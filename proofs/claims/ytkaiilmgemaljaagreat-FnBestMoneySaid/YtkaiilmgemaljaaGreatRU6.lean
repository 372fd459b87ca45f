/- Part of one proof. There are no conditions. -/
import Derived.Test.YtkaiilmgemaljaaGreatRN71
import Derived.Test.YtkaiilmgemaljaaGreatRM36
import Derived.Test.YtkaiilmgemaljaaGreatRM22
import Derived.Test.YtkaiilmgemaljaaGreatRD2
import Derived.Test.YtkaiilmgemaljaaGreatRE1
import Derived.Test.YtkaiilmgemaljaaGreatRD7
set_option linter.unusedVariables false
set_option linter.unusedSimpArgs false
namespace Go.Proofs.YtkaiilmgemaljaaGreat
open Go.RowKit Mo Ps Ra Ex
theorem cubB_swp {m v o:Int} (h:cubB m v o=true):cubB m (swp (v,o)).1 (swp (v,o)).2=true:=by
 unfold cubB at h
 simp only[Bool.and_eq_true]at h
 obtain⟨⟨h1,h2⟩,h3⟩:=h
 by_cases hv:v=1
 ·rw[if_pos hv]at h3
  have ho:o=0:=of_decide_eq_true h3
  rw[swp_no (by omega) (by omega)]
  unfold cubB
  simp only[h1,h2,Bool.true_and,if_pos hv]
  exact h3
 ·rw[if_neg hv]at h3
  have ho:1<=o/\o<=2:=of_decide_eq_true h3
  by_cases h:o=1
  ·rw[swp_one h]
   unfold cubB
   simp only[h1,h2,Bool.true_and,if_neg hv]
   exact decide_eq_true (by omega)
  ·rw[swp_two (by omega)]
   unfold cubB
   simp only[h1,h2,Bool.true_and,if_neg hv]
   exact decide_eq_true (by omega)
theorem eqR_next {p:Int} {c h s:Nat} {m:Int} {bv:Bool} {own other q:List Int} {v o:Int} (hL:codeL p c h s m own other v o true=0) (h1:other.sum≠0) (hq:PosP h c q):
  eqR p c h s m bv other q (swp (v,o)).1 (swp (v,o)).2=numR (eqv s ⟨m,bv⟩ other q (swp (v,o))):=by
 obtain⟨hv,hr,_,hp2,hcu,_,hg⟩:=dq hL
 have hL2:codeL p c h s m other q (swp (v,o)).1 (swp (v,o)).2 true=0:=by
  rw[kL hv hr ⟨hp2,eC (by have:=hq.1;omega) hq.2.1 hq.2.2,cubB_swp hcu,rfl⟩,if_pos hg]
 have hE:codeE p c h s m other q (swp (v,o)).1 (swp (v,o)).2=0:=by
  unfold codeE
  rw[if_pos hL2,if_neg (fun h=>h1 h.1)]
 unfold eqR;rw[if_pos hE,Int.toNat_natCast]
theorem neqv_num {s:Nat} {r:Ru} {other q:List Int} {c:Cb} {x:E} (h:neqv s r other c q=some x):numR (eqv s r other q (swp c))=(-x.num,(x.depth:Int),0):=by
 unfold neqv at h
 cases he:eqv s r other q (swp c) with
 | none=>rw[he]at h;cases h
 | some e =>
   rw [he] at h
   simp only [Option.map_some, Option.some.injEq] at h
   subst h
   show (e.num, (e.depth : Int), (0 : Int)) = (- -e.num, (e.depth : Int), 0)
   rw [Int.neg_neg]
theorem jq {p c h s m:Int} {bv:Bool} {own other:List Int} {v o x d:Int} (H:(x,d,0)=rlR p c h s m bv own other v o):
  ∃ (c' h' s' : Nat) (xs : List E) (e : E), c = c' ∧ h = h' ∧ s = s' ∧ isVar p c' h' s' = true ∧ x = e.num ∧ d = (e.depth : Int) ∧ xs.length = (ad s').length ∧ (∀ y ∈ xs, Val (sq s') y) ∧ meanE (sq s') (ad s') xs = some e ∧
    1 <= v /\ v <= 1024 /\ 0 <= o /\ o <= 2 /\
    (∀ k, k < xs.length -> ∃ q : List Int, q.length = h' /\ posB h' c' q = true /\ bmR p c' h' s' m bv own other v o (((ad s').getD k (0, 0)).1 : Nat) (((ad s').getD k (0, 0)).2 : Nat) = (q, (xs.getD k aY).num, ((xs.getD k aY).depth : Int), 0) /\
      eqR p c' h' s' m bv other q (swp (v, o)).1 (swp (v, o)).2 = (-(xs.getD k aY).num, ((xs.getD k aY).depth : Int), 0)) := by
 unfold rlR at H
 by_cases hc:codeM p c h s m own other v o true=0
 ·rw[if_pos hc]at H
  obtain⟨hL,h0,h1⟩:=gu hc;obtain⟨c',h',s',K,rfl,rfl,rfl,rfl,hK,hv,hs1,hs6,ho,ht,hcb,_⟩:=codeL_nat hL;have hB:=(sq_bd hs1 hs6).1;obtain⟨v1,v2,o1,o2⟩:=hcb.v0
  simp only at v1 v2 o1 o2
  have hv3:two K<=1024:=Int.le_trans (bP hK) (by decide)
  rw[Int.toNat_natCast]at H;obtain⟨e,he,rfl,rfl⟩:=numR_ok H;rw[rol_eq (v,o) ho ht h0]at he
  cases hx:allS (mroll s' ⟨two K,bv⟩ own other (v,o)) (ad s') with
  | none=>rw[hx]at he;cases he
  | some xs =>
    rw [hx] at he; have hlen := ji hx; have hget := allS_get hx
    have hmr : ∀ r ∈ ad s', ∀ y, mroll s' ⟨two K, bv⟩ own other (v, o) r = some y -> ∃ t, bestS (sq s') (neqv s' ⟨two K, bv⟩ other (v, o)) (resultsL own r.1 r.2) = some t /\ t.2.2 = y := by
      intro r hr y hy
      unfold mroll mbest at hy
      cases hb : bestS (sq s') (neqv s' ⟨two K, bv⟩ other (v, o)) (resultsL own r.1 r.2) with
      | none => rw [hb] at hy; cases hy
      | some t => rw [hb] at hy; exact ⟨t, rfl, by injection hy⟩
    have hnv : ∀ q y, neqv s' ⟨two K, bv⟩ other (v, o) q = some y -> Val (sq s') y := by
      intro q y hy
      unfold neqv at hy
      cases he2 : eqv s' ⟨two K, bv⟩ other q (swp (v, o)) with
      | none => rw [he2] at hy; cases hy
      | some e2 =>
        rw [he2] at hy
        simp only [Option.map_some, Option.some.injEq] at hy
        subst hy; have hw := hcb.swp.v0
        exact kp (kH hB (c := swp (v, o)) (by omega) (by omega) he2)
    refine ⟨c', h', s', xs, e, rfl, rfl, rfl, hv, rfl, rfl, hlen, ?_, he, v1, by omega, o1, o2, fun k hk => ?_⟩
    · intro y hy
      obtain ⟨r, hr, hry⟩ := allS_mem hx y hy; obtain ⟨t, ht1, rfl⟩ := hmr r hr y hry
      exact je hB hnv ht1
    · have hk' : k < (ad s').length := by omega
      have hr := ao (ad s') (0, 0) hk'; obtain ⟨r1, r2, r3⟩ := bJ.1 hr; have hg := hget k hk'; obtain ⟨t, ht1, ht2⟩ := hmr _ hr _ hg; generalize (ad s').getD k (0, 0) = r at *; obtain ⟨a, b⟩ := r
      simp only at r1 r2 r3 ht1 ⊢
      have hne := bY (a := a) (b := b) (by omega) r1 ho
      obtain ⟨i1, i2⟩ := bestS_at ht1 hne
      have hqp := (aN (a := a) (b := b) (by omega) r1 ho _ (ao _ [] i1)).1
      rw [ht2] at i2
      refine ⟨(resultsL own a b).getD t.2.1 [], hqp.1, eC (by have := hqp.1; omega) hqp.2.1 hqp.2.2, ?_, ?_⟩
      · have hro : rollB s' a b = true := decide_eq_true ⟨by omega, by omega, by omega, by omega⟩
        unfold bmR; rw [hv, hro]
        simp only [Bool.true_and, Bool.and_self, Int.toNat_natCast]
        rw [if_pos hc, ht1]; obtain ⟨n, at', y⟩ := t
        simp only at ht2 ⊢
        rw [ht2]
      · rw [eqR_next hL h1 hqp, neqv_num i2]
 ·rw[if_neg hc]at H
  injection H with _ H;injection H with _ H
  exact absurd H.symm hc
theorem rlR_no {p c h s m:Int} {bv:Bool} {own other:List Int} {v o x d k:Int} (H:(x,d,k)=rlR p c h s m bv own other v o) (hk:k≠0):x=0/\d=0:=by
 unfold rlR at H
 split at H
 ·cases hr:rol s.toNat ⟨m,bv⟩ own other (v,o) with
  | none=>rw[hr]at H;unfold numR at H;simp only[Prod.mk.injEq]at H;exact⟨H.1,H.2.1⟩
  | some e=>rw[hr]at H;unfold numR at H;simp only[Prod.mk.injEq]at H;exact absurd H.2.2 hk
 ·simp only[Prod.mk.injEq]at H
  exact⟨H.1,H.2.1⟩
open Go.RowKit Ps Ra Ex
theorem OwnE.base {w:World} {b b':Nat} {v:Value} {xs:List E} (h:OwnE w b v xs) (hb:b'<=b):OwnE w b' v xs:=by
 obtain⟨h1,h2⟩:=h
 refine⟨h1,h2.imp id ?_⟩
 rintro⟨g,cap,cur,hv,hg,r⟩
 exact⟨g,cap,cur,hv,Nat.le_trans hb hg,r⟩
theorem EL.set' {S S':Nat->Prop} {w:World} {A:Option Addr} {n:Nat} {xs:List E} (h:EL S w A n xs) (hS:∀k,S' k->S k\/w.heap.size<=k):EL S' w A n xs:=by
 refine⟨h.1,h.2.1,fun hn=>?_⟩
 obtain⟨b,off,hA,hlt,hs,hc⟩:=h.2.2 hn
 exact⟨b,off,hA,hlt,fun hb=>(hS b hb).elim hs (by omega),hc⟩
theorem RL.set' {S S':Nat->Prop} {w:World} {A:Option Addr} {n:Nat} {xs:List (Nat×Nat)} (h:RL S w A n xs) (hS:∀k,S' k->S k\/w.heap.size<=k):RL S' w A n xs:=by
 refine⟨h.1,h.2.1,fun hn=>?_⟩
 obtain⟨b,off,hA,hlt,hs,hc⟩:=h.2.2 hn
 exact⟨b,off,hA,hlt,fun hb=>(hS b hb).elim hs (by omega),hc⟩
theorem EL.all {S:Nat->Prop} {w:World} {A:Option Addr} {n:Nat} {xs:List E} (h:EL S w A n xs):EL (fun _=>False) w A n xs:=⟨h.1,h.2.less fun _ h=>h.elim⟩
theorem OwnE.readS {S:Nat->Prop} {w:World} {base:Nat} {v:Value} {xs:List E} {n:Nat} (h:OwnE w base v xs) (hn:xs.length=n) (hS:∀k,base<=k->¬S k):∃A c,v = .slice A n c/\EL S w A n xs/\n<=c:=by
 subst hn
 obtain⟨A,c,hv,hs,hc⟩:=cJ (S:=S) h (fun k hk=>hS k (World.ownsRow.lt h k hk).1) (by omega)
 exact⟨A,c,hv,⟨rfl,hs⟩,hc⟩
end Go.Proofs.YtkaiilmgemaljaaGreat

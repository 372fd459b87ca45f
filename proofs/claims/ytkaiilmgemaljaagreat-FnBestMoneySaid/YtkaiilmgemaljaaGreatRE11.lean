/- Part of one proof. There are no conditions. -/
import Derived.Test.YtkaiilmgemaljaaGreatRD2
import Derived.Test.YtkaiilmgemaljaaGreatRows
import Derived.Test.YtkaiilmgemaljaaGreatRO5
import Derived.ProofKit
import Derived.OpenShut
import Derived.ShutString
import Derived.ChangeOld
import Derived.Below
import Derived.Lib.SmallJoins
import Derived.Test.YtkaiilmgemaljaaGreatRU6
set_option linter.unusedVariables false
set_option linter.unusedSimpArgs false
set_option maxHeartbeats 0
set_option maxRecDepth 100000
namespace Go.Proofs.YtkaiilmgemaljaaGreat
open Go.ChangeShapes Go.WideShapes Go.ChangeAt Go.RowKit Go.Joins Go.Deep
theorem cellsU8:Tryz.prog.cellsOf 5=1:=by kernel_rfl
section
variable {H:Type} {enc:TypeId×Value->H} {w:World} {base:Nat} {spare:Nat->Bool} {held:Bool} {fuel:Nat}
theorem openSBy {cs:List Value} {x:DataW H×List MemPlace} (h:DataW.trod enc Tryz.prog w base spare held fuel 22 cs=some x):
  ∃A n c xs,cs=[.slice A n c]/\SBy w A n xs/\n<=maxLen:=by
 rcases open_ints Tryz.underlying22 Tryz.underlying5 cellsU8 h with⟨rfl,_⟩|⟨a,len,cap,zs,rfl,_,hl,hm,hz,_,hcell,hw⟩
 ·exact⟨none,0,0,[],rfl,⟨rfl,fun h=>by omega,fun _ h=>by cases h⟩,by simp[maxLen]⟩
 ·have hle:len<=zs.length:=by rw[hz];split<;>omega
  refine⟨some a,len,cap,zs.take len,rfl,⟨by simp;omega,fun hn=>?_,fun z hz'=>?_⟩,by omega⟩
  ·obtain⟨b,off,spot⟩:=a
   have h0:=hcell 0 (by omega)
   have hspot:spot=none:=by simpa[Addr.add]using World.cell?_spot h0
   subst hspot
   refine⟨b,off,rfl,World.block_lt_of_cell? w _ h0,fun i hi=>?_⟩
   have h1:=hcell i (by omega)
   rw[add_plain]at h1;rw[h1]
   simp[List.getD,List.getElem?_take,hi]
  ·have:=hw z (List.mem_of_mem_take hz')
   simp[Lit.wf,IntKind.min,IntKind.max,IntKind.bits,IntKind.signed]at this
   omega
end
end Go.Proofs.YtkaiilmgemaljaaGreat
namespace Go.Proofs.YtkaiilmgemaljaaGreat.rollmean
open Go.ChangeShapes Go.WideShapes Go.ChangeAt Go.RowKit Go.Joins
theorem own:ownKnob Tryz.prog.godebug=none:=by kernel_rfl
theorem laidOut:laidOutB Tryz.prog=true:=by kernel_rfl
theorem lifted (os:Os) (started:os.Started) (H:Type) (enc:TypeId×Value->H):
  ReturnsInHanded {} Tryz.checked os 6 .any (Rows.fnRollMeanSpec.pre6 enc Tryz.prog Tryz.f6 Rows.fnRollMeanRow.domain false) (Rows.fnRollMeanSpec.post enc Tryz.prog Tryz.f6 false true false false):=by
 refine returnsInHanded_of_change (C:=Tryz.checked) own started (by kernel_rfl) Tryz.func6
  (ChangeSpec.witness6 (enc:=enc) (C:=Tryz.checked) false ⟨#[],#[.slice none 0 0],[]⟩ 8 (by kernel_rfl) (by kernel_rfl) (by kernel_rfl) (by kernel_rfl)) ?_
 intro W base args ds gs before hval0 hW hcnd _
 have hval:∀(j:Nat) t v,Tryz.f6.params[j]? = some t->args[j]? = some v->Value.okWide Tryz.prog W .any base t v:=hval0;have hW':=hW;obtain⟨p,q,hA0,hV,rfl,hfz,hnd⟩:=hW
 have hA:DataW.TrodAll enc Tryz.prog W 0 (fun _=>true) true Tryz.f6.params.toList args.toList ds p:=hA0
 rw[Tryz.params6]at hA hval;obtain⟨v0,vs0,d0,ds0,p0,q0,hargs,rfl,rfl,h0,r0⟩:=trodAll_cons hA;obtain⟨rfl,rfl,rfl⟩:=trodAll_nil r0
 obtain rfl:args=#[v0]:=by cases args;simp_all
 obtain⟨rfl,rfl⟩:=trodVars_none hV;have k0:=h0
 have lt0:∀x∈p0,x.block<W.heap.size:=by obtain⟨m,hm⟩:=k0;exact DataW.trod_lt m _ _ _ hm
 obtain⟨fuel0,hf0⟩:=h0;obtain⟨A,n,ca,own,he0,sA,mA⟩:=openSBy hf0;obtain⟨a1,l1,q1,rfl⟩:=okWide_slice Tryz.underlying22 (hval 0 22 _ rfl rfl)
 simp[Value.cells]at he0
 obtain⟨rfl,rfl,rfl⟩:=he0;clear hA0 hval0
 refine (rollmean_law a1 l1 q1 own W sA).mono fun e W' ⟨he,bel⟩=>?_
 subst he
 exact⟨_,rfl,_,_,_,[],_,[],hW',trodAll_mk1 (shut_bool Tryz.underlying4 _),(trodAll_cons_mk (Below.trod laidOut (by kernel_rfl) (of_decide_eq_true (by kernel_rfl)) k0 bel lt0) trodAll_mk0),rfl,bel.frame _,fun h=>by cases h⟩
theorem andI {a b:Bool} (h1:a=true) (h2:b=true):(a&&b)=true:=by rw[h1,h2];rfl
theorem facts:joinedFacts Tryz.pinned.checked.prog 6 Tryz.f6 Rows.fnRollMeanSpec Rows.fnRollMeanRow=true:=by
 unfold joinedFacts
 repeat' (with_reducible refine andI ?_ ?_)
 all_goals (as_aux_lemma=>kernel_rfl)
theorem over:Rows.fnRollMeanRow.holds Tryz.pinned (OpenSpec.ofChange Rows.fnRollMeanSpec):=
 OpenClaim.holds_of_wide 6 Tryz.f6 rfl rfl rfl rfl rfl rfl rfl ⟨rfl,rfl,rfl,rfl,rfl⟩ rfl rfl rfl rfl rfl (by as_aux_lemma=>kernel_rfl) Tryz.func6 facts
  (of_decide_eq_true (by kernel_rfl)) (by unfold Func.isWrapper;first|(rw[if_pos (by decide +kernel)];kernel_rfl)|(rw[if_neg (by decide +kernel)];exact⟨rfl,rfl⟩))
  (fun os started H enc _=>lifted os started H enc)
theorem proved:Rows.FnRollMeanSaid:=over
#print axioms proved
end Go.Proofs.YtkaiilmgemaljaaGreat.rollmean
namespace Go.Proofs.YtkaiilmgemaljaaGreat
open Go.RowKit Mo Ps Ra Ex
theorem jd {p c h s m:Int} {bv:Bool} {own other:List Int} {v o ra rb x d:Int} {q:List Int} (H:(q,x,d,0)=bmR p c h s m bv own other v o ra rb):
  ∃ (c' h' s' a b i : Nat) (ys : List E) (e : E), c = c' ∧ h = h' ∧ s = s' ∧ ra = a ∧ rb = b ∧ isVar p c' h' s' = true ∧ rollB s' a b = true ∧ PosP h' c' own ∧ 1 ≤ a ∧ 1 ≤ b ∧ h' ≤ 24 ∧ x = e.num ∧ d = (e.depth : Int) ∧ Val (sq s') e ∧ q.length = h' ∧
    i < (resultsL own a b).length /\ (resultsL own a b).getD i [] = q /\ ys.length = (resultsL own a b).length /\
    1 <= v /\ v <= 1024 /\ 0 <= o /\ o <= 2 /\
    (∀ k, k < (resultsL own a b).length -> ((resultsL own a b).getD k []).length = h' /\ eqR p c' h' s' m bv other ((resultsL own a b).getD k []) (swp (v, o)).1 (swp (v, o)).2 = (-(ys.getD k aY).num, ((ys.getD k aY).depth : Int), 0) /\ Val (sq s') (ys.getD k aY) /\ cmpE (sq s') (ys.getD k aY) e <= 0) := by
 unfold bmR at H
 by_cases hc:codeM p c h s m own other v o (isVar p c h s&&rollB s ra rb)=0
 ·rw[if_pos hc]at H
  obtain⟨hL,h0,h1⟩:=gu hc;obtain⟨c',h',s',K,rfl,rfl,rfl,rfl,hK,hv,hs1,hs6,ho,ht,hcb,hmr⟩:=codeL_nat hL;have hro:=(Bool.and_eq_true_iff.1 hmr).2;rw[hmr]at hL;have hh:=aj hv;obtain⟨a,b,rfl,rfl,ha1,ha2,hb1,hba⟩:=iO hro;have hB:=(sq_bd hs1 hs6).1;obtain⟨v1,v2,o1,o2⟩:=hcb.v0
  simp only at v1 v2 o1 o2
  have hv3:two K<=1024:=Int.le_trans (bP hK) (by decide)
  simp only[Int.toNat_natCast]at H
  have hnv:∀q y,neqv s' ⟨two K,bv⟩ other (v,o) q=some y->Val (sq s') y:=by
   intro q y hy
   unfold neqv at hy
   cases he2:eqv s' ⟨two K,bv⟩ other q (swp (v,o)) with
   | none=>rw[he2]at hy;cases hy
   | some e2 =>
     rw [he2] at hy
     simp only [Option.map_some, Option.some.injEq] at hy
     subst hy; have hw := hcb.swp.v0
     exact kp (kH hB (c := swp (v, o)) (by omega) (by omega) he2)
  cases hb:bestS (sq s') (neqv s' ⟨two K,bv⟩ other (v,o)) (resultsL own a b) with
  | none=>rw[hb]at H;simp at H
  | some t =>
    rw [hb] at H; obtain ⟨n, at', e⟩ := t
    simp only [Prod.mk.injEq] at H
    obtain ⟨rfl, rfl, rfl, _⟩ := H; have hne := bY (a := a) (b := b) ha1 hb1 ho; obtain ⟨i1, i2⟩ := bestS_at hb hne; have hall := bestS_all hb
    have hpos : ∀ k, k < (resultsL own a b).length -> PosP h' c' ((resultsL own a b).getD k []) := fun k hk => (aN ha1 hb1 ho _ (ao _ [] hk)).1
    refine ⟨c', h', s', a, b, at', (resultsL own a b).map fun q => (neqv s' ⟨two K, bv⟩ other (v, o) q).getD aY, e, rfl, rfl, rfl, rfl, rfl, hv, hro, ho, ha1, hb1, by omega, rfl, rfl, hnv _ _ i2, (hpos _ i1).1, i1, rfl, by simp, v1, by omega, o1, o2, fun k hk => ?_⟩
    obtain ⟨y, hy⟩ := hall _ (ao (resultsL own a b) [] hk)
    have hm : ((resultsL own a b).map fun q => (neqv s' ⟨two K, bv⟩ other (v, o) q).getD aY).getD k aY = y := by
      have : ((resultsL own a b).map fun q => (neqv s' ⟨two K, bv⟩ other (v, o) q).getD aY).getD k aY = (neqv s' ⟨two K, bv⟩ other (v, o) ((resultsL own a b).getD k [])).getD aY := by simp [List.getD, hk]
      rw [this, hy]
      rfl
    rw [hm]
    refine ⟨(hpos k hk).1, ?_, hnv _ _ hy, cmp_le.2 (bestS_top hB hb _ (ao _ [] hk) _ hy)⟩
    rw [eqR_next hL h1 (hpos k hk), neqv_num hy]
 ·rw[if_neg hc]at H
  simp only[Prod.mk.injEq]at H
  exact absurd H.2.2.2.symm hc
theorem bmR_no {p c h s m:Int} {bv:Bool} {own other:List Int} {v o ra rb x d k:Int} {q:List Int} (H:(q,x,d,k)=bmR p c h s m bv own other v o ra rb) (hk:k≠0):q=[]:=by
 unfold bmR at H
 split at H
 ·cases hb:bestS (sq s.toNat) (neqv s.toNat ⟨m,bv⟩ other (v,o)) (resultsL own ra.toNat rb.toNat) with
  | none=>rw[hb]at H;simp only[Prod.mk.injEq]at H;exact H.1
  | some t=>rw[hb]at H;simp only[Prod.mk.injEq]at H;exact absurd H.2.2.2 hk
 ·simp only[Prod.mk.injEq]at H
  exact H.1
end Go.Proofs.YtkaiilmgemaljaaGreat

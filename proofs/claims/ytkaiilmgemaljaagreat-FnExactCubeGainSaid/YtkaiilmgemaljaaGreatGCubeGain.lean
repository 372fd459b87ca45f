/- Part of one proof. There are no conditions. -/
import Derived.Test.YtkaiilmgemaljaaGreatRows
import Derived.Test.YtkaiilmgemaljaaGreatGP5
import Derived.Test.YtkaiilmgemaljaaGreatGD2
import Derived.ProofKit
import Derived.OpenShut
import Derived.ShutString
import Derived.ChangeOld
import Derived.Below
import Derived.Lib.SmallJoins
set_option maxHeartbeats 0
set_option linter.unusedVariables false
set_option linter.unusedSimpArgs false
set_option maxRecDepth 100000
namespace Go.Proofs.YtkaiilmgemaljaaGreat.cubeGain
open Go.ChangeShapes Go.WideShapes Go.ChangeAt Go.RowKit Go.Joins
theorem own:ownKnob Tryz.prog.godebug=none:=by kernel_rfl
theorem laidOut:laidOutB Tryz.prog=true:=by kernel_rfl
theorem lifted (os:Os) (started:os.Started) (H:Type) (enc:TypeId×Value->H):
  ReturnsInHanded {} Tryz.checked os 11 .any (Rows.fnExactCubeGainSpec.pre6 enc Tryz.prog Tryz.f11 Rows.fnExactCubeGainRow.domain false) (Rows.fnExactCubeGainSpec.post enc Tryz.prog Tryz.f11 false true false false):=by
 refine returnsInHanded_of_change (C:=Tryz.checked) own started (by kernel_rfl) Tryz.func11
  (ChangeSpec.witness6 (enc:=enc) (C:=Tryz.checked) false ⟨#[],#[.agg #[.int .i64 0,.int .i64 0,.int .i64 0,.int .i64 0],.agg #[.int .i64 0,.bool false,.bool false],.slice none 0 0,.slice none 0 0,.agg #[.int .i64 0,.int .i64 0]],[]⟩ 8 (by kernel_rfl) (by kernel_rfl) (by kernel_rfl) (by kernel_rfl)) ?_
 intro W base args ds gs before hval0 hW hcnd _
 have hval:∀(j:Nat) t v,Tryz.f11.params[j]? = some t->args[j]? = some v->Value.okWide Tryz.prog W .any base t v:=hval0;have hW':=hW;obtain⟨p,q,hA0,hV,rfl,hfz,hnd⟩:=hW
 have hA:DataW.TrodAll enc Tryz.prog W 0 (fun _=>true) true Tryz.f11.params.toList args.toList ds p:=hA0
 rw[Tryz.params11]at hA hval;obtain⟨v0,vs0,d0,ds0,p0,q0,hargs,rfl,rfl,h0,r0⟩:=trodAll_cons hA;obtain⟨v1,vs1,d1,ds1,p1,q1,rfl,rfl,rfl,h1,r1⟩:=trodAll_cons r0;obtain⟨v2,vs2,d2,ds2,p2,q2,rfl,rfl,rfl,h2,r2⟩:=trodAll_cons r1;obtain⟨v3,vs3,d3,ds3,p3,q3,rfl,rfl,rfl,h3,r3⟩:=trodAll_cons r2;obtain⟨v4,vs4,d4,ds4,p4,q4,rfl,rfl,rfl,h4,r4⟩:=trodAll_cons r3;obtain⟨rfl,rfl,rfl⟩:=trodAll_nil r4
 obtain rfl:args=#[v0,v1,v2,v3,v4]:=by cases args;simp_all
 obtain⟨rfl,rfl⟩:=trodVars_none hV;have k0:=h0;have k1:=h1;have k2:=h2;have k3:=h3;have k4:=h4
 have lt0:∀x∈p0,x.block<W.heap.size:=by obtain⟨m,hm⟩:=k0;exact DataW.trod_lt m _ _ _ hm
 have lt1:∀x∈p1,x.block<W.heap.size:=by obtain⟨m,hm⟩:=k1;exact DataW.trod_lt m _ _ _ hm
 have lt2:∀x∈p2,x.block<W.heap.size:=by obtain⟨m,hm⟩:=k2;exact DataW.trod_lt m _ _ _ hm
 have lt3:∀x∈p3,x.block<W.heap.size:=by obtain⟨m,hm⟩:=k3;exact DataW.trod_lt m _ _ _ hm
 have lt4:∀x∈p4,x.block<W.heap.size:=by obtain⟨m,hm⟩:=k4;exact DataW.trod_lt m _ _ _ hm
 obtain⟨cs0,rfl,hsz0⟩:=okWide_struct Tryz.underlying75 (hval 0 75 v0 rfl rfl);obtain⟨cs1,rfl,hsz1⟩:=okWide_struct Tryz.underlying76 (hval 1 76 v1 rfl rfl);obtain⟨cs4,rfl,hsz4⟩:=okWide_struct Tryz.underlying77 (hval 4 77 v4 rfl rfl);obtain⟨fuel0,hf0⟩:=h0;obtain⟨fuel1,hf1⟩:=h1;obtain⟨fuel2,hf2⟩:=h2;obtain⟨fuel3,hf3⟩:=h3;obtain⟨fuel4,hf4⟩:=h4;obtain⟨p,c,g,s,hcs0,-,-,-,-⟩:=openVariant hf0;obtain⟨km,kb,kj,hcs1,wkm⟩:=openRules hf1;obtain⟨A,n,ca,own,he2,sA,mA,-⟩:=openSL hf2;obtain⟨B,m,cb,other,he3,sB,mB,-⟩:=openSL hf3;obtain⟨cv,co,hcs4,wcv,wco⟩:=openCube hf4
 obtain rfl:cs0=#[.int .i64 p,.int .i64 c,.int .i64 g,.int .i64 s]:=by
  obtain⟨l⟩:=cs0
  simp[Value.cells]at hcs0
  rw[hcs0]
 obtain rfl:cs1=#[.int .i64 km,.bool kb,.bool kj]:=by
  obtain⟨l⟩:=cs1
  simp[Value.cells]at hcs1
  rw[hcs1]
 obtain⟨a1,l1,q1,rfl⟩:=okWide_slice Tryz.underlying26 (hval 2 26 _ rfl rfl)
 simp[Value.cells]at he2
 obtain⟨rfl,rfl,rfl⟩:=he2;obtain⟨a2,l2,q2,rfl⟩:=okWide_slice Tryz.underlying26 (hval 3 26 _ rfl rfl)
 simp[Value.cells]at he3
 obtain⟨rfl,rfl,rfl⟩:=he3
 obtain rfl:cs4=#[.int .i64 cv,.int .i64 co]:=by
  obtain⟨l⟩:=cs4
  simp[Value.cells]at hcs4
  rw[hcs4]
 clear hA0 hval0
 refine (cubeGain_law p c g s km kb kj cv co a1 a2 l1 l2 q1 q2 own other W sA sB).mono fun e W' ⟨he,bel⟩=>?_
 subst he
 exact⟨_,rfl,_,_,_,[],_,[],hW',trodAll_mk1 (shut_bool Tryz.underlying4 _),(trodAll_cons_mk (Below.trod laidOut (by kernel_rfl) (of_decide_eq_true (by kernel_rfl)) k0 bel lt0) (trodAll_cons_mk (Below.trod laidOut (by kernel_rfl) (of_decide_eq_true (by kernel_rfl)) k1 bel lt1) (trodAll_cons_mk (Below.trod laidOut (by kernel_rfl) (of_decide_eq_true (by kernel_rfl)) k2 bel lt2) (trodAll_cons_mk (Below.trod laidOut (by kernel_rfl) (of_decide_eq_true (by kernel_rfl)) k3 bel lt3) (trodAll_cons_mk (Below.trod laidOut (by kernel_rfl) (of_decide_eq_true (by kernel_rfl)) k4 bel lt4) trodAll_mk0))))),rfl,bel.frame _,fun h=>by cases h⟩
theorem andI {a b:Bool} (h1:a=true) (h2:b=true):(a&&b)=true:=by rw[h1,h2];rfl
theorem facts:joinedFacts Tryz.pinned.checked.prog 11 Tryz.f11 Rows.fnExactCubeGainSpec Rows.fnExactCubeGainRow=true:=by
 unfold joinedFacts
 repeat' (with_reducible refine andI ?_ ?_)
 all_goals (as_aux_lemma=>kernel_rfl)
theorem over:Rows.fnExactCubeGainRow.holds Tryz.pinned (OpenSpec.ofChange Rows.fnExactCubeGainSpec):=
 OpenClaim.holds_of_wide 11 Tryz.f11 rfl rfl rfl rfl rfl rfl rfl ⟨rfl,rfl,rfl,rfl,rfl⟩ rfl rfl rfl rfl rfl (by as_aux_lemma=>kernel_rfl) Tryz.func11 facts
  (of_decide_eq_true (by kernel_rfl)) (by unfold Func.isWrapper;first|(rw[if_pos (by decide +kernel)];kernel_rfl)|(rw[if_neg (by decide +kernel)];exact⟨rfl,rfl⟩))
  (fun os started H enc _=>lifted os started H enc)
theorem proved:Rows.FnExactCubeGainSaid:=over
#print axioms proved
end Go.Proofs.YtkaiilmgemaljaaGreat.cubeGain

/- Part of one proof. There are no conditions. -/
import Derived.Test.YtcmeoenkgmghkaaGreatRows
import Derived.Test.YtcmeoenkgmghkaaGreatPOpen
import Derived.ShutString
import Derived.ChangeOld
set_option maxHeartbeats 0
set_option linter.unusedVariables false
set_option linter.unusedSimpArgs false
set_option maxRecDepth 100000
namespace Go.Proofs.YtcmeoenkgmghkaaGreat.playIntervals
open Go.ChangeShapes Go.WideShapes Go.ChangeAt Go.RowKit Go.Joins
theorem own:ownKnob Tryz.prog.godebug=none:=by kernel_rfl
theorem laidOut:laidOutB Tryz.prog=true:=by kernel_rfl
theorem lifted(os:Os)(started:os.Started)(H:Type)(enc:TypeId×Value->H):
  ReturnsInHanded {} Tryz.checked os 3 .any (Rows.fnExactPlayIntervalsSpec.pre6 enc Tryz.prog Tryz.f3 Rows.fnExactPlayIntervalsRow.domain false) (Rows.fnExactPlayIntervalsSpec.post enc Tryz.prog Tryz.f3 false true false false):=by
 refine returnsInHanded_of_change (C:=Tryz.checked) own started (by kernel_rfl) Tryz.func3
  (ChangeSpec.witness6 (enc:=enc) (C:=Tryz.checked) false ⟨#[],#[.agg #[.int .i64 0,.int .i64 0,.int .i64 0,.int .i64 0],.agg #[.slice none 0 0,.slice none 0 0],.agg #[.int .i64 0,.int .i64 0],.int .i64 0],[]⟩ 8 (by kernel_rfl) (by kernel_rfl) (by kernel_rfl) (by kernel_rfl)) ?_
 intro W base args ds gs before hval0 hW hcnd _
 have hval:∀(j:Nat) t v,Tryz.f3.params[j]? =some t->args[j]? =some v->Value.okWide Tryz.prog W .any base t v:=hval0;have hW':=hW;obtain⟨p,q,hA0,hV,rfl,hfz,hnd⟩:=hW
 have hA:DataW.TrodAll enc Tryz.prog W 0 (fun _=>true) true Tryz.f3.params.toList args.toList ds p:=hA0
 rw[Tryz.params3]at hA hval;obtain⟨v0,vs0,d0,ds0,p0,q0,hargs,rfl,rfl,h0,r0⟩:=trodAll_cons hA;obtain⟨v1,vs1,d1,ds1,p1,q1,rfl,rfl,rfl,h1,r1⟩:=trodAll_cons r0;obtain⟨v2,vs2,d2,ds2,p2,q2,rfl,rfl,rfl,h2,r2⟩:=trodAll_cons r1;obtain⟨v3,vs3,d3,ds3,p3,q3,rfl,rfl,rfl,h3,r3⟩:=trodAll_cons r2;obtain⟨rfl,rfl,rfl⟩:=trodAll_nil r3
 obtain rfl:args=#[v0,v1,v2,v3]:=by cases args;simp_all
 obtain⟨rfl,rfl⟩:=trodVars_none hV;obtain⟨z3,rfl,rfl,rfl,wz3⟩:=open_int Tryz.underlying2 (hval 3 2 v3 rfl rfl) h3;have k0:=h0;have k1:=h1;have k2:=h2
 have lt0:∀x∈p0,x.block<W.heap.size:=by obtain⟨m,hm⟩:=k0;exact DataW.trod_lt m _ _ _ hm
 have lt1:∀x∈p1,x.block<W.heap.size:=by obtain⟨m,hm⟩:=k1;exact DataW.trod_lt m _ _ _ hm
 have lt2:∀x∈p2,x.block<W.heap.size:=by obtain⟨m,hm⟩:=k2;exact DataW.trod_lt m _ _ _ hm
 obtain⟨cs0,rfl,hsz0⟩:=okWide_struct Tryz.underlying23 (hval 0 23 v0 rfl rfl);obtain⟨cs1,rfl,hsz1⟩:=okWide_struct Tryz.underlying26 (hval 1 26 v1 rfl rfl);obtain⟨cs2,rfl,hsz2⟩:=okWide_struct Tryz.underlying28 (hval 2 28 v2 rfl rfl);obtain⟨fuel0,hf0⟩:=h0;obtain⟨fuel1,hf1⟩:=h1;obtain⟨fuel2,hf2⟩:=h2;obtain⟨p,c,g,s,hcs0,-,-,-,-⟩:=openVariant hf0;obtain⟨A1,n1,ka,xs,A2,n2,kb,ys,hcs1,sA,mA,sB,mB⟩:=openBoard hf1;obtain⟨ra,rb,hcs2,-,-⟩:=openRoll hf2
 obtain rfl:cs0=#[.int .i64 p,.int .i64 c,.int .i64 g,.int .i64 s]:=by
  obtain⟨l⟩:=cs0
  simp[Value.cells]at hcs0
  rw[hcs0]
 obtain rfl:cs1=#[.slice A1 n1 ka,.slice A2 n2 kb]:=by
  obtain⟨l⟩:=cs1
  simp[Value.cells]at hcs1
  rw[hcs1]
 obtain rfl:cs2=#[.int .i64 ra,.int .i64 rb]:=by
  obtain⟨l⟩:=cs2
  simp[Value.cells]at hcs2
  rw[hcs2]
 clear hA0 hval0
 refine(iF p c g s A1 A2 n1 ka n2 kb xs ys ra rb z3 W sA sB mA mB).mono fun e W' ⟨he,bel⟩=>?_
 subst he
 exact⟨_,rfl,_,_,_,[],_,[],hW',trodAll_mk1 (shut_bool Tryz.underlying4 _),(trodAll_cons_mk (Below.trod laidOut (by kernel_rfl) (of_decide_eq_true (by kernel_rfl)) k0 bel lt0) (trodAll_cons_mk (Below.trod laidOut (by kernel_rfl) (of_decide_eq_true (by kernel_rfl)) k1 bel lt1) (trodAll_cons_mk (Below.trod laidOut (by kernel_rfl) (of_decide_eq_true (by kernel_rfl)) k2 bel lt2) (trodAll_cons_mk (shut_int Tryz.underlying2 wz3) trodAll_mk0)))),rfl,bel.frame _,fun h=>by cases h⟩
theorem andI{a b:Bool}(h1:a=true)(h2:b=true):(a&&b)=true:=by rw[h1,h2];rfl
theorem facts:joinedFacts Tryz.pinned.checked.prog 3 Tryz.f3 Rows.fnExactPlayIntervalsSpec Rows.fnExactPlayIntervalsRow=true:=by
 unfold joinedFacts
 repeat' (with_reducible refine andI ?_ ?_)
 all_goals (as_aux_lemma=>kernel_rfl)
theorem over:Rows.fnExactPlayIntervalsRow.holds Tryz.pinned (OpenSpec.ofChange Rows.fnExactPlayIntervalsSpec):=
 OpenClaim.holds_of_wide 3 Tryz.f3 rfl rfl rfl rfl rfl rfl rfl ⟨rfl,rfl,rfl,rfl,rfl⟩ rfl rfl rfl rfl rfl (by as_aux_lemma=>kernel_rfl) Tryz.func3 facts
  (of_decide_eq_true (by kernel_rfl)) (by unfold Func.isWrapper;first|(rw[if_pos (by decide +kernel)];kernel_rfl)|(rw[if_neg (by decide +kernel)];exact⟨rfl,rfl⟩))
  (fun os started H enc _=>lifted os started H enc)
theorem proved:Rows.FnExactPlayIntervalsSaid:=over
#print axioms proved
end Go.Proofs.YtcmeoenkgmghkaaGreat.playIntervals

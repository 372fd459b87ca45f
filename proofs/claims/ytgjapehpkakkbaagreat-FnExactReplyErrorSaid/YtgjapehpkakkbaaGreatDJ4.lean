/- Part of one proof. There are no conditions. -/
import Derived.Test.YtgjapehpkakkbaaGreatDJ6
import Derived.Test.YtgjapehpkakkbaaGreatDM14
set_option linter.unusedVariables false
set_option linter.unusedSimpArgs false
namespace Go.Proofs.YtgjapehpkakkbaaGreat
open Go.RowKit Mo Ps Ra Ex
theorem ltE_irr (B:Int) (z:E):ltE B z z=false:=by unfold ltE;simp
theorem ltE_asym {B:Int} {x y:E} (h:ltE B x y=true):ltE B y x=false:=by
 unfold ltE at *;have:=of_decide_eq_true h
 exact decide_eq_false (by omega)
theorem les_cases (B:Int) (x:E) (c:Cb):(les B x c=x∧lesA B x c=1∧x≠whl c.1∧ltE B x (whl c.1)=true)∨(les B x c=whl c.1∧lesA B x c=2∧ltE B x (whl c.1)=false):=by
 cases h:ltE B x (whl c.1) with
 | true=>exact .inl ⟨if_pos h,if_pos h,(fun e=>by rw[e,ltE_irr]at h;cases h),rfl⟩
 | false=>exact .inr ⟨if_neg (by rw[h];decide),if_neg (by rw[h];decide),rfl⟩
theorem reply_law {B:Int} {r:Ru} {R:List Int→List Int→Cb→Option E} {own other:List Int} {c:Cb} {D:E} {a:Int} (h:dblG B r R own other c=some (D,a)):
  ∃x,R own other (2*c.1,2)=some x∧((D=whl c.1∧a=2)∨(D≠whl c.1∧D=x∧a=1)∨(D≠whl c.1∧D≠x∧bvr r c=true∧∃y b,bevG B r R own other c=some (y,b)∧a=if b then 4 else 3)):=by
 rw[dblG_eq]at h
 cases hx:R own other (2*c.1,2) with
 | none=>rw[hx]at h;cases h
 | some x =>
   rw [hx] at h
   refine ⟨x, rfl, ?_⟩
   simp only [Option.bind_some] at h
   have base : (les B x c, lesA B x c) = (D, a) → (D = whl c.1 ∧ a = 2) ∨ (D ≠ whl c.1 ∧ D = x ∧ a = 1) := fun e => by
     injection e with e1 e2
     rcases les_cases B x c with ⟨l1, l2, l3, _⟩ | ⟨l1, l2, _⟩
     · exact .inr ⟨by rw [← e1, l1]; exact l3, by rw [← e1, l1], by rw [← e2, l2]⟩
     · exact .inl ⟨by rw [← e1, l1], by rw [← e2, l2]⟩
   by_cases hb : bvr r c = true
   · rw [if_pos hb] at h
     cases hy : bevG B r R own other c with
     | none => rw [hy] at h; cases h
     | some yb =>
       obtain ⟨y, b⟩ := yb; rw [hy] at h
       simp only [Option.map_some, Option.some.injEq] at h
       by_cases hl : ltE B y (les B x c) = true
       · rw [if_pos hl] at h
         injection h with h1 h2
         refine .inr (.inr ⟨?_, ?_, hb, y, b, rfl, h2.symm⟩)
         · rw [← h1]
           rintro rfl
           rcases les_cases B x c with ⟨l1, _, _, l4⟩ | ⟨l1, _, _⟩
           · rw [l1, ltE_asym l4] at hl; cases hl
           · rw [l1, ltE_irr] at hl; cases hl
         · rw [← h1]
           rintro rfl
           rcases les_cases B y c with ⟨l1, _, _, _⟩ | ⟨l1, _, l3⟩
           · rw [l1, ltE_irr] at hl; cases hl
           · rw [l1, l3] at hl; cases hl
       · rw [if_neg hl] at h
         exact (base h).imp id .inl
   · rw [if_neg hb] at h
     exact (base (Option.some.inj h)).imp id .inl
end Go.Proofs.YtgjapehpkakkbaaGreat
namespace Go.Proofs.YtgjapehpkakkbaaGreat
open Go.RowKit Ps Ra Ex Go.Maps Mo
theorem eql_exactM (a b a' b':Int) (w:World):(binOp .eql 35 (.agg #[.int .i64 a,.int .i64 b]) (.agg #[.int .i64 a',.int .i64 b'])).run Tryz.prog w = .ok (.bool (decide (a=a'∧b=b'))) w:=by
 have u3:=Tryz.underlying2
 have hS:Tryz.prog.underlying 35=some (.struct (Tryz.prog.fieldsOf 35)):=by kernel_rfl
 have hp:Tryz.prog.stoodInHeld 35=false:=by kernel_rfl
 rw[run_eql_struct,show (10000:Nat)=9999+1 from rfl,run_equalIn_agg w 9999 35 _ _ hS hp]
 simp only[Program.fieldsOf,Tryz.underlying35]
 go_simp
 by_cases h1:a=a'<;>by_cases h2:b=b'<;>simp[h1,h2]
end Go.Proofs.YtgjapehpkakkbaaGreat
/- Part of one proof. There are no conditions. -/
import Derived.Test.YtkaiilmgemaljaaGreatCD2
import Derived.Test.YtkaiilmgemaljaaGreatCZv
import Derived.Test.YtkaiilmgemaljaaGreatCZk
import Derived.Test.YtkaiilmgemaljaaGreatCZm
import Derived.Test.YtkaiilmgemaljaaGreatCN14
import Derived.Test.YtkaiilmgemaljaaGreatCE2
import Derived.Test.YtkaiilmgemaljaaGreatCE5
import Derived.Test.YtkaiilmgemaljaaGreatCD17
import Derived.Test.YtkaiilmgemaljaaGreatCM23
set_option linter.unusedVariables false
set_option linter.unusedSimpArgs false
namespace Go.Proofs.YtkaiilmgemaljaaGreat
open Go.RowKit Ps Ra Ex
theorem exC_set:∀(xs:List E) (i:Nat) (m:Int) (d:Nat),((exC xs).set (i*2) (.int .i64 m)).set (i*2+1) (.int .i64 (d:Int))=exC (xs.set i ⟨m,d⟩)
 | [],i,m,d=>by simp[exC]
 | x::xs,0,m,d=>by simp[exC]
 | x :: xs, i + 1, m, d => by
   have ih := exC_set xs i m d
   rw [show (i + 1) * 2 = i * 2 + 2 by omega]
   simp only [exC, List.flatMap_cons, List.cons_append, List.nil_append, List.set_cons_succ] at ih ⊢
   rw [ih]
theorem OwnE.below {w w':World} {base:Nat} {v:Value} {xs:List E} (h:OwnE w base v xs) (hb:Below w.heap.size w w'):OwnE w' base v xs:=own_below h hb
theorem OwnE.elv {w:World} {base:Nat} {A:Option Addr} {n c:Nat} {xs:List E} (h:OwnE w base (.slice A n c) xs):EL (fun _=>False) w A n xs∧n≤c:=by
 obtain⟨A',c',hv,hel,hc⟩:=h.el;injection hv with h1 h2 h3;subst h1 h2 h3
 exact⟨hel,hc⟩
theorem OwnE.stored {w:World} {base:Nat} {g n c:Nat} {xs:List E} (h:OwnE w base (.slice (some ⟨g,0,none⟩) n c) xs) (j:Nat) (m:Int) (d:Nat):
  OwnE ((w.setCell ⟨g,j*2,none⟩ (.int .i64 m)).setCell ⟨g,j*2+1,none⟩ (.int .i64 (d:Int))) base (.slice (some ⟨g,0,none⟩) n c) (xs.set j ⟨m,d⟩):=by
 have hn:=h.elv.1.1;unfold OwnE at h ⊢;rw[hn]at h;have h1:=(World.ownsRow.stored h (j*2) (.int .i64 m)).1;have h2:=(World.ownsRow.stored h1 (j*2+1) (.int .i64 (d:Int))).1;rw[exC_set]at h2
 rw[show (xs.set j ⟨m,d⟩).length=n by rw[List.length_set,hn]]
 exact h2
theorem Cel.frm {S:Nat→Prop} {W W':World} {g:Nat} {cs:List Value} (h:Cel W g cs) (hf:Frm S W W') (hn:¬S g):Cel W' g cs:=
 ⟨Nat.lt_of_lt_of_le h.lt hf.size,fun i x hx=>hf.cell' (h.cell i x hx) hn,fun i x hx=>(zaG hf h.lt hn).trans (h.froz i x hx)⟩
end Go.Proofs.YtkaiilmgemaljaaGreat
namespace Go.Proofs.YtkaiilmgemaljaaGreat
open Go.RowKit Ps Ra Ex
theorem eql_exact (a b a' b':Int) (w:World):(binOp .eql 35 (.agg #[.int .i64 a,.int .i64 b]) (.agg #[.int .i64 a',.int .i64 b'])).run Tryz.prog w = .ok (.bool (decide (a=a'∧b=b'))) w:=by
 have u3:=Tryz.underlying2
 have hS:Tryz.prog.underlying 35=some (.struct (Tryz.prog.fieldsOf 35)):=by kernel_rfl
 have hp:Tryz.prog.stoodInHeld 35=false:=by kernel_rfl
 rw[run_eql_struct,show (10000:Nat)=9999+1 from rfl,run_equalIn_agg w 9999 35 _ _ hS hp]
 simp only[Program.fieldsOf,Tryz.underlying35]
 go_simp
 by_cases h1:a=a'<;>by_cases h2:b=b'<;>simp[h1,h2]
theorem big_any (A:Option Addr) (n c:Nat) (w:World):Calls Tryz.prog 14 #[.slice A n c] w fun e w'=>e = .returned (.bool (decide (4096<n)))∧w=w':=by
 go_enter Tryz.func14,Tryz.ntmps14
 go_wp2_with (fail)
 go_ret
 exact⟨by by_cases h:4096<n<;>simp[h]<;>omega,rfl⟩
end Go.Proofs.YtkaiilmgemaljaaGreat
namespace Go.Proofs.YtkaiilmgemaljaaGreat
open Go.RowKit Mo Ps Ra Ex
theorem codeL_nat {p c h s m:Int} {own other:List Int} {v o:Int} {more:Bool} (H:codeL p c h s m own other v o more=0):∃c' h' s' K:Nat,c=c'∧h=h'∧s=s'∧m=two K∧K≤10∧isVar p c' h' s'=true∧1≤s'∧s'≤6∧PosP h' c' own∧PosP h' c' other∧CbOk K (v,o)∧more=true:=by
 obtain⟨hv,hr,h1,h2,hc,hm,_⟩:=zbN H;have hvv:=zaj hv
 obtain⟨c',rfl⟩:∃c':Nat,c=c':=⟨c.toNat,by omega⟩
 obtain⟨h',rfl⟩:∃h':Nat,h=h':=⟨h.toNat,by omega⟩
 obtain⟨s',rfl⟩:∃s':Nat,s=s':=⟨s.toNat,by omega⟩
 obtain⟨K,hK,rfl⟩:=zbL hr
 exact⟨c',h',s',K,rfl,rfl,rfl,rfl,hK,hv,by omega,by omega,zaQ h1,zaQ h2,zdQ hc,hm⟩
theorem numR_ok {o:Option E} {x d:Int} (H:(x,d,(0:Int))=numR o):∃e,o=some e∧x=e.num∧d=(e.depth:Int):=by
 cases o with
 | none=>unfold numR at H;simp at H
 | some e=>unfold numR at H;simp at H;exact⟨e,rfl,H.1,H.2⟩
end Go.Proofs.YtkaiilmgemaljaaGreat

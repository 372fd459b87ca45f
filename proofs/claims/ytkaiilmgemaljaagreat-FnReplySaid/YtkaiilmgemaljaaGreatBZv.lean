/- Part of one proof. There are no conditions. -/
import Derived.Test.YtkaiilmgemaljaaGreatBD7
import Derived.Test.YtkaiilmgemaljaaGreatBZm
import Derived.Test.YtkaiilmgemaljaaGreatBZb
import Derived.Test.YtkaiilmgemaljaaGreatBD2
set_option linter.unusedVariables false
set_option linter.unusedSimpArgs false
/- Contract of the check of a variant and positions with tables, the program's. There are no conditions. -/
namespace Go.Proofs.YtkaiilmgemaljaaGreat
open Go.RowKit Ps
def PLx (w:World) (A:Option Addr) (n:Nat) (ps:List (List Int)):Prop:=
 ps.length=n∧(0<n→∃b off,A=some ⟨b,off,none⟩∧b<w.heap.size∧∀k,k<n→∃B m c,w.cell? ⟨b,off+k,none⟩=some (.slice B m c)∧SL w B m (ps.getD k []))
theorem PLx.below {w w':World} {A:Option Addr} {n:Nat} {ps:List (List Int)} (h:PLx w A n ps) (hb:Below w.heap.size w w'):PLx w' A n ps:=by
 refine⟨h.1,fun hn=>?_⟩
 obtain⟨b,off,hA,hlt,hc⟩:=h.2 hn
 refine⟨b,off,hA,Nat.lt_of_lt_of_le hlt hb.size,fun k hk=>?_⟩
 obtain⟨B,m,c,h1,h2⟩:=hc k hk
 exact⟨B,m,c,zab h1 hb,h2.below hb⟩
end Go.Proofs.YtkaiilmgemaljaaGreat
/- Contract of the program's WinChance. There are no conditions. -/
namespace Go.Proofs.YtkaiilmgemaljaaGreat
open Go.RowKit Ps Ra Ex
def numR (o:Option E):Int×Int×Int:=match o with
 | none=>(0,0,3)
 | some e=>(e.num,(e.depth:Int),0)
def RetN (w:World) (r:Int×Int×Int) (e:Ending) (w':World):Prop:=e = .returned (.tuple #[.agg #[.int .i64 r.1,.int .i64 r.2.1],.int .i64 r.2.2])∧Below w.heap.size w w'
theorem RetN.mk' {w w':World} {r:Int×Int×Int} {a b c:Int} (hr:r=(a,b,c)) (hb:Below w.heap.size w w'):RetN w r (.returned (.tuple #[.agg #[.int .i64 a,.int .i64 b],.int .i64 c])) w':=by subst hr;exact⟨rfl,hb⟩
theorem SQ.of_sl {S:Nat→Prop} {w:World} {A:Option Addr} {n:Nat} {xs:List Int} (h:SL w A n xs) (hS:∀k,S k→w.heap.size≤k):SQ S w A n xs:=
 ⟨h,fun hn b off s hA hb=>by
  obtain⟨b',off',hA',hlt,_⟩:=h.2 hn;rw[hA]at hA';injection hA' with hA';injection hA' with h1 h2 h3;subst h1;have:=hS b hb
  omega⟩
end Go.Proofs.YtkaiilmgemaljaaGreat
/- Contracts of the reference's check of a race and of its WinChance. There are no conditions. -/
namespace Go.Proofs.YtkaiilmgemaljaaGreat
open Go.RowKit Ps Ra Ex
end Go.Proofs.YtkaiilmgemaljaaGreat
/- Contract of the reference's WinChance. There are no conditions. -/
namespace Go.Proofs.YtkaiilmgemaljaaGreat
open Go.RowKit Ps Ra Ex
end Go.Proofs.YtkaiilmgemaljaaGreat
/- The statement FnExactWinChance, the law's walk. There are no conditions. -/
namespace Go.Proofs.YtkaiilmgemaljaaGreat
open Go.RowKit Ps Ra Ex
end Go.Proofs.YtkaiilmgemaljaaGreat

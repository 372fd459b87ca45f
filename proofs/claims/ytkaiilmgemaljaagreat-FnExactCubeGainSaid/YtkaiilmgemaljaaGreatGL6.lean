/- Part of one proof. There are no conditions. -/
import Derived.Test.YtkaiilmgemaljaaGreatGD2
import Derived.Test.YtkaiilmgemaljaaGreatGZv
set_option linter.unusedVariables false
set_option linter.unusedSimpArgs false
namespace Go.Proofs.YtkaiilmgemaljaaGreat
open Go.RowKit Ps Ra Ex
theorem OwnE.below {w w':World} {base:Nat} {v:Value} {xs:List E} (h:OwnE w base v xs) (hb:Below w.heap.size w w'):OwnE w' base v xs:=own_below h hb
theorem Cel.frm {S:Nat->Prop} {W W':World} {g:Nat} {cs:List Value} (h:Cel W g cs) (hf:Frm S W W') (hn:¬S g):Cel W' g cs:=
 ⟨Nat.lt_of_lt_of_le h.lt hf.size,fun i x hx=>hf.cell' (h.cell i x hx) hn,fun i x hx=>(aI hf h.lt hn).trans (h.froz i x hx)⟩
end Go.Proofs.YtkaiilmgemaljaaGreat

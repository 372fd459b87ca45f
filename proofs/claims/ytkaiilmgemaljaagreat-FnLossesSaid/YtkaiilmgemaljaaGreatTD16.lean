/- Part of one proof. There are no conditions. -/
import Derived.Test.YtkaiilmgemaljaaGreatTD11
import Derived.Test.YtkaiilmgemaljaaGreatTZm
import Derived.Test.YtkaiilmgemaljaaGreatTZa
import Derived.Test.YtkaiilmgemaljaaGreatTZp
set_option linter.unusedVariables false
set_option linter.unusedSimpArgs false
namespace Go.Proofs.YtkaiilmgemaljaaGreat
open Go.RowKit
inductive AllF (S:Nat->Prop):List RP->Prop
 | nil:AllF S []
 | cons {P:RP} {l:List RP}:(∀v W W',P v W->Frm S W W'->P v W')->AllF S l->AllF S (P::l)
theorem GL.stabF {S:Nat->Prop}:∀{l:List RP},AllF S l->∀i v W W',GL l i v W->Frm S W W'->GL l i v W'
 | _,.nil,_,_,_,_,_,_=>trivial
 | _,.cons h _,0,v,W,W',hg,hb=>h v W W' hg hb
 | _,.cons _ h,i+1,v,W,W',hg,hb=>GL.stabF h i v W W' hg hb
theorem FrS.cel {S:Nat->Prop} {w wr:World} {L:List (List Value)} (h:FrS S w wr L) (i:Nat) {b:Nat} {cs:List Value} (hb:b=w.heap.size+i) (hi:i<L.length) (hc:∀j v,cs[j]? = some v->frAt L i j=some v):Cel wr b cs:=
 ⟨h.ltA i hb hi,fun j v hv=>h.cellA i j hb (hc j v hv),fun j v hv=>h.frozA i j hb (hc j v hv)⟩
end Go.Proofs.YtkaiilmgemaljaaGreat

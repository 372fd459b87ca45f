/- Part of one proof. There are no conditions. -/
import Derived.Test.YtkaiilmgemaljaaGreatTZl
import Derived.Test.YtkaiilmgemaljaaGreatTZv
set_option linter.unusedVariables false
set_option linter.unusedSimpArgs false
namespace Go.Proofs.YtkaiilmgemaljaaGreat
open Go.RowKit Ps Ra Ex
theorem OwnE.below {w w':World} {base:Nat} {v:Value} {xs:List E} (h:OwnE w base v xs) (hb:Below w.heap.size w w'):OwnE w' base v xs:=own_below h hb
theorem Cel.frm {S:Nat->Prop} {W W':World} {g:Nat} {cs:List Value} (h:Cel W g cs) (hf:Frm S W W') (hn:¬S g):Cel W' g cs:=
 ⟨Nat.lt_of_lt_of_le h.lt hf.size,fun i x hx=>hf.cell' (h.cell i x hx) hn,fun i x hx=>(bE hf h.lt hn).trans (h.froz i x hx)⟩
def StbO (O:World->Nat->Value->Prop):Prop:=∀W W' b v,O W b v->Bel W W'->O W' b v
def RowT (O:World->Nat->Value->Prop) (lo:Nat) (rest:List Value):RP:=fun v W=>∃u b,v = .tuple (u::rest).toArray/\lo<=b/\O W b u
def RowE (O:World->Nat->Value->Prop) (lo:Nat):RP:=fun v W=>∃b,lo<=b/\O W b v
theorem stb_rowT {O:World->Nat->Value->Prop} {lo:Nat} {rest:List Value} (h:StbO O):Stb (RowT O lo rest):=fun _ _ _ ⟨u,b,h1,h2,h3⟩ hb=>⟨u,b,h1,h2,h _ _ _ _ h3 hb⟩
theorem stb_rowE {O:World->Nat->Value->Prop} {lo:Nat} (h:StbO O):Stb (RowE O lo):=fun _ _ _ ⟨b,h2,h3⟩ hb=>⟨b,h2,h _ _ _ _ h3 hb⟩
theorem stO_I {xs:List Int} {e:TypeId}:StbO (fun W b v=>OwnS W b e v xs):=fun _ _ _ _ h hb=>h.below hb
end Go.Proofs.YtkaiilmgemaljaaGreat

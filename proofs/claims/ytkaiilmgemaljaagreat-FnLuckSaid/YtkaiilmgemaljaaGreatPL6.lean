/- Contracts of what the laws do with lists of exact numbers: they are held against each other, marked, and looked at again. There are no conditions. -/
import Derived.Test.YtkaiilmgemaljaaGreatPZl
import Derived.Test.YtkaiilmgemaljaaGreatPZv
namespace Go.Proofs.YtkaiilmgemaljaaGreat
set_option linter.unusedVariables false
set_option linter.unusedSimpArgs false
open Go.RowKit Ps Ra Ex

theorem OwnE.below {w w' : World} {base : Nat} {v : Value} {xs : List E} (h : OwnE w base v xs) (hb : Below w.heap.size w w') : OwnE w' base v xs := own_below h hb
theorem Frm.rowE {S : Nat → Prop} {w w' : World} {base : Nat} {v : Value} {xs : List E} (h : Frm S w w') (ho : OwnE w base v xs) (hn : ∀ k, v.ownBlock = some k → ¬ S k) : OwnE w' base v xs := h.row ho hn
theorem Cel.frm {S : Nat → Prop} {W W' : World} {g : Nat} {cs : List Value} (h : Cel W g cs) (hf : Frm S W W') (hn : ¬ S g) : Cel W' g cs :=
 ⟨Nat.lt_of_lt_of_le h.lt hf.size, fun i x hx => hf.cell' (h.cell i x hx) hn, fun i x hx => (frm_froz hf h.lt hn).trans (h.froz i x hx)⟩
/-! ### what a drawn region's call hands back -/
end Go.Proofs.YtkaiilmgemaljaaGreat

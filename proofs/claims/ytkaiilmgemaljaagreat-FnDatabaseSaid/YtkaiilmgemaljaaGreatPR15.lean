/- The law's walk for a true database. There are no conditions. -/
import Derived.Test.YtkaiilmgemaljaaGreatPR14
import Derived.Test.YtkaiilmgemaljaaGreatPR6
import Derived.Test.YtkaiilmgemaljaaGreatPZl
set_option linter.unusedVariables false
set_option linter.unusedSimpArgs false
namespace Go.Proofs.YtkaiilmgemaljaaGreat
open Go.RowKit Ps Ra Ex
theorem dbC_zero {p c h s k:Int} (h0:dbC p c h s k=0):dbOk h.toNat c.toNat k:=by
 unfold dbC at h0
 split at h0
 ·cases h0
 ·split at h0
  ·cases h0
  ·split at h0
   ·cases h0
   ·rename_i h3;exact Decidable.not_not.1 h3
theorem dbE_len {h c s:Nat} {k:Int} {xs:List E} (he:dbE h c s k=some xs):xs.length=dbN h c k:=by
 unfold dbE at he
 split at he<;>exact allN_len he
end Go.Proofs.YtkaiilmgemaljaaGreat

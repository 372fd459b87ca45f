/- Part of one proof. There are no conditions. -/
import Derived.Test.YtkaiilmgemaljaaGreatRZp
set_option linter.unusedVariables false
set_option linter.unusedSimpArgs false
namespace Go.Proofs.YtkaiilmgemaljaaGreat.Ra
open Go.Proofs.YtkaiilmgemaljaaGreat.Ex Go.Proofs.YtkaiilmgemaljaaGreat.Ps
def av (B:Int) (M:Nat) (e:E):Int:=e.num*pw B (M-e.depth)
theorem pw_cut (B:Int) {M d:Nat} (h:d<=M):pw B M=pw B (M-d)*pw B d:=by rw[<- fZ];congr 1;omega
end Go.Proofs.YtkaiilmgemaljaaGreat.Ra

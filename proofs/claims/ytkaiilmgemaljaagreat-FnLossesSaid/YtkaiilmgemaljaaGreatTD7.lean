/- Part of one proof. There are no conditions. -/
import Derived.Test.YtkaiilmgemaljaaGreatTD6
set_option linter.unusedVariables false
set_option linter.unusedSimpArgs false
namespace Go.Proofs.YtkaiilmgemaljaaGreat
open Go.RowKit
def dR (bs:List Int):(Int×Int×Int×Int)×(List Int×List Int×(Int×Nat)):=d12F bs (seedK bs 64,0)
theorem SBy.below {w w':World} {C:Option Addr} {n:Nat} {bs:List Int} (h:SBy w C n bs) (hb:Below w.heap.size w w'):SBy w' C n bs:=
 h.frm (S:=fun _=>False) (Frm.of_below' _ hb) fun _ _ _ _ _ h=>h.elim
theorem Frm.belowOwn {B:Nat} {W W1 W2:World} {g:Nat} (hb:Below B W W1) (hf:Frm (fun j=>j=g) W1 W2) (hg:B<=g) (hB:B<=W.heap.size):Below B W W2:=
 ⟨hf.os.trans hb.os,hf.tape.trans hb.tape,hf.output.trans hb.output,Nat.le_trans hb.size hf.size,fun k hk=>(hf.block k (by have:=hb.size;omega) (fun (e:k=g)=>by omega)).trans (hb.block k hk)⟩
end Go.Proofs.YtkaiilmgemaljaaGreat

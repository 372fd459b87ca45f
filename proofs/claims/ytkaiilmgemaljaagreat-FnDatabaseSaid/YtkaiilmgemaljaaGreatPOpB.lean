/- What comes in, opened: slices of bytes. There are no conditions. -/
import Derived.Test.YtkaiilmgemaljaaGreatPZl
import Derived.Test.YtkaiilmgemaljaaGreatPD2
set_option linter.unusedVariables false
set_option linter.unusedSimpArgs false
namespace Go.Proofs.YtkaiilmgemaljaaGreat
open Go.ChangeShapes Go.WideShapes Go.ChangeAt Go.RowKit Go.Joins Go.Deep
theorem cellsU8:Tryz.prog.cellsOf 5=1:=by kernel_rfl
section
variable {H:Type} {enc:TypeId×Value→H} {w:World} {base:Nat} {spare:Nat→Bool} {held:Bool} {fuel:Nat}
theorem openSBy {cs:List Value} {x:DataW H×List MemPlace} (h:DataW.trod enc Tryz.prog w base spare held fuel 22 cs=some x):
  ∃A n c xs,cs=[.slice A n c]∧SBy w A n xs∧n≤maxLen:=by
 rcases open_ints Tryz.underlying22 Tryz.underlying5 cellsU8 h with⟨rfl,_⟩|⟨a,len,cap,zs,rfl,_,hl,hm,hz,_,hcell,hw⟩
 ·exact⟨none,0,0,[],rfl,⟨rfl,fun h=>by omega,fun _ h=>by cases h⟩,by simp[maxLen]⟩
 ·have hle:len≤zs.length:=by rw[hz];split<;>omega
  refine⟨some a,len,cap,zs.take len,rfl,⟨by simp;omega,fun hn=>?_,fun z hz'=>?_⟩,by omega⟩
  ·obtain⟨b,off,spot⟩:=a
   have h0:=hcell 0 (by omega)
   have hspot:spot=none:=by simpa[Addr.add]using World.cell?_spot h0
   subst hspot
   refine⟨b,off,rfl,World.block_lt_of_cell? w _ h0,fun i hi=>?_⟩
   have h1:=hcell i (by omega)
   rw[add_plain]at h1;rw[h1]
   simp[List.getD,List.getElem?_take,hi]
  ·have:=hw z (List.mem_of_mem_take hz')
   simp[Lit.wf,IntKind.min,IntKind.max,IntKind.bits,IntKind.signed]at this
   omega
end
end Go.Proofs.YtkaiilmgemaljaaGreat

/- Words for the program's tables of equities for money: what they hold, what keeps it. There are no conditions. -/
import Derived.Test.YtgjapehpkakkbaaGreatLM6
import Derived.Test.YtgjapehpkakkbaaGreatLJ1
import Derived.Test.YtgjapehpkakkbaaGreatLZq
import Derived.DeepKeys4
set_option linter.unusedVariables false
set_option linter.unusedSimpArgs false
namespace Go.Proofs.YtgjapehpkakkbaaGreat
open Go.RowKit Ps Ra Ex Go.Maps Mo
/-! ### keys -/
def mkV (a b:Int) (c:Cb):Value:=.agg #[.int .i64 a,.int .i64 b,.int .i64 c.1,.int .i64 c.2]
theorem laidOutM:laidOutB Tryz.prog=true:=by kernel_rfl
theorem keyM:Keyed Tryz.prog 183:=Keyed.of_law (deep_law_laid laidOutM (m:=3) (by omega) (of_decide_eq_true (by kernel_rfl)) (by kernel_rfl) (by kernel_rfl))
noncomputable def mkL (a b:Int) (c:Cb):Lit:=(keyOf Tryz.prog 183 (mkV a b c)).getD (.bool false)
theorem keyT:Tryz.prog.keyType 183=true:=by kernel_rfl
theorem cellsK:Tryz.prog.cellsOf 183=4:=by kernel_rfl
theorem cellsCb:Tryz.prog.cellsOf 62=2:=by kernel_rfl
theorem cells64:Tryz.prog.cellsOf 2=1:=by kernel_rfl
theorem keyOf_mk {a b:Int} {c:Cb} (ha:0≤a) (ha2:a≤1000000) (hb:0≤b) (hb2:b≤1000000) (h1:0≤c.1) (h2:c.1≤1000000) (h3:0≤c.2) (h4:c.2≤1000000):keyOf Tryz.prog 183 (mkV a b c)=some (mkL a b c):=by
 have hs:∃l,keyOf Tryz.prog 183 (mkV a b c)=some l:=by
  have w1:(Lit.int .i64 a).wf=true:=WalkArith.wf_i64 (by omega)
  have w2:(Lit.int .i64 b).wf=true:=WalkArith.wf_i64 (by omega)
  have w3:(Lit.int .i64 c.1).wf=true:=WalkArith.wf_i64 (by omega)
  have w4:(Lit.int .i64 c.2).wf=true:=WalkArith.wf_i64 (by omega)
  have hf:(mkV a b c).formed Tryz.prog 183=true:=by
   simp[Value.formed,Tryz.underlying183,cellsK,mkV]
  obtain⟨d,hd⟩:∃d,Tryz.prog.types.size+1=d+3:=⟨Tryz.prog.types.size+1-3,by have:2≤Tryz.prog.types.size:=of_decide_eq_true (by kernel_rfl);omega⟩
  have hu:=Tryz.underlying183;have hu2:=Tryz.underlying62;have hu3:=Tryz.underlying2;unfold keyOf;rw[hu]
  simp only[keyT,hf,Bool.and_self,if_true]
  rw[hd]
  simp[Program.keyLits,hu,hu2,hu3,cellsK,cellsCb,cells64,mkV,Value.cells,w1,w2,w3,w4]
  split
  ·exact⟨_,rfl⟩
  ·rename_i hn
   exact absurd (by decide) hn
 obtain⟨l,hl⟩:=hs;unfold mkL
 rw[hl];rfl
end Go.Proofs.YtgjapehpkakkbaaGreat
/- Joined texts of one proof: Rol, A6, A7, L1, Open, G1. Each part tells what it shows. There are no conditions. -/
import Derived.Test.YtkaiilmgemaljaaGreatJZa
import Derived.ProofKit
import Derived.OpenShut
import Derived.Lib.SmallJoins
import Derived.Deep.Slices
import Derived.Deep.Fields
import Derived.ChangeSame
import Derived.ChangeSlices
import Derived.Below
import Derived.Test.YtkaiilmgemaljaaGreatJZb
set_option linter.unusedVariables false
set_option linter.unusedSimpArgs false
/- Contracts of what both sides ask of a roll. There are no conditions. -/
namespace Go.Proofs.YtkaiilmgemaljaaGreat
open Go.RowKit
end Go.Proofs.YtkaiilmgemaljaaGreat
/- A slice of boards that reads as a list; how the laws measure and copy what comes in. There are no conditions. -/
namespace Go.Proofs.YtkaiilmgemaljaaGreat
open Go.RowKit
def SBs (w:World) (A:Option Addr) (n:Nat) (bs:List (List Int×List Int)):Prop:=
 bs.length=n∧(0<n→∃b off,A=some ⟨b,off,none⟩∧b<w.heap.size∧∀i,i<n→∃A1 n1 c1 A2 n2 c2,w.cell? ⟨b,off+i*2,none⟩=some (.slice A1 n1 c1)∧w.cell? ⟨b,off+i*2+1,none⟩=some (.slice A2 n2 c2)∧
  SL w A1 n1 (bs.getD i ([],[])).1∧SL w A2 n2 (bs.getD i ([],[])).2∧n1≤maxLen∧n2≤maxLen)
theorem SBs.below {w w':World} {A:Option Addr} {n:Nat} {bs:List (List Int×List Int)} (h:SBs w A n bs) (hb:Below w.heap.size w w'):SBs w' A n bs:=by
 refine⟨h.1,fun hn=>?_⟩
 obtain⟨b,off,hA,hlt,hc⟩:=h.2 hn
 refine⟨b,off,hA,Nat.lt_of_lt_of_le hlt hb.size,fun i hi=>?_⟩
 obtain⟨A1,n1,c1,A2,n2,c2,h1,h2,h3,h4,h5,h6⟩:=hc i hi
 exact⟨A1,n1,c1,A2,n2,c2,keep_cell h1 hb,keep_cell h2 hb,h3.below hb,h4.below hb,h5,h6⟩
theorem SBs.more {w:World} {A:Option Addr} {n:Nat} {bs:List (List Int×List Int)} (h:SBs w A n bs) (t:World):SBs (more w t) A n bs:=h.below (below_more w t)
theorem SBs.alloc {w:World} {A:Option Addr} {n:Nat} {bs:List (List Int×List Int)} (h:SBs w A n bs) (o:Obj):SBs (w.alloc o) A n bs:=h.below ((Below.refl _ _).alloc (Nat.le_refl _) o)
/-! ### measuring -/
end Go.Proofs.YtkaiilmgemaljaaGreat
/- How the laws copy what comes in: numbers, boards, rolls. There are no conditions. -/
namespace Go.Proofs.YtkaiilmgemaljaaGreat
open Go.RowKit
end Go.Proofs.YtkaiilmgemaljaaGreat
/- Contracts of what the laws do with results: they are held against each other, marked, and looked at again. There are no conditions. -/
namespace Go.Proofs.YtkaiilmgemaljaaGreat
open Go.RowKit
theorem eqVariant_yes (p c h s:Int) (w:World):
  Calls Tryz.prog 149 #[.agg #[.int .i64 p,.int .i64 c,.int .i64 h,.int .i64 s],.agg #[.int .i64 p,.int .i64 c,.int .i64 h,.int .i64 s]] w fun e w'=>e = .returned (.bool true)∧Below w.heap.size w w':=by
 go_enter Tryz.func149,Tryz.ntmps149
 go_wp2
 go_ret
 exact⟨rfl,((Below.refl _ _).alloc (Nat.le_refl _) _).alloc (by simp) _⟩
theorem grown_trans' {a b c:World} {r:Option Nat} (h:a.grownBy b r) (k:b.grownBy c r):a.grownBy c r:=
 ⟨k.os.trans h.os,k.tape.trans h.tape,k.output.trans h.output,Nat.le_trans h.size k.size,fun i hi hne=>(k.block i (Nat.lt_of_lt_of_le hi h.size) hne).trans (h.block i hi hne)⟩
end Go.Proofs.YtkaiilmgemaljaaGreat
/- What comes in, opened: slices of integers, slices of boards, desks. There are no conditions. -/
namespace Go.Proofs.YtkaiilmgemaljaaGreat
open Go.ChangeShapes Go.WideShapes Go.ChangeAt Go.RowKit Go.Joins Go.Deep
theorem cellsV:Tryz.prog.cellsOf 75=4:=by kernel_rfl
theorem cellsI:Tryz.prog.cellsOf 2=1:=by kernel_rfl
section
variable {H:Type} {enc:TypeId×Value→H} {w:World} {base:Nat} {spare:Nat→Bool} {held:Bool} {fuel:Nat}
theorem fld {t:TypeId} {fs:Array Field} {cs:List Value} {x:DataW H×List MemPlace} (ht:Tryz.prog.underlying t=some (.struct fs)) (h:DataW.trod enc Tryz.prog w base spare held fuel t cs=some x):
  cs.length=Tryz.prog.cellsOf t∧∃n,∀(i:Nat) (f:Field),fs[i]? = some f→∃y,DataW.trod enc Tryz.prog w base spare held n f.type ((cs.drop f.offset).take (Tryz.prog.cellsOf f.type))=some y:=by
 obtain⟨xs,n,_,_,hl,hx,hf⟩:=DataW.trod_struct ht h
 refine⟨hl,n,fun i f hi=>?_⟩
 have hlt:i<xs.length:=by rw[hx];exact (Array.getElem?_eq_some_iff.1 hi).1
 exact⟨_,(hf i f hi).trans (List.getElem?_eq_getElem hlt)⟩
theorem fldT {t:TypeId} {cs:List Value} {y0:DataW H×List MemPlace} {P:Program} {n:Nat} {t':TypeId} {cs':List Value} (h:DataW.trod enc P w base spare held n t cs=some y0) (e1:t=t') (e2:cs=cs'):DataW.trod enc P w base spare held n t' cs'=some y0:=by subst e1 e2;exact h
theorem openInt {cs:List Value} {x:DataW H×List MemPlace} (h:DataW.trod enc Tryz.prog w base spare held fuel 2 cs=some x):∃n:Int,cs=[.int .i64 n]∧(Lit.int .i64 n).wf=true:=by
 obtain⟨n,h1,_,h2⟩:=DataW.trod_int Tryz.underlying2 h
 exact⟨n,h1,h2⟩
set_option maxRecDepth 100000 in
theorem openVariant {cs:List Value} {x:DataW H×List MemPlace} (h:DataW.trod enc Tryz.prog w base spare held fuel 75 cs=some x):
  ∃p c g s:Int,cs=[.int .i64 p,.int .i64 c,.int .i64 g,.int .i64 s]∧(Lit.int .i64 p).wf=true∧(Lit.int .i64 c).wf=true∧(Lit.int .i64 g).wf=true∧(Lit.int .i64 s).wf=true:=by
 obtain⟨hl,n,hf⟩:=fld Tryz.underlying75 h;obtain⟨y0,h0⟩:=hf 0 _ rfl;obtain⟨y1,h1⟩:=hf 1 _ rfl;obtain⟨y2,h2⟩:=hf 2 _ rfl;obtain⟨y3,h3⟩:=hf 3 _ rfl;rw[cellsV]at hl
 match cs,hl with
 | [v0, v1, v2, v3], _ =>
   obtain ⟨p, e0, w0⟩ := openInt (fldT h0 (t' := 2) (cs' := [v0]) rfl (by show List.take (Tryz.prog.cellsOf 2) _ = _; rw [cellsI]; rfl))
   obtain ⟨c, e1, w1⟩ := openInt (fldT h1 (t' := 2) (cs' := [v1]) rfl (by show List.take (Tryz.prog.cellsOf 2) _ = _; rw [cellsI]; rfl))
   obtain ⟨g, e2, w2⟩ := openInt (fldT h2 (t' := 2) (cs' := [v2]) rfl (by show List.take (Tryz.prog.cellsOf 2) _ = _; rw [cellsI]; rfl))
   obtain ⟨s, e3, w3⟩ := openInt (fldT h3 (t' := 2) (cs' := [v3]) rfl (by show List.take (Tryz.prog.cellsOf 2) _ = _; rw [cellsI]; rfl))
   simp at e0 e1 e2 e3
   subst e0 e1 e2 e3
   exact ⟨p, c, g, s, rfl, w0, w1, w2, w3⟩
end
end Go.Proofs.YtkaiilmgemaljaaGreat
/- Words for the laws' walks: blocks that the law itself has made, copies of arguments, what a drawn region's operations give. No statement is proved here; there are no conditions. -/
namespace Go.Proofs.YtkaiilmgemaljaaGreat
open Go.RowKit
def Bel (a b:World):Prop:=Below a.heap.size a b
theorem Bel.trans {a b c:World} (h:Bel a b) (k:Bel b c):Bel a c:=Below.trans h (Below.mono k (Below.size h))
theorem Bel.rfl' (a:World):Bel a a:=Below.refl _ _
theorem Bel.drew (a:World):Bel a { a with drawn:=a.drawn+1 }:=⟨rfl,rfl,rfl,Nat.le_refl _,fun _ _=>rfl⟩
theorem Bel.alloc (a:World) (o:Obj):Bel a (a.alloc o):=(Below.refl _ _).alloc (Nat.le_refl _) o
structure Cel (W:World) (g:Nat) (cs:List Value):Prop where
 lt:g<W.heap.size
 cell:∀i x,cs[i]? = some x→W.cell? ⟨g,i,none⟩=some x
 froz:∀i x,cs[i]? = some x→W.frozen? ⟨g,i,none⟩=false
theorem Cel.below {W W':World} {g:Nat} {cs:List Value} (h:Cel W g cs) (hb:Below W.heap.size W W'):Cel W' g cs:=
 ⟨Nat.lt_of_lt_of_le h.lt hb.size,fun i x hx=>keep_cell (h.cell i x hx) hb,fun i x hx=>keep_froz (h.froz i x hx) (h.cell i x hx) hb⟩
theorem Cel.alloc {W:World} {g:Nat} {cs:List Value} (h:Cel W g cs) (o:Obj):Cel (W.alloc o) g cs:=h.below (Bel.alloc W o)
theorem Cel.drew {W:World} {g:Nat} {cs:List Value} (h:Cel W g cs):Cel W.drew g cs:=⟨h.lt,h.cell,h.froz⟩
theorem Cel.new (W:World) (cs:Array Value) (T:TypeId):Cel (W.alloc (.cells cs T)) W.heap.size cs.toList:=by
 have h:=(Fr.start W).allocT (by simp) cs T
 exact⟨by simp,fun i x hx=>h.cellA 0 i rfl (by simpa[frAt]using hx),fun i x hx=>h.frozA 0 i rfl (by simpa[frAt]using hx)⟩
theorem Cel.new' (W:World) (cs:Array Value) (T:TypeId) {g:Nat} (hg:g=W.heap.size):Cel (W.alloc (.cells cs T)) g cs.toList:=by subst hg;exact Cel.new W cs T
theorem Cel.st {W:World} {g:Nat} {cs:List Value} (h:Cel W g cs) {i:Nat} {v:Value} (hi:i<cs.length):Cel (W.setCell ⟨g,i,none⟩ v) g (cs.set i v):=by
 have hc:W.cell? ⟨g,i,none⟩=some cs[i]:=h.cell i _ (List.getElem?_eq_getElem hi)
 refine⟨by simpa using h.lt,fun j x hx=>?_,fun j x hx=>?_⟩
 ·by_cases e:j=i
  ·subst e
   rw[List.getElem?_set_self hi]at hx
   injection hx with hx;subst hx
   simp[go_sem,hc]
  ·rw[List.getElem?_set_ne (Ne.symm e)]at hx
   have:=h.cell j x hx
   simp[go_sem,e,this]
 ·by_cases e:j=i
  ·subst e
   have:=h.froz j _ (List.getElem?_eq_getElem hi)
   simpa[go_sem]using this
  ·rw[List.getElem?_set_ne (Ne.symm e)]at hx
   have:=h.froz j x hx
   simpa[go_sem]using this
/-! ### what the operations of a drawn region give -/
abbrev RP:Type:=Value→World→Prop
def Any:RP:=fun _ _=>True
end Go.Proofs.YtkaiilmgemaljaaGreat

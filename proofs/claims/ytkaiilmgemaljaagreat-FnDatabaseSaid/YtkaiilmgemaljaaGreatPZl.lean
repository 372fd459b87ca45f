/- Joined texts of one proof: Rol, A6, A7, L1, Open, G1. Each part tells what it shows. There are no conditions. -/
import Derived.Test.YtkaiilmgemaljaaGreatPZa
import Derived.ProofKit
import Derived.OpenShut
import Derived.Lib.SmallJoins
import Derived.Deep.Slices
import Derived.Deep.Fields
import Derived.ChangeSame
import Derived.ChangeSlices
import Derived.Below
import Derived.Test.YtkaiilmgemaljaaGreatPZb
set_option linter.unusedVariables false
set_option linter.unusedSimpArgs false
/- Contracts of what both sides ask of a roll. There are no conditions. -/
namespace Go.Proofs.YtkaiilmgemaljaaGreat
open Go.RowKit
end Go.Proofs.YtkaiilmgemaljaaGreat
/- A slice of boards that reads as a list; how the laws measure and copy what comes in. There are no conditions. -/
namespace Go.Proofs.YtkaiilmgemaljaaGreat
open Go.RowKit
def SBs (w:World) (A:Option Addr) (n:Nat) (bs:List (List Int×List Int)):Prop:=
 bs.length=n∧(0<n→∃b off,A=some ⟨b,off,none⟩∧b<w.heap.size∧∀i,i<n→∃A1 n1 c1 A2 n2 c2,w.cell? ⟨b,off+i*2,none⟩=some (.slice A1 n1 c1)∧w.cell? ⟨b,off+i*2+1,none⟩=some (.slice A2 n2 c2)∧
  SL w A1 n1 (bs.getD i ([],[])).1∧SL w A2 n2 (bs.getD i ([],[])).2∧n1≤maxLen∧n2≤maxLen)
theorem SBs.below {w w':World} {A:Option Addr} {n:Nat} {bs:List (List Int×List Int)} (h:SBs w A n bs) (hb:Below w.heap.size w w'):SBs w' A n bs:=by
 refine⟨h.1,fun hn=>?_⟩
 obtain⟨b,off,hA,hlt,hc⟩:=h.2 hn
 refine⟨b,off,hA,Nat.lt_of_lt_of_le hlt hb.size,fun i hi=>?_⟩
 obtain⟨A1,n1,c1,A2,n2,c2,h1,h2,h3,h4,h5,h6⟩:=hc i hi
 exact⟨A1,n1,c1,A2,n2,c2,keep_cell h1 hb,keep_cell h2 hb,h3.below hb,h4.below hb,h5,h6⟩
theorem SBs.more {w:World} {A:Option Addr} {n:Nat} {bs:List (List Int×List Int)} (h:SBs w A n bs) (t:World):SBs (more w t) A n bs:=h.below (below_more w t)
theorem SBs.alloc {w:World} {A:Option Addr} {n:Nat} {bs:List (List Int×List Int)} (h:SBs w A n bs) (o:Obj):SBs (w.alloc o) A n bs:=h.below ((Below.refl _ _).alloc (Nat.le_refl _) o)
/-! ### measuring -/
end Go.Proofs.YtkaiilmgemaljaaGreat
/- How the laws copy what comes in: numbers, boards, rolls. There are no conditions. -/
namespace Go.Proofs.YtkaiilmgemaljaaGreat
open Go.RowKit
end Go.Proofs.YtkaiilmgemaljaaGreat
/- Contracts of what the laws do with results: they are held against each other, marked, and looked at again. There are no conditions. -/
namespace Go.Proofs.YtkaiilmgemaljaaGreat
open Go.RowKit
end Go.Proofs.YtkaiilmgemaljaaGreat
/- What comes in, opened: slices of integers, slices of boards, desks. There are no conditions. -/
namespace Go.Proofs.YtkaiilmgemaljaaGreat
open Go.ChangeShapes Go.WideShapes Go.ChangeAt Go.RowKit Go.Joins Go.Deep
section
variable {H:Type} {enc:TypeId×Value→H} {w:World} {base:Nat} {spare:Nat→Bool} {held:Bool} {fuel:Nat}
end
end Go.Proofs.YtkaiilmgemaljaaGreat
/- Words for the laws' walks: blocks that the law itself has made, copies of arguments, what a drawn region's operations give. No statement is proved here; there are no conditions. -/
namespace Go.Proofs.YtkaiilmgemaljaaGreat
open Go.RowKit
def Bel (a b:World):Prop:=Below a.heap.size a b
theorem Bel.trans {a b c:World} (h:Bel a b) (k:Bel b c):Bel a c:=Below.trans h (Below.mono k (Below.size h))
theorem Bel.rfl' (a:World):Bel a a:=Below.refl _ _
theorem Bel.drew (a:World):Bel a { a with drawn:=a.drawn+1 }:=⟨rfl,rfl,rfl,Nat.le_refl _,fun _ _=>rfl⟩
theorem Bel.alloc (a:World) (o:Obj):Bel a (a.alloc o):=(Below.refl _ _).alloc (Nat.le_refl _) o
structure Cel (W:World) (g:Nat) (cs:List Value):Prop where
 lt:g<W.heap.size
 cell:∀i x,cs[i]? = some x→W.cell? ⟨g,i,none⟩=some x
 froz:∀i x,cs[i]? = some x→W.frozen? ⟨g,i,none⟩=false
theorem Cel.below {W W':World} {g:Nat} {cs:List Value} (h:Cel W g cs) (hb:Below W.heap.size W W'):Cel W' g cs:=
 ⟨Nat.lt_of_lt_of_le h.lt hb.size,fun i x hx=>keep_cell (h.cell i x hx) hb,fun i x hx=>keep_froz (h.froz i x hx) (h.cell i x hx) hb⟩
theorem Cel.alloc {W:World} {g:Nat} {cs:List Value} (h:Cel W g cs) (o:Obj):Cel (W.alloc o) g cs:=h.below (Bel.alloc W o)
theorem Cel.drew {W:World} {g:Nat} {cs:List Value} (h:Cel W g cs):Cel W.drew g cs:=⟨h.lt,h.cell,h.froz⟩
theorem Cel.new (W:World) (cs:Array Value) (T:TypeId):Cel (W.alloc (.cells cs T)) W.heap.size cs.toList:=by
 have h:=(Fr.start W).allocT (by simp) cs T
 exact⟨by simp,fun i x hx=>h.cellA 0 i rfl (by simpa[frAt]using hx),fun i x hx=>h.frozA 0 i rfl (by simpa[frAt]using hx)⟩
theorem Cel.new' (W:World) (cs:Array Value) (T:TypeId) {g:Nat} (hg:g=W.heap.size):Cel (W.alloc (.cells cs T)) g cs.toList:=by subst hg;exact Cel.new W cs T
theorem Cel.st {W:World} {g:Nat} {cs:List Value} (h:Cel W g cs) {i:Nat} {v:Value} (hi:i<cs.length):Cel (W.setCell ⟨g,i,none⟩ v) g (cs.set i v):=by
 have hc:W.cell? ⟨g,i,none⟩=some cs[i]:=h.cell i _ (List.getElem?_eq_getElem hi)
 refine⟨by simpa using h.lt,fun j x hx=>?_,fun j x hx=>?_⟩
 ·by_cases e:j=i
  ·subst e
   rw[List.getElem?_set_self hi]at hx
   injection hx with hx;subst hx
   simp[go_sem,hc]
  ·rw[List.getElem?_set_ne (Ne.symm e)]at hx
   have:=h.cell j x hx
   simp[go_sem,e,this]
 ·by_cases e:j=i
  ·subst e
   have:=h.froz j _ (List.getElem?_eq_getElem hi)
   simpa[go_sem]using this
  ·rw[List.getElem?_set_ne (Ne.symm e)]at hx
   have:=h.froz j x hx
   simpa[go_sem]using this
/-! ### what the operations of a drawn region give -/
abbrev RP:Type:=Value→World→Prop
def Stb (P:RP):Prop:=∀v W W',P v W→Bel W W'→P v W'
def GL (l:List RP) (i:Nat) (v:Value) (W:World):Prop:=(l.getD i (fun _ _=>True)) v W
inductive AllStb:List RP→Prop
 | nil:AllStb []
 | cons {P:RP} {l:List RP}:Stb P→AllStb l→AllStb (P::l)
theorem GL.stab:∀{l:List RP},AllStb l→∀i v W W',GL l i v W→Bel W W'→GL l i v W'
 | _,.nil,_,_,_,_,_,_=>trivial
 | _,.cons h _,0,v,W,W',hg,hb=>h v W W' hg hb
 | _,.cons _ h,i+1,v,W,W',hg,hb=>GL.stab h i v W W' hg hb
def Eqv (x:Value):RP:=fun v _=>v=x
theorem stb_eq (x:Value):Stb (Eqv x):=fun _ _ _ h _=>h
def Any:RP:=fun _ _=>True
end Go.Proofs.YtkaiilmgemaljaaGreat

/- What is known of the values in a region that draws numbers from a source. There are no conditions beyond those that each states. -/
import Derived.Test.YtkaiilmgemaljaaGreatPD7
import Derived.Test.YtkaiilmgemaljaaGreatPZb
set_option linter.unusedVariables false
set_option linter.unusedSimpArgs false
namespace Go.Proofs.YtkaiilmgemaljaaGreat
open Go.RowKit
def StbG (g:Nat) (P:RP):Prop:=∀v W W',P v W→Frm (fun j=>j=g) W W'→P v W'
inductive AllG (g:Nat):List RP→Prop
 | nil:AllG g []
 | cons {P:RP} {l:List RP}:StbG g P→AllG g l→AllG g (P::l)
theorem GL.stabG {g:Nat}:∀{l:List RP},AllG g l→∀i v W W',GL l i v W→Frm (fun j=>j=g) W W'→GL l i v W'
 | _,.nil,_,_,_,_,_,_=>trivial
 | _,.cons h _,0,v,W,W',hg,hb=>h v W W' hg hb
 | _,.cons _ h,i+1,v,W,W',hg,hb=>GL.stabG h i v W W' hg hb
theorem stg_eq (g:Nat) (x:Value):StbG g (Eqv x):=fun _ _ _ h _=>h
def IntP (P:Int→Prop):RP:=fun v _=>∃x,v = .int .i64 x∧P x
theorem stg_int (g:Nat) (P:Int→Prop):StbG g (IntP P):=fun _ _ _ h _=>h
def SomG (g:Nat) (C:Option Addr) (n c:Nat) (bs:List Int) (W:World):Prop:=∃q,SrcG W g C n c bs q
theorem SomG.below {g:Nat} {C:Option Addr} {n c:Nat} {bs:List Int} {W W':World} (h:SomG g C n c bs W) (hb:Below W.heap.size W W'):SomG g C n c bs W':=h.elim fun q h=>⟨q,h.below hb⟩
theorem SomG.alloc {g:Nat} {C:Option Addr} {n c:Nat} {bs:List Int} {W:World} (h:SomG g C n c bs W) (o:Obj):SomG g C n c bs (W.alloc o):=h.below (Bel.alloc W o)
theorem SomG.set {g:Nat} {C:Option Addr} {n c:Nat} {bs:List Int} {W:World} (h:SomG g C n c bs W) {b i:Nat} (hb:g<b) (v:Value):SomG g C n c bs (W.setCell ⟨b,i,none⟩ v):=h.elim fun q h=>⟨q,h.set hb v⟩
theorem SomG.lt {g:Nat} {C:Option Addr} {n c:Nat} {bs:List Int} {W:World} (h:SomG g C n c bs W):g<W.heap.size:=h.elim fun _ h=>h.lt
theorem SomG.frm {O:Nat→Prop} {g:Nat} {C:Option Addr} {n c:Nat} {bs:List Int} {W W':World} (h:SomG g C n c bs W) (hf:Frm O W W') (hO:∀k,O k→g<k):SomG g C n c bs W':=h.elim fun q h=>⟨q,h.frm hf hO⟩
theorem some_next {g:Nat} {C:Option Addr} {n c:Nat} {bs:List Int} {W:World} (h:SomG g C n c bs W) {k:Int} (hk:k≤1000000):
  Calls Tryz.prog 154 #[.pointer (some ⟨g,0,none⟩),.int .i64 k] W fun e W'=>∃x,e = .returned (.int .i64 x)∧0≤x∧(x<k∨x=0)∧SomG g C n c bs W'∧Frm (fun j=>j=g) W W':=by
 obtain⟨q,h⟩:=h
 refine (next_any h hk).mono ?_
 rintro e W' ⟨rfl,hs,hf⟩
 obtain⟨h1,h2⟩:=nx_bd bs q k
 exact⟨_,rfl,h1,h2,⟨_,hs⟩,hf⟩
theorem some_from (C:Option Addr) (n c:Nat) (bs:List Int) (W:World) (h:SBy W C n bs) (hn:n≤4096):
  Calls Tryz.prog 72 #[.slice C n c] W fun e W'=>e = .returned (.pointer (some ⟨W.heap.size,0,none⟩))∧SomG W.heap.size C n c bs W'∧Below W.heap.size W W':=by
 refine (l01From_any C n c bs W h hn).mono ?_
 rintro e W' ⟨he,hs,hb⟩
 exact⟨he,⟨_,hs⟩,hb⟩
section
variable {n:Nat} {S:Nat→Prop} {V:World} {Inv:World→Prop} {G:List RP} {K:List (Nat×List Value)} {T:List (Nat×Nat×List Value×(List Value→Prop))} {L L':Nat→Bool} {vs vs':Nat→Value} {W W':World} {i:Nat} {v:Value} {ds:Nat→Option Nat}
end
end Go.Proofs.YtkaiilmgemaljaaGreat

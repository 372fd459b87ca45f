/- Joined texts of one proof: Base, A1, A2, A3, A4, Base2. Each part tells what it shows. There are no conditions. -/
import Derived.WalkKit
import Derived.WalkSpells
import Derived.WalkLawsBesides
import Derived.WalkSmall
import Derived.Lib.Hide
import Derived.Laws.OwnMore
import Derived.Deep.QuietTactic
import Derived.BigQuiet
import Derived.Deep.Draws
import Derived.Deep.RegionWith
import Derived.Test.YtkaiilmgemaljaaGreatChecked
import Derived.Test.YtkaiilmgemaljaaGreatPZp
import Derived.Laws.AppendOwnNone
import Derived.Laws.StructEq
import Derived.Deep.RegionHeld3
import Derived.Deep.DrawnRows
import Derived.RegionTactic
set_option linter.unusedVariables false
set_option linter.unusedSimpArgs false
/- Words for memory that all walks of this family use: a slice of integers that reads as a list, slices of boards, and what keeps them. No statement is proved here; there are no conditions. -/
namespace Go.Proofs.YtkaiilmgemaljaaGreat
open Go.RowKit
def SL (w:World) (A:Option Addr) (n:Nat) (xs:List Int):Prop:=
 xs.length=n∧(0<n→∃b off,A=some ⟨b,off,none⟩∧b<w.heap.size∧∀i,i<n→w.cell? ⟨b,off+i,none⟩=some (.int .i64 (xs.getD i 0)))
def OwnS (w:World) (base:Nat) (e:TypeId) (v:Value) (xs:List Int):Prop:=w.ownsRow base e 1 v xs.length (xs.map (Value.int .i64))
section
variable {w w':World} {A:Option Addr} {n:Nat} {xs:List Int}
theorem SL.nil_ (w:World):SL w none 0 []:=⟨rfl,fun h=>absurd h (by omega)⟩
theorem SL.empty (w:World) (A:Option Addr):SL w A 0 []:=⟨rfl,fun h=>absurd h (by omega)⟩
theorem SL.keep {B:Nat} (h:SL w A n xs) (hw:w.heap.size≤B) (hb:Below B w w'):SL w' A n xs:=
 ⟨h.1,fun hn=>by
  obtain⟨b,off,hA,hlt,hc⟩:=h.2 hn
  exact⟨b,off,hA,Nat.lt_of_lt_of_le hlt hb.size,fun i hi=>(hb.cell (p:=⟨b,off+i,none⟩) (Nat.lt_of_lt_of_le hlt hw)).trans (hc i hi)⟩⟩
theorem SL.below (h:SL w A n xs) (hb:Below w.heap.size w w'):SL w' A n xs:=h.keep (Nat.le_refl _) hb
theorem SL.drew (h:SL w A n xs):SL w.drew A n xs:=h
theorem SL.alloc (h:SL w A n xs) (o:Obj):SL (w.alloc o) A n xs:=h.below ((Below.refl _ _).alloc (Nat.le_refl _) o)
theorem getD_map_int (xs:List Int) (i:Nat) (h:i<xs.length):(xs.map (Value.int .i64))[i]? = some (.int .i64 (xs.getD i 0)):=by
 simp[List.getD,h]
theorem OwnS.read {base:Nat} {e:TypeId} {v:Value} (h:OwnS w base e v xs):∃A c,v = .slice A xs.length c∧SL w A xs.length xs∧xs.length≤c:=by
 obtain⟨h1,h2⟩:=h
 rcases h2 with⟨rfl,h0⟩|⟨g,cap,cur,rfl,hb,hh,hnc,hcm,hcs,ht⟩
 ·exact⟨none,0,by rw[h0],by rw[List.eq_nil_of_length_eq_zero h0];exact SL.nil_ _,by omega⟩
 ·refine⟨_,_,rfl,⟨rfl,fun hn=>⟨g,0,rfl,(Array.getElem?_eq_some_iff.1 hh).1,fun i hi=>?_⟩⟩,hnc⟩
  have hown:w.ownsRow base e 1 (.slice (some ⟨g,0,none⟩) xs.length cap) xs.length (xs.map (Value.int .i64)):=⟨h1,.inr ⟨g,cap,cur,rfl,hb,hh,hnc,hcm,hcs,ht⟩⟩
  rw[Nat.zero_add,hown.cellAt i (by omega),getD_map_int xs i hi]
theorem SL.cut (h:SL w A n xs) {k cap:Nat} (hk:k≤n) (hc:n≤cap):SL w (if cap=k then A else A.map (·.add k)) (n-k) (xs.drop k):=by
 refine⟨by rw[List.length_drop,h.1],fun hn=>?_⟩
 obtain⟨b,off,rfl,hlt,hcell⟩:=h.2 (by omega)
 rw[if_neg (by omega)]
 refine⟨b,off+k,by simp[Addr.add_lit],hlt,fun i hi=>?_⟩
 rw[Nat.add_assoc,hcell (k+i) (by omega)]
 simp[List.getD,List.getElem?_drop]
end
theorem ret_int {k:IntKind} {a b:Int} (h:a=b):Ending.returned (.int k a) = .returned (.int k b):=by rw[h]
theorem below_drewN' {B:Nat} {a w:World} (h:Below B a w) (n:Nat):Below B a (w.drewN n):=⟨h.os,h.tape,h.output,h.size,h.block⟩
/-! ### the worlds that have only more blocks than w: a class for regions that draw their order and hold calls that make memory -/
open Classical in
noncomputable def more (w t:World):World:=if Below w.heap.size w t then t else w
theorem below_more (w t:World):Below w.heap.size w (more w t):=by
 unfold more
 split
 ·assumption
 ·exact Below.refl _ _
theorem more_of {w w':World} (h:Below w.heap.size w w'):∃t,w'=more w t:=⟨w',by unfold more;rw[if_pos h]⟩
theorem cell_more (w t:World) (a:Addr) (h:a.block<w.heap.size):(more w t).cell? a=w.cell? a:=(below_more w t).cell h
theorem frozen_more (w t:World) (a:Addr) (h:a.block<w.heap.size):(more w t).frozen? a=w.frozen? a:=(below_more w t).frozen h
theorem size_more (w t:World):w.heap.size≤(more w t).heap.size:=(below_more w t).size
section
variable {P:Program}
theorem wp_region_more {id:Nat} {Q:Exit→Act→World→Prop} {a:Act} {w:World} {l:List Oper} (hm:P.follows .mixedOrders=true) (hB:Region.lexB .any l.toArray=true)
  (h:wpQuiet P l.toArray (fun w'=>∃t,w'=more w t) (fun a'=>∀w',(∃t,w'=more w t)→Q .normal a' w') l a):(Code.region id l.toArray true).wp P Q a w:=
 wp_region_quiet (C:=fun w'=>∃t,w'=more w t) hm hB (more_of ⟨rfl,rfl,rfl,Nat.le_refl _,fun _ _=>rfl⟩) (by simpa using h)
theorem more_call {f:FuncId} {args:Array Value} {w t:World} {v:Value}
  (h:Calls P f args (more w t) fun e w'=>e = .returned v∧Below (more w t).heap.size (more w t) w'):Calls P f args (more w t) fun e w''=>e = .returned v∧∃m,w''=more w m:=
 h.mono fun _ _ ⟨he,hm⟩=>⟨he,more_of ((below_more w t).trans (hm.mono (size_more w t)))⟩
theorem more_first {f:FuncId} {args:Array Value} {w:World} {v:Value}
  (h:Calls P f args w fun e w'=>e = .returned v∧Below w.heap.size w w'):Calls P f args w fun e w''=>e = .returned v∧∃m,w''=more w m:=
 h.mono fun _ _ ⟨he,hm⟩=>⟨he,more_of hm⟩
theorem more_same {f:FuncId} {args:Array Value} {w t:World} {v:Value}
  (h:Calls P f args (more w t) fun e w'=>e = .returned v∧more w t=w'):Calls P f args (more w t) fun e w''=>e = .returned v∧∃m,w''=more w m:=
 h.mono fun _ _ ⟨he,hm⟩=>⟨he,t,hm.symm⟩
end
theorem lt_more {w t:World} {b:Nat} (h:b<w.heap.size):(b<(more w t).heap.size)=True:=eq_true (Nat.lt_of_lt_of_le h (size_more w t))
attribute [irreducible] more
attribute [go_sem] cell_more frozen_more lt_more
theorem SL.more {w:World} {A:Option Addr} {n:Nat} {xs:List Int} (h:SL w A n xs) (t:World):SL (more w t) A n xs:=h.below (below_more w t)
end Go.Proofs.YtkaiilmgemaljaaGreat
/- Contracts of the small functions of chapters 1 and 7: what is in a range, what a variant, a roll, a seed is. There are no conditions. -/
namespace Go.Proofs.YtkaiilmgemaljaaGreat
open Go.RowKit
def inB (x lo hi:Int):Bool:=decide (lo≤x∧x≤hi)
theorem inB_yes {x lo hi:Int} (h:lo≤x∧x≤hi):inB x lo hi=true:=decide_eq_true h
theorem inB_no {x lo hi:Int} (h:¬(lo≤x∧x≤hi)):inB x lo hi=false:=decide_eq_false h
theorem within_any (x lo hi:Int) (w:World):
  Calls Tryz.prog 116 #[.int .i64 x,.int .i64 lo,.int .i64 hi] w fun e w'=>e = .returned (.bool (inB x lo hi))∧w=w':=by
 by_cases h1:lo≤x
 ·by_cases h2:x≤hi
  ·have H:=Lib.hid (inB_yes ⟨h1,h2⟩)
   go_enter Tryz.func116,Tryz.ntmps116
   go_wp2
   go_ret
   exact⟨by rw[H.out];rfl,rfl⟩
  ·have H:=Lib.hid (inB_no (x:=x) (lo:=lo) (hi:=hi) (by omega))
   go_enter Tryz.func116,Tryz.ntmps116
   go_wp2
   go_ret
   exact⟨by rw[H.out];rfl,rfl⟩
 ·have H:=Lib.hid (inB_no (x:=x) (lo:=lo) (hi:=hi) (by omega))
  go_enter Tryz.func116,Tryz.ntmps116
  go_wp2
  go_ret
  exact⟨by rw[H.out];rfl,rfl⟩
theorem l01In_any (x lo hi:Int) (w:World):
  Calls Tryz.prog 134 #[.int .i64 x,.int .i64 lo,.int .i64 hi] w fun e w'=>e = .returned (.bool (inB x lo hi))∧w=w':=by
 by_cases h1:lo≤x
 ·by_cases h2:x≤hi
  ·have H:=Lib.hid (inB_yes ⟨h1,h2⟩)
   go_enter Tryz.func134,Tryz.ntmps134
   go_wp2
   go_ret
   exact⟨by rw[H.out];rfl,rfl⟩
  ·have H:=Lib.hid (inB_no (x:=x) (lo:=lo) (hi:=hi) (by omega))
   go_enter Tryz.func134,Tryz.ntmps134
   go_wp2
   go_ret
   exact⟨by rw[H.out];rfl,rfl⟩
 ·have H:=Lib.hid (inB_no (x:=x) (lo:=lo) (hi:=hi) (by omega))
  go_enter Tryz.func134,Tryz.ntmps134
  go_wp2
  go_ret
  exact⟨by rw[H.out];rfl,rfl⟩
theorem IsVariant_any (p c h s:Int) (w:World):
  Calls Tryz.prog 145 #[.agg #[.int .i64 p,.int .i64 c,.int .i64 h,.int .i64 s]] w fun e w'=>e = .returned (.bool (isVar p c h s))∧Below w.heap.size w w':=by
 by_cases h1:2≤p∧p≤24
 ·have e1:=inB_yes h1
  by_cases h2:1≤c∧c≤15
  ·have e2:=inB_yes h2
   by_cases h3:1≤h∧h≤p
   ·have e3:=inB_yes h3
    by_cases h4:1≤s∧s≤6
    ·have e4:=inB_yes h4
     have H:=Lib.hid (isVar_mk ⟨h1.1,h1.2,h2.1,h2.2,h3.1,h3.2,h4⟩)
     go_enter Tryz.func145,Tryz.ntmps145
     go_wp2_with (go_at_call 116;refine (within_any _ _ _ _).mono ?_;rintro e w' ⟨rfl,rfl⟩)
     go_ret
     exact⟨by rw[H.out];rfl,(Below.refl _ _).alloc (Nat.le_refl _) _⟩
    ·have e4:=inB_no h4
     have H:=Lib.hid (isVar_no (p:=p) (c:=c) (h:=h) (s:=s) (by omega))
     go_enter Tryz.func145,Tryz.ntmps145
     go_wp2_with (go_at_call 116;refine (within_any _ _ _ _).mono ?_;rintro e w' ⟨rfl,rfl⟩)
     go_ret
     exact⟨by rw[H.out];rfl,(Below.refl _ _).alloc (Nat.le_refl _) _⟩
   ·have e3:=inB_no h3
    have H:=Lib.hid (isVar_no (p:=p) (c:=c) (h:=h) (s:=s) (by omega))
    go_enter Tryz.func145,Tryz.ntmps145
    go_wp2_with (go_at_call 116;refine (within_any _ _ _ _).mono ?_;rintro e w' ⟨rfl,rfl⟩)
    go_ret
    exact⟨by rw[H.out];rfl,(Below.refl _ _).alloc (Nat.le_refl _) _⟩
  ·have e2:=inB_no h2
   have H:=Lib.hid (isVar_no (p:=p) (c:=c) (h:=h) (s:=s) (by omega))
   go_enter Tryz.func145,Tryz.ntmps145
   go_wp2_with (go_at_call 116;refine (within_any _ _ _ _).mono ?_;rintro e w' ⟨rfl,rfl⟩)
   go_ret
   exact⟨by rw[H.out];rfl,(Below.refl _ _).alloc (Nat.le_refl _) _⟩
 ·have e1:=inB_no h1
  have H:=Lib.hid (isVar_no (p:=p) (c:=c) (h:=h) (s:=s) (by omega))
  go_enter Tryz.func145,Tryz.ntmps145
  go_wp2_with (go_at_call 116;refine (within_any _ _ _ _).mono ?_;rintro e w' ⟨rfl,rfl⟩)
  go_ret
  exact⟨by rw[H.out];rfl,(Below.refl _ _).alloc (Nat.le_refl _) _⟩
theorem sIsVariant_any (p c h s:Int) (w:World):
  Calls Tryz.prog 80 #[.agg #[.int .i64 p,.int .i64 c,.int .i64 h,.int .i64 s]] w fun e w'=>e = .returned (.bool (isVar p c h s))∧Below w.heap.size w w':=by
 by_cases h1:2≤p∧p≤24
 ·have e1:=inB_yes h1
  by_cases h2:1≤c∧c≤15
  ·have e2:=inB_yes h2
   by_cases h3:1≤h∧h≤p
   ·have e3:=inB_yes h3
    by_cases h4:1≤s∧s≤6
    ·have e4:=inB_yes h4
     have H:=Lib.hid (isVar_mk ⟨h1.1,h1.2,h2.1,h2.2,h3.1,h3.2,h4⟩)
     go_enter Tryz.func80,Tryz.ntmps80
     go_wp2_with (go_at_call 134;refine (l01In_any _ _ _ _).mono ?_;rintro e w' ⟨rfl,rfl⟩)
     go_ret
     exact⟨by rw[H.out];rfl,(Below.refl _ _).alloc (Nat.le_refl _) _⟩
    ·have e4:=inB_no h4
     have H:=Lib.hid (isVar_no (p:=p) (c:=c) (h:=h) (s:=s) (by omega))
     go_enter Tryz.func80,Tryz.ntmps80
     go_wp2_with (go_at_call 134;refine (l01In_any _ _ _ _).mono ?_;rintro e w' ⟨rfl,rfl⟩)
     go_ret
     exact⟨by rw[H.out];rfl,(Below.refl _ _).alloc (Nat.le_refl _) _⟩
   ·have e3:=inB_no h3
    have H:=Lib.hid (isVar_no (p:=p) (c:=c) (h:=h) (s:=s) (by omega))
    go_enter Tryz.func80,Tryz.ntmps80
    go_wp2_with (go_at_call 134;refine (l01In_any _ _ _ _).mono ?_;rintro e w' ⟨rfl,rfl⟩)
    go_ret
    exact⟨by rw[H.out];rfl,(Below.refl _ _).alloc (Nat.le_refl _) _⟩
  ·have e2:=inB_no h2
   have H:=Lib.hid (isVar_no (p:=p) (c:=c) (h:=h) (s:=s) (by omega))
   go_enter Tryz.func80,Tryz.ntmps80
   go_wp2_with (go_at_call 134;refine (l01In_any _ _ _ _).mono ?_;rintro e w' ⟨rfl,rfl⟩)
   go_ret
   exact⟨by rw[H.out];rfl,(Below.refl _ _).alloc (Nat.le_refl _) _⟩
 ·have e1:=inB_no h1
  have H:=Lib.hid (isVar_no (p:=p) (c:=c) (h:=h) (s:=s) (by omega))
  go_enter Tryz.func80,Tryz.ntmps80
  go_wp2_with (go_at_call 134;refine (l01In_any _ _ _ _).mono ?_;rintro e w' ⟨rfl,rfl⟩)
  go_ret
  exact⟨by rw[H.out];rfl,(Below.refl _ _).alloc (Nat.le_refl _) _⟩
end Go.Proofs.YtkaiilmgemaljaaGreat
/- Contracts of the functions of chapter 2 on sides and boards that only read. There are no conditions. -/
namespace Go.Proofs.YtkaiilmgemaljaaGreat
open Go.RowKit
theorem total_any (A:Option Addr) (n c:Nat) (xs:List Int) (w:World) (h:SL w A n xs) (hp:∀x∈xs,0≤x) (hs:xs.sum≤2000000) (hn:n≤2000000):
  Calls Tryz.prog 74 #[.slice A n c] w fun e w'=>e = .returned (.int .i64 xs.sum)∧w=w':=by
 have hlen:=h.1
 have hp':∀k,0≤(xs.take k).sum:=fun k=>sum_take_nonneg xs k hp
 have hs':∀k,(xs.take k).sum≤2000000:=fun k=>by have:=sum_take_le xs k hp;omega
 have HP:=Lib.hid hp';have HS:=Lib.hid hs';have HH:=Lib.hid h;have HL:=Lib.hid hlen;have HP0:=Lib.hid hp;clear hp' hs' h hlen hs hp
 go_enter Tryz.func74,Tryz.ntmps74
 go_wp2
 go_loop [3,8] (fun s i=>∃k:Nat,k≤n∧i = .int .i64 k∧s = .int .i64 (xs.take k).sum) (fun _ i=>n-(intOf i).toNat)
 case atStart=>exact⟨0,by omega,rfl,by simp⟩
 case round=>
  obtain⟨k,hk,rfl,rfl⟩:=hrel
  by_cases hlt:k<n
  ·obtain⟨b,off,rfl,_,hc⟩:=HH.out.2 (by omega)
   have hcell:=hc k hlt;have h1:=HP.out k;have h2:=HS.out k
   have h3:=HP0.out _ (getD_mem xs k (by rw[HL.out];exact hlt))
   have h4:=HS.out (k+1)
   have e:=sum_take_succ xs k (by rw[HL.out];exact hlt)
   have h5:(xs.take k).sum+xs.getD k 0≤2000000:=by omega
   have E:=Lib.hid e;clear hc e h4;generalize xs.getD k 0=x at *
   go_wp2
   go_round
   case rel=>exact⟨k+1,by omega,by go_num,by rw[E.out]⟩
   case measure=>simp[intOf];omega
  ·go_wp2
   go_ret
   exact⟨ret_int (by rw[List.take_of_length_le (by rw[HL.out];omega)]),rfl⟩
end Go.Proofs.YtkaiilmgemaljaaGreat
/- Contracts of IsBoard, the program's and the reference's. There are no conditions. -/
namespace Go.Proofs.YtkaiilmgemaljaaGreat
open Go.RowKit
end Go.Proofs.YtkaiilmgemaljaaGreat
/- Contracts of the functions that make sides: empty and first sides, copies. There are no conditions. -/
namespace Go.Proofs.YtkaiilmgemaljaaGreat
open Go.RowKit
theorem Tryz.infoI:(Tryz.prog.info? 2).map (fun i=>(i.zero,i.size,i.bytes))=some (some (.int .i64 0),1,8):=by kernel_rfl
section
variable {w w':World} {base:Nat} {e:TypeId} {v:Value} {xs:List Int}
theorem own_below {size n:Nat} {cs:List Value} (h:w.ownsRow base e size v n cs) (hb:Below w.heap.size w w'):w'.ownsRow base e size v n cs:=
 h.kept (row:=none) ⟨hb.os,hb.tape,hb.output,hb.size,fun k hk _=>hb.block k hk⟩ (by cases hv:v.ownBlock<;>simp)
theorem own_base {size n base':Nat} {cs:List Value} (h:w.ownsRow base e size v n cs) (hb:base'≤base):w.ownsRow base' e size v n cs:=by
 obtain⟨h1,h2⟩:=h
 refine⟨h1,?_⟩
 rcases h2 with h2|⟨g,cap,cur,hv,hg,r⟩
 ·exact .inl h2
 ·exact .inr ⟨g,cap,cur,hv,Nat.le_trans hb hg,r⟩
theorem OwnS.below (h:OwnS w base e v xs) (hb:Below w.heap.size w w'):OwnS w' base e v xs:=own_below h hb
theorem OwnS.mono (h:OwnS w base e v xs) {base':Nat} (hb:base'≤base):OwnS w base' e v xs:=own_base h hb
theorem OwnS.sl (h:OwnS w base e v xs) {A:Option Addr} {n c:Nat} (hv:v = .slice A n c):SL w A n xs∧n≤c:=by
 obtain⟨A',c',hv',hs,hc⟩:=h.read;rw[hv']at hv;injection hv with h1 h2 h3;subst h1 h2 h3
 exact⟨hs,hc⟩
theorem OwnS.lt (h:OwnS w base e v xs):∀k,v.ownBlock=some k→base≤k∧k<w.heap.size:=World.ownsRow.lt h
end
theorem own_form {w:World} {base:Nat} {e:TypeId} {A:Option Addr} {n c:Nat} {xs:List Int} (h:OwnS w base e (.slice A n c) xs) (hn:0<n):∃g,A=some ⟨g,0,none⟩∧base≤g∧g<w.heap.size∧
  (∀j,j<n→w.cell? ⟨g,j,none⟩=some (.int .i64 (xs.getD j 0)))∧(∀j,w.frozen? ⟨g,j,none⟩=false):=by
 have hs:=(h.sl rfl).1;obtain⟨h1,h2⟩:=h
 rcases h2 with⟨h2,h3⟩|⟨g,cap,cur,hv,hb,hh,r⟩
 ·have:=hs.1;omega
 ·injection hv with hv1 hv2 hv3
  subst hv1
  refine⟨g,rfl,hb,(Array.getElem?_eq_some_iff.1 hh).1,fun j hj=>?_,fun j=>frozen_of_row w g j cur e hh⟩
  obtain⟨b,off,hA,_,hc⟩:=hs.2 hn;injection hA with hA;injection hA with hA1 hA2;subst hA1 hA2
  simpa using hc j hj
theorem OwnS.stored {w:World} {base:Nat} {e:TypeId} {g n c:Nat} {xs:List Int} (h:OwnS w base e (.slice (some ⟨g,0,none⟩) n c) xs) (j:Nat) (x:Int):
  OwnS (w.setCell ⟨g,j,none⟩ (.int .i64 x)) base e (.slice (some ⟨g,0,none⟩) n c) (xs.set j x):=by
 have hn:=(h.sl rfl).1.1;unfold OwnS at h ⊢;subst hn;have h1:=(World.ownsRow.stored h j (.int .i64 x)).1;rw[← List.map_set]at h1;have e:(xs.set j x).length=xs.length:=List.length_set;rw[e]
 exact h1
theorem keep_cell {w w':World} {a:Addr} {v:Value} (h:w.cell? a=some v) (hb:Below w.heap.size w w'):w'.cell? a=some v:=(hb.cell (World.block_lt_of_cell? w _ h)).trans h
theorem keep_froz {w w':World} {a:Addr} {v:Value} (hf:w.frozen? a=false) (h:w.cell? a=some v) (hb:Below w.heap.size w w'):w'.frozen? a=false:=(hb.frozen (World.block_lt_of_cell? w _ h)).trans hf
def RetO (w:World) (e:TypeId) (xs:List Int) (en:Ending) (w':World):Prop:=∃A c,en = .returned (.slice A xs.length c)∧OwnS w' w.heap.size e (.slice A xs.length c) xs∧Below w.heap.size w w'
theorem RetO.mk {w w':World} {e:TypeId} {xs:List Int} {v:Value} (h:OwnS w' w.heap.size e v xs) (hb:Below w.heap.size w w'):RetO w e xs (.returned v) w':=by
 obtain⟨A,c,rfl,_⟩:=h.read
 exact⟨A,c,rfl,h,hb⟩
set_option maxRecDepth 100000 in
theorem Clone_any (A:Option Addr) (n c:Nat) (xs:List Int) (w:World) (hx:SL w A n xs) (hn:n≤2000000):
  Calls Tryz.prog 90 #[.slice A n c] w (RetO w 2 xs):=by
 obtain⟨i0,hi,hz0,hz1,hz2⟩:=info_parts Tryz.infoI
 have hq:=fun (W:World)=>Lib.run_eql_slice_nil (P:=Tryz.prog) W 26 2 A n c 0 0 Tryz.underlying26
 have hl:=hx.1
 cases A with
 | none =>
   have h0 : xs = [] := by
     rcases Nat.eq_zero_or_pos n with h | h
     · exact List.eq_nil_of_length_eq_zero (by omega)
     · obtain ⟨b, off, h, _⟩ := hx.2 h; cases h
   subst h0; have H := Lib.hid (RetO.mk (w := w) (w' := w) (e := 2) (xs := []) (v := .slice none 0 0) (World.ownsRow_nil _ _ _ _) (Below.refl _ _)); clear hx hl
   go_enter Tryz.func90, Tryz.ntmps90
   go_wp2
   go_ret
   exact H.out
 | some a =>
   have hnews : ∀ j u, (xs.map (Value.int .i64))[j]? = some u → w.cell? (a.add j) = some u := by
     intro j u hu
     have hj : j < xs.length := by have := (List.getElem?_eq_some_iff.1 hu).1; simpa using this
     obtain ⟨b, off, h, _, hc⟩ := hx.2 (by omega)
     injection h with h; subst h
     rw [Addr.add_lit, hc j (by omega), ← getD_map_int xs j hj, hu]
   have HN : Hid (∀ j u, (xs.map (Value.int .i64))[j]? = some u → (w.alloc (.cells #[] 2)).cell? (a.add j) = some u) := by
     intro j u hu
     have h := hnews j u hu
     exact (World.cell?_alloc_lt w _ _ (World.block_lt_of_cell? w _ h)).trans h
   have HO : Hid ((w.alloc (.cells #[] 2)).ownsRow w.heap.size 2 1 (.slice (some ⟨w.heap.size, 0, none⟩) 0 0) 0 []) := World.ownsRow_made w #[] 0 (Nat.le_refl _) (by decide) rfl
   have HL := Lib.hid hl; clear hx hl hnews
   go_enter Tryz.func90, Tryz.ntmps90
   go_wp2_with (at_builtin; refine wpList_append_own _ rfl _ _ 26 rfl w.heap.size 2 i0 (.int .i64 0) 1 8 Tryz.underlying26 hi hz0 hz1 hz2 rfl (by decide) _ 0 [] rfl HO.out a n c (xs.map (Value.int .i64)) rfl ?c1 HN.out ?c2 ?c3 ?c4 ?c5 ?_)
   case c1 => rw [List.length_map, HL.out, Nat.mul_one]
   case c2 => exact ints_oneCell _ _
   case c3 => unfold maxLen; omega
   case c4 => omega
   case c5 => simp
   · intro v' w1 hown hgrow _
     have hb : Below w.heap.size w w1 := ((Below.refl _ _).alloc (Nat.le_refl _) _).grown hgrow (by simp) (by simp [Value.ownBlock])
     have H : RetO w 2 xs (.returned v') w1 := by
       refine RetO.mk ?_ hb
       unfold OwnS; rw [HL.out]
       simpa using hown
     have H' := Lib.hid H; clear H hown hgrow
     go_wp2
     go_ret
     exact H'.out
/-! ### structs held against each other -/
/-! ### the first board -/
end Go.Proofs.YtkaiilmgemaljaaGreat
/- More words for memory: blocks that a call makes behind other calls. There are no conditions. -/
namespace Go.Proofs.YtkaiilmgemaljaaGreat
open Go.RowKit
theorem cell_alloc_lt (w:World) (o:Obj) (a:Addr) (h:a.block<w.heap.size):(w.alloc o).cell? a=w.cell? a:=World.cell?_alloc_lt w o a h
theorem frozen_alloc_lt (w:World) (o:Obj) (a:Addr) (h:a.block<w.heap.size):(w.alloc o).frozen? a=w.frozen? a:=((Below.refl _ _).alloc (Nat.le_refl _) o).frozen h
theorem lt_more_add {w t:World} {b k:Nat} (h:b<w.heap.size):(b<(more w t).heap.size+k)=True:=eq_true (Nat.lt_of_lt_of_le (Nat.lt_of_lt_of_le h (size_more w t)) (Nat.le_add_right _ _))
theorem ne_more {w t:World} {b:Nat} (h:b<w.heap.size):(b=(more w t).heap.size)=False:=eq_false (by have:=size_more w t;omega)
theorem ne_more' {w t:World} {b:Nat} (h:b<w.heap.size):((more w t).heap.size=b)=False:=eq_false (by have:=size_more w t;omega)
theorem ne_more_add {w t:World} {b k:Nat} (h:b<w.heap.size):(b=(more w t).heap.size+k)=False:=eq_false (by have:=size_more w t;omega)
theorem ne_more_add' {w t:World} {b k:Nat} (h:b<w.heap.size):((more w t).heap.size+k=b)=False:=eq_false (by have:=size_more w t;omega)
attribute [go_sem] lt_more_add ne_more ne_more' ne_more_add ne_more_add'
theorem cell_more_alloc (w t:World) (o:Obj) (a:Addr) (h:a.block<w.heap.size):((more w t).alloc o).cell? a=w.cell? a:=
 (cell_alloc_lt _ o a (Nat.lt_of_lt_of_le h (size_more w t))).trans (cell_more w t a h)
theorem frozen_more_alloc (w t:World) (o:Obj) (a:Addr) (h:a.block<w.heap.size):((more w t).alloc o).frozen? a=w.frozen? a:=
 (frozen_alloc_lt _ o a (Nat.lt_of_lt_of_le h (size_more w t))).trans (frozen_more w t a h)
theorem cell_more_alloc2 (w t:World) (o o':Obj) (a:Addr) (h:a.block<w.heap.size):(((more w t).alloc o).alloc o').cell? a=w.cell? a:=
 (cell_alloc_lt _ o' a (by have:=size_more w t;simp;omega)).trans (cell_more_alloc w t o a h)
theorem frozen_more_alloc2 (w t:World) (o o':Obj) (a:Addr) (h:a.block<w.heap.size):(((more w t).alloc o).alloc o').frozen? a=w.frozen? a:=
 (frozen_alloc_lt _ o' a (by have:=size_more w t;simp;omega)).trans (frozen_more_alloc w t o a h)
attribute [go_sem] cell_more_alloc frozen_more_alloc cell_more_alloc2 frozen_more_alloc2
theorem OwnS.alloc {w:World} {base:Nat} {e:TypeId} {v:Value} {xs:List Int} (h:OwnS w base e v xs) (o:Obj):OwnS (w.alloc o) base e v xs:=h.below ((Below.refl _ _).alloc (Nat.le_refl _) o)
end Go.Proofs.YtkaiilmgemaljaaGreat

/- Joined texts of one proof: N33, N34, N35, N36. Each part tells what it shows. There are no conditions. -/
import Derived.Test.YtkaiilmgemaljaaGreatPZg
import Derived.Test.YtkaiilmgemaljaaGreatPZm
import Derived.Test.YtkaiilmgemaljaaGreatPZb
set_option linter.unusedVariables false
set_option linter.unusedSimpArgs false
/- Words for the program's race tables: what they hold, what keeps it. No statement is proved here; there are no conditions. -/
namespace Go.Proofs.YtkaiilmgemaljaaGreat
open Go.RowKit Ps Ra Ex Go.Maps
/-! ### a frame that spares the blocks of S -/
structure FrS (S:Nat→Prop) (w wr:World) (L:List (List Value)):Prop where
 f:Frm S w wr
 low:∀k,S k→k<w.heap.size
 z:w.heap.size+L.length≤wr.heap.size
 cell:∀i j v,frAt L i j=some v→wr.cell? ⟨w.heap.size+i,j,none⟩=some v
 froz:∀i j v,frAt L i j=some v→wr.frozen? ⟨w.heap.size+i,j,none⟩=false
section
variable {S:Nat→Prop} {w wr w2:World} {L:List (List Value)}
theorem FrS.cellA (h:FrS S w wr L) {b:Nat} (i j:Nat) {v:Value} (hb:b=w.heap.size+i) (hv:frAt L i j=some v):wr.cell? ⟨b,j,none⟩=some v:=by subst hb;exact h.cell i j v hv
theorem FrS.frozA (h:FrS S w wr L) {b:Nat} (i j:Nat) {v:Value} (hb:b=w.heap.size+i) (hv:frAt L i j=some v):wr.frozen? ⟨b,j,none⟩=false:=by subst hb;exact h.froz i j v hv
theorem FrS.ltA (h:FrS S w wr L) {b:Nat} (i:Nat) (hb:b=w.heap.size+i) (hi:i<L.length):b<wr.heap.size:=by have:=h.z;omega
theorem FrS.c0 (h:FrS S w wr L) (j:Nat) {v:Value} (hv:frAt L 0 j=some v):wr.cell? ⟨w.heap.size,j,none⟩=some v:=h.cellA 0 j rfl hv
theorem FrS.f0 (h:FrS S w wr L) (j:Nat) {v:Value} (hv:frAt L 0 j=some v):wr.frozen? ⟨w.heap.size,j,none⟩=false:=h.frozA 0 j rfl hv
theorem FrS.l0 (h:FrS S w wr L) (hi:0<L.length):w.heap.size<wr.heap.size:=h.ltA 0 rfl hi
theorem FrS.c1 (h:FrS S w wr L) (j:Nat) {v:Value} (hv:frAt L 1 j=some v):wr.cell? ⟨w.heap.size+1,j,none⟩=some v:=h.cellA 1 j rfl hv
theorem FrS.f1 (h:FrS S w wr L) (j:Nat) {v:Value} (hv:frAt L 1 j=some v):wr.frozen? ⟨w.heap.size+1,j,none⟩=false:=h.frozA 1 j rfl hv
theorem FrS.l1 (h:FrS S w wr L) (hi:1<L.length):w.heap.size+1<wr.heap.size:=h.ltA 1 rfl hi
theorem FrS.c2 (h:FrS S w wr L) (j:Nat) {v:Value} (hv:frAt L 2 j=some v):wr.cell? ⟨w.heap.size+1+1,j,none⟩=some v:=h.cellA 2 j rfl hv
theorem FrS.f2 (h:FrS S w wr L) (j:Nat) {v:Value} (hv:frAt L 2 j=some v):wr.frozen? ⟨w.heap.size+1+1,j,none⟩=false:=h.frozA 2 j rfl hv
theorem FrS.l2 (h:FrS S w wr L) (hi:2<L.length):w.heap.size+1+1<wr.heap.size:=h.ltA 2 rfl hi
theorem FrS.c3 (h:FrS S w wr L) (j:Nat) {v:Value} (hv:frAt L 3 j=some v):wr.cell? ⟨w.heap.size+1+1+1,j,none⟩=some v:=h.cellA 3 j rfl hv
theorem FrS.f3 (h:FrS S w wr L) (j:Nat) {v:Value} (hv:frAt L 3 j=some v):wr.frozen? ⟨w.heap.size+1+1+1,j,none⟩=false:=h.frozA 3 j rfl hv
theorem FrS.l3 (h:FrS S w wr L) (hi:3<L.length):w.heap.size+1+1+1<wr.heap.size:=h.ltA 3 rfl hi
theorem FrS.c4 (h:FrS S w wr L) (j:Nat) {v:Value} (hv:frAt L 4 j=some v):wr.cell? ⟨w.heap.size+1+1+1+1,j,none⟩=some v:=h.cellA 4 j rfl hv
theorem FrS.f4 (h:FrS S w wr L) (j:Nat) {v:Value} (hv:frAt L 4 j=some v):wr.frozen? ⟨w.heap.size+1+1+1+1,j,none⟩=false:=h.frozA 4 j rfl hv
theorem FrS.l4 (h:FrS S w wr L) (hi:4<L.length):w.heap.size+1+1+1+1<wr.heap.size:=h.ltA 4 rfl hi
theorem FrS.c5 (h:FrS S w wr L) (j:Nat) {v:Value} (hv:frAt L 5 j=some v):wr.cell? ⟨w.heap.size+1+1+1+1+1,j,none⟩=some v:=h.cellA 5 j rfl hv
theorem FrS.f5 (h:FrS S w wr L) (j:Nat) {v:Value} (hv:frAt L 5 j=some v):wr.frozen? ⟨w.heap.size+1+1+1+1+1,j,none⟩=false:=h.frozA 5 j rfl hv
theorem FrS.l5 (h:FrS S w wr L) (hi:5<L.length):w.heap.size+1+1+1+1+1<wr.heap.size:=h.ltA 5 rfl hi
theorem FrS.xf0 {S:Nat→Prop} {w wr:World} {a0_0 a0_1 a0_2 a0_3 a1_0 a1_1:Value} {t0 t1:List Value} {tt:List (List Value)} (h:FrS S w wr ((a0_0::a0_1::a0_2::a0_3::t0)::(a1_0::a1_1::t1)::tt)):w.heap.size<wr.heap.size∧wr.cell? ⟨w.heap.size,0,none⟩=some a0_0∧wr.frozen? ⟨w.heap.size,0,none⟩=false∧wr.cell? ⟨w.heap.size,1,none⟩=some a0_1∧wr.frozen? ⟨w.heap.size,1,none⟩=false∧wr.cell? ⟨w.heap.size,2,none⟩=some a0_2∧wr.frozen? ⟨w.heap.size,2,none⟩=false∧wr.cell? ⟨w.heap.size,3,none⟩=some a0_3∧wr.frozen? ⟨w.heap.size,3,none⟩=false∧w.heap.size+1<wr.heap.size∧wr.cell? ⟨w.heap.size+1,0,none⟩=some a1_0∧wr.frozen? ⟨w.heap.size+1,0,none⟩=false∧wr.cell? ⟨w.heap.size+1,1,none⟩=some a1_1∧wr.frozen? ⟨w.heap.size+1,1,none⟩=false:=
 ⟨h.l0 (by simp),h.c0 0 rfl,h.f0 0 rfl,h.c0 1 rfl,h.f0 1 rfl,h.c0 2 rfl,h.f0 2 rfl,h.c0 3 rfl,h.f0 3 rfl,h.l1 (by simp),h.c1 0 rfl,h.f1 0 rfl,h.c1 1 rfl,h.f1 1 rfl⟩
theorem FrS.xf1 {S:Nat→Prop} {w wr:World} {a0_0 a0_1 a0_2 a0_3 a1_0 a1_1 a2_0 a2_1:Value} {t0 t1 t2:List Value} {tt:List (List Value)} (h:FrS S w wr ((a0_0::a0_1::a0_2::a0_3::t0)::(a1_0::a1_1::t1)::(a2_0::a2_1::t2)::tt)):w.heap.size<wr.heap.size∧wr.cell? ⟨w.heap.size,0,none⟩=some a0_0∧wr.frozen? ⟨w.heap.size,0,none⟩=false∧wr.cell? ⟨w.heap.size,1,none⟩=some a0_1∧wr.frozen? ⟨w.heap.size,1,none⟩=false∧wr.cell? ⟨w.heap.size,2,none⟩=some a0_2∧wr.frozen? ⟨w.heap.size,2,none⟩=false∧wr.cell? ⟨w.heap.size,3,none⟩=some a0_3∧wr.frozen? ⟨w.heap.size,3,none⟩=false∧w.heap.size+1<wr.heap.size∧wr.cell? ⟨w.heap.size+1,0,none⟩=some a1_0∧wr.frozen? ⟨w.heap.size+1,0,none⟩=false∧wr.cell? ⟨w.heap.size+1,1,none⟩=some a1_1∧wr.frozen? ⟨w.heap.size+1,1,none⟩=false∧w.heap.size+1+1<wr.heap.size∧wr.cell? ⟨w.heap.size+1+1,0,none⟩=some a2_0∧wr.frozen? ⟨w.heap.size+1+1,0,none⟩=false∧wr.cell? ⟨w.heap.size+1+1,1,none⟩=some a2_1∧wr.frozen? ⟨w.heap.size+1+1,1,none⟩=false:=
 ⟨h.l0 (by simp),h.c0 0 rfl,h.f0 0 rfl,h.c0 1 rfl,h.f0 1 rfl,h.c0 2 rfl,h.f0 2 rfl,h.c0 3 rfl,h.f0 3 rfl,h.l1 (by simp),h.c1 0 rfl,h.f1 0 rfl,h.c1 1 rfl,h.f1 1 rfl,h.l2 (by simp),h.c2 0 rfl,h.f2 0 rfl,h.c2 1 rfl,h.f2 1 rfl⟩
theorem FrS.xf2 {S:Nat→Prop} {w wr:World} {a0_0 a0_1 a0_2 a0_3:Value} {t0:List Value} {tt:List (List Value)} (h:FrS S w wr ((a0_0::a0_1::a0_2::a0_3::t0)::tt)):w.heap.size<wr.heap.size∧wr.cell? ⟨w.heap.size,0,none⟩=some a0_0∧wr.frozen? ⟨w.heap.size,0,none⟩=false∧wr.cell? ⟨w.heap.size,1,none⟩=some a0_1∧wr.frozen? ⟨w.heap.size,1,none⟩=false∧wr.cell? ⟨w.heap.size,2,none⟩=some a0_2∧wr.frozen? ⟨w.heap.size,2,none⟩=false∧wr.cell? ⟨w.heap.size,3,none⟩=some a0_3∧wr.frozen? ⟨w.heap.size,3,none⟩=false:=
 ⟨h.l0 (by simp),h.c0 0 rfl,h.f0 0 rfl,h.c0 1 rfl,h.f0 1 rfl,h.c0 2 rfl,h.f0 2 rfl,h.c0 3 rfl,h.f0 3 rfl⟩
theorem FrS.xf3 {S:Nat→Prop} {w wr:World} {a0_0 a0_1:Value} {t0:List Value} {tt:List (List Value)} (h:FrS S w wr ((a0_0::a0_1::t0)::tt)):w.heap.size<wr.heap.size∧wr.cell? ⟨w.heap.size,0,none⟩=some a0_0∧wr.frozen? ⟨w.heap.size,0,none⟩=false∧wr.cell? ⟨w.heap.size,1,none⟩=some a0_1∧wr.frozen? ⟨w.heap.size,1,none⟩=false:=
 ⟨h.l0 (by simp),h.c0 0 rfl,h.f0 0 rfl,h.c0 1 rfl,h.f0 1 rfl⟩
theorem FrS.xf4 {S:Nat→Prop} {w wr:World} {a0_0 a0_1 a1_0 a1_1:Value} {t0 t1:List Value} {tt:List (List Value)} (h:FrS S w wr ((a0_0::a0_1::t0)::(a1_0::a1_1::t1)::tt)):w.heap.size<wr.heap.size∧wr.cell? ⟨w.heap.size,0,none⟩=some a0_0∧wr.frozen? ⟨w.heap.size,0,none⟩=false∧wr.cell? ⟨w.heap.size,1,none⟩=some a0_1∧wr.frozen? ⟨w.heap.size,1,none⟩=false∧w.heap.size+1<wr.heap.size∧wr.cell? ⟨w.heap.size+1,0,none⟩=some a1_0∧wr.frozen? ⟨w.heap.size+1,0,none⟩=false∧wr.cell? ⟨w.heap.size+1,1,none⟩=some a1_1∧wr.frozen? ⟨w.heap.size+1,1,none⟩=false:=
 ⟨h.l0 (by simp),h.c0 0 rfl,h.f0 0 rfl,h.c0 1 rfl,h.f0 1 rfl,h.l1 (by simp),h.c1 0 rfl,h.f1 0 rfl,h.c1 1 rfl,h.f1 1 rfl⟩
theorem FrS.xf5 {S:Nat→Prop} {w wr:World} {a0_0 a0_1 a1_0 a1_1 a2_0 a2_1:Value} {t0 t1 t2:List Value} {tt:List (List Value)} (h:FrS S w wr ((a0_0::a0_1::t0)::(a1_0::a1_1::t1)::(a2_0::a2_1::t2)::tt)):w.heap.size<wr.heap.size∧wr.cell? ⟨w.heap.size,0,none⟩=some a0_0∧wr.frozen? ⟨w.heap.size,0,none⟩=false∧wr.cell? ⟨w.heap.size,1,none⟩=some a0_1∧wr.frozen? ⟨w.heap.size,1,none⟩=false∧w.heap.size+1<wr.heap.size∧wr.cell? ⟨w.heap.size+1,0,none⟩=some a1_0∧wr.frozen? ⟨w.heap.size+1,0,none⟩=false∧wr.cell? ⟨w.heap.size+1,1,none⟩=some a1_1∧wr.frozen? ⟨w.heap.size+1,1,none⟩=false∧w.heap.size+1+1<wr.heap.size∧wr.cell? ⟨w.heap.size+1+1,0,none⟩=some a2_0∧wr.frozen? ⟨w.heap.size+1+1,0,none⟩=false∧wr.cell? ⟨w.heap.size+1+1,1,none⟩=some a2_1∧wr.frozen? ⟨w.heap.size+1+1,1,none⟩=false:=
 ⟨h.l0 (by simp),h.c0 0 rfl,h.f0 0 rfl,h.c0 1 rfl,h.f0 1 rfl,h.l1 (by simp),h.c1 0 rfl,h.f1 0 rfl,h.c1 1 rfl,h.f1 1 rfl,h.l2 (by simp),h.c2 0 rfl,h.f2 0 rfl,h.c2 1 rfl,h.f2 1 rfl⟩
theorem FrS.xf6 {S:Nat→Prop} {w wr:World} {a0_0 a0_1 a0_2 a0_3 a1_0 a1_1 a1_2 a1_3 a1_4 a1_5:Value} {t0 t1:List Value} {tt:List (List Value)} (h:FrS S w wr ((a0_0::a0_1::a0_2::a0_3::t0)::(a1_0::a1_1::a1_2::a1_3::a1_4::a1_5::t1)::tt)):w.heap.size<wr.heap.size∧wr.cell? ⟨w.heap.size,0,none⟩=some a0_0∧wr.frozen? ⟨w.heap.size,0,none⟩=false∧wr.cell? ⟨w.heap.size,1,none⟩=some a0_1∧wr.frozen? ⟨w.heap.size,1,none⟩=false∧wr.cell? ⟨w.heap.size,2,none⟩=some a0_2∧wr.frozen? ⟨w.heap.size,2,none⟩=false∧wr.cell? ⟨w.heap.size,3,none⟩=some a0_3∧wr.frozen? ⟨w.heap.size,3,none⟩=false∧w.heap.size+1<wr.heap.size∧wr.cell? ⟨w.heap.size+1,0,none⟩=some a1_0∧wr.frozen? ⟨w.heap.size+1,0,none⟩=false∧wr.cell? ⟨w.heap.size+1,1,none⟩=some a1_1∧wr.frozen? ⟨w.heap.size+1,1,none⟩=false∧wr.cell? ⟨w.heap.size+1,2,none⟩=some a1_2∧wr.frozen? ⟨w.heap.size+1,2,none⟩=false∧wr.cell? ⟨w.heap.size+1,3,none⟩=some a1_3∧wr.frozen? ⟨w.heap.size+1,3,none⟩=false∧wr.cell? ⟨w.heap.size+1,4,none⟩=some a1_4∧wr.frozen? ⟨w.heap.size+1,4,none⟩=false∧wr.cell? ⟨w.heap.size+1,5,none⟩=some a1_5∧wr.frozen? ⟨w.heap.size+1,5,none⟩=false:=
 ⟨h.l0 (by simp),h.c0 0 rfl,h.f0 0 rfl,h.c0 1 rfl,h.f0 1 rfl,h.c0 2 rfl,h.f0 2 rfl,h.c0 3 rfl,h.f0 3 rfl,h.l1 (by simp),h.c1 0 rfl,h.f1 0 rfl,h.c1 1 rfl,h.f1 1 rfl,h.c1 2 rfl,h.f1 2 rfl,h.c1 3 rfl,h.f1 3 rfl,h.c1 4 rfl,h.f1 4 rfl,h.c1 5 rfl,h.f1 5 rfl⟩
theorem FrS.xf7 {S:Nat→Prop} {w wr:World} {a0_0 a0_1 a0_2 a0_3 a0_4 a0_5:Value} {t0:List Value} {tt:List (List Value)} (h:FrS S w wr ((a0_0::a0_1::a0_2::a0_3::a0_4::a0_5::t0)::tt)):w.heap.size<wr.heap.size∧wr.cell? ⟨w.heap.size,0,none⟩=some a0_0∧wr.frozen? ⟨w.heap.size,0,none⟩=false∧wr.cell? ⟨w.heap.size,1,none⟩=some a0_1∧wr.frozen? ⟨w.heap.size,1,none⟩=false∧wr.cell? ⟨w.heap.size,2,none⟩=some a0_2∧wr.frozen? ⟨w.heap.size,2,none⟩=false∧wr.cell? ⟨w.heap.size,3,none⟩=some a0_3∧wr.frozen? ⟨w.heap.size,3,none⟩=false∧wr.cell? ⟨w.heap.size,4,none⟩=some a0_4∧wr.frozen? ⟨w.heap.size,4,none⟩=false∧wr.cell? ⟨w.heap.size,5,none⟩=some a0_5∧wr.frozen? ⟨w.heap.size,5,none⟩=false:=
 ⟨h.l0 (by simp),h.c0 0 rfl,h.f0 0 rfl,h.c0 1 rfl,h.f0 1 rfl,h.c0 2 rfl,h.f0 2 rfl,h.c0 3 rfl,h.f0 3 rfl,h.c0 4 rfl,h.f0 4 rfl,h.c0 5 rfl,h.f0 5 rfl⟩
theorem FrS.xf8 {S:Nat→Prop} {w wr:World} {a0_0 a0_1 a0_2 a0_3 a0_4 a0_5 a1_0 a1_1 a2_0 a2_1 a2_2 a2_3:Value} {t0 t1 t2:List Value} {tt:List (List Value)} (h:FrS S w wr ((a0_0::a0_1::a0_2::a0_3::a0_4::a0_5::t0)::(a1_0::a1_1::t1)::(a2_0::a2_1::a2_2::a2_3::t2)::tt)):w.heap.size<wr.heap.size∧wr.cell? ⟨w.heap.size,0,none⟩=some a0_0∧wr.frozen? ⟨w.heap.size,0,none⟩=false∧wr.cell? ⟨w.heap.size,1,none⟩=some a0_1∧wr.frozen? ⟨w.heap.size,1,none⟩=false∧wr.cell? ⟨w.heap.size,2,none⟩=some a0_2∧wr.frozen? ⟨w.heap.size,2,none⟩=false∧wr.cell? ⟨w.heap.size,3,none⟩=some a0_3∧wr.frozen? ⟨w.heap.size,3,none⟩=false∧wr.cell? ⟨w.heap.size,4,none⟩=some a0_4∧wr.frozen? ⟨w.heap.size,4,none⟩=false∧wr.cell? ⟨w.heap.size,5,none⟩=some a0_5∧wr.frozen? ⟨w.heap.size,5,none⟩=false∧w.heap.size+1<wr.heap.size∧wr.cell? ⟨w.heap.size+1,0,none⟩=some a1_0∧wr.frozen? ⟨w.heap.size+1,0,none⟩=false∧wr.cell? ⟨w.heap.size+1,1,none⟩=some a1_1∧wr.frozen? ⟨w.heap.size+1,1,none⟩=false∧w.heap.size+1+1<wr.heap.size∧wr.cell? ⟨w.heap.size+1+1,0,none⟩=some a2_0∧wr.frozen? ⟨w.heap.size+1+1,0,none⟩=false∧wr.cell? ⟨w.heap.size+1+1,1,none⟩=some a2_1∧wr.frozen? ⟨w.heap.size+1+1,1,none⟩=false∧wr.cell? ⟨w.heap.size+1+1,2,none⟩=some a2_2∧wr.frozen? ⟨w.heap.size+1+1,2,none⟩=false∧wr.cell? ⟨w.heap.size+1+1,3,none⟩=some a2_3∧wr.frozen? ⟨w.heap.size+1+1,3,none⟩=false:=
 ⟨h.l0 (by simp),h.c0 0 rfl,h.f0 0 rfl,h.c0 1 rfl,h.f0 1 rfl,h.c0 2 rfl,h.f0 2 rfl,h.c0 3 rfl,h.f0 3 rfl,h.c0 4 rfl,h.f0 4 rfl,h.c0 5 rfl,h.f0 5 rfl,h.l1 (by simp),h.c1 0 rfl,h.f1 0 rfl,h.c1 1 rfl,h.f1 1 rfl,h.l2 (by simp),h.c2 0 rfl,h.f2 0 rfl,h.c2 1 rfl,h.f2 1 rfl,h.c2 2 rfl,h.f2 2 rfl,h.c2 3 rfl,h.f2 3 rfl⟩
theorem FrS.start (w:World) (low:∀k,S k→k<w.heap.size):FrS S w w []:=⟨Frm.refl _ _,low,Nat.le_refl _,fun i j v h=>by simp[frAt]at h,fun i j v h=>by simp[frAt]at h⟩
theorem frAt_lt {L:List (List Value)} {i j:Nat} {v:Value} (h:frAt L i j=some v):i<L.length:=by
 unfold frAt at h
 cases hL:L[i]? with
 | none=>rw[hL]at h;cases h
 | some l=>exact (List.getElem?_eq_some_iff.1 hL).1
theorem frm_froz {T:Nat→Prop} (hf:Frm T wr w2) {b j:Nat} (hb:b<wr.heap.size) (hn:¬T b):w2.frozen? ⟨b,j,none⟩=wr.frozen? ⟨b,j,none⟩:=by
 have e:=hf.block b hb hn
 simp[World.frozen?,e]
theorem FrS.frm (h:FrS S w wr L) (hf:Frm S wr w2):FrS S w w2 L:=by
 have hs:=h.f.size
 refine⟨h.f.trans hf,h.low,Nat.le_trans h.z hf.size,fun i j v hv=>hf.cell' (h.cell i j v hv) fun hs=>?_,fun i j v hv=>?_⟩
 ·have:=h.low _ hs;omega
 ·rw[frm_froz hf (by have:=h.z;have:=frAt_lt hv;omega) fun hs=>by have:=h.low _ hs;omega]
  exact h.froz i j v hv
theorem FrS.below (h:FrS S w wr L) (hb:Below wr.heap.size wr w2):FrS S w w2 L:=h.frm (Frm.of_below' S hb)
theorem FrS.more (h:FrS S w wr L) (t:World):FrS S w (more wr t) L:=h.below (below_more wr t)
theorem FrS.alloc (h:FrS S w wr L) (o:Obj):FrS S w (wr.alloc o) L:=h.below ((Below.refl _ _).alloc (Nat.le_refl _) o)
theorem FrS.drew (h:FrS S w wr L):FrS S w wr.drew L:=⟨h.f.drew,h.low,h.z,h.cell,h.froz⟩
theorem FrS.drewN (h:FrS S w wr L) (n:Nat):FrS S w (wr.drewN n) L:=⟨h.f.drewN n,h.low,h.z,h.cell,h.froz⟩
theorem FrS.out {O:Nat→Prop} (h:FrS S w wr L) (hf:Frm O wr w2) (hO:∀k,O k→w.heap.size+L.length≤k):FrS S w w2 L:=by
 refine⟨?_,h.low,Nat.le_trans h.z hf.size,fun i j v hv=>hf.cell' (h.cell i j v hv) fun hs=>?_,fun i j v hv=>?_⟩
 ·exact⟨hf.os.trans h.f.os,hf.tape.trans h.f.tape,hf.output.trans h.f.output,Nat.le_trans h.f.size hf.size,fun k hk hn=>(hf.block k (Nat.lt_of_lt_of_le hk h.f.size) fun ho=>by have:=hO k ho;omega).trans (h.f.block k hk hn)⟩
 ·have:=hO _ hs;have:=frAt_lt hv;omega
 ·rw[frm_froz hf (by have:=h.z;have:=frAt_lt hv;omega) fun hs=>by have:=hO _ hs;have:=frAt_lt hv;omega]
  exact h.froz i j v hv
theorem FrS.set (h:FrS S w wr L) {b:Nat} (i j:Nat) (hb:b=w.heap.size+i) {u:Value} (hu:frAt L i j=some u) (v:Value):FrS S w (wr.setCell ⟨b,j,none⟩ v) (L.modify i (·.set j v)):=by
 subst hb;have hc:=h.cell i j u hu;have hi:=frAt_lt hu;have hf:=Frm.set wr (w.heap.size+i) j v
 refine⟨⟨hf.os.trans h.f.os,hf.tape.trans h.f.tape,hf.output.trans h.f.output,Nat.le_trans h.f.size hf.size,fun k hk hn=>(hf.block k (Nat.lt_of_lt_of_le hk h.f.size) (by omega)).trans (h.f.block k hk hn)⟩,h.low,by simp;exact h.z,fun i' j' v' hv=>?_,fun i' j' v' hv=>?_⟩
 ·by_cases hi:i'=i
  ·subst hi
   cases hL:L[i']? with
   | none=>simp[frAt,hL]at hu
   | some l =>
     simp [frAt, hL] at hv hu
     by_cases hj : j' = j
     · subst hj
       rw [List.getElem?_set_self (List.getElem?_eq_some_iff.1 hu).1] at hv; injection hv with hv; subst hv
       simp [go_sem, hc]
     · rw [List.getElem?_set_ne (by omega)] at hv
       have := h.cell i' j' v' (by simp [frAt, hL, hv])
       have hne : ¬ j' = j := hj
       simp [go_sem, this, hne, Ne.symm hne]
  ·have:frAt L i' j'=some v':=by
    unfold frAt at hv ⊢;rw[List.getElem?_modify]at hv
    simp[Ne.symm hi]at hv
    exact hv
   have:=h.cell i' j' v' this
   have hne:¬w.heap.size+i'=w.heap.size+i:=by omega
   have hne2:¬w.heap.size+i=w.heap.size+i':=by omega
   simp[go_sem,this,hne,hne2]
   try omega
 ·have:∃u',frAt L i' j'=some u':=by
   unfold frAt at hv ⊢;rw[List.getElem?_modify]at hv
   cases hL:L[i']? with
   | none=>simp[hL]at hv
   | some l =>
     by_cases hi : i = i'
     · simp [hL, hi] at hv
       have : j' < l.length := by have := (List.getElem?_eq_some_iff.1 hv).1; simpa using this
       exact ⟨l[j'], by simp [this]⟩
     · simp [hL, hi] at hv
       exact ⟨v', by simpa using hv⟩
  obtain⟨u',hu'⟩:=this;have:=h.froz i' j' u' hu'
  simp[go_sem,this]
theorem FrS.allocT (h:FrS S w wr L) (hz:wr.heap.size=w.heap.size+L.length) (cs:Array Value) (T:TypeId):FrS S w (wr.alloc (.cells cs T)) (L++[cs.toList]):=by
 have ha:=h.alloc (.cells cs T)
 have new:∀i j v,frAt (L++[cs.toList]) i j=some v→¬i<L.length→i=L.length∧cs[j]? = some v:=fun i j v hv hi=>by
  unfold frAt at hv
  rw[List.getElem?_append_right (by omega)]at hv
  have:i-L.length=0:=by
   rcases Nat.eq_zero_or_pos (i-L.length) with h'|h'
   ·exact h'
   ·rw[List.getElem?_eq_none (by simp;omega)]at hv;cases hv
  rw[this]at hv
  simp at hv
  exact⟨by omega,by simpa using hv⟩
 refine⟨ha.f,h.low,by simp;omega,fun i j v hv=>?_,fun i j v hv=>?_⟩
 ·by_cases hi:i<L.length
  ·exact ha.cell i j v (frAt_app_lt hv hi)
  ·obtain⟨rfl,hc⟩:=new i j v hv hi
   rw[← hz];simp[go_sem,hc]
 ·by_cases hi:i<L.length
  ·exact ha.froz i j v (frAt_app_lt hv hi)
  ·obtain⟨rfl,hc⟩:=new i j v hv hi
   rw[← hz];simp[go_sem]
end
/-! ### lists of lists of positions -/
def RS (T:Nat→Prop) (w:World) (A:Option Addr) (n:Nat) (ls:List (List (List Int))):Prop:=
 ls.length=n∧(0<n→∃b off,A=some ⟨b,off,none⟩∧b<w.heap.size∧¬T b∧∀k,k<n→∃B m c,w.cell? ⟨b,off+k,none⟩=some (.slice B m c)∧PL T w B m (ls.getD k [])∧m≤c)
def RSV (T:Nat→Prop) (w:World) (u:Value) (ls:List (List (List Int))):Prop:=∃A n c,u = .slice A n c∧RS T w A n ls∧n≤c
section
variable {T T' O:Nat→Prop} {w w':World} {A:Option Addr} {n:Nat} {u:Value} {ls:List (List (List Int))}
theorem RS.frm (h:RS T w A n ls) (hf:Frm O w w') (hO:∀k,O k→T k):RS T w' A n ls:=by
 refine⟨h.1,fun hn=>?_⟩
 obtain⟨b,off,hA,hlt,hs,hc⟩:=h.2 hn
 refine⟨b,off,hA,Nat.lt_of_lt_of_le hlt hf.size,hs,fun k hk=>?_⟩
 obtain⟨B,m,c,h1,h2,h3⟩:=hc k hk
 exact⟨B,m,c,hf.cell' h1 (fun ho=>hs (hO b ho)),h2.frm (hf.mono hO),h3⟩
theorem RS.set (h:RS T w A n ls) (hS:∀k,T' k→T k∨w.heap.size≤k):RS T' w A n ls:=by
 refine⟨h.1,fun hn=>?_⟩
 obtain⟨b,off,hA,hlt,hs,hc⟩:=h.2 hn
 refine⟨b,off,hA,hlt,fun hb=>by rcases hS b hb with h|h;exact hs h;omega,fun k hk=>?_⟩
 obtain⟨B,m,c,h1,h2,h3⟩:=hc k hk
 exact⟨B,m,c,h1,h2.set hS,h3⟩
theorem RSV.frm (h:RSV T w u ls) (hf:Frm O w w') (hO:∀k,O k→T k):RSV T w' u ls:=let ⟨A,n,c,h1,h2,h3⟩:=h;⟨A,n,c,h1,h2.frm hf hO,h3⟩
theorem RSV.set (h:RSV T w u ls) (hS:∀k,T' k→T k∨w.heap.size≤k):RSV T' w u ls:=let ⟨A,n,c,h1,h2,h3⟩:=h;⟨A,n,c,h1,h2.set hS,h3⟩
end
/-! ### the table -/
structure RT where
 p:Int
 c:Nat
 h:Nat
 s:Nat
 bt:Nat
 b1:Nat
 b2:Nat
 b3:Nat
 A:Option Addr
 nr:Nat
 cr:Nat
def RT.S (t:RT):Nat→Prop:=fun k=>k=t.b1∨k=t.b2∨k=t.b3
def RT.N (t:RT):Nat:=wys t.h t.c
def RT.cells (t:RT):List Value:=[.int .i64 t.p,.int .i64 t.c,.int .i64 t.h,.int .i64 t.s,.int .i64 t.N,.slice t.A t.nr t.cr,.map (some t.b1),.map (some t.b2),.map (some t.b3)]
structure RT.Ok (t:RT):Prop where
 v:isVar t.p t.c t.h t.s=true
 n:t.N≤500
 r:(rollsN t.s).length=t.nr
 c:t.nr≤t.cr
def keysU (N:Nat):List Lit:=(List.range (N*N)).map fun (i:Nat)=>Lit.int .i64 (i:Int)
def RT.k1 (t:RT) (q:List Int):Lit:=.int .i64 (num t.c q:Int)
def RT.k2 (t:RT) (q r:List Int):Lit:=.int .i64 ((num t.c q*t.N+num t.c r:Nat):Int)
def exV (o:Option E):Value:=.agg #[.int .i64 (o.getD ⟨0,0⟩).num,.int .i64 ((o.getD ⟨0,0⟩).depth:Int)]
noncomputable def rsl (s:Nat) (q:List Int):List (List (List Int)):=(rollsN s).map fun r=>resultsL q r.1 r.2
def RaceM (t:RT) (T:Nat→Prop) (w:World) (f1 f2 f3:Lit→Option Value):Prop:=
 MapV Tryz.prog 2 w t.b1 (keysU t.N) f1∧MapV Tryz.prog 2 w t.b2 (keysU t.N) f2∧MapV Tryz.prog 2 w t.b3 (keysU t.N) f3∧
 (∀q,PosP t.h t.c q→∀u,f1 (t.k1 q)=some u→RSV T w u (rsl t.s q))∧
 (∀q r,PosP t.h t.c q→PosP t.h t.c r→∀u,f2 (t.k2 q r)=some u→u=exV (win t.s q r)∧f3 (t.k2 q r)=some (.bool (win t.s q r).isNone))
structure RaceI (t:RT) (T:Nat→Prop) (w:World):Prop where
 tb:∀j v,t.cells[j]? = some v→w.cell? ⟨t.bt,j,none⟩=some v
 nt:¬T t.bt
 rl:RL T w t.A t.nr (rollsN t.s)
 sub:∀k,t.S k→T k
 d12:t.b1≠t.b2
 d13:t.b1≠t.b3
 d23:t.b2≠t.b3
 maps:∃f1 f2 f3,RaceM t T w f1 f2 f3
section
variable {t:RT} {T T' O:Nat→Prop} {w w':World} {f1 f2 f3:Lit→Option Value}
theorem RL.set {S S':Nat→Prop} {w:World} {A:Option Addr} {n:Nat} {rs:List (Nat×Nat)} (h:RL S w A n rs) (hS:∀k,S' k→S k∨w.heap.size≤k):RL S' w A n rs:=by
 refine⟨h.1,h.2.1,fun hn=>?_⟩
 obtain⟨b,off,hA,hlt,hs,hc⟩:=h.2.2 hn
 exact⟨b,off,hA,hlt,fun hb=>by rcases hS b hb with h|h;exact hs h;omega,hc⟩
theorem RaceM.frm (h:RaceM t T w f1 f2 f3) (hf:Frm O w w') (hO:∀k,O k→T k) (hn:∀k,O k→¬t.S k):RaceM t T w' f1 f2 f3:=by
 obtain⟨h1,h2,h3,h4,h5⟩:=h
 exact⟨h1.frm hf fun h=>hn _ h (.inl rfl),h2.frm hf fun h=>hn _ h (.inr (.inl rfl)),h3.frm hf fun h=>hn _ h (.inr (.inr rfl)),fun q hq u hu=>(h4 q hq u hu).frm hf hO,h5⟩
theorem RaceI.own (h:RaceI t T w) (hf:Frm O w w') (hO:∀k,O k→T k) (hn:∀k,O k→¬t.S k):RaceI t T w':=
 let ⟨f1,f2,f3,hm⟩:=h.maps
 ⟨fun j v hv=>hf.cell' (h.tb j v hv) fun ho=>h.nt (hO _ ho),h.nt,h.rl.frm (hf.mono hO),h.sub,h.d12,h.d13,h.d23,f1,f2,f3,hm.frm hf hO hn⟩
theorem RaceI.below (h:RaceI t T w) (hb:Below w.heap.size w w'):RaceI t T w':=h.own (Frm.of_below hb) (fun _ h=>h.elim) (fun _ h=>h.elim)
theorem RaceI.alloc (h:RaceI t T w) (o:Obj):RaceI t T (w.alloc o):=h.below ((Below.refl _ _).alloc (Nat.le_refl _) o)
theorem RaceI.drew (h:RaceI t T w):RaceI t T w.drew:=h.below (drw (Below.refl _ _))
theorem RaceI.ltB (h:RaceI t T w):t.bt<w.heap.size:=World.block_lt_of_cell? w _ (h.tb 0 _ rfl)
theorem RaceI.ltS (h:RaceI t T w):∀k,t.S k→k<w.heap.size:=by
 obtain⟨_,_,_,h1,h2,h3,_⟩:=h.maps
 rintro k (rfl|rfl|rfl)
 ·exact h1.lt
 ·exact h2.lt
 ·exact h3.lt
theorem RaceI.set (h:RaceI t T w) (hS:∀k,T' k→T k∨w.heap.size≤k) (hs:∀k,t.S k→T' k):RaceI t T' w:=by
 obtain⟨f1,f2,f3,h1,h2,h3,h4,h5⟩:=h.maps
 exact⟨h.tb,fun hb=>by rcases hS _ hb with h'|h';exact h.nt h';have:=h.ltB;omega,h.rl.set hS,hs,h.d12,h.d13,h.d23,f1,f2,f3,h1,h2,h3,fun q hq u hu=>(h4 q hq u hu).set hS,h5⟩
theorem RaceI.less (h:RaceI t T w) (hS:∀k,T' k→T k) (hs:∀k,t.S k→T' k):RaceI t T' w:=h.set (fun k hk=>.inl (hS k hk)) hs
end
def ownT (T:Nat→Prop) (w:World) (m:Nat):Nat→Prop:=fun k=>T k∨(w.heap.size≤k∧k<w.heap.size+m)
def RetWn (t:RT) (T:Nat→Prop) (w:World) (o:Option E) (e:Ending) (w':World):Prop:=e = .returned (.tuple #[exV o,.bool o.isSome])∧RaceI t T w'∧Frm t.S w w'
theorem RetWn.mkY {t:RT} {T:Nat→Prop} {w w':World} {o:Option E} {m:Int} {d:Nat} (ho:o=some ⟨m,d⟩) (h1:RaceI t T w') (h2:Frm t.S w w'):RetWn t T w o (.returned (.tuple #[.agg #[.int .i64 m,.int .i64 (d:Int)],.bool true])) w':=by subst ho;exact⟨rfl,h1,h2⟩
theorem RetWn.mkN {t:RT} {T:Nat→Prop} {w w':World} {o:Option E} (ho:o=none) (h1:RaceI t T w') (h2:Frm t.S w w'):RetWn t T w o (.returned (.tuple #[.agg #[.int .i64 0,.int .i64 0],.bool false])) w':=by subst ho;exact⟨rfl,h1,h2⟩
theorem keyI:Keyed Tryz.prog 2:=int_keyed Tryz.underlying2
theorem key_wf {k:Nat} (h:k≤1000000):keyOf Tryz.prog 2 (.int .i64 (k:Int))=some (.int .i64 (k:Int)):=keyOf_int_mk Tryz.underlying2 (WalkArith.wf_i64 (by omega))
theorem mem_keysU {N k:Nat} (h:k<N*N):Lit.int .i64 (k:Int)∈keysU N:=by
 unfold keysU
 exact List.mem_map.2 ⟨k,List.mem_range.2 h,rfl⟩
theorem keysU_len {N:Nat} (h:N≤500):(keysU N).length<maxLen:=by
 unfold keysU maxLen;have:N*N≤500*500:=Nat.mul_le_mul h h
 simp;omega
theorem k2_inj {t:RT} {q r q' r':List Int} (hq:PosP t.h t.c q) (hr:PosP t.h t.c r) (hq':PosP t.h t.c q') (hr':PosP t.h t.c r') (h:t.k2 q r=t.k2 q' r'):q=q'∧r=r':=by
 unfold RT.k2 at h;injection h with _ h
 have h':num t.c q*t.N+num t.c r=num t.c q'*t.N+num t.c r':=by omega
 obtain⟨h1,h2⟩:=pair_inj (num_lt hr) (num_lt hr') h'
 exact⟨num_inj hq hq' h1,num_inj hr hr' h2⟩
theorem k1_inj {t:RT} {q q':List Int} (hq:PosP t.h t.c q) (hq':PosP t.h t.c q') (h:t.k1 q=t.k1 q'):q=q':=by
 unfold RT.k1 at h;injection h with _ h
 exact num_inj hq hq' (by omega)
end Go.Proofs.YtkaiilmgemaljaaGreat
/- Contract of a new race table, the program's. There are no conditions. -/
namespace Go.Proofs.YtkaiilmgemaljaaGreat
open Go.RowKit Ps Ra Ex Go.Maps
theorem mapV_empty (P:Program) (k:TypeId) {w:World} {b:Nat} (U:List Lit) (hb:w.heap[b]? = some (Obj.map #[] 0)):MapV P k w b U (fun _=>none):=by
 refine⟨.map [],⟨#[],0,hb,⟨by simp,Go.MapKept.stamped_empty 0,by simp⟩,Nat.zero_le _,rfl⟩,fun l hl=>⟨rfl,fun z=>rfl⟩,fun l h=>by simp[has]at h⟩
def RetNew (w:World) (p:Int) (c h s:Nat) (e:Ending) (w':World):Prop:=
 ∃t:RT,t.p=p∧t.c=c∧t.h=h∧t.s=s∧e = .returned (.pointer (some ⟨t.bt,0,none⟩))∧t.Ok∧RaceI t t.S w'∧(∀k,t.S k→w.heap.size≤k)∧w.heap.size≤t.bt∧Below w.heap.size w w'
def newG (w:World) (p:Int) (c h s N:Nat) (i:Nat) (v:Value) (W:World):Prop:=
 match i with
 | 2=>v = .int .i64 (N:Int)
 | 4=>OwnR W w.heap.size v (rollsN s)
 | 5=>∃b,v = .map (some b)∧w.heap.size≤b∧W.heap[b]? = some (.map #[] 0)
 | 6=>∃b,v = .map (some b)∧w.heap.size≤b∧W.heap[b]? = some (.map #[] 0)
 | 7=>∃b,v = .map (some b)∧w.heap.size≤b∧W.heap[b]? = some (.map #[] 0)
 | _=>v = .agg #[.int .i64 p,.int .i64 c,.int .i64 h,.int .i64 s]
def mapB:Value→Option Nat
 | .map (some b)=>some b
 | _=>none
def newO (i:Nat) (v:Value):Option Nat:=if 5≤i then mapB v else none
theorem newG_stab {w:World} {p:Int} {c h s N:Nat} (i:Nat) (v:Value) (W W':World) (hg:newG w p c h s N i v W) (hb:Below W.heap.size W W'):newG w p c h s N i v W':=by
 have key:∀b:Nat,W.heap[b]? = some (Obj.map #[] 0)→W'.heap[b]? = some (Obj.map #[] 0):=fun b h=>(hb.block b (Array.getElem?_eq_some_iff.1 h).1).trans h
 unfold newG at *
 split at hg<;>first|exact hg|exact own_below hg hb|(obtain⟨b,h1,h2,h3⟩:=hg;exact⟨b,h1,h2,key b h3⟩)
theorem newG_lt {w:World} {p:Int} {c h s N:Nat} (i:Nat) (v:Value) (W:World) (b:Nat) (hg:newG w p c h s N i v W) (ho:newO i v=some b):b<W.heap.size:=by
 unfold newO at ho
 split at ho
 ·rename_i h5
  unfold newG at hg
  split at hg<;>first|omega|(obtain⟨b',rfl,_,h3⟩:=hg;simp[mapB]at ho;subst ho;exact (Array.getElem?_eq_some_iff.1 h3).1)|(subst hg;simp[mapB]at ho)
 ·cases ho
set_option maxRecDepth 100000 in
set_option maxHeartbeats 2000000 in
theorem newRace_any (p:Int) (c h s:Nat) (w:World) (hv:isVar p c h s=true) (hN:wys h c≤500):
  Calls Tryz.prog 75 #[.agg #[.int .i64 p,.int .i64 c,.int .i64 h,.int .i64 s]] w (RetNew w p c h s):=by
 have hvv:=isVar_yes hv
 have hs6:s≤6:=by omega
 have HV:=Lib.hid hv;have HN:=Lib.hid hN
 have HC:Hid (wysC h c=wys h c):=wysC_ok (by omega)
 have HF0:=Lib.hid ((Fr.start w).allocT (by simp) #[.int .i64 p,.int .i64 c,.int .i64 h,.int .i64 s] 25)
 have CN:=Lib.hid fun (W:World)=>BearoffCount_any p s c h W hv
 have CR:=Lib.hid fun (W:World)=>AllRolls_any p c h s W hv
 clear hv hN hvv
 go_enter Tryz.func75,Tryz.ntmps75
 go_wp2_with (fail)
 refine wp_region_makes 8 (fun i=>i+3) (newG w p c h s (wys h c)) newO (by kernel_rfl) (by kernel_rfl) newG_stab newG_lt ?_ ?_
 ·intro i o hi ho a' W hb hfar hdep
  have e1:a'.tmps.getD 1 undef = .pointer (some ⟨w.heap.size,0,none⟩):=(hfar 1 (fun j _=>by omega)).trans rfl
  have HFW:=HF0.out.below hb;have hWz:w.heap.size≤W.heap.size:=HFW.b.size;have HFh:=Lib.hid HFW;obtain⟨z0,c00,f00,c01,f01,c02,f02,c03,f03⟩:=HFh.out.xf2;have dep:∀j,j<8→Region.waitsFor .any _ i j=true→newG w p c h s (wys h c) j (a'.tmps.getD (j+3) undef) W:=hdep
  have good:∀(v:Value) (W':World),Below W.heap.size W W'→newG w p c h s (wys h c) i v W'→(∀b,newO i v=some b→W.heap.size≤b)→MGood (newG w p c h s (wys h c)) newO i W v W':=fun v W' h1 h2 h3=>⟨h1,h2,h3⟩
  have load:∀(d:Option Tmp) (ty:TypeId) (pos:String) (af:Array Edge),(execOp a'.eval { dst:=d,op:=Op.load 25 (Operand.tmp 1),type:=ty,pos:=pos,after:=af,guard:=none }).run Tryz.prog W = .ok (.value (.agg #[.int .i64 p,.int .i64 c,.int .i64 h,.int .i64 s])) W:=fun d ty pos af=>by
   simp only[execOp,Act.eval,e1]
   go_simp
  have hi8:i=0∨i=1∨i=2∨i=3∨i=4∨i=5∨i=6∨i=7:=by omega
  rcases hi8 with rfl|rfl|rfl|rfl|rfl|rfl|rfl|rfl
  all_goals
   simp at ho
   subst ho
  ·exact .inl ⟨_,W,load _ _ _ _,good _ _ (Below.refl _ _) rfl (fun b hb=>by simp[newO]at hb)⟩
  ·exact .inl ⟨_,W,load _ _ _ _,good _ _ (Below.refl _ _) rfl (fun b hb=>by simp[newO]at hb)⟩
  ·have e4:a'.tmps.getD 4 undef = .agg #[.int .i64 p,.int .i64 c,.int .i64 h,.int .i64 s]:=dep 1 (by omega) (by kernel_rfl)
   refine .inr ⟨164,#[.agg #[.int .i64 p,.int .i64 c,.int .i64 h,.int .i64 s]],?_,?_⟩
   ·simp only[execOp,Act.eval]
    go_simp
   ·refine (CN.out W).mono ?_
    rintro e W' ⟨rfl,hb'⟩
    exact⟨_,rfl,good _ _ hb' (by rw[HC.out];rfl) (fun b hb=>by simp[newO]at hb)⟩
  ·exact .inl ⟨_,W,load _ _ _ _,good _ _ (Below.refl _ _) rfl (fun b hb=>by simp[newO]at hb)⟩
  ·have e6:a'.tmps.getD 6 undef = .agg #[.int .i64 p,.int .i64 c,.int .i64 h,.int .i64 s]:=dep 3 (by omega) (by kernel_rfl)
   refine .inr ⟨165,#[.agg #[.int .i64 p,.int .i64 c,.int .i64 h,.int .i64 s]],?_,?_⟩
   ·simp only[execOp,Act.eval]
    go_simp
   ·refine (CR.out W).mono ?_
    rintro e W' ⟨v,rfl,ho,hb'⟩
    exact⟨_,rfl,good _ _ hb' (own_base ho hWz) (fun b hb=>by simp[newO]at hb)⟩
  all_goals
   refine .inl ⟨.map (some W.heap.size),W.alloc (.map #[] 0),rfl,good _ _ ((Below.refl _ _).alloc (Nat.le_refl _) _) ⟨W.heap.size,rfl,hWz,heap_alloc_new W _⟩ (fun b hb=>?_)⟩
   simp[newO,mapB]at hb
   omega
 ·intro v W hb hg ho
  have HBW:Below w.heap.size w W:=((Below.refl _ _).alloc (Nat.le_refl _) _).trans (hb.mono (by simp))
  have g0:v 0 = .agg #[.int .i64 p,.int .i64 c,.int .i64 h,.int .i64 s]:=hg 0 (by omega)
  have g1:v 1 = .agg #[.int .i64 p,.int .i64 c,.int .i64 h,.int .i64 s]:=hg 1 (by omega)
  have g2:v 2 = .int .i64 (wys h c:Int):=hg 2 (by omega)
  have g3:v 3 = .agg #[.int .i64 p,.int .i64 c,.int .i64 h,.int .i64 s]:=hg 3 (by omega)
  have g4:OwnR W w.heap.size (v 4) (rollsN s):=hg 4 (by omega)
  obtain⟨b1,g5,l1,m1⟩:∃b,v 5 = .map (some b)∧w.heap.size≤b∧W.heap[b]? = some (.map #[] 0):=hg 5 (by omega)
  obtain⟨b2,g6,l2,m2⟩:∃b,v 6 = .map (some b)∧w.heap.size≤b∧W.heap[b]? = some (.map #[] 0):=hg 6 (by omega)
  obtain⟨b3,g7,l3,m3⟩:∃b,v 7 = .map (some b)∧w.heap.size≤b∧W.heap[b]? = some (.map #[] 0):=hg 7 (by omega)
  have d12:b1≠b2:=fun e=>ho 5 6 (by omega) (by omega) (by omega) b1 (by rw[g5];rfl) (by rw[g6,e];rfl)
  have d13:b1≠b3:=fun e=>ho 5 7 (by omega) (by omega) (by omega) b1 (by rw[g5];rfl) (by rw[g7,e];rfl)
  have d23:b2≠b3:=fun e=>ho 6 7 (by omega) (by omega) (by omega) b2 (by rw[g6];rfl) (by rw[g7,e];rfl)
  have hrb:∀k,(v 4).ownBlock=some k→¬(k=b1∨k=b2∨k=b3):=fun k hk hor=>by
   obtain⟨_,h4⟩:=g4
   rcases h4 with⟨h4,_⟩|⟨g,cap,cur,h4,_,h5,_⟩
   ·rw[h4]at hk;cases hk
   ·rw[h4]at hk
    simp[Value.ownBlock]at hk
    subst hk
    rcases hor with rfl|rfl|rfl
    ·rw[m1]at h5;cases h5
    ·rw[m2]at h5;cases h5
    ·rw[m3]at h5;cases h5
  obtain⟨A,cr,hv4,hsl,hcr⟩:=row_read (S:=fun k=>k=b1∨k=b2∨k=b3) g4 hrb (by omega)
  have HR:Hid (∀W',W'=W.alloc (.cells #[.int .i64 p,.int .i64 c,.int .i64 h,.int .i64 s,.int .i64 (wys h c:Int),.slice A (rollsN s).length cr,.map (some b1),.map (some b2),.map (some b3)] 109)→RetNew w p c h s (.returned (.pointer (some ⟨W.heap.size,0,none⟩))) W'):=fun W' hW'=>by
   subst hW';have hz:w.heap.size≤W.heap.size:=HBW.size
   refine⟨⟨p,c,h,s,W.heap.size,b1,b2,b3,A,(rollsN s).length,cr⟩,rfl,rfl,rfl,rfl,rfl,⟨HV.out,HN.out,rfl,hcr⟩,?_,?_,hz,HBW.alloc hz _⟩
   ·have mk:∀b,W.heap[b]? = some (Obj.map #[] 0)→MapV Tryz.prog 2 (W.alloc (.cells #[.int .i64 p,.int .i64 c,.int .i64 h,.int .i64 s,.int .i64 (wys h c:Int),.slice A (rollsN s).length cr,.map (some b1),.map (some b2),.map (some b3)] 109)) b (keysU (wys h c)) (fun _=>none):=fun b hb=>(mapV_empty Tryz.prog 2 (keysU (wys h c)) hb).alloc _
    have lt:∀b:Nat,W.heap[b]? = some (Obj.map #[] 0)→b<W.heap.size:=fun b h=>(Array.getElem?_eq_some_iff.1 h).1
    refine⟨fun j v hj=>?_,?_,⟨rfl,hsl.alloc _⟩,fun k hk=>hk,d12,d13,d23,_,_,_,mk b1 m1,mk b2 m2,mk b3 m3,(fun q _ u hu=>by cases hu),(fun q r _ _ u hu=>by cases hu)⟩
    ·have:(#[.int .i64 p,.int .i64 c,.int .i64 h,.int .i64 s,.int .i64 (wys h c:Int),.slice A (rollsN s).length cr,.map (some b1),.map (some b2),.map (some b3)]:Array Value)[j]? = some v:=by rw[← hj];simp[RT.cells,RT.N]
     simp[go_sem,this]
    ·rintro (h|h|h)
     ·have:=lt b1 m1;simp at h;omega
     ·have:=lt b2 m2;simp at h;omega
     ·have:=lt b3 m3;simp at h;omega
   ·rintro k (rfl|rfl|rfl)<;>assumption
  clear hrb hsl g4 m1 m2 m3 hg ho hcr;have d12:=Lib.hid d12;have d13:=Lib.hid d13;have d23:=Lib.hid d23
  simp only[List.drop_succ_cons,List.drop_zero,putV,g0,g1,g2,g3,hv4,g5,g6,g7,Act.put]
  clear g0 g1 g2 g3 hv4 g5 g6 g7
  go_wp2_with (fail)
  go_ret
  exact HR.out _ rfl
end Go.Proofs.YtkaiilmgemaljaaGreat
/- Contract of the results of all rolls out of the program's race table. There are no conditions. -/
namespace Go.Proofs.YtkaiilmgemaljaaGreat
open Go.RowKit Ps Ra Ex Go.Maps
theorem Tryz.infoLL:(Tryz.prog.info? 48).map (fun i=>(i.zero,i.size,i.bytes))=some (some (.slice none 0 0),1,24):=by kernel_rfl
def PLV (T:Nat→Prop) (w:World) (u:Value) (ps:List (List Int)):Prop:=∃A n c,u = .slice A n c∧PL T w A n ps∧n≤c
def PLVs (T:Nat→Prop) (w:World) (cs:List Value) (ls:List (List (List Int))):Prop:=cs.length=ls.length∧∀i,i<cs.length→PLV T w (cs.getD i undef) (ls.getD i [])
def OR (T:Nat→Prop) (w:World) (base:Nat) (v:Value) (ls:List (List (List Int))):Prop:=∃cs,w.ownsRow base 48 1 v ls.length cs∧PLVs (wth T v) w cs ls∧∀k,v.ownBlock=some k→¬T k
section
variable {T T' O:Nat→Prop} {w w':World} {u v:Value} {cs ds:List Value} {ps:List (List Int)} {ls ms:List (List (List Int))} {base:Nat}
theorem PLV.frm (h:PLV T w u ps) (hf:Frm T w w'):PLV T w' u ps:=let ⟨A,n,c,h1,h2,h3⟩:=h;⟨A,n,c,h1,h2.frm hf,h3⟩
theorem PLV.set (h:PLV T w u ps) (hS:∀k,T' k→T k∨w.heap.size≤k):PLV T' w u ps:=let ⟨A,n,c,h1,h2,h3⟩:=h;⟨A,n,c,h1,h2.set hS,h3⟩
theorem PLVs.frm (h:PLVs T w cs ls) (hf:Frm T w w'):PLVs T w' cs ls:=⟨h.1,fun i hi=>(h.2 i hi).frm hf⟩
theorem PLVs.set (h:PLVs T w cs ls) (hS:∀k,T' k→T k∨w.heap.size≤k):PLVs T' w cs ls:=⟨h.1,fun i hi=>(h.2 i hi).set hS⟩
theorem PLVs.nil_ (T:Nat→Prop) (w:World):PLVs T w [] []:=⟨rfl,fun i hi=>absurd hi (by simp)⟩
theorem PLVs.one (h:PLV T w u ps):PLVs T w [u] [ps]:=⟨rfl,fun i hi=>by
 have:i=0:=by simpa using hi
 subst this;exact h⟩
theorem PLVs.append (h:PLVs T w cs ls) (k:PLVs T w ds ms):PLVs T w (cs++ds) (ls++ms):=by
 refine⟨by simp[h.1,k.1],fun i hi=>?_⟩
 by_cases hlt:i<cs.length
 ·have:=h.2 i hlt
  rw[getD_app_lt _ _ _ hlt,getD_app_lt _ _ _ (by rw[← h.1];exact hlt)];exact this
 ·rw[getD_app_ge _ _ _ (by omega),getD_app_ge _ _ _ (by rw[← h.1];omega),h.1]
  have:=k.2 (i-cs.length) (by simp at hi;omega)
  rwa [h.1]at this
theorem OR.frm (h:OR T w base v ls) (hf:Frm T w w'):OR T w' base v ls:=
 let ⟨cs,h1,h2,h3⟩:=h;⟨cs,hf.row h1 h3,h2.frm (hf.mono fun k hk=>.inl hk),h3⟩
theorem OR.below (h:OR T w base v ls) (hb:Below w.heap.size w w'):OR T w' base v ls:=h.frm (Frm.of_below' T hb)
theorem OR.lt (h:OR T w base v ls):∀k,v.ownBlock=some k→base≤k∧k<w.heap.size:=let ⟨_,h1,_⟩:=h;World.ownsRow.lt h1
theorem OR.nil_ (T:Nat→Prop) (w:World) (base:Nat):OR T w base (.slice none 0 0) []:=⟨[],World.ownsRow_nil _ _ _ _,PLVs.nil_ _ _,fun k hk=>by cases hk⟩
theorem OR.grew {w1:World} {v':Value} {m:Nat} (hp:PLVs (wth T v) w cs ls) (hq:PLVs (wth T v) w ds ms) (hown:w1.ownsRow base 48 1 v' (ls.length+m) (cs++ds)) (hm:m=ms.length)
  (hg:w.grownBy w1 v.ownBlock) (hat:v'.ownBlock=v.ownBlock∨v'.ownBlock=some w.heap.size) (hS:∀k,base≤k→¬T k):OR T w1 base v' (ls++ms):=by
 subst hm
 refine⟨cs++ds,by rw[List.length_append];exact hown,?_,fun k hk=>hS k (World.ownsRow.lt hown k hk).1⟩
 have h1:=(hp.append hq).set (T':=fun k=>wth T v k∨wth T v' k) fun k hk=>hk.elim .inl (wth_new hat k)
 exact (h1.frm ((frm_own hg).mono fun k hk=>.inl hk)).set fun k hk=>.inl (.inr hk)
theorem OR.rsv (h:OR T w base v ls):RSV T w v ls:=by
 obtain⟨cs,h1,h2,h3⟩:=h
 obtain⟨A,c,hv,hs,hc⟩:=row_read h1 h3 (by omega)
 refine⟨A,_,c,hv,⟨rfl,fun hn=>?_⟩,hc⟩
 obtain⟨b,off,hA,hlt,hb,hcell⟩:=hs.2 hn
 refine⟨b,off,hA,hlt,hb,fun k hk=>?_⟩
 obtain⟨B,m,c',hu,hpl,hm⟩:=h2.2 k (by rw[h2.1];exact hk)
 exact⟨B,m,c',by rw[hcell k (by omega),hu],hpl.set fun k hk=>.inl (.inl hk),hm⟩
end
theorem rsl_take {s k:Nat} {q:List Int} (h:k<(rollsN s).length):(rsl s q).take (k+1)=(rsl s q).take k++[resultsL q ((rollsN s).getD k (0,0)).1 ((rollsN s).getD k (0,0)).2]:=by
 unfold rsl
 rw[take_snoc_getD _ ([]:List (List Int)) (by simpa using h),getD_map _ _ (0,0) _ h]
theorem rsl_len (s:Nat) (q:List Int):(rsl s q).length=(rollsN s).length:=by unfold rsl;simp
theorem RaceM.put1 {t:RT} {T:Nat→Prop} {w w':World} {f1 f2 f3:Lit→Option Value} {q:List Int} {v:Value} (h:RaceM t T w f1 f2 f3) (hs:MapV Tryz.prog 2 w' t.b1 (keysU t.N) (putF f1 (t.k1 q) v)) (hg:w.grownBy w' (some t.b1))
  (hT:T t.b1) (d12:t.b1≠t.b2) (d13:t.b1≠t.b3) (hq:PosP t.h t.c q) (hv:RSV T w v (rsl t.s q)):RaceM t T w' (putF f1 (t.k1 q) v) f2 f3:=by
 obtain⟨h1,h2,h3,h4,h5⟩:=h
 have hf:Frm (fun k=>k=t.b1) w w':=(Frm.of_grown hg).mono fun k hk=>by injection hk
 have hO:∀k,k=t.b1→T k:=fun k hk=>by rw[hk];exact hT
 refine⟨hs,h2.frm hf (Ne.symm d12),h3.frm hf (Ne.symm d13),fun q' hq' u hu=>?_,h5⟩
 by_cases e:t.k1 q'=t.k1 q
 ·rw[e,putF_same]at hu
  injection hu with hu;subst hu;rw[k1_inj hq' hq e]
  exact hv.frm hf hO
 ·rw[putF_other f1 e]at hu
  exact (h4 q' hq' u hu).frm hf hO
theorem frm_S {t:RT} {w w':World} {b:Nat} (hg:w.grownBy w' (some b)) (hb:t.S b):Frm t.S w w':=(Frm.of_grown hg).mono fun k hk=>by injection hk with hk;rw[hk];exact hb
def RetRs (t:RT) (T:Nat→Prop) (w:World) (q:List Int) (e:Ending) (w':World):Prop:=∃u,e = .returned u∧RSV T w' u (rsl t.s q)∧RaceI t T w'∧Frm t.S w w'
set_option maxRecDepth 100000 in
set_option maxHeartbeats 2000000 in
theorem resultsOf_any (t:RT) (ht:t.Ok) (T:Nat→Prop) (A:Option Addr) (ca:Nat) (q:List Int) (w:World) (hT:∀k,w.heap.size≤k→¬T k) (hI:RaceI t T w) (hx:SQ T w A t.h q) (hca:t.h≤ca) (hq:PosP t.h t.c q):
  Calls Tryz.prog 157 #[.pointer (some ⟨t.bt,0,none⟩),.slice A t.h ca] w (RetRs t T w q):=by
 have hv:=isVar_yes ht.v
 have hc15:t.c≤15:=by omega
 have hh24:t.h≤24:=by omega
 have hh1:0<t.h:=by omega
 have hs6:t.s≤6:=by omega
 have HT:=Lib.hid hT;have HI:=Lib.hid hI;have HX:=Lib.hid hx;have HQ:=Lib.hid hq;have HR:=Lib.hid ht.r;have CNUM:=Lib.hid (bearoffNumber_any t.p t.s t.c t.h A t.h ca q w hx.1 hq hc15 hh24);have hnum:num t.c q<500:=Nat.lt_of_lt_of_le (num_lt hq) ht.n
 have HNU:Hid (Lit.int .i64 (num t.c q:Int)∈keysU t.N):=mem_keysU (by have:=num_lt hq;have h1:1≤t.N:=wys_pos _ _;have:t.N*1≤t.N*t.N:=Nat.mul_le_mul_left _ h1;unfold RT.N at *;omega)
 have HN5:=Lib.hid ht.n
 have hnr:t.nr≤21:=by rw[← ht.r];exact rolls_le hs6
 obtain⟨i0,hi,hz0,hz1,hz2⟩:=info_parts Tryz.infoLL
 have hnr1:0<t.nr:=by
  have h1:=rollsN_length t.s
  have h2:1*2≤t.s*(t.s+1):=Nat.mul_le_mul (by omega) (by omega)
  have:=ht.r
  omega
 have hncr:=ht.c;obtain⟨rb,ro,hA0,_,_,_⟩:=hI.rl.at hnr1;have HA0:=Lib.hid hA0
 have HP15:Hid (PosP t.h 15 q):=⟨hq.1,hq.2.1,by have:=hq.2.2;omega⟩
 have HRM:Hid (∀k,k<t.nr→1≤((rollsN t.s).getD k (0,0)).2∧((rollsN t.s).getD k (0,0)).2≤((rollsN t.s).getD k (0,0)).1∧((rollsN t.s).getD k (0,0)).1≤t.s):=fun k hk=>mem_rollsN.1 (getD_mem' _ _ (by rw[ht.r];exact hk))
 clear hA0;have c0:=hI.tb 0 _ rfl;have c1:=hI.tb 1 _ rfl;have c2:=hI.tb 2 _ rfl;have c3:=hI.tb 3 _ rfl;clear hT hI hx hq hv ht
 go_enter Tryz.func157,Tryz.ntmps157
 go_wp2_with (fail)
 refine CNUM.out.mono ?_
 rintro e w1 ⟨rfl,hb1⟩
 have HB1:=Lib.hid hb1;have HI1:Hid (RaceI t T w1):=HI.out.below hb1;have e6:=HI1.out.tb 6 _ rfl
 have e5:w1.cell? ⟨t.bt,5,none⟩=some (.slice (some ⟨rb,ro,none⟩) t.nr t.cr):=by rw[← HA0.out];exact HI1.out.tb 5 _ rfl
 obtain⟨f1,f2,f3,hm⟩:=HI1.out.maps;have HM:=Lib.hid hm
 have hk0:(0:Int)≤(num t.c q:Int):=by omega
 have hlook:=HM.out.1.look_ok keyI Tryz.underlying105 (z:=.slice none 0 0) (by kernel_rfl) (key_wf (k:=num t.c q) (by omega))
 clear hb1 c0 c1 c2 c3 CNUM hm
 rcases hf:f1 (t.k1 q) with _|u
 ·have hlk:(Instr.lookup 105 (.map (some t.b1)) (.int .i64 (num t.c q:Int)) true).run Tryz.prog w1 = .ok (.tuple #[.slice none 0 0,.bool false]) w1:=by
   have h:=hlook
   rw[show Lit.int .i64 (num t.c q:Int)=t.k1 q from rfl,hf]at h
   exact h
  have HF:=Lib.hid hf;clear hf hlook
  go_wp2_with (fail)
  go_loopw [6,32] (fun v6 v32 wr=>∃k:Nat,k≤t.nr∧v32 = .int .i64 k∧(∃vx,vx=v6∧OR T wr w1.heap.size vx ((rsl t.s q).take k))∧Below w1.heap.size w1 wr) (fun _ v32 _=>t.nr-(intOf v32).toNat)
  case atStart=>exact⟨0,by omega,rfl,⟨_,rfl,OR.nil_ _ _ _⟩,Below.refl _ _⟩
  case round=>
   clear e5 e6 hlk;obtain⟨k,hk,rfl,⟨vx,rfl,hO⟩,hb⟩:=hrel;have HO:=Lib.hid hO;have HBr:=Lib.hid hb;clear hO hb
   by_cases hlt:k<t.nr
   ·have hlk:(k:Int)<(t.nr:Int):=by omega
    have hrl:=HI1.out.rl.below HBr.out;rw[HA0.out]at hrl;obtain⟨_,_,hA,hz,q1,q2⟩:=hrl.at hlt;injection hA with hA;injection hA with hA1 hA2;subst hA1 hA2;obtain⟨r1,r2,r3⟩:=HRM.out k hlt
    have HRT:Hid ((rsl t.s q).take (k+1)=(rsl t.s q).take k++[resultsL q ((rollsN t.s).getD k (0,0)).1 ((rollsN t.s).getD k (0,0)).2]):=rsl_take (by rw[HR.out];exact hlt)
    have HLT:Hid (((rsl t.s q).take k).length=k):=by unfold Hid;rw[List.length_take,rsl_len,HR.out];omega
    generalize (rollsN t.s).getD k (0,0)=r at *;obtain⟨a,b⟩:=r
    simp only at r1 r2 r3 q1 q2 HRT
    have HBW:Hid (Below w.heap.size w (wr.alloc (.cells #[.int .i64 a,.int .i64 b] 39))):=(HB1.out.trans (HBr.out.mono HB1.out.size)).alloc (Nat.le_trans HB1.out.size HBr.out.size) _;have hzz:w.heap.size≤w1.heap.size:=HB1.out.size;have hzr:w1.heap.size≤wr.heap.size:=HBr.out.size;have HVL:=Lib.hid HO.out.lt
    have CRES:Hid (Calls Tryz.prog 95 #[.slice A t.h ca,.agg #[.int .i64 a,.int .i64 b]] (wr.alloc (.cells #[.int .i64 a,.int .i64 b] 39)) (RetO1 (wth T vx) (wr.alloc (.cells #[.int .i64 a,.int .i64 b] 39)) (resultsL q a b))):=
     bearoffResults_any (wth T vx) A t.h ca a b q _ ((HX.out.set (S':=wth T vx) fun x hx=>hx.elim .inl fun h=>.inr (Nat.le_trans hzz (HVL.out x h).1)).frm (Frm.of_below' _ HBW.out)) hca HP15.out hh24 hh1 r1 r2 (by omega) (fun x hx=>by
      rintro (h|h)
      ·exact HT.out x (Nat.le_trans HBW.out.size hx) h
      ·have:=(HVL.out x h).2;simp at hx;omega)
    obtain⟨cs,hrow,hpv,_⟩:=HO.out;have HROW0:=Lib.hid hrow;have HPV0:=Lib.hid hpv;clear hrow hpv r1 r2 r3 hrl HRM
    go_wp2_with (fail)
    refine CRES.out.mono ?_
    rintro e w2 ⟨v2,rfl,ho2,hb2⟩
    obtain⟨A2,c2,rfl,hpl2,hc2⟩:=ho2.read
    have HB2:Hid (Below wr.heap.size wr w2):=((Below.refl _ _).alloc (Nat.le_refl _) _).trans (hb2.mono (by simp))
    generalize (resultsL q a b).length=n2 at *;have HROW:=Lib.hid (row_alloc (own_below HROW0.out HB2.out) (.cells #[.slice A2 n2 c2] 48));have HPV:=Lib.hid ((HPV0.out.frm (Frm.of_below' _ HB2.out)).frm ((Frm.refl (wth T vx) _).alloc (.cells #[.slice A2 n2 c2] 48)));have HPE:Hid (PLVs (wth T vx) (w2.alloc (.cells #[.slice A2 n2 c2] 48)) [.slice A2 n2 c2] [resultsL q a b]):=PLVs.one ⟨A2,n2,c2,rfl,hpl2.alloc _,hc2⟩;have HB3:Hid (Below w1.heap.size w1 (w2.alloc (.cells #[.slice A2 n2 c2] 48))):=(HBr.out.trans (HB2.out.mono HBr.out.size)).alloc (Nat.le_trans HBr.out.size HB2.out.size) _;have hzw2:w1.heap.size≤w2.heap.size:=Nat.le_trans HBr.out.size HB2.out.size;clear ho2 hpl2 hb2 HROW0 HPV0 CRES
    go_wp2_with (at_builtin;(refine wpList_append_own_at _ rfl _ _ 177 rfl w1.heap.size 48 i0 (.slice none 0 0) 1 24 Tryz.underlying177 hi hz0 hz1 hz2 rfl (by decide) _ _ _ rfl HROW.out ⟨w2.heap.size,0,none⟩ 1 1 [.slice A2 n2 c2] rfl rfl (one_new _ _ _) (slice_cell _ _ _) (by have:=HLT.out;unfold maxLen;omega) (by have:=HLT.out;omega) (by simp;omega) ?_);intro v' w3 hown hgrow _ hat)
    have HO2:Hid (OR T w3 w1.heap.size v' ((rsl t.s q).take k++[resultsL q a b])):=OR.grew HPV.out HPE.out hown rfl hgrow hat (fun x hx=>HT.out x (Nat.le_trans hzz hx))
    have HB4:Hid (Below w1.heap.size w1 w3):=HB3.out.grown hgrow (by simp;omega) (fun x hx=>(HVL.out x hx).1)
    clear hown hgrow hat HROW HPV HPE
    go_wp2_with (fail)
    go_roundw
    case rel=>exact⟨k+1,by omega,by go_num,⟨_,rfl,by rw[HRT.out];exact HO2.out⟩,HB4.out⟩
    case measure=>(simp[intOf])<;>omega
   ·have hke:k=t.nr:=by omega
    have HOE:Hid (OR T wr w1.heap.size vx (rsl t.s q)):=by
     have h:=HO.out
     rwa [hke,List.take_of_length_le (by rw[rsl_len,HR.out];exact Nat.le_refl _)]at h
    have HIr:Hid (RaceI t T wr):=HI1.out.below HBr.out;have hM1:=HM.out.1.below HBr.out
    obtain⟨w3,hrun,hst,hgr⟩:=hM1.store keyI Tryz.underlying105 (keysU_len HN5.out) (key:=.int .i64 (num t.c q:Int)) (val:=vx) (key_wf (by omega)) HNU.out
    have HRES:Hid (RetRs t T w q (.returned vx) w3):=by
     have hTb:T t.b1:=HIr.out.sub _ (.inl rfl)
     have hf:Frm (fun k=>k=t.b1) wr w3:=(Frm.of_grown hgr).mono fun k hk=>by injection hk
     have hO:∀k,k=t.b1→T k:=fun k hk=>by rw[hk];exact hTb
     have hMr:RaceM t T wr f1 f2 f3:=HM.out.frm (Frm.of_below HBr.out) (fun _ h=>h.elim) (fun _ h=>h.elim)
     refine⟨vx,rfl,HOE.out.rsv.frm hf hO,⟨fun j v hv=>hf.cell' (HIr.out.tb j v hv) fun h=>HIr.out.nt (hO _ h),HIr.out.nt,HIr.out.rl.frm (hf.mono hO),HIr.out.sub,HIr.out.d12,HIr.out.d13,HIr.out.d23,_,_,_,hMr.put1 hst hgr hTb HIr.out.d12 HIr.out.d13 HQ.out HOE.out.rsv⟩,?_⟩
     exact (Frm.of_below' _ (HB1.out.trans (HBr.out.mono HB1.out.size))).trans (frm_S hgr (.inl rfl))
    have e6:=HIr.out.tb 6 _ rfl;have hbt:=HIr.out.ltB;clear HOE hst hgr HO hM1
    go_wp2_with (fail)
    go_ret
    exact HRES.out
 ·have hlk:(Instr.lookup 105 (.map (some t.b1)) (.int .i64 (num t.c q:Int)) true).run Tryz.prog w1 = .ok (.tuple #[u,.bool true]) w1:=by
   have h:=hlook
   rw[show Lit.int .i64 (num t.c q:Int)=t.k1 q from rfl,hf]at h
   exact h
  have HRES:Hid (RetRs t T w q (.returned u) w1):=⟨u,rfl,HM.out.2.2.2.1 q HQ.out u hf,HI1.out,Frm.of_below' _ HB1.out⟩;clear hf hlook
  go_wp2_with (fail)
  go_ret
  exact HRES.out
end Go.Proofs.YtkaiilmgemaljaaGreat
/- Contract of the chance of the player who waits, out of the program's race table. There are no conditions. -/
namespace Go.Proofs.YtkaiilmgemaljaaGreat
open Go.RowKit Ps Ra Ex Go.Maps
theorem meanE_val {B:Int} (hB:1≤B) {rs:List (Nat×Nat)} {xs:List E} {e:E} (h:meanE B rs xs=some e):Val B e:=by
 unfold meanE at h
 cases hs:sumE B (rs.zip xs) with
 | none=>rw[hs]at h;cases h
 | some t=>rw[hs]at h;exact mk_isVal hB h
theorem val_val {s:Nat} (hB:1≤sq s):∀(f:Nat) {own other:List Int} {e:E},val s f own other=some e→Val (sq s) e
 | 0,own,other,e,h=>by cases h
 | f + 1, own, other, e, h => by
   unfold val at h
   split at h
   · injection h with h; subst h; exact one_val
   · split at h
     · injection h with h; subst h; exact zero_val
     · cases hs : allS (fun r => (bestS (s * s) (fun q => (val s f other q).bind (oneM (s * s))) (resultsL own r.1 r.2)).map fun t => t.2.2) (rollsN s) with
       | none => rw [hs] at h; cases h
       | some xs => rw [hs] at h; exact meanE_val hB h
theorem win_val {s:Nat} (hB:1≤sq s) {own other:List Int} {e:E} (h:win s own other=some e):Val (sq s) e:=val_val hB _ h
theorem sec_val {s:Nat} (hB:1≤sq s) {other q:List Int} {e:E} (h:sec s other q=some e):Val (sq s) e:=by
 unfold sec at h
 cases hw:win s other q with
 | none=>rw[hw]at h;cases h
 | some x=>rw[hw]at h;exact addE_val hB h
theorem RaceI.stored {t:RT} {T:Nat→Prop} {w:World} (h:RaceI t T w) {b i:Nat} (v:Value) (hT:T b) (hS:¬t.S b):RaceI t T (w.setCell ⟨b,i,none⟩ v):=
 h.own (Frm.set w b i v) (fun k hk=>by rw[hk];exact hT) (fun k hk=>by rw[hk];exact hS)
theorem Frm.ownSet {S:Nat→Prop} {w wr:World} (h:Frm S w wr) {b i:Nat} (hb:w.heap.size≤b) (v:Value):Frm S w (wr.setCell ⟨b,i,none⟩ v):=by
 have hf:=Frm.set wr b i v
 exact⟨hf.os.trans h.os,hf.tape.trans h.tape,hf.output.trans h.output,Nat.le_trans h.size hf.size,fun k hk hn=>(hf.block k (Nat.lt_of_lt_of_le hk h.size) (by omega)).trans (h.block k hk hn)⟩
theorem RaceI.wide {t:RT} {T:Nat→Prop} {w:World} (h:RaceI t T w) (m:Nat):RaceI t (ownT T w m) w:=h.set (fun k hk=>hk.elim .inl fun h=>.inr h.1) (fun k hk=>.inl (h.sub k hk))
theorem SQ.wide {T:Nat→Prop} {w:World} {A:Option Addr} {n:Nat} {xs:List Int} (h:SQ T w A n xs) (m:Nat):SQ (ownT T w m) w A n xs:=h.set fun k hk=>hk.elim .inl fun h=>.inr h.1
theorem SQ.less {T T':Nat→Prop} {w:World} {A:Option Addr} {n:Nat} {xs:List Int} (h:SQ T w A n xs) (hS:∀k,T' k→T k):SQ T' w A n xs:=h.set fun k hk=>.inl (hS k hk)
theorem SQ.below {T:Nat→Prop} {w w':World} {A:Option Addr} {n:Nat} {xs:List Int} (h:SQ T w A n xs) (hb:Below w.heap.size w w'):SQ T w' A n xs:=h.frm (Frm.of_below' _ hb)
theorem ownT_new {T:Nat→Prop} {w W:World} {m:Nat} (hT:∀k,w.heap.size≤k→¬T k) (hz:w.heap.size+m≤W.heap.size):∀k,W.heap.size≤k→¬ownT T w m k:=by
 rintro k hk (h|h)
 ·exact hT k (by omega) h
 ·omega
theorem ownT_at {T:Nat→Prop} {w:World} {m b:Nat} (i:Nat) (hb:b=w.heap.size+i) (hi:i<m):ownT T w m b:=.inr ⟨by omega,by omega⟩
def WinC (t:RT) (own other:List Int):Prop:=∀(T:Nat→Prop) (A B:Option Addr) (ca cb:Nat) (w:World),(∀k,w.heap.size≤k→¬T k)→RaceI t T w→SQ T w A t.h own→t.h≤ca→SQ T w B t.h other→t.h≤cb→
 Calls Tryz.prog 84 #[.pointer (some ⟨t.bt,0,none⟩),.slice A t.h ca,.slice B t.h cb] w (RetWn t T w (win t.s own other))
def SecC (t:RT) (q other:List Int):Prop:=∀(T:Nat→Prop) (A B:Option Addr) (ca cb:Nat) (w:World),(∀k,w.heap.size≤k→¬T k)→RaceI t T w→SQ T w A t.h q→t.h≤ca→SQ T w B t.h other→t.h≤cb→
 Calls Tryz.prog 98 #[.pointer (some ⟨t.bt,0,none⟩),.slice A t.h ca,.slice B t.h cb] w (RetWn t T w (sec t.s other q))
set_option maxRecDepth 100000 in
set_option maxHeartbeats 2000000 in
theorem second_any (t:RT) (ht:t.Ok) {q other:List Int} (hw:WinC t other q):SecC t q other:=by
 intro T A B ca cb w hT hI hA hca hB hcb
 have hv:=isVar_yes ht.v
 have hs1:1≤t.s:=by omega
 have hs6:t.s≤6:=by omega
 obtain⟨hq1,hq36,_⟩:=sq_bd hs1 hs6;have hlow:=hI.ltS;have HSUB:=Lib.hid hI.sub
 have HNS:Hid (¬t.S w.heap.size):=fun h=>by have:=hlow _ h;omega
 have HF0:Hid (FrS t.S w (w.alloc (.cells #[.int .i64 0,.int .i64 0] 35)) [[.int .i64 0,.int .i64 0]]):=(FrS.start w hlow).allocT (by simp) _ _
 have hb0:Below w.heap.size w (w.alloc (.cells #[.int .i64 0,.int .i64 0] 35)):=(Below.refl _ _).alloc (Nat.le_refl _) _
 have CW:=Lib.hid (hw (ownT T w 1) B A cb ca _ (ownT_new hT (by simp)) ((hI.wide 1).below hb0) ((hB.wide 1).below hb0) hcb ((hA.wide 1).below hb0) hca)
 have HVAL:=Lib.hid fun (e:E) (h:win t.s other q=some e)=>win_val hq1 h
 have HSEC:Hid (sec t.s other q=(win t.s other q).bind (oneM (sq t.s))):=rfl;clear hT hI hA hB hw hv ht hlow hb0;generalize win t.s other q=o at *
 go_enter Tryz.func98,Tryz.ntmps98
 go_wp2_with (fail)
 refine CW.out.mono ?_
 rintro e w1 ⟨rfl,hI1,hf1⟩
 have HI1:=Lib.hid hI1;have HF1:Hid (FrS t.S w w1 [[.int .i64 0,.int .i64 0]]):=HF0.out.frm hf1;clear hI1 hf1 CW HF0
 rcases o with _|⟨m,d⟩
 ·have HR:Hid (sec t.s other q=none):=by rw[HSEC.out];rfl
  have HZ:=HF1;have HIz:=HI1;unfold exV
  simp only[Option.getD_none,Option.isSome_none]
  obtain⟨z0,c00,f00,c01,f01⟩:=HF1.out.xf3
  go_wp2_with (fail)
  refine bodyPost_ret (v:=.tuple #[.agg #[.int .i64 0,.int .i64 0],.bool false]) (by simp[results,Tryz.results98,go_sem,c00,c01,z0,f00,f01]) rfl (RetWn.mkN HR.out ?_ ?_)
  ·refine RaceI.less (T:=ownT T w 1) ?_ (fun k hk=>.inl hk) HSUB.out
   repeat (first|exact HIz.out|refine RaceI.alloc ?_ _|refine RaceI.stored ?_ _ (ownT_at 0 rfl (by omega)) HNS.out)
  ·repeat (first|exact HZ.out.f|refine Frm.alloc ?_ _|refine Frm.ownSet ?_ (by omega) _)
 ·have hx:Val (sq t.s) ⟨m,d⟩:=HVAL.out _ rfl
  have COM:=Lib.hid fun (W:World)=>oneMinus_any t.p t.c t.h m t.s d W hs1 hs6 hx
  have HR0:Hid (sec t.s other q=oneM (sq t.s) ⟨m,d⟩):=HSEC.out;have HF2:Hid (FrS t.S w (w1.alloc (.cells #[.int .i64 m,.int .i64 (d:Int)] 35)) [[.int .i64 0,.int .i64 0]]):=HF1.out.alloc _;have HI2:Hid (RaceI t (ownT T w 1) (w1.alloc (.cells #[.int .i64 m,.int .i64 (d:Int)] 35))):=HI1.out.alloc _;have e0:=HI1.out.tb 0 _ rfl;have e1:=HI1.out.tb 1 _ rfl;have e2:=HI1.out.tb 2 _ rfl;have e3:=HI1.out.tb 3 _ rfl;have hbt:=HI1.out.ltB;unfold exV
  simp only[Option.getD_some,Option.isSome_some]
  generalize oneM (sq t.s) ⟨m,d⟩=o1 at *
  rcases o1 with _|⟨m1,d1⟩
  ·have COM':Hid (∀W:World,Calls Tryz.prog 181 #[.agg #[.int .i64 t.p,.int .i64 t.c,.int .i64 t.h,.int .i64 t.s],.agg #[.int .i64 m,.int .i64 d]] W fun e w'=>e = .returned (.tuple #[.agg #[.int .i64 0,.int .i64 0],.bool false])∧Below W.heap.size W w'):=fun W=>COM.out W
   have HR:Hid (sec t.s other q=none):=HR0.out;clear COM HR0;obtain⟨z0,c00,f00,c01,f01⟩:=HF1.out.xf3
   go_wp2_with (fail)
   clear z0 c00 f00 c01 f01
   first|refine wp_region_tail_more2 8 (by kernel_rfl) (by kernel_rfl) ?_|refine wp_region_tail_more 8 (by kernel_rfl) (by kernel_rfl) ?_
   simp only[List.take_succ_cons,List.take_zero,List.drop_succ_cons,List.drop_zero]
   repeat (first|go_big_quiet_step ((go_at_call 181;exact more_call (COM'.out _)))|quiet_step ((go_at_call 181;exact more_call (COM'.out _))))
   refine wpQuiet_nil ?_
   intro _ hw'
   obtain⟨tr,hw''⟩:=hw';subst hw'';have HZ:=Lib.hid (HF2.out.more tr);have HIz:=Lib.hid (HI2.out.below (below_more _ tr));clear HF2 HI2 e0 e1 e2 e3;generalize more (w1.alloc (.cells #[.int .i64 m,.int .i64 (d:Int)] 35)) tr=Z at *;obtain⟨z0,c00,f00,c01,f01⟩:=HZ.out.xf3
   go_wp2_with (fail)
   refine bodyPost_ret (v:=.tuple #[.agg #[.int .i64 0,.int .i64 0],.bool false]) (by simp[results,Tryz.results98,go_sem,c00,c01,z0,f00,f01]) rfl (RetWn.mkN HR.out ?_ ?_)
   ·refine RaceI.less (T:=ownT T w 1) ?_ (fun k hk=>.inl hk) HSUB.out
    repeat (first|exact HIz.out|refine RaceI.alloc ?_ _|refine RaceI.stored ?_ _ (ownT_at 0 rfl (by omega)) HNS.out)
   ·repeat (first|exact HZ.out.f|refine Frm.alloc ?_ _|refine Frm.ownSet ?_ (by omega) _)
  ·have COM':Hid (∀W:World,Calls Tryz.prog 181 #[.agg #[.int .i64 t.p,.int .i64 t.c,.int .i64 t.h,.int .i64 t.s],.agg #[.int .i64 m,.int .i64 d]] W fun e w'=>e = .returned (.tuple #[.agg #[.int .i64 m1,.int .i64 d1],.bool true])∧Below W.heap.size W w'):=fun W=>COM.out W
   have HR:Hid (sec t.s other q=some ⟨m1,d1⟩):=HR0.out;clear COM HR0;obtain⟨z0,c00,f00,c01,f01⟩:=HF1.out.xf3
   go_wp2_with (fail)
   clear z0 c00 f00 c01 f01
   first|refine wp_region_tail_more2 8 (by kernel_rfl) (by kernel_rfl) ?_|refine wp_region_tail_more 8 (by kernel_rfl) (by kernel_rfl) ?_
   simp only[List.take_succ_cons,List.take_zero,List.drop_succ_cons,List.drop_zero]
   repeat (first|go_big_quiet_step ((go_at_call 181;exact more_call (COM'.out _)))|quiet_step ((go_at_call 181;exact more_call (COM'.out _))))
   refine wpQuiet_nil ?_
   intro _ hw'
   obtain⟨tr,hw''⟩:=hw';subst hw'';have HZ:=Lib.hid (HF2.out.more tr);have HIz:=Lib.hid (HI2.out.below (below_more _ tr));clear HF2 HI2 e0 e1 e2 e3;generalize more (w1.alloc (.cells #[.int .i64 m,.int .i64 (d:Int)] 35)) tr=Z at *;obtain⟨z0,c00,f00,c01,f01⟩:=HZ.out.xf3
   go_wp2_with (fail)
   refine bodyPost_ret (v:=.tuple #[.agg #[.int .i64 m1,.int .i64 d1],.bool true]) (by simp[results,Tryz.results98,go_sem,c00,c01,z0,f00,f01]) rfl (RetWn.mkY HR.out ?_ ?_)
   ·refine RaceI.less (T:=ownT T w 1) ?_ (fun k hk=>.inl hk) HSUB.out
    repeat (first|exact HIz.out|refine RaceI.alloc ?_ _|refine RaceI.stored ?_ _ (ownT_at 0 rfl (by omega)) HNS.out)
   ·repeat (first|exact HZ.out.f|refine Frm.alloc ?_ _|refine Frm.ownSet ?_ (by omega) _)
end Go.Proofs.YtkaiilmgemaljaaGreat

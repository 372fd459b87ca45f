/- Contracts of the program's checks of a roll and of a race, and of a roll's number. There are no conditions. -/
import Derived.Test.YtgjapehpkakkbaaGreatLZv
import Derived.Test.YtgjapehpkakkbaaGreatLZl
import Derived.Test.YtgjapehpkakkbaaGreatLJ2
import Derived.Test.YtgjapehpkakkbaaGreatLZa
set_option linter.unusedVariables false
set_option linter.unusedSimpArgs false
namespace Go.Proofs.YtgjapehpkakkbaaGreat
open Go.RowKit Ps Ra Ex
theorem rollB_nat {s ra rb:Int} (h:rollB s ra rb=true):∃a b:Nat,ra=a∧rb=b∧1≤a∧(a:Int)≤s∧1≤b∧b≤a:=by
 have:=of_decide_eq_true h
 exact⟨ra.toNat,rb.toNat,by omega,by omega,by omega,by omega,by omega,by omega⟩
def rollNo (a b:Nat):Nat:=a*(a-1) / 2+b-1
def rollOk:Bool:=(List.range 7).all fun s=>(List.range 7).all fun a=>(List.range 7).all fun b=>!(decide (1≤a)&&decide (a≤s)&&decide (1≤b)&&decide (b≤a))||(decide ((rollsN s).getD (rollNo a b) (0,0)=(a,b))&&decide (rollNo a b<(rollsN s).length))
theorem rollOk_yes:rollOk=true:=by decide +kernel
theorem rollNo_at {s a b:Nat} (hs:s≤6) (h1:1≤a) (h2:a≤s) (h3:1≤b) (h4:b≤a):(rollsN s).getD (rollNo a b) (0,0)=(a,b)∧rollNo a b<(rollsN s).length:=by
 have h:=rollOk_yes;unfold rollOk at h
 have h:=List.all_eq_true.1 (List.all_eq_true.1 (List.all_eq_true.1 h s (List.mem_range.2 (by omega))) a (List.mem_range.2 (by omega))) b (List.mem_range.2 (by omega))
 simpa[h1,h2,h3,h4]using h
set_option maxRecDepth 100000 in
theorem RollNumber_any (p c h s:Int) (a b:Nat) (w:World) (hv:isVar p c h s=true) (ha1:1≤a) (ha2:(a:Int)≤s) (hb1:1≤b) (hb2:b≤a):
  Calls Tryz.prog 72 #[.agg #[.int .i64 p,.int .i64 c,.int .i64 h,.int .i64 s],.agg #[.int .i64 a,.int .i64 b]] w fun e w'=>e = .returned (.int .i64 (rollNo a b:Nat))∧Below w.heap.size w w':=by
 have HB:Hid (Below w.heap.size w ((w.alloc (.cells #[.int .i64 p,.int .i64 c,.int .i64 h,.int .i64 s] 25)).alloc (.cells #[.int .i64 a,.int .i64 b] 39))):=((Below.refl _ _).alloc (Nat.le_refl _) _).alloc (by simp) _
 have hs:=isVar_yes hv
 have hro:rollB s a b=true:=decide_eq_true (by omega)
 have CR:Hid (∀W:World,Calls Tryz.prog 106 #[.agg #[.int .i64 p,.int .i64 c,.int .i64 h,.int .i64 s],.agg #[.int .i64 a,.int .i64 b]] W fun e w'=>e = .returned (.bool true)∧Below W.heap.size W w'):=fun W=>by have:=IsRoll_any p c h s a b W;rwa [hv,hro]at this
 obtain⟨x,hx⟩:∃x:Int,x=(a:Int):=⟨_,rfl⟩;rw[← hx]at CR HB ⊢
 have hxx:x=1∨x=2∨x=3∨x=4∨x=5∨x=6:=by omega
 clear hv hs hro ha2
 have HX:Hid (a=x.toNat):=by unfold Hid;omega
 have hb3:(0:Int)≤(b:Int):=by omega
 have hb4:(b:Int)≤6:=by omega
 have HB2:=Lib.hid hb2;clear hx hb2 ha1
 rcases hxx with rfl|rfl|rfl|rfl|rfl|rfl
 all_goals
  go_enter Tryz.func72,Tryz.ntmps72
  go_wp2_with (go_at_call 106;(with_reducible refine (more_first (CR.out _)).mono ?_);rintro e w' ⟨rfl,t,rfl⟩)
  go_ret
  have hx:=HX.out
  exact⟨ret_int (by rw[hx];simp[rollNo];omega),by first|exact blw HB.out (Nat.le_refl _)|exact HB.out⟩
end Go.Proofs.YtgjapehpkakkbaaGreat
namespace Go.Proofs.YtgjapehpkakkbaaGreat
open Go.RowKit Ps Ra Ex
theorem frm_lo {S:Nat→Prop} {w wr w2:World} (hb:Below w.heap.size w wr) (hf:Frm S wr w2) (hS:∀k,S k→w.heap.size≤k):Below w.heap.size w w2:=hb.trans (hf.below hb.size hS)
end Go.Proofs.YtgjapehpkakkbaaGreat
namespace Go.Proofs.YtgjapehpkakkbaaGreat
open Go.RowKit Ps Ra Ex
theorem exC_set:∀(xs:List E) (i:Nat) (m:Int) (d:Nat),((exC xs).set (i*2) (.int .i64 m)).set (i*2+1) (.int .i64 (d:Int))=exC (xs.set i ⟨m,d⟩)
 | [],i,m,d=>by simp[exC]
 | x::xs,0,m,d=>by simp[exC]
 | x :: xs, i + 1, m, d => by
   have ih := exC_set xs i m d
   rw [show (i + 1) * 2 = i * 2 + 2 by omega]
   simp only [exC, List.flatMap_cons, List.cons_append, List.nil_append, List.set_cons_succ] at ih ⊢
   rw [ih]
theorem OwnE.below {w w':World} {base:Nat} {v:Value} {xs:List E} (h:OwnE w base v xs) (hb:Below w.heap.size w w'):OwnE w' base v xs:=own_below h hb
theorem OwnE.elv {w:World} {base:Nat} {A:Option Addr} {n c:Nat} {xs:List E} (h:OwnE w base (.slice A n c) xs):EL (fun _=>False) w A n xs∧n≤c:=by
 obtain⟨A',c',hv,hel,hc⟩:=h.el;injection hv with h1 h2 h3;subst h1 h2 h3
 exact⟨hel,hc⟩
theorem OwnE.stored {w:World} {base:Nat} {g n c:Nat} {xs:List E} (h:OwnE w base (.slice (some ⟨g,0,none⟩) n c) xs) (j:Nat) (m:Int) (d:Nat):
  OwnE ((w.setCell ⟨g,j*2,none⟩ (.int .i64 m)).setCell ⟨g,j*2+1,none⟩ (.int .i64 (d:Int))) base (.slice (some ⟨g,0,none⟩) n c) (xs.set j ⟨m,d⟩):=by
 have hn:=h.elv.1.1;unfold OwnE at h ⊢;rw[hn]at h;have h1:=(World.ownsRow.stored h (j*2) (.int .i64 m)).1;have h2:=(World.ownsRow.stored h1 (j*2+1) (.int .i64 (d:Int))).1;rw[exC_set]at h2
 rw[show (xs.set j ⟨m,d⟩).length=n by rw[List.length_set,hn]]
 exact h2
theorem Cel.frm {S:Nat→Prop} {W W':World} {g:Nat} {cs:List Value} (h:Cel W g cs) (hf:Frm S W W') (hn:¬S g):Cel W' g cs:=
 ⟨Nat.lt_of_lt_of_le h.lt hf.size,fun i x hx=>hf.cell' (h.cell i x hx) hn,fun i x hx=>(frm_froz hf h.lt hn).trans (h.froz i x hx)⟩
/-! ### what a drawn region's call hands back -/
def StbO (O:World→Nat→Value→Prop):Prop:=∀W W' b v,O W b v→Bel W W'→O W' b v
def RowT (O:World→Nat→Value→Prop) (lo:Nat) (rest:List Value):RP:=fun v W=>∃u b,v = .tuple (u::rest).toArray∧lo≤b∧O W b u
def RowE (O:World→Nat→Value→Prop) (lo:Nat):RP:=fun v W=>∃b,lo≤b∧O W b v
theorem stb_rowT {O:World→Nat→Value→Prop} {lo:Nat} {rest:List Value} (h:StbO O):Stb (RowT O lo rest):=fun _ _ _ ⟨u,b,h1,h2,h3⟩ hb=>⟨u,b,h1,h2,h _ _ _ _ h3 hb⟩
theorem stb_rowE {O:World→Nat→Value→Prop} {lo:Nat} (h:StbO O):Stb (RowE O lo):=fun _ _ _ ⟨b,h2,h3⟩ hb=>⟨b,h2,h _ _ _ _ h3 hb⟩
theorem stO_I {xs:List Int} {e:TypeId}:StbO (fun W b v=>OwnS W b e v xs):=fun _ _ _ _ h hb=>h.below hb
end Go.Proofs.YtgjapehpkakkbaaGreat
namespace Go.Proofs.YtgjapehpkakkbaaGreat
open Go.RowKit Ps Ra Ex Go.Maps
theorem map_cell {P:Program} {k:TypeId} {w:World} {b i:Nat} {U:List Lit} {f:Lit→Option Value} (h:MapV P k w b U f):w.cell? ⟨b,i,none⟩=none:=by
 obtain⟨D,⟨es,clock,hb,_⟩,_⟩:=h
 simp[World.cell?,hb]
theorem race_cell {t:RT} {T:Nat→Prop} {W:World} {g:Nat} {x:Value} {cs:List Value} (h:RaceI t T W) (hc:Cel W g (x::cs)):¬t.S g:=by
 obtain⟨f1,f2,f3,h1,h2,h3,_⟩:=h.maps;have hx:=hc.cell 0 x rfl
 rintro (rfl|rfl|rfl)
 ·rw[map_cell h1]at hx;cases hx
 ·rw[map_cell h2]at hx;cases hx
 ·rw[map_cell h3]at hx;cases hx
def BP (o:Option (Nat×Nat×E)) (h:Nat) (l:List (List Int)):RP:=fun v W=>match o with
 | none=>v = .slice none 0 0
 | some (_,a,_)=>∃b off c,v = .slice (some ⟨b,off,none⟩) h c∧h≤c∧SL W (some ⟨b,off,none⟩) h (l.getD a [])
theorem stb_bp (o:Option (Nat×Nat×E)) (h:Nat) (l:List (List Int)):Stb (BP o h l):=fun v W W' hp hb=>by
 unfold BP at *
 split at hp
 ·exact hp
 ·obtain⟨b,off,c,h1,h2,h3⟩:=hp;exact⟨b,off,c,h1,h2,h3.below hb⟩
theorem BP.lt {o:Option (Nat×Nat×E)} {h:Nat} {l:List (List Int)} {u:Value} {W:World} {b off n m:Nat} (hp:BP o h l u W) (h0:0<h) (hu:u = .slice (some ⟨b,off,none⟩) n m):b<W.heap.size:=by
 unfold BP at hp
 split at hp
 ·rw[hp]at hu;cases hu
 ·obtain⟨b',off',c,h1,_,h3⟩:=hp
  rw[h1]at hu;injection hu with hu;injection hu with hu;injection hu with hu;obtain⟨b2,o2,h4,h5,_⟩:=h3.2 h0;injection h4 with h4;injection h4 with h4
  omega
def oN:Option (Nat×Nat×E)→Int
 | none=>0
 | some (_,_,x)=>x.num
def oD:Option (Nat×Nat×E)→Int
 | none=>0
 | some (_,_,x)=>(x.depth:Int)
def oB:Option (Nat×Nat×E)→Bool
 | none=>false
 | some _=>true
structure JB (V:World) (c h s:Nat) (o:Option (Nat×Nat×E)) (l:List (List Int)) (x ok:Value) (ev:Nat→Option Value) (L:Nat→Bool) (vs:Nat→Value) (W:World):Prop where
 b:Below V.heap.size V W
 cl:(L 8=true→L 7=true)∧(L 9=true→L 8=true)
 eq:∀i y,i<13→L i=true→ev i=some y→vs i=y
 al:L 12=true→∃g,vs 12 = .pointer (some ⟨g,0,none⟩)∧V.heap.size≤g∧Cel W g [.int .i64 0,.int .i64 0]
 ra:L 1=true→L 7=false→∃(t:RT) (l1 hi:Nat),vs 1 = .pointer (some ⟨t.bt,0,none⟩)∧t.c=c∧t.h=h∧t.s=s∧t.Ok∧RaceI t (fun k=>t.S k∨(V.heap.size≤k∧k<l1)∨hi≤k) W∧hi≤W.heap.size∧V.heap.size≤l1∧l1≤hi∧(∀k,t.S k→l1≤k)∧
  ∀g,L 12=true→vs 12 = .pointer (some ⟨g,0,none⟩)→g<l1∨hi≤g
 bt:∀i,i=7∨i=8∨i=9→L i=true→∃u,(vs i=if i=9 then u else .tuple #[u,x,ok])∧BP o h l u W∧∀b off n m g,u = .slice (some ⟨b,off,none⟩) n m→L 12=true→vs 12 = .pointer (some ⟨g,0,none⟩)→b≠g
section
variable {V W W':World} {c h s:Nat} {o:Option (Nat×Nat×E)} {l:List (List Int)} {x ok:Value} {ev:Nat→Option Value} {L L':Nat→Bool} {vs vs':Nat→Value} {i:Nat} {v:Value}
theorem JB.alloc (H:JB V c h s o l x ok ev L vs W) (T:TypeId) (hu:Upd 13 12 (.pointer (some ⟨W.heap.size,0,none⟩)) L vs L' vs') (he:ev 12=none) (h0:0<h):JB V c h s o l x ok ev L' vs' (W.alloc (.cells #[.int .i64 0,.int .i64 0] T)):=by
 obtain⟨u1,u2,u3⟩:=hu;have hb:Below W.heap.size W (W.alloc (.cells #[.int .i64 0,.int .i64 0] T)):=Bel.alloc W _
 have e7:=u3 7 (by omega) (by omega)
 have e1:=u3 1 (by omega) (by omega)
 have c8:=u3 8 (by omega) (by omega)
 have c9:=u3 9 (by omega) (by omega)
 have c7:=u3 7 (by omega) (by omega)
 refine⟨H.b.trans (hb.mono H.b.size),⟨fun h=>by rw[c7.1];rw[c8.1]at h;exact H.cl.1 h,fun h=>by rw[c8.1];rw[c9.1]at h;exact H.cl.2 h⟩,fun k y hk hl he'=>?_,fun hl=>⟨_,u2,H.b.size,Cel.new W #[.int .i64 0,.int .i64 0] T⟩,fun hl hl7=>?_,fun k hk hl=>?_⟩
 ·by_cases ek:k=12
  ·subst ek;rw[he]at he';cases he'
  ·rw[(u3 k hk ek).2];exact H.eq k y hk (by rw[← (u3 k hk ek).1];exact hl) he'
 ·obtain⟨t,l1,hi,a1,a2,a3,a4,a5,a6,a7,a8,a8',a9,_⟩:=H.ra (by rw[← e1.1];exact hl) (by rw[← e7.1];exact hl7)
  refine⟨t,l1,hi,by rw[e1.2];exact a1,a2,a3,a4,a5,a6.below hb,Nat.le_trans a7 hb.size,a8,a8',a9,fun g _ hg2=>.inr ?_⟩
  rw[u2]at hg2;injection hg2 with hg2;injection hg2 with hg2;injection hg2 with hg2
  omega
 ·have ek:=u3 k (by omega) (by omega)
  obtain⟨u,b1,b2,_⟩:=H.bt k hk (by rw[← ek.1];exact hl)
  refine⟨u,by rw[ek.2];exact b1,stb_bp o h l _ _ _ b2 hb,fun b off n m g hu _ hg2 hbg=>?_⟩
  rw[u2]at hg2;injection hg2 with hg2;injection hg2 with hg2;injection hg2 with hg2;have hlt:=BP.lt b2 h0 hu
  omega
end
end Go.Proofs.YtgjapehpkakkbaaGreat
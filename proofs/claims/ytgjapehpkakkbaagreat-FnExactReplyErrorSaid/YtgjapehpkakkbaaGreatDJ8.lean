/- Part of one proof. There are no conditions. -/
import Derived.Test.YtgjapehpkakkbaaGreatDZt
import Derived.Test.YtgjapehpkakkbaaGreatDZm
import Derived.Test.YtgjapehpkakkbaaGreatDZb
import Derived.Test.YtgjapehpkakkbaaGreatDZl
set_option linter.unusedVariables false
set_option linter.unusedSimpArgs false
/- Contract of the check of a variant and positions with tables, the program's. There are no conditions. -/
namespace Go.Proofs.YtgjapehpkakkbaaGreat
open Go.RowKit Ps
def PLx (w:World) (A:Option Addr) (n:Nat) (ps:List (List Int)):Prop:=
 ps.length=n∧(0<n→∃b off,A=some ⟨b,off,none⟩∧b<w.heap.size∧∀k,k<n→∃B m c,w.cell? ⟨b,off+k,none⟩=some (.slice B m c)∧SL w B m (ps.getD k []))
theorem PLx.below {w w':World} {A:Option Addr} {n:Nat} {ps:List (List Int)} (h:PLx w A n ps) (hb:Below w.heap.size w w'):PLx w' A n ps:=by
 refine⟨h.1,fun hn=>?_⟩
 obtain⟨b,off,hA,hlt,hc⟩:=h.2 hn
 refine⟨b,off,hA,Nat.lt_of_lt_of_le hlt hb.size,fun k hk=>?_⟩
 obtain⟨B,m,c,h1,h2⟩:=hc k hk
 exact⟨B,m,c,keep_cell h1 hb,h2.below hb⟩
end Go.Proofs.YtgjapehpkakkbaaGreat
/- Contract of the program's WinChance. There are no conditions. -/
namespace Go.Proofs.YtgjapehpkakkbaaGreat
open Go.RowKit Ps Ra Ex
def RetN (w:World) (r:Int×Int×Int) (e:Ending) (w':World):Prop:=e = .returned (.tuple #[.agg #[.int .i64 r.1,.int .i64 r.2.1],.int .i64 r.2.2])∧Below w.heap.size w w'
theorem RetN.mk' {w w':World} {r:Int×Int×Int} {a b c:Int} (hr:r=(a,b,c)) (hb:Below w.heap.size w w'):RetN w r (.returned (.tuple #[.agg #[.int .i64 a,.int .i64 b],.int .i64 c])) w':=by subst hr;exact⟨rfl,hb⟩
theorem SQ.of_sl {S:Nat→Prop} {w:World} {A:Option Addr} {n:Nat} {xs:List Int} (h:SL w A n xs) (hS:∀k,S k→w.heap.size≤k):SQ S w A n xs:=
 ⟨h,fun hn b off s hA hb=>by
  obtain⟨b',off',hA',hlt,_⟩:=h.2 hn;rw[hA]at hA';injection hA' with hA';injection hA' with h1 h2 h3;subst h1;have:=hS b hb
  omega⟩
end Go.Proofs.YtgjapehpkakkbaaGreat
/- Contracts of the reference's check of a race and of its WinChance. There are no conditions. -/
namespace Go.Proofs.YtgjapehpkakkbaaGreat
open Go.RowKit Ps Ra Ex
end Go.Proofs.YtgjapehpkakkbaaGreat
/- Contract of the reference's WinChance. There are no conditions. -/
namespace Go.Proofs.YtgjapehpkakkbaaGreat
open Go.RowKit Ps Ra Ex
end Go.Proofs.YtgjapehpkakkbaaGreat
/- The statement FnExactWinChance, the law's walk. There are no conditions. -/
namespace Go.Proofs.YtgjapehpkakkbaaGreat
open Go.RowKit Ps Ra Ex
end Go.Proofs.YtgjapehpkakkbaaGreat
namespace Go.Proofs.YtgjapehpkakkbaaGreat
open Go.RowKit Ps Ra Ex
theorem exC_set:∀(xs:List E) (i:Nat) (m:Int) (d:Nat),((exC xs).set (i*2) (.int .i64 m)).set (i*2+1) (.int .i64 (d:Int))=exC (xs.set i ⟨m,d⟩)
 | [],i,m,d=>by simp[exC]
 | x::xs,0,m,d=>by simp[exC]
 | x :: xs, i + 1, m, d => by
   have ih := exC_set xs i m d
   rw [show (i + 1) * 2 = i * 2 + 2 by omega]
   simp only [exC, List.flatMap_cons, List.cons_append, List.nil_append, List.set_cons_succ] at ih ⊢
   rw [ih]
theorem OwnE.below {w w':World} {base:Nat} {v:Value} {xs:List E} (h:OwnE w base v xs) (hb:Below w.heap.size w w'):OwnE w' base v xs:=own_below h hb
theorem OwnE.elv {w:World} {base:Nat} {A:Option Addr} {n c:Nat} {xs:List E} (h:OwnE w base (.slice A n c) xs):EL (fun _=>False) w A n xs∧n≤c:=by
 obtain⟨A',c',hv,hel,hc⟩:=h.el;injection hv with h1 h2 h3;subst h1 h2 h3
 exact⟨hel,hc⟩
theorem OwnE.stored {w:World} {base:Nat} {g n c:Nat} {xs:List E} (h:OwnE w base (.slice (some ⟨g,0,none⟩) n c) xs) (j:Nat) (m:Int) (d:Nat):
  OwnE ((w.setCell ⟨g,j*2,none⟩ (.int .i64 m)).setCell ⟨g,j*2+1,none⟩ (.int .i64 (d:Int))) base (.slice (some ⟨g,0,none⟩) n c) (xs.set j ⟨m,d⟩):=by
 have hn:=h.elv.1.1;unfold OwnE at h ⊢;rw[hn]at h;have h1:=(World.ownsRow.stored h (j*2) (.int .i64 m)).1;have h2:=(World.ownsRow.stored h1 (j*2+1) (.int .i64 (d:Int))).1;rw[exC_set]at h2
 rw[show (xs.set j ⟨m,d⟩).length=n by rw[List.length_set,hn]]
 exact h2
theorem Cel.frm {S:Nat→Prop} {W W':World} {g:Nat} {cs:List Value} (h:Cel W g cs) (hf:Frm S W W') (hn:¬S g):Cel W' g cs:=
 ⟨Nat.lt_of_lt_of_le h.lt hf.size,fun i x hx=>hf.cell' (h.cell i x hx) hn,fun i x hx=>(frm_froz hf h.lt hn).trans (h.froz i x hx)⟩
/-! ### what a drawn region's call hands back -/
end Go.Proofs.YtgjapehpkakkbaaGreat
/- Part of one proof. There are no conditions. -/
import Derived.Test.YtkaiilmgemaljaaGreatGZa
import Derived.ProofKit
import Derived.OpenShut
import Derived.Lib.SmallJoins
import Derived.Deep.Slices
import Derived.Deep.Fields
import Derived.ChangeSame
import Derived.ChangeSlices
import Derived.Below
import Derived.Test.YtkaiilmgemaljaaGreatGZb
import Derived.Test.YtkaiilmgemaljaaGreatGZn
set_option linter.unusedVariables false
set_option linter.unusedSimpArgs false
set_option maxRecDepth 100000
/- Contracts of what both sides ask of a roll. There are no conditions. -/
namespace Go.Proofs.YtkaiilmgemaljaaGreat
open Go.RowKit
end Go.Proofs.YtkaiilmgemaljaaGreat
/- A slice of boards that reads as a list; how the laws measure and copy what comes in. There are no conditions. -/
namespace Go.Proofs.YtkaiilmgemaljaaGreat
open Go.RowKit
def SBs (w:World) (A:Option Addr) (n:Nat) (bs:List (List Int×List Int)):Prop:=
 bs.length=n/\(0<n->∃b off,A=some ⟨b,off,none⟩/\b<w.heap.size/\∀i,i<n->∃A1 n1 c1 A2 n2 c2,w.cell? ⟨b,off+i*2,none⟩=some (.slice A1 n1 c1)/\w.cell? ⟨b,off+i*2+1,none⟩=some (.slice A2 n2 c2)/\
  SL w A1 n1 (bs.getD i ([],[])).1/\SL w A2 n2 (bs.getD i ([],[])).2/\n1<=maxLen/\n2<=maxLen)
theorem SBs.below {w w':World} {A:Option Addr} {n:Nat} {bs:List (List Int×List Int)} (h:SBs w A n bs) (hb:Below w.heap.size w w'):SBs w' A n bs:=by
 refine⟨h.1,fun hn=>?_⟩
 obtain⟨b,off,hA,hlt,hc⟩:=h.2 hn
 refine⟨b,off,hA,Nat.lt_of_lt_of_le hlt hb.size,fun i hi=>?_⟩
 obtain⟨A1,n1,c1,A2,n2,c2,h1,h2,h3,h4,h5,h6⟩:=hc i hi
 exact⟨A1,n1,c1,A2,n2,c2,ab h1 hb,ab h2 hb,h3.below hb,h4.below hb,h5,h6⟩
theorem SBs.more {w:World} {A:Option Addr} {n:Nat} {bs:List (List Int×List Int)} (h:SBs w A n bs) (t:World):SBs (more w t) A n bs:=h.below (aa w t)
theorem SBs.alloc {w:World} {A:Option Addr} {n:Nat} {bs:List (List Int×List Int)} (h:SBs w A n bs) (o:Obj):SBs (w.alloc o) A n bs:=h.below ((Below.refl _ _).alloc (Nat.le_refl _) o)
end Go.Proofs.YtkaiilmgemaljaaGreat
/- How the laws copy what comes in: numbers, boards, rolls. There are no conditions. -/
namespace Go.Proofs.YtkaiilmgemaljaaGreat
open Go.RowKit
theorem mixZ_step (xs:List Int) (n k:Nat) (hl:xs.length=n) (h:k<n):(xs.take k++List.replicate (n-k) (0:Int)).set k (xs.getD k 0)=xs.take (k+1)++List.replicate (n-(k+1)) 0:=by
 have hk:(xs.take k).length=k:=by rw[List.length_take];omega
 have e:n-k=(n-(k+1))+1:=by omega
 have h':k<xs.length:=by omega
 have g:xs.getD k 0=xs[k]:=by simp[List.getD,h']
 rw[List.set_append_right _ _ (by omega),hk,Nat.sub_self,e,List.replicate_succ,List.set_cons_zero,List.take_succ_eq_append_getElem h',List.append_assoc,g]
 rfl
theorem bT (A:Option Addr) (n c:Nat) (xs:List Int) (w:World) (hx:SL w A n xs) (hn:n<=2000000):
  Calls Tryz.prog 57 #[.slice A n c] w (RetO w 2 xs):=by
 obtain⟨i0,hi,hz0,hz1,hz2⟩:=info_parts Tryz.infoI;have HX:=h_ hx;clear hx
 go_enter Tryz.func57,Tryz.ntmps57
 go_wp2_with (at_make;refine wpList_make_full _ rfl _ _ 26 rfl w.heap.size 2 i0 (.int .i64 0) 1 Tryz.underlying26 hi hz0 hz1 _ _ _ _ n rfl rfl rfl rfl (by rw[hz2];omega) (by unfold maxLen;omega) (Nat.le_refl _) ?_;intro w1 hown hgrow)
 have hb:Below w.heap.size w w1:=(Below.refl _ _).grown hgrow (Nat.le_refl _) (by simp)
 have hO:OwnS w1 w.heap.size 2 (.slice (some ⟨w.heap.size,0,none⟩) n n) (xs.take 0++List.replicate (n-0) 0):=by
  unfold OwnS
  simp only[List.take_zero,List.nil_append,Nat.sub_zero,List.length_replicate,List.map_replicate]
  have e:(madeCells #[Value.int .i64 0] (n*1)).toList=List.replicate n (Value.int .i64 0):=by rw[Nat.mul_one];exact toList_madeCells_one _ _
  first|(rw[show (Value.int IntKind.i64 0).cells=#[Value.int .i64 0] from rfl,e]at hown;exact hown)|(rw[e]at hown;exact hown)|(rw[Nat.mul_one]at e;rw[e]at hown;exact hown)
 have HO:=h_ hO;have HB:=h_ hb;have hg2:w.heap.size<w1.heap.size:=(hO.lt _ rfl).2;clear hown hgrow hb hO
 go_wp2_with (fail)
 go_loopw [4] (fun i wr=>∃k:Nat,k<=n/\i = .int .i64 k/\OwnS wr w.heap.size 2 (.slice (some ⟨w.heap.size,0,none⟩) n n) (xs.take k++List.replicate (n-k) 0)/\Below w.heap.size w wr) (fun i _=>n-(intOf i).toNat)
 case atStart=>exact⟨0,by omega,rfl,HO.out,HB.out⟩
 case round=>
  obtain⟨k,hk,rfl,ho,hb⟩:=hrel
  by_cases hlt:k<n
  ·obtain⟨b,off,rfl,hbl,hc⟩:=(HX.out.keep (Nat.le_refl _) hb).2 (by omega)
   have q1:=hc k hlt
   obtain⟨b',off',hA',hbl',_⟩:=HX.out.2 (by omega)
   injection hA' with hA';injection hA' with hA1 hA2;subst hA1 hA2
   obtain⟨g,hg0,_,_,hcl,hfr⟩:=jZ ho (by omega)
   injection hg0 with hg0;injection hg0 with hg0 _;subst hg0;have q2:=hcl k hlt;have q3:=hfr k
   have hki:(k:Int)<(n:Int):=by omega
   have hk0:(0:Int)<=(k:Int):=by omega
   have HN:=h_ (ho.stored k (xs.getD k 0));have HM:=h_ (mixZ_step xs n k HX.out.1 hlt);have HB2:=h_ (hb.setCell (p:=⟨w.heap.size,k,none⟩) (Nat.le_refl _) (.int .i64 (xs.getD k 0)))
   have hne:b≠w.heap.size:=by omega
   clear hc hcl hfr ho hb;generalize (xs.take k++List.replicate (n-k) 0).getD k 0=u at *;generalize xs.getD k 0=x at *
   go_wp2_with (fail)
   go_roundw
   case rel=>exact⟨k+1,by omega,by go_num,by rw[<- HM.out];exact HN.out,HB2.out⟩
   case measure=>simp[intOf];omega
  ·obtain rfl:k=n:=by omega
   have HF:Hid (RetO w 2 xs (.returned (.slice (some ⟨w.heap.size,0,none⟩) k k)) wr):=by
    have h:=ho
    rw[List.take_of_length_le (by rw[HX.out.1];exact Nat.le_refl _),Nat.sub_self,List.replicate_zero,List.append_nil]at h
    exact RetO.mk h hb
   clear ho hb
   go_wp2_with (fail)
   go_ret
   exact HF.out
end Go.Proofs.YtkaiilmgemaljaaGreat
/- Contracts of what the laws do with results: they are held against each other, marked, and looked at again. There are no conditions. -/
namespace Go.Proofs.YtkaiilmgemaljaaGreat
open Go.RowKit
theorem gX (A1 A2:Option Addr) (n c1 c2:Nat) (xs:List Int) (w:World) (h1:SL w A1 n xs) (h2:SL w A2 n xs) (hn:n<=2000000):
  Calls Tryz.prog 61 #[.slice A1 n c1,.slice A2 n c2] w fun e w'=>e = .returned (.bool true)/\Below w.heap.size w w':=by
 have H1:=h_ h1;have H2:=h_ h2;clear h1 h2
 have hne:((n:Int) != (n:Int))=false:=by simp
 go_enter Tryz.func61,Tryz.ntmps61
 go_wp2_with (fail)
 go_loopw [5] (fun i wr=>∃k:Nat,k<=n/\i = .int .i64 k/\Below w.heap.size w wr) (fun i _=>n-(intOf i).toNat)
 case atStart=>exact⟨0,by omega,rfl,Below.refl _ _⟩
 case round=>
  obtain⟨k,hk,rfl,hb⟩:=hrel
  by_cases hlt:k<n
  ·obtain⟨x1,o1,rfl,hb1,hc1⟩:=(H1.out.keep (Nat.le_refl _) hb).2 (by omega)
   obtain⟨x2,o2,rfl,hb2,hc2⟩:=(H2.out.keep (Nat.le_refl _) hb).2 (by omega)
   have q1:=hc1 k hlt;have q2:=hc2 k hlt
   have hki:(k:Int)<(n:Int):=by omega
   have hk0:(0:Int)<=(k:Int):=by omega
   clear hc1 hc2;generalize xs.getD k 0=u at *
   go_wp2_with (fail)
   refine ad (by kernel_rfl) (by kernel_rfl) ?_
   repeat (first|go_big_quiet_step ((fail))|quiet_step ((fail)))
   refine wpQuiet_nil ?_
   intro _ hw'
   obtain⟨tq,hw''⟩:=hw';subst hw'';have hbm:=aa wr tq
   go_wp2
   go_roundw
   case rel=>exact⟨k+1,by omega,by go_num,hb.trans (hbm.mono hb.size)⟩
   case measure=>simp[intOf];omega
  ·go_wp2
   go_ret
   exact⟨rfl,hb⟩
end Go.Proofs.YtkaiilmgemaljaaGreat
/- What comes in, opened: slices of integers, slices of boards, desks. There are no conditions. -/
namespace Go.Proofs.YtkaiilmgemaljaaGreat
open Go.ChangeShapes Go.WideShapes Go.ChangeAt Go.RowKit Go.Joins Go.Deep
theorem cellsV:Tryz.prog.cellsOf 75=4:=by kernel_rfl
theorem gZ:Tryz.prog.cellsOf 2=1:=by kernel_rfl
section
variable {H:Type} {enc:TypeId×Value->H} {w:World} {base:Nat} {spare:Nat->Bool} {held:Bool} {fuel:Nat}
theorem fld {t:TypeId} {fs:Array Field} {cs:List Value} {x:DataW H×List MemPlace} (ht:Tryz.prog.underlying t=some (.struct fs)) (h:DataW.trod enc Tryz.prog w base spare held fuel t cs=some x):
  cs.length=Tryz.prog.cellsOf t/\∃n,∀(i:Nat) (f:Field),fs[i]? = some f->∃y,DataW.trod enc Tryz.prog w base spare held n f.type ((cs.drop f.offset).take (Tryz.prog.cellsOf f.type))=some y:=by
 obtain⟨xs,n,_,_,hl,hx,hf⟩:=DataW.trod_struct ht h
 refine⟨hl,n,fun i f hi=>?_⟩
 have hlt:i<xs.length:=by rw[hx];exact (Array.getElem?_eq_some_iff.1 hi).1
 exact⟨_,(hf i f hi).trans (List.getElem?_eq_getElem hlt)⟩
theorem fldT {t:TypeId} {cs:List Value} {y0:DataW H×List MemPlace} {P:Program} {n:Nat} {t':TypeId} {cs':List Value} (h:DataW.trod enc P w base spare held n t cs=some y0) (e1:t=t') (e2:cs=cs'):DataW.trod enc P w base spare held n t' cs'=some y0:=by subst e1 e2;exact h
theorem fG {cs:List Value} {x:DataW H×List MemPlace} (h:DataW.trod enc Tryz.prog w base spare held fuel 2 cs=some x):∃n:Int,cs=[.int .i64 n]/\(Lit.int .i64 n).wf=true:=by
 obtain⟨n,h1,_,h2⟩:=DataW.trod_int Tryz.underlying2 h
 exact⟨n,h1,h2⟩
theorem openSL {cs:List Value} {x:DataW H×List MemPlace} (h:DataW.trod enc Tryz.prog w base spare held fuel 26 cs=some x):
  ∃A n c xs,cs=[.slice A n c]/\SL w A n xs/\n<=maxLen/\∀z∈xs,(Lit.int .i64 z).wf=true:=by
 rcases open_ints Tryz.underlying26 Tryz.underlying2 gZ h with⟨rfl,_⟩|⟨a,len,cap,zs,rfl,_,hl,hm,hz,_,hcell,hw⟩
 ·exact⟨none,0,0,[],rfl,SL.nil_ _,by simp[maxLen],by simp⟩
 ·have hle:len<=zs.length:=by rw[hz];split<;>omega
  refine⟨some a,len,cap,zs.take len,rfl,⟨by simp;omega,fun hn=>?_⟩,by omega,fun z hz'=>hw z (List.mem_of_mem_take hz')⟩
  obtain⟨b,off,spot⟩:=a
  have h0:=hcell 0 (by omega)
  have hspot:spot=none:=by simpa[Addr.add]using World.cell?_spot h0
  subst hspot
  refine⟨b,off,rfl,World.block_lt_of_cell? w _ h0,fun i hi=>?_⟩
  have h1:=hcell i (by omega)
  rw[add_plain]at h1;rw[h1]
  simp[List.getD,List.getElem?_take,hi]
theorem openVariant {cs:List Value} {x:DataW H×List MemPlace} (h:DataW.trod enc Tryz.prog w base spare held fuel 75 cs=some x):
  ∃p c g s:Int,cs=[.int .i64 p,.int .i64 c,.int .i64 g,.int .i64 s]/\(Lit.int .i64 p).wf=true/\(Lit.int .i64 c).wf=true/\(Lit.int .i64 g).wf=true/\(Lit.int .i64 s).wf=true:=by
 obtain⟨hl,n,hf⟩:=fld Tryz.underlying75 h;obtain⟨y0,h0⟩:=hf 0 _ rfl;obtain⟨y1,h1⟩:=hf 1 _ rfl;obtain⟨y2,h2⟩:=hf 2 _ rfl;obtain⟨y3,h3⟩:=hf 3 _ rfl;rw[cellsV]at hl
 match cs,hl with
 | [v0, v1, v2, v3], _ =>
   obtain ⟨p, e0, w0⟩ := fG (fldT h0 (t' := 2) (cs' := [v0]) rfl (by show List.take (Tryz.prog.cellsOf 2) _ = _; rw [gZ]; rfl))
   obtain ⟨c, e1, w1⟩ := fG (fldT h1 (t' := 2) (cs' := [v1]) rfl (by show List.take (Tryz.prog.cellsOf 2) _ = _; rw [gZ]; rfl))
   obtain ⟨g, e2, w2⟩ := fG (fldT h2 (t' := 2) (cs' := [v2]) rfl (by show List.take (Tryz.prog.cellsOf 2) _ = _; rw [gZ]; rfl))
   obtain ⟨s, e3, w3⟩ := fG (fldT h3 (t' := 2) (cs' := [v3]) rfl (by show List.take (Tryz.prog.cellsOf 2) _ = _; rw [gZ]; rfl))
   simp at e0 e1 e2 e3
   subst e0 e1 e2 e3
   exact ⟨p, c, g, s, rfl, w0, w1, w2, w3⟩
end
end Go.Proofs.YtkaiilmgemaljaaGreat
/- Words for the laws' walks: blocks that the law itself has made, copies of arguments, what a drawn region's operations give. No statement is proved here; there are no conditions. -/
namespace Go.Proofs.YtkaiilmgemaljaaGreat
open Go.RowKit
def Bel (a b:World):Prop:=Below a.heap.size a b
theorem Bel.trans {a b c:World} (h:Bel a b) (k:Bel b c):Bel a c:=Below.trans h (Below.mono k (Below.size h))
theorem Bel.rfl' (a:World):Bel a a:=Below.refl _ _
theorem Bel.drew (a:World):Bel a { a with drawn:=a.drawn+1 }:=⟨rfl,rfl,rfl,Nat.le_refl _,fun _ _=>rfl⟩
theorem Bel.alloc (a:World) (o:Obj):Bel a (a.alloc o):=(Below.refl _ _).alloc (Nat.le_refl _) o
structure Cel (W:World) (g:Nat) (cs:List Value):Prop where
 lt:g<W.heap.size
 cell:∀i x,cs[i]? = some x->W.cell? ⟨g,i,none⟩=some x
 froz:∀i x,cs[i]? = some x->W.frozen? ⟨g,i,none⟩=false
theorem Cel.below {W W':World} {g:Nat} {cs:List Value} (h:Cel W g cs) (hb:Below W.heap.size W W'):Cel W' g cs:=
 ⟨Nat.lt_of_lt_of_le h.lt hb.size,fun i x hx=>ab (h.cell i x hx) hb,fun i x hx=>bQ (h.froz i x hx) (h.cell i x hx) hb⟩
theorem Cel.alloc {W:World} {g:Nat} {cs:List Value} (h:Cel W g cs) (o:Obj):Cel (W.alloc o) g cs:=h.below (Bel.alloc W o)
theorem Cel.new (W:World) (cs:Array Value) (T:TypeId):Cel (W.alloc (.cells cs T)) W.heap.size cs.toList:=by
 have h:=(Fr.start W).allocT (by simp) cs T
 exact⟨by simp,fun i x hx=>h.cellA 0 i rfl (by simpa[frAt]using hx),fun i x hx=>h.frozA 0 i rfl (by simpa[frAt]using hx)⟩
theorem Cel.new' (W:World) (cs:Array Value) (T:TypeId) {g:Nat} (hg:g=W.heap.size):Cel (W.alloc (.cells cs T)) g cs.toList:=by subst hg;exact Cel.new W cs T
theorem Cel.at {W:World} {g:Nat} {cs:List Value} (h:Cel W g cs) (i:Nat) {x:Value} (hx:cs[i]? = some x):W.cell? ⟨g,i,none⟩=some x:=h.cell i x hx
theorem Cel.st {W:World} {g:Nat} {cs:List Value} (h:Cel W g cs) {i:Nat} {v:Value} (hi:i<cs.length):Cel (W.setCell ⟨g,i,none⟩ v) g (cs.set i v):=by
 have hc:W.cell? ⟨g,i,none⟩=some cs[i]:=h.cell i _ (List.getElem?_eq_getElem hi)
 refine⟨by simpa using h.lt,fun j x hx=>?_,fun j x hx=>?_⟩
 ·by_cases e:j=i
  ·subst e
   rw[List.getElem?_set_self hi]at hx
   injection hx with hx;subst hx
   simp[go_sem,hc]
  ·rw[List.getElem?_set_ne (Ne.symm e)]at hx
   have:=h.cell j x hx
   simp[go_sem,e,this]
 ·by_cases e:j=i
  ·subst e
   have:=h.froz j _ (List.getElem?_eq_getElem hi)
   simpa[go_sem]using this
  ·rw[List.getElem?_set_ne (Ne.symm e)]at hx
   have:=h.froz j x hx
   simpa[go_sem]using this
theorem more_bel {W w':World} (h:∃t,w'=more W t):Below W.heap.size W w':=by obtain⟨t,rfl⟩:=h;exact aa _ _
abbrev RP:Type:=Value->World->Prop
def Stb (P:RP):Prop:=∀v W W',P v W->Bel W W'->P v W'
def GL (l:List RP) (i:Nat) (v:Value) (W:World):Prop:=(l.getD i (fun _ _=>True)) v W
inductive AllStb:List RP->Prop
 | nil:AllStb []
 | cons {P:RP} {l:List RP}:Stb P->AllStb l->AllStb (P::l)
theorem GL.stab:∀{l:List RP},AllStb l->∀i v W W',GL l i v W->Bel W W'->GL l i v W'
 | _,.nil,_,_,_,_,_,_=>trivial
 | _,.cons h _,0,v,W,W',hg,hb=>h v W W' hg hb
 | _,.cons _ h,i+1,v,W,W',hg,hb=>GL.stab h i v W W' hg hb
def Eqv (x:Value):RP:=fun v _=>v=x
theorem stb_eq (x:Value):Stb (Eqv x):=fun _ _ _ h _=>h
def Cpy (xs:List Int):RP:=fun v W=>∃X k,v = .slice X xs.length k/\SL W X xs.length xs/\xs.length<=k
theorem stb_cpy (xs:List Int):Stb (Cpy xs):=fun _ _ _ ⟨X,k,h1,h2,h3⟩ hb=>⟨X,k,h1,h2.below hb,h3⟩
def Alc (lo:Nat) (cs:List Value):RP:=fun v W=>∃g,v = .pointer (some ⟨g,0,none⟩)/\lo<=g/\Cel W g cs
theorem stb_alc (lo:Nat) (cs:List Value):Stb (Alc lo cs):=fun _ _ _ ⟨g,h1,h2,h3⟩ hb=>⟨g,h1,h2,h3.below hb⟩
theorem alc_new {lo:Nat} (W:World) (cs:Array Value) (T:TypeId) (h:lo<=W.heap.size):Alc lo cs.toList (.pointer (some ⟨W.heap.size,0,none⟩)) (W.alloc (.cells cs T)):=⟨_,rfl,h,Cel.new W cs T⟩
def Any:RP:=fun _ _=>True
def SBy (w:World) (C:Option Addr) (n:Nat) (bs:List Int):Prop:=bs.length=n/\(0<n->∃b off,C=some ⟨b,off,none⟩/\b<w.heap.size/\∀i,i<n->w.cell? ⟨b,off+i,none⟩=some (.int .u8 (bs.getD i 0)))/\∀x∈bs,0<=x/\x<=255
theorem SBy.getD {w:World} {C:Option Addr} {n:Nat} {bs:List Int} (h:SBy w C n bs) (i:Nat):0<=bs.getD i 0/\bs.getD i 0<=255:=by
 by_cases hi:i<bs.length
 ·exact h.2.2 _ (bn bs i hi)
 ·rw[List.getD_eq_getElem?_getD,List.getElem?_eq_none (by omega)];simp
structure Src (S:Nat->Prop) (W:World) (g:Nat) (C:Option Addr) (n c:Nat) (bs:List Int) (seed:Int) (at':Nat):Prop where
 cl:Cel W g [.slice C n c,.int .i64 (at':Int),.int .i64 seed]
 by':SBy W C n bs
 ne:0<n->∀b off s,C=some ⟨b,off,s⟩->b≠g/\¬S b
 g':¬S g
 s0:0<=seed
 s1:seed<=2147483646
 a:at'<=n
 n':n<=4096
theorem SBy.frm {S:Nat->Prop} {w w':World} {C:Option Addr} {n:Nat} {bs:List Int} (h:SBy w C n bs) (hf:Frm S w w') (hn:0<n->∀b off s,C=some ⟨b,off,s⟩->¬S b):SBy w' C n bs:=by
 refine⟨h.1,fun h0=>?_,h.2.2⟩
 obtain⟨b,off,hA,hlt,hc⟩:=h.2.1 h0
 exact⟨b,off,hA,Nat.lt_of_lt_of_le hlt hf.size,fun i hi=>hf.cell' (hc i hi) (hn h0 b off none hA)⟩
theorem Src.frm {S:Nat->Prop} {W W':World} {g:Nat} {C:Option Addr} {n c:Nat} {bs:List Int} {seed:Int} {at':Nat} (h:Src S W g C n c bs seed at') (hf:Frm S W W'):Src S W' g C n c bs seed at':=
 ⟨⟨Nat.lt_of_lt_of_le h.cl.lt hf.size,fun i x hx=>hf.cell' (h.cl.cell i x hx) h.g',fun i x hx=>(aI hf h.cl.lt h.g').trans (h.cl.froz i x hx)⟩,h.by'.frm hf fun h0 b off s hA=>(h.ne h0 b off s hA).2,h.ne,h.g',h.s0,h.s1,h.a,h.n'⟩
theorem Src.below {S:Nat->Prop} {W W':World} {g:Nat} {C:Option Addr} {n c:Nat} {bs:List Int} {seed:Int} {at':Nat} (h:Src S W g C n c bs seed at') (hb:Below W.heap.size W W'):Src S W' g C n c bs seed at':=h.frm (Frm.of_below' S hb)
def SrcG (W:World) (g:Nat) (C:Option Addr) (n c:Nat) (bs:List Int) (q:Int×Nat):Prop:=Src (fun k=>g<k) W g C n c bs q.1 q.2
section
variable {W W':World} {g:Nat} {C:Option Addr} {n c:Nat} {bs:List Int} {q:Int×Nat}
theorem SrcG.below (h:SrcG W g C n c bs q) (hb:Below W.heap.size W W'):SrcG W' g C n c bs q:=Src.below h hb
theorem SrcG.alloc (h:SrcG W g C n c bs q) (o:Obj):SrcG (W.alloc o) g C n c bs q:=h.below (Bel.alloc W o)
theorem SrcG.frm {O:Nat->Prop} (h:SrcG W g C n c bs q) (hf:Frm O W W') (hO:∀k,O k->g<k):SrcG W' g C n c bs q:=Src.frm h (hf.mono hO)
theorem SrcG.lt (h:SrcG W g C n c bs q):g<W.heap.size:=h.cl.lt
end
end Go.Proofs.YtkaiilmgemaljaaGreat

/- Part of one proof. There are no conditions. -/
import Derived.Test.YtcmeoenkgmghkaaGreatPY35
import Derived.ProofKit
import Derived.OpenShut
import Derived.Lib.SmallJoins
import Derived.Deep.Slices
import Derived.Deep.Fields
import Derived.ChangeSame
import Derived.ChangeSlices
import Derived.Below
set_option linter.unusedVariables false
set_option linter.unusedSimpArgs false
set_option maxHeartbeats 0
set_option maxRecDepth 100000
open Go.IntKind renaming i64->l
open Go.Value renaming slice->B,agg->C,tuple->I,pointer->J
open Go.Ending renaming returned->D
open Go.Obj renaming cells->F
namespace Go.Proofs.YtcmeoenkgmghkaaGreat
open Go.RowKit
theorem ja(A1 A2:Option Addr)(n c1 c2:Nat)(xs:List Int)(w:World)(h1:SL w A1 n xs)(h2:SL w A2 n xs)(hn:n<=2000000):
  Calls Tryz.prog 32 #[B A1 n c1,B A2 n c2] w fun e w'=>e=D (.bool true)/\Below w.heap.size w w':=by
 have H1:=h_ h1;have H2:=h_ h2;clear h1 h2
 go_enter Tryz.func32,Tryz.ntmps32
 go_wp2_with (fail)
 go_loopw [5] (fun i wr=>∃k:Nat,k<=n/\i= .int l k/\Below w.heap.size w wr) (fun i _=>n-(intOf i).toNat)
 case atStart=>exact⟨0,by omega,rfl,Below.refl _ _⟩
 case round=>
  obtain⟨k,hk,rfl,hb⟩:=hrel
  by_cases hlt:k<n
  ·obtain⟨x1,o1,rfl,hb1,hc1⟩:=(H1.out.keep (Nat.le_refl _) hb).2 (by omega)
   obtain⟨x2,o2,rfl,hb2,hc2⟩:=(H2.out.keep (Nat.le_refl _) hb).2 (by omega)
   have q1:=hc1 k hlt;have q2:=hc2 k hlt
   have hki:(k:Int)<(n:Int):=by omega
   have hk0:(0:Int)<=(k:Int):=by omega
   clear hc1 hc2;generalize xs.getD k 0=u at *
   go_wp2_with (fail)
   refine ae (by kernel_rfl) (by kernel_rfl) ?_
   repeat (first|go_big_quiet_step ((fail))|quiet_step ((fail)))
   refine wpQuiet_nil ?_
   intro _ hw'
   obtain⟨tq,hw''⟩:=hw';subst hw'';have hbm:=aa wr tq
   go_wp2
   go_roundw
   case rel=>exact⟨k+1,by omega,by go_num,hb.trans (hbm.mono hb.size)⟩
   case measure=>simp[intOf];omega
  ·go_wp2
   go_ret
   exact⟨rfl,hb⟩
theorem eqBoard_yes(A1 A2 B1 B2:Option Addr)(n1 c1 n2 c2 d1 d2:Nat)(xs ys:List Int)(w:World)(h1:SL w A1 n1 xs)(h2:SL w A2 n2 ys)(k1:SL w B1 n1 xs)(k2:SL w B2 n2 ys)(hn1:n1<=2000000)(hn2:n2<=2000000):
  Calls Tryz.prog 18 #[C #[B A1 n1 c1,B A2 n2 c2],C #[B B1 n1 d1,B B2 n2 d2]] w fun e w'=>e=D (.bool true)/\Below w.heap.size w w':=by
 have HB:Hid (Below w.heap.size w ((w.alloc (F #[B A1 n1 c1,B A2 n2 c2] 35)).alloc (F #[B B1 n1 d1,B B2 n2 d2] 35))):=((Below.refl _ _).alloc (Nat.le_refl _) _).alloc (by simp) _
 have C1:=h_ (ja A1 B1 n1 c1 d1 xs _ (h1.below HB.out) (k1.below HB.out) hn1)
 have C2:=h_ fun t=>ja A2 B2 n2 c2 d2 ys (more _ t) ((h2.below HB.out).more t) ((k2.below HB.out).more t) hn2
 clear h1 h2 k1 k2
 go_enter Tryz.func18,Tryz.ntmps18
 go_wp2_with (first|(go_at_call_of 32 A1;refine(more_first C1.out).mono ?_;rintro e w' ⟨rfl,t,rfl⟩)|(go_at_call_of 32 A2;refine(more_call (C2.out _)).mono ?_;rintro e w' ⟨rfl,t,rfl⟩))
 go_ret
 exact⟨rfl,HB.out.trans ((aa _ _).mono HB.out.size)⟩
def seqL(k n:Nat):List Int:=(List.range n).map fun i=>((k+i:Nat):Int)
theorem jM(k n:Nat):(seqL k n).length=n:=by simp[seqL]
theorem mixL_step(k:Nat)(xs:List Int)(i:Nat)(h:i<xs.length):(seqL k i++xs.drop i).set i ((k+i:Nat):Int)=seqL k (i+1)++xs.drop (i+1):=by
 rw[List.set_append_right _ _ (by rw[jM];omega),jM,Nat.sub_self,List.drop_eq_getElem_cons h,List.set_cons_zero]
 simp[seqL,List.range_succ]
theorem i8{a b c:World}{r:Option Nat}(h:a.grownBy b r)(k:b.grownBy c r):a.grownBy c r:=
 ⟨k.os.trans h.os,k.tape.trans h.tape,k.output.trans h.output,Nat.le_trans h.size k.size,fun i hi hne=>(k.block i (Nat.lt_of_lt_of_le hi h.size) hne).trans (h.block i hi hne)⟩
theorem fT(A:Option Addr)(n c base:Nat)(e:TypeId)(xs:List Int)(k:Nat)(w:World)(hown:OwnS w base e (B A n c) xs)(hn:n<=2000000)(hk:k<=100000000):
  Calls Tryz.prog 33 #[B A n c,.int l k] w fun en w'=>en=D (.int l ((k+n:Nat):Int))/\OwnS w' base e (B A n c) (seqL k n)/\w.grownBy w' (Value.slice A n c).ownBlock:=by
 have hl:=(hown.sl rfl).1.1;have HL:=h_ hl;have HO:=h_ hown;clear hl hown
 go_enter Tryz.func33,Tryz.ntmps33
 go_wp2_with (fail)
 go_loopw [1,5] (fun q i wr=>∃j:Nat,j<=n/\i= .int l j/\q= .int l ((k+j:Nat):Int)/\OwnS wr base e (B A n c) (seqL k j++xs.drop j)/\w.grownBy wr (Value.slice A n c).ownBlock) (fun _ i _=>n-(intOf i).toNat)
 case atStart=>exact⟨0,by omega,rfl,by simp,by simpa[seqL]using HO.out,World.grownBy.refl _ _⟩
 case round=>
  obtain⟨j,hj,rfl,rfl,ho,hg⟩:=hrel
  by_cases hlt:j<n
  ·obtain⟨g,rfl,hg1,hg2,hcl,hfr⟩:=ao ho (by omega)
   have q1:=hcl j hlt;have q2:=hfr j
   have hki:(j:Int)<(n:Int):=by omega
   have hk0:(0:Int)<=(j:Int):=by omega
   have HN:=h_ (ho.stored j ((k+j:Nat):Int))
   have HG:Hid (w.grownBy (wr.setCell ⟨g,j,none⟩ (.int l ((k+j:Nat):Int))) (some g)):=i8 hg ⟨rfl,rfl,rfl,by simp,fun i _ hne=>Below.heap_setCell _ _ _ _ (fun h=>hne (by rw[h]))⟩
   have HM:=h_ (mixL_step k xs j (by rw[HL.out];exact hlt))
   clear hcl hfr ho hg;generalize (seqL k j++xs.drop j).getD j 0=u at *
   have hs1:((k+j:Nat):Int)+1=((k+(j+1):Nat):Int):=by omega
   have HS:=h_ hs1;clear hs1
   have hb0:0<=((k+j:Nat):Int):=by omega
   have hb1:((k+j:Nat):Int)<=200000000:=by omega
   generalize hkj:((k+j:Nat):Int)=K at *
   go_wp2
   go_roundw
   case rel=>exact⟨j+1,by omega,by go_num,by rw[HS.out],by rw[<-HM.out];exact HN.out,HG.out⟩
   case measure=>simp[intOf];omega
  ·obtain rfl:j=n:=by omega
   have HF:Hid (OwnS wr base e (B A j c) (seqL k j)):=by
    have:=ho
    rw[List.drop_eq_nil_of_le (by rw[HL.out];exact Nat.le_refl _),List.append_nil]at this
    exact this
   have HG:=h_ hg;clear ho hg;generalize hkj:((k+j:Nat):Int)=K at *;have HK:=h_ hkj;clear hkj
   go_wp2
   go_ret
   exact⟨eV (by have:=HK.out;omega),HF.out,HG.out⟩
def SBs(w:World)(A:Option Addr)(n:Nat)(bs:List (List Int×List Int)):Prop:=
 bs.length=n/\(0<n->∃b off,A=some ⟨b,off,none⟩/\b<w.heap.size/\∀i,i<n->∃A1 n1 c1 A2 n2 c2,w.cell? ⟨b,off+i*2,none⟩=some (B A1 n1 c1)/\w.cell? ⟨b,off+i*2+1,none⟩=some (B A2 n2 c2)/\
  SL w A1 n1 (bs.getD i ([],[])).1/\SL w A2 n2 (bs.getD i ([],[])).2/\n1<=maxLen/\n2<=maxLen)
theorem SBs.below{w w':World}{A:Option Addr}{n:Nat}{bs:List (List Int×List Int)}(h:SBs w A n bs)(hb:Below w.heap.size w w'):SBs w' A n bs:=by
 refine⟨h.1,fun hn=>?_⟩
 obtain⟨b,off,hA,hlt,hc⟩:=h.2 hn
 refine⟨b,off,hA,Nat.lt_of_lt_of_le hlt hb.size,fun i hi=>?_⟩
 obtain⟨A1,n1,c1,A2,n2,c2,h1,h2,h3,h4,h5,h6⟩:=hc i hi
 exact⟨A1,n1,c1,A2,n2,c2,ac h1 hb,ac h2 hb,h3.below hb,h4.below hb,h5,h6⟩
theorem SBs.more{w:World}{A:Option Addr}{n:Nat}{bs:List (List Int×List Int)}(h:SBs w A n bs)(t:World):SBs (more w t) A n bs:=h.below (aa w t)
theorem SBs.alloc{w:World}{A:Option Addr}{n:Nat}{bs:List (List Int×List Int)}(h:SBs w A n bs)(o:Obj):SBs (w.alloc o) A n bs:=h.below ((Below.refl _ _).alloc (Nat.le_refl _) o)
def RetZ(w:World)(left:Int)(tot:Nat)(en:Ending)(w':World):Prop:=∃r:Int,en=D (.int l r)/\-1<=r/\r<=left/\(0<=r->(tot:Int)<=left-r)/\Below w.heap.size w w'
theorem iV(A:Option Addr)(n c:Nat)(left:Int)(w:World)(hn:n<=9223372036854775807)(hl:0<=left)(hl2:left<=1048576):
  Calls Tryz.prog 64 #[B A n c,.int l left] w (RetZ w left n):=by
 by_cases h:left-n<0
 ·have HF:Hid (RetZ w left n (D (.int l (-1))) w):=⟨-1,rfl,by omega,by omega,by omega,Below.refl _ _⟩
  go_enter Tryz.func64,Tryz.ntmps64
  go_wp2
  go_ret
  exact HF.out
 ·have HF:Hid (RetZ w left n (D (.int l (left-n))) w):=⟨left-n,rfl,by omega,by omega,by omega,Below.refl _ _⟩
  go_enter Tryz.func64,Tryz.ntmps64
  go_wp2
  go_ret
  exact HF.out
theorem szBoard_any(A1 A2:Option Addr)(n1 c1 n2 c2:Nat)(left:Int)(w:World)(hn1:n1<=9223372036854775807)(hn2:n2<=9223372036854775807)(hl:0<=left)(hl2:left<=1048576):
  Calls Tryz.prog 11 #[C #[B A1 n1 c1,B A2 n2 c2],.int l left] w (RetZ w left (n1+n2)):=by
 have hb:Below w.heap.size w (w.alloc (F #[B A1 n1 c1,B A2 n2 c2] 26)):=(Below.refl _ _).alloc (Nat.le_refl _) _;have HB:=h_ hb;clear hb
 go_enter Tryz.func11,Tryz.ntmps11
 go_wp2_with (fail)
 refine(iV A1 n1 c1 left _ hn1 hl hl2).mono ?_
 rintro e w1 ⟨r,rfl,hr1,hr2,hr3,hb1⟩
 have d1:w1.cell? ⟨w.heap.size,1,none⟩=some (B A2 n2 c2):=ac (by simp[go_sem]) hb1
 have HB1:=h_ (HB.out.trans (hb1.mono HB.out.size));have H3:=h_ hr3;clear hb1 hr3
 by_cases h0:r<0
 ·have HF:Hid (∀W,Below w.heap.size w W->RetZ w left (n1+n2) (D (.int l (-1))) W):=fun W hW=>⟨-1,rfl,by omega,by omega,by omega,hW⟩
  go_wp2_with (fail)
  go_ret
  exact HF.out _ HB1.out
 ·go_wp2_with (fail)
  refine(iV A2 n2 c2 r _ hn2 (by omega) (by omega)).mono ?_
  rintro e w2 ⟨r2,rfl,hq1,hq2,hq3,hb2⟩
  have HB2:=h_ (HB1.out.trans (hb2.mono HB1.out.size))
  have HF:Hid (RetZ w left (n1+n2) (D (.int l r2)) w2):=⟨r2,rfl,hq1,by omega,fun h=>by have:=hq3 h;have:=H3.out (by omega);omega,HB2.out⟩
  have HF':Hid (RetZ w left (n1+n2) (D (.int l (-1))) w2):=⟨-1,rfl,by omega,by omega,by omega,HB2.out⟩
  clear hb2 hq3
  by_cases h2:r2<0
  ·go_wp2_with (fail)
   go_ret
   exact HF'.out
  ·go_wp2_with (fail)
   go_ret
   exact HF.out
theorem mixZ_step(xs:List Int)(n k:Nat)(hl:xs.length=n)(h:k<n):(xs.take k++List.replicate (n-k) (0:Int)).set k (xs.getD k 0)=xs.take (k+1)++List.replicate (n-(k+1)) 0:=by
 have hk:(xs.take k).length=k:=by rw[List.length_take];omega
 have e:n-k=(n-(k+1))+1:=by omega
 have h':k<xs.length:=by omega
 have g:xs.getD k 0=xs[k]:=by simp[List.getD,h']
 rw[List.set_append_right _ _ (by omega),hk,Nat.sub_self,e,List.replicate_succ,List.set_cons_zero,List.take_succ_eq_append_getElem h',List.append_assoc,g]
 rfl
theorem iU(A:Option Addr)(n c:Nat)(xs:List Int)(w:World)(hx:SL w A n xs)(hn:n<=2000000):
  Calls Tryz.prog 68 #[B A n c] w (RetO w 2 xs):=by
 obtain⟨i0,hi,hz0,hz1,hz2⟩:=info_parts Tryz.infoI;have HX:=h_ hx;clear hx
 go_enter Tryz.func68,Tryz.ntmps68
 go_wp2_with (at_make;refine wpList_make_full _ rfl _ _ 24 rfl w.heap.size 2 i0 (.int l 0) 1 Tryz.underlying24 hi hz0 hz1 _ _ _ _ n rfl rfl rfl rfl (by rw[hz2];omega) (by unfold maxLen;omega) (Nat.le_refl _) ?_;intro w1 hown hgrow)
 have hb:Below w.heap.size w w1:=(Below.refl _ _).grown hgrow (Nat.le_refl _) (by simp)
 have hO:OwnS w1 w.heap.size 2 (B (some ⟨w.heap.size,0,none⟩) n n) (xs.take 0++List.replicate (n-0) 0):=by
  unfold OwnS
  simp only[List.take_zero,List.nil_append,Nat.sub_zero,List.length_replicate,List.map_replicate]
  have e:(madeCells #[Value.int l 0] (n*1)).toList=List.replicate n (Value.int l 0):=by rw[Nat.mul_one];exact toList_madeCells_one _ _
  first|(rw[show(Value.int IntKind.i64 0).cells=#[Value.int l 0]from rfl,e]at hown;exact hown)|(rw[e]at hown;exact hown)|(rw[Nat.mul_one]at e;rw[e]at hown;exact hown)
 have HO:=h_ hO;have HB:=h_ hb;clear hown hgrow hb hO
 go_wp2_with (fail)
 go_loopw [4] (fun i wr=>∃k:Nat,k<=n/\i= .int l k/\OwnS wr w.heap.size 2 (B (some ⟨w.heap.size,0,none⟩) n n) (xs.take k++List.replicate (n-k) 0)/\Below w.heap.size w wr) (fun i _=>n-(intOf i).toNat)
 case atStart=>exact⟨0,by omega,rfl,HO.out,HB.out⟩
 case round=>
  obtain⟨k,hk,rfl,ho,hb⟩:=hrel
  by_cases hlt:k<n
  ·obtain⟨b,off,rfl,hbl,hc⟩:=(HX.out.keep (Nat.le_refl _) hb).2 (by omega)
   have q1:=hc k hlt
   obtain⟨b',off',hA',hbl',_⟩:=HX.out.2 (by omega)
   injection hA' with hA';injection hA' with hA1 hA2;subst hA1 hA2
   obtain⟨g,hg0,_,_,hcl,hfr⟩:=ao ho (by omega)
   injection hg0 with hg0;injection hg0 with hg0 _;subst hg0;have q2:=hcl k hlt;have q3:=hfr k
   have hki:(k:Int)<(n:Int):=by omega
   have hk0:(0:Int)<=(k:Int):=by omega
   have HN:=h_ (ho.stored k (xs.getD k 0));have HM:=h_ (mixZ_step xs n k HX.out.1 hlt);have HB2:=h_ (hb.setCell (p:=⟨w.heap.size,k,none⟩) (Nat.le_refl _) (.int l (xs.getD k 0)));clear hc hcl hfr ho hb;generalize (xs.take k++List.replicate (n-k) 0).getD k 0=u at *;generalize xs.getD k 0=x at *
   go_wp2_with (fail)
   go_roundw
   case rel=>exact⟨k+1,by omega,by go_num,by rw[<-HM.out];exact HN.out,HB2.out⟩
   case measure=>simp[intOf];omega
  ·obtain rfl:k=n:=by omega
   have HF:Hid (RetO w 2 xs (D (B (some ⟨w.heap.size,0,none⟩) k k)) wr):=by
    have h:=ho
    rw[List.take_of_length_le (by rw[HX.out.1];exact Nat.le_refl _),Nat.sub_self,List.replicate_zero,List.append_nil]at h
    exact RetO.mk h hb
   clear ho hb
   go_wp2_with (fail)
   go_ret
   exact HF.out
def RetBd(w:World)(own other:List Int)(en:Ending)(w':World):Prop:=∃A1 c1 A2 c2,en=D (C #[B A1 own.length c1,B A2 other.length c2])/\
 OwnS w' w.heap.size 2 (B A1 own.length c1) own/\OwnS w' w.heap.size 2 (B A2 other.length c2) other/\
 ((Value.slice A1 own.length c1).ownBlock=none\/(Value.slice A1 own.length c1).ownBlock≠(Value.slice A2 other.length c2).ownBlock)/\Below w.heap.size w w'
theorem iC(a b:Int)(w:World):
  Calls Tryz.prog 15 #[C #[.int l a,.int l b]] w fun e w'=>e=D (C #[.int l a,.int l b])/\Below w.heap.size w w':=by
 go_enter Tryz.func15,Tryz.ntmps15
 go_wp2
 exact bodyPost_ret (v:=C #[.int l a,.int l b]) (by simp[results,Tryz.results15,go_sem]) rfl ⟨rfl,(((Below.refl _ _).alloc (Nat.le_refl _) _).alloc (by simp) _).alloc (by simp;omega) _⟩
theorem et(A1 A2:Option Addr)(n1 c1 n2 c2:Nat)(xs ys:List Int)(w:World)(h1:SL w A1 n1 xs)(h2:SL w A2 n2 ys)(hn1:n1<=2000000)(hn2:n2<=2000000):
  Calls Tryz.prog 14 #[C #[B A1 n1 c1,B A2 n2 c2]] w (RetBd w xs ys):=by
 have HB:Hid (Below w.heap.size w (((w.alloc (F #[B A1 n1 c1,B A2 n2 c2] 26)).alloc (F #[B none 0 0,B none 0 0] 35)).alloc (F #[B none 0 0,B none 0 0] 35))):=(((Below.refl _ _).alloc (Nat.le_refl _) _).alloc (by simp) _).alloc (by simp;omega) _
 have H1:=h_ (h1.below HB.out);have H2:=h_ h2;clear h1 h2
 go_enter Tryz.func14,Tryz.ntmps14
 go_wp2_with (fail)
 refine(iU A1 n1 c1 xs _ H1.out hn1).mono ?_
 rintro e w1 ⟨B1,k1,rfl,ho1,hb1⟩
 obtain⟨W0,hW0⟩:∃W,W=(((w.alloc (F #[B A1 n1 c1,B A2 n2 c2] 26)).alloc (F #[B none 0 0,B none 0 0] 35)).alloc (F #[B none 0 0,B none 0 0] 35)):=⟨_,rfl⟩;rw[<-hW0]at hb1 ho1
 have b1:w1.cell? ⟨w.heap.size,1,none⟩=some (B A2 n2 c2):=ac (by rw[hW0];simp[go_sem]) hb1
 have d0:w1.cell? ⟨w.heap.size+1+1,0,none⟩=some (B none 0 0):=ac (by rw[hW0];simp[go_sem]) hb1
 have d1:w1.cell? ⟨w.heap.size+1+1,1,none⟩=some (B none 0 0):=ac (by rw[hW0];simp[go_sem]) hb1
 have e0:w1.cell? ⟨w.heap.size+1,0,none⟩=some (B none 0 0):=ac (by rw[hW0];simp[go_sem]) hb1
 have e1:w1.cell? ⟨w.heap.size+1,1,none⟩=some (B none 0 0):=ac (by rw[hW0];simp[go_sem]) hb1
 have fd0:w1.frozen? ⟨w.heap.size+1+1,0,none⟩=false:=aS (w:=W0) (v:=B none 0 0) (by rw[hW0];simp[go_sem]) (by rw[hW0];simp[go_sem]) hb1
 have fd1:w1.frozen? ⟨w.heap.size+1+1,1,none⟩=false:=aS (w:=W0) (v:=B none 0 0) (by rw[hW0];simp[go_sem]) (by rw[hW0];simp[go_sem]) hb1
 have fe0:w1.frozen? ⟨w.heap.size+1,0,none⟩=false:=aS (w:=W0) (v:=B none 0 0) (by rw[hW0];simp[go_sem]) (by rw[hW0];simp[go_sem]) hb1
 have fe1:w1.frozen? ⟨w.heap.size+1,1,none⟩=false:=aS (w:=W0) (v:=B none 0 0) (by rw[hW0];simp[go_sem]) (by rw[hW0];simp[go_sem]) hb1
 have hz0:w.heap.size+2<W0.heap.size:=by rw[hW0];simp
 have HB1:=h_ ((by rw[hW0];exact HB.out:Below w.heap.size w W0).trans (hb1.mono (by omega)))
 have HO1:=h_ ho1;have hsz1:=hb1.size;clear hb1 ho1 hW0 H1 HB
 go_wp2_with (fail)
 have HBs:=h_ (HB1.out.setCell (p:=⟨w.heap.size+1+1,0,none⟩) (by simp;omega) (B B1 xs.length k1))
 have HOs:=h_ (HO1.out.setLow (a:=⟨w.heap.size+1+1,0,none⟩) (by exact hz0) (B B1 xs.length k1))
 refine(iU A2 n2 c2 ys _ (H2.out.keep (Nat.le_refl _) HBs.out) hn2).mono ?_
 rintro e w2 ⟨B2,k2,rfl,ho2,hb2⟩
 have q0:w2.cell? ⟨w.heap.size+1+1,0,none⟩=some (B B1 xs.length k1):=ac (by simp[go_sem,d0]) hb2
 have q1:w2.cell? ⟨w.heap.size+1+1,1,none⟩=some (B none 0 0):=ac (by simp[go_sem,d1]) hb2
 have r0:w2.cell? ⟨w.heap.size+1,0,none⟩=some (B none 0 0):=ac (by simp[go_sem,e0]) hb2
 have r1:w2.cell? ⟨w.heap.size+1,1,none⟩=some (B none 0 0):=ac (by simp[go_sem,e1]) hb2
 have fq1:w2.frozen? ⟨w.heap.size+1+1,1,none⟩=false:=aS (v:=B none 0 0) (by simp[go_sem,fd1]) (by simp[go_sem,d1]) hb2
 have fr0:w2.frozen? ⟨w.heap.size+1,0,none⟩=false:=aS (v:=B none 0 0) (by simp[go_sem,fe0]) (by simp[go_sem,e0]) hb2
 have fr1:w2.frozen? ⟨w.heap.size+1,1,none⟩=false:=aS (v:=B none 0 0) (by simp[go_sem,fe1]) (by simp[go_sem,e1]) hb2
 have HF:Hid (RetBd w xs ys (D (C #[B B1 xs.length k1,B B2 ys.length k2])) (((w2.setCell ⟨w.heap.size+1+1,1,none⟩ (B B2 ys.length k2)).setCell ⟨w.heap.size+1,0,none⟩ (B B1 xs.length k1)).setCell ⟨w.heap.size+1,1,none⟩ (B B2 ys.length k2))):=by
  have hz1:w.heap.size+2<(w1.setCell ⟨w.heap.size+1+1,0,none⟩ (B B1 xs.length k1)).heap.size:=by simp;omega
  refine⟨B1,k1,B2,k2,rfl,?_,?_,?_,?_⟩
  ·exact((((HOs.out.below hb2).setLow (a:=⟨w.heap.size+1+1,1,none⟩) (by exact hz0) _).setLow (a:=⟨w.heap.size+1,0,none⟩) (by show w.heap.size+1<W0.heap.size;omega) _).setLow (a:=⟨w.heap.size+1,1,none⟩) (by show w.heap.size+1<W0.heap.size;omega) _).mono (by omega)
  ·exact(((ho2.setLow (a:=⟨w.heap.size+1+1,1,none⟩) (by exact hz1) _).setLow (a:=⟨w.heap.size+1,0,none⟩) (Nat.lt_trans (by show w.heap.size+1<w.heap.size+2;omega) hz1) _).setLow (a:=⟨w.heap.size+1,1,none⟩) (Nat.lt_trans (by show w.heap.size+1<w.heap.size+2;omega) hz1) _).mono (by omega)
  ·exact own_apart HOs.out ho2 (Nat.le_refl _)
  ·exact((((HBs.out.trans (hb2.mono (by omega))).setCell (by simp;omega) _).setCell (by simp) _).setCell (by simp) _)
 clear hb2 ho2 hsz1
 go_wp2_with (fail)
 exact bodyPost_ret (v:=C #[B B1 xs.length k1,B B2 ys.length k2]) (by simp[results,Tryz.results14,go_sem,r0,r1]) rfl HF.out
open Go.RowKit Ps Ra Ex
theorem kd(m d:Int)(w:World):
  Calls Tryz.prog 27 #[C #[.int l m,.int l d],C #[.int l m,.int l d]] w fun e w'=>e=D (.bool true)/\Below w.heap.size w w':=by
 go_enter Tryz.func27,Tryz.ntmps27
 go_wp2
 go_ret
 exact⟨rfl,((Below.refl _ _).alloc (Nat.le_refl _) _).alloc (by simp) _⟩
theorem OwnE.below{w w':World}{base:Nat}{v:Value}{xs:List E}(h:OwnE w base v xs)(hb:Below w.heap.size w w'):OwnE w' base v xs:=own_below h hb
theorem ik{w wr:World}{g i:Nat}{u:Value}(hg:w.grownBy wr (some g)):w.grownBy (wr.setCell ⟨g,i,none⟩ u) (some g):=i8 hg ⟨rfl,rfl,rfl,by simp,fun k _ hne=>Below.heap_setCell _ _ _ _ (fun h=>hne (by rw[h]))⟩
theorem Cel.frm{S:Nat->Prop}{W W':World}{g:Nat}{cs:List Value}(h:Cel W g cs)(hf:Frm S W W')(hn:¬S g):Cel W' g cs:=
 ⟨Nat.lt_of_lt_of_le h.lt hf.size,fun i x hx=>hf.cell' (h.cell i x hx) hn,fun i x hx=>(cV hf h.lt hn).trans (h.froz i x hx)⟩
def StbO(O:World->Nat->Value->Prop):Prop:=∀W W' b v,O W b v->Bel W W'->O W' b v
def RowT(O:World->Nat->Value->Prop)(lo:Nat)(rest:List Value):RP:=fun v W=>∃u b,v=I (u::rest).toArray/\lo<=b/\O W b u
def RowE(O:World->Nat->Value->Prop)(lo:Nat):RP:=fun v W=>∃b,lo<=b/\O W b v
theorem lJ{O:World->Nat->Value->Prop}{lo:Nat}{rest:List Value}(h:StbO O):Stb (RowT O lo rest):=fun _ _ _ ⟨u,b,h1,h2,h3⟩ hb=>⟨u,b,h1,h2,h _ _ _ _ h3 hb⟩
theorem lK{O:World->Nat->Value->Prop}{lo:Nat}(h:StbO O):Stb (RowE O lo):=fun _ _ _ ⟨b,h2,h3⟩ hb=>⟨b,h2,h _ _ _ _ h3 hb⟩
open Go.RowKit Pl Ps Ra Ex
structure JI(V:World)(TP:World->Value->(Nat->Prop)->Prop)(ev:Nat->Option Value)(L:Nat->Bool)(vs:Nat->Value)(W:World):Prop where
 b:Below V.heap.size V W
 eq:∀i y,i<9->L i=true->ev i=some y->vs i=y
 al:L 8=true->∃g,vs 8=J (some ⟨g,0,none⟩)/\V.heap.size<=g/\Cel W g [.int l 0,.int l 0,.int l 0,.int l 0]
 ra:L 1=true->L 4=false->∃(S:Nat->Prop) (l1 hi:Nat),TP W (vs 1) S/\hi<=W.heap.size/\V.heap.size<=l1/\l1<=hi/\(∀k,S k->l1<=k/\k<hi)/\∀g,L 8=true->vs 8=J (some ⟨g,0,none⟩)->g<l1\/hi<=g
section
variable {V W W':World}{TP:World->Value->(Nat->Prop)->Prop}{ev:Nat->Option Value}{L L':Nat->Bool}{vs vs':Nat->Value}{i:Nat}{v:Value}
theorem JI.alloc(H:JI V TP ev L vs W)(T:TypeId)(hu:Upd 9 8 (J (some ⟨W.heap.size,0,none⟩)) L vs L' vs')(he:ev 8=none)(hst:∀W W' v S,TP W v S->Below W.heap.size W W'->TP W' v S):JI V TP ev L' vs' (W.alloc (F #[.int l 0,.int l 0,.int l 0,.int l 0] T)):=by
 obtain⟨-,u2,u3⟩:=hu;have hb:Below W.heap.size W (W.alloc (F #[.int l 0,.int l 0,.int l 0,.int l 0] T)):=Bel.alloc W _
 have e3:=u3 4 (by omega) (by omega)
 have e1:=u3 1 (by omega) (by omega)
 refine⟨H.b.trans (hb.mono H.b.size),fun k y hk hl he'=>?_,fun hl=>⟨_,u2,H.b.size,Cel.new W #[.int l 0,.int l 0,.int l 0,.int l 0] T⟩,fun hl hl3=>?_⟩
 ·by_cases ek:k=8
  ·subst ek;rw[he]at he';cases he'
  ·rw[(u3 k hk ek).2];exact H.eq k y hk (by rw[<-(u3 k hk ek).1];exact hl) he'
 ·obtain⟨S,l1,hi,a1,a7,a8,a8',a9,_⟩:=H.ra (by rw[<- e1.1];exact hl) (by rw[<- e3.1];exact hl3)
  refine⟨S,l1,hi,by rw[e1.2];exact hst _ _ _ _ a1 hb,Nat.le_trans a7 hb.size,a8,a8',a9,fun g _ hg2=>.inr ?_⟩
  rw[u2]at hg2;injection hg2 with hg2;injection hg2 with hg2;injection hg2 with hg2
  omega
end
open Go.RowKit Pl Ps Ra Ex
def CpB(xs ys:List Int):RP:=fun v W=>∃X1 k1 X2 k2,v=C #[B X1 xs.length k1,B X2 ys.length k2]/\SL W X1 xs.length xs/\xs.length<=k1/\SL W X2 ys.length ys/\ys.length<=k2
theorem stb_cpb(xs ys:List Int):Stb (CpB xs ys):=fun _ _ _ ⟨X1,k1,X2,k2,h1,h2,h3,h4,h5⟩ hb=>⟨X1,k1,X2,k2,h1,h2.below hb,h3,h4.below hb,h5⟩
theorem fV(a b c d:Int)(w:World):
  Calls Tryz.prog 24 #[C #[.int l a,.int l b,.int l c,.int l d],C #[.int l a,.int l b,.int l c,.int l d]] w fun e w'=>e=D (.bool true)/\Below w.heap.size w w':=by
 have HF:Hid (Fr w ((w.alloc (F #[.int l a,.int l b,.int l c,.int l d] 47)).alloc (F #[.int l a,.int l b,.int l c,.int l d] 47)) [[.int l a,.int l b,.int l c,.int l d],[.int l a,.int l b,.int l c,.int l d]]):=((Fr.start w).allocT (by simp) _ _).allocT (by simp) _ _
 go_enter Tryz.func24,Tryz.ntmps24
 go_wp2_with (fail)
 refine(kd _ _ _).mono ?_
 rintro e w1 ⟨rfl,hb⟩
 have HF1:=h_ (HF.out.below hb);clear hb HF;have c02:=HF1.out.c0 2 rfl;have c03:=HF1.out.c0 3 rfl;have c12:=HF1.out.c1 2 rfl;have c13:=HF1.out.c1 3 rfl
 go_wp2_with (fail)
 refine(kd _ _ _).mono ?_
 rintro e w2 ⟨rfl,hb⟩
 have HF2:=h_ (HF1.out.below hb);clear hb HF1
 go_wp2_with (fail)
 go_ret
 exact⟨rfl,HF2.out.b⟩
def seqV(k n:Nat):List Iv:=(List.range n).map fun i=>((⟨((k+i*4:Nat):Int),k+i*4+1⟩,⟨((k+i*4+2:Nat):Int),k+i*4+3⟩):Iv)
theorem jL(k n:Nat):(seqV k n).length=n:=by simp[seqV]
theorem seqV_getD(k n i:Nat)(h:i<n):(seqV k n).getD i (aj,aj)=(⟨((k+i*4:Nat):Int),k+i*4+1⟩,⟨((k+i*4+2:Nat):Int),k+i*4+3⟩):=by simp[seqV,List.getD,h]
theorem mixV_step(k:Nat)(xs:List Iv)(i:Nat)(h:i<xs.length):(seqV k i++xs.drop i).set i (⟨((k+i*4:Nat):Int),k+i*4+1⟩,⟨((k+i*4+2:Nat):Int),k+i*4+3⟩)=seqV k (i+1)++xs.drop (i+1):=by
 rw[List.set_append_right _ _ (by rw[jL];omega),jL,Nat.sub_self,List.drop_eq_getElem_cons h,List.set_cons_zero]
 simp[seqV,List.range_succ]
theorem ivCs_set:∀(xs:List Iv) (i:Nat) (a:Int) (b:Nat) (c:Int) (d:Nat),((((ivCs xs).set (i*4) (.int l a)).set (i*4+1) (.int l (b:Int))).set (i*4+2) (.int l c)).set (i*4+2+1) (.int l (d:Int))=ivCs (xs.set i (⟨a,b⟩,⟨c,d⟩))
 | [],i,a,b,c,d=>by simp[ivCs]
 |x::xs,0,a,b,c,d=>by simp[ivCs,ivC]
 |x::xs,i+1,a,b,c,d=>by
   have ih:=ivCs_set xs i a b c d
   rw [show(i+1)*4=i*4+4 by omega]
   simp only [ivCs,ivC,List.flatMap_cons,List.cons_append,List.nil_append,List.set_cons_succ]at ih ⊢
   rw [ih]
def OwnV(W:World)(base:Nat)(v:Value)(xs:List Iv):Prop:=W.ownsRow base 47 4 v xs.length (ivCs xs)
theorem OwnV.lt'{w:World}{base:Nat}{v:Value}{xs:List Iv}(h:OwnV w base v xs){k:Nat}(hk:v.ownBlock=some k):base<=k/\k<w.heap.size:=World.ownsRow.lt h k hk
theorem OwnV.below{w w':World}{base:Nat}{v:Value}{xs:List Iv}(h:OwnV w base v xs)(hb:Below w.heap.size w w'):OwnV w' base v xs:=own_below h hb
theorem OwnV.el{w:World}{base:Nat}{v:Value}{xs:List Iv}(h:OwnV w base v xs):∃A c,v=B A xs.length c/\SLZ 4 (fun _=>False) w A xs.length (ivCs xs)/\xs.length<=c:=bp (S:=fun _=>False) h (fun k hk h=>h) (by omega)
theorem OwnV.elv{w:World}{base:Nat}{A:Option Addr}{n c:Nat}{xs:List Iv}(h:OwnV w base (B A n c) xs):(xs.length=n/\SLZ 4 (fun _=>False) w A n (ivCs xs))/\n<=c:=by
 obtain⟨A',c',hv,hel,hc⟩:=h.el;injection hv with h1 h2 h3;subst h1 h2 h3
 exact⟨⟨rfl,hel⟩,hc⟩
theorem ivz_at{S:Nat->Prop}{w:World}{A:Option Addr}{n:Nat}{xs:List Iv}(hl:xs.length=n)(h:SLZ 4 S w A n (ivCs xs)){k:Nat}(hk:k<n):∃b off,A=some ⟨b,off,none⟩/\b<w.heap.size/\
  w.cell? ⟨b,off+k*4,none⟩=some (.int l (xs.getD k (aj,aj)).1.num)/\w.cell? ⟨b,off+k*4+1,none⟩=some (.int l (xs.getD k (aj,aj)).1.depth)/\
  w.cell? ⟨b,off+k*4+2,none⟩=some (.int l (xs.getD k (aj,aj)).2.num)/\w.cell? ⟨b,off+k*4+2+1,none⟩=some (.int l (xs.getD k (aj,aj)).2.depth):=by
 obtain⟨_,hc⟩:=h
 obtain⟨b,off,hA,hlt,_,hcell⟩:=hc (by omega)
 obtain⟨e1,e2,e3,e4⟩:=fI xs k (by omega)
 exact⟨b,off,hA,hlt,by rw[hcell _ (by omega),e1],by rw[Nat.add_assoc,hcell _ (by omega),e2],by rw[Nat.add_assoc,hcell _ (by omega),e3],by rw[Nat.add_assoc,Nat.add_assoc,hcell _ (by omega),e4]⟩
theorem own_formV{w:World}{base:Nat}{A:Option Addr}{n c:Nat}{xs:List Iv}(h:OwnV w base (B A n c) xs)(hn:0<n):∃g,A=some ⟨g,0,none⟩/\base<=g/\g<w.heap.size/\
  (∀j,j<n→w.cell? ⟨g,j*4,none⟩=some (.int l (xs.getD j (aj,aj)).1.num)∧w.cell? ⟨g,j*4+1,none⟩=some (.int l (xs.getD j (aj,aj)).1.depth)∧
   w.cell? ⟨g,j*4+2,none⟩=some (.int l (xs.getD j (aj,aj)).2.num)/\w.cell? ⟨g,j*4+2+1,none⟩=some (.int l (xs.getD j (aj,aj)).2.depth))/\(∀j,w.frozen? ⟨g,j,none⟩=false):=by
 have hs:=h.elv.1;obtain⟨-,h2⟩:=h
 rcases h2 with⟨h2,h3⟩|⟨g,cap,cur,hv,hb,hh,r⟩
 ·omega
 ·injection hv with hv1 hv2 hv3
  subst hv1
  refine⟨g,rfl,hb,(Array.getElem?_eq_some_iff.1 hh).1,fun j hj=>?_,fun j=>frozen_of_row w g j cur _ hh⟩
  obtain⟨b,off,hA,_,hc1,hc2,hc3,hc4⟩:=ivz_at hs.1 hs.2 hj;injection hA with hA;injection hA with hA1 hA2;subst hA1 hA2
  simp only[Nat.zero_add]at hc1 hc2 hc3 hc4
  exact⟨hc1,hc2,hc3,hc4⟩
theorem OwnV.stored{w:World}{base:Nat}{g n c:Nat}{xs:List Iv}(h:OwnV w base (B (some ⟨g,0,none⟩) n c) xs)(j:Nat)(a:Int)(b:Nat)(m:Int)(d:Nat):
  OwnV ((((w.setCell ⟨g,j*4,none⟩ (.int l a)).setCell ⟨g,j*4+1,none⟩ (.int l (b:Int))).setCell ⟨g,j*4+2,none⟩ (.int l m)).setCell ⟨g,j*4+2+1,none⟩ (.int l (d:Int))) base (B (some ⟨g,0,none⟩) n c) (xs.set j (⟨a,b⟩,⟨m,d⟩)):=by
 have hn:=h.elv.1.1;unfold OwnV at h ⊢;rw[hn]at h;have h1:=(World.ownsRow.stored h (j*4) (.int l a)).1;have h2:=(World.ownsRow.stored h1 (j*4+1) (.int l (b:Int))).1;have h3:=(World.ownsRow.stored h2 (j*4+2) (.int l m)).1;have h4:=(World.ownsRow.stored h3 (j*4+2+1) (.int l (d:Int))).1;rw[ivCs_set]at h4
 rw[show(xs.set j (⟨a,b⟩,⟨m,d⟩)).length=n by rw[List.length_set,hn]]
 exact h4
theorem Frm.rowV{S:Nat->Prop}{w w':World}{base:Nat}{v:Value}{xs:List Iv}(h:Frm S w w')(ho:OwnV w base v xs)(hn:∀k,v.ownBlock=some k->¬S k):OwnV w' base v xs:=h.row ho hn
theorem stO_V{xs:List Iv}:StbO (fun W b v=>OwnV W b v xs):=fun _ _ _ _ h hb=>h.below hb
theorem dw(A1 A2:Option Addr)(n c1 c2:Nat)(xs:List Iv)(w:World)(h1:xs.length=n/\SLZ 4 (fun _=>False) w A1 n (ivCs xs))(h2:xs.length=n/\SLZ 4 (fun _=>False) w A2 n (ivCs xs))(hn:n<=2000000):
  Calls Tryz.prog 17 #[B A1 n c1,B A2 n c2] w fun e w'=>e=D (.bool true)/\Below w.heap.size w w':=by
 have HL:=h_ h1.1;have H1:=h_ h1.2;have H2:=h_ h2.2;clear h1 h2
 go_enter Tryz.func17,Tryz.ntmps17
 go_wp2_with (fail)
 go_loopw [5] (fun i wr=>∃k:Nat,k<=n/\i= .int l k/\Below w.heap.size w wr) (fun i _=>n-(intOf i).toNat)
 case atStart=>exact⟨0,by omega,rfl,Below.refl _ _⟩
 case round=>
  obtain⟨k,hk,rfl,hb⟩:=hrel
  by_cases hlt:k<n
  ·obtain⟨x1,o1,rfl,hb1,q1,q2,q5,q6⟩:=ivz_at HL.out (H1.out.below hb) hlt
   obtain⟨x2,o2,rfl,hb2,q3,q4,q7,q8⟩:=ivz_at HL.out (H2.out.below hb) hlt;rw[Nat.add_assoc (o1+k*4) 2 1]at q6;rw[Nat.add_assoc (o2+k*4) 2 1]at q8
   have hki:(k:Int)<(n:Int):=by omega
   have hk0:(0:Int)<=(k:Int):=by omega
   have HB:=h_ hb;clear hb;generalize (xs.getD k (aj,aj)).1.num=u1 at *;generalize ((xs.getD k (aj,aj)).1.depth:Int)=u2 at *;generalize (xs.getD k (aj,aj)).2.num=u3 at *;generalize ((xs.getD k (aj,aj)).2.depth:Int)=u4 at *
   go_wp2_with (fail)
   refine ae (by kernel_rfl) (by kernel_rfl) ?_
   repeat (first|go_big_quiet_step ((go_at_call 24;exact more_call (fV _ _ _ _ _)))|quiet_step ((go_at_call 24;exact more_call (fV _ _ _ _ _))))
   refine wpQuiet_nil ?_
   intro _ hw'
   obtain⟨tq,hw''⟩:=hw';subst hw'';have hbm:=aa wr tq
   go_wp2
   go_roundw
   case rel=>exact⟨k+1,by omega,by go_num,HB.out.trans (hbm.mono HB.out.size)⟩
   case measure=>simp[intOf];omega
  ·go_wp2
   go_ret
   exact⟨rfl,hb⟩
theorem iJ(A:Option Addr)(n c base:Nat)(xs:List Iv)(k:Nat)(w:World)(hown:OwnV w base (B A n c) xs)(hn:n<=2000000)(hk:k<=100000000):
  Calls Tryz.prog 20 #[B A n c,.int l k] w fun en w'=>en=D (.int l ((k+n*4:Nat):Int))/\OwnV w' base (B A n c) (seqV k n)/\w.grownBy w' (Value.slice A n c).ownBlock:=by
 have hl:=hown.elv.1.1;have HL:=h_ hl;have HO:=h_ hown;clear hl hown
 go_enter Tryz.func20,Tryz.ntmps20
 go_wp2_with (fail)
 go_loopw [1,5] (fun q i wr=>∃j:Nat,j<=n/\i= .int l j/\q= .int l ((k+j*4:Nat):Int)/\OwnV wr base (B A n c) (seqV k j++xs.drop j)/\w.grownBy wr (Value.slice A n c).ownBlock) (fun _ i _=>n-(intOf i).toNat)
 case atStart=>exact⟨0,by omega,rfl,by simp,by simpa[seqV]using HO.out,World.grownBy.refl _ _⟩
 case round=>
  obtain⟨j,hj,rfl,rfl,ho,hg⟩:=hrel
  by_cases hlt:j<n
  ·obtain⟨g,rfl,hg1,hg2,hcl,hfr⟩:=own_formV ho (by omega)
   obtain⟨q1,q3,q5,q7⟩:=hcl j hlt;have q2:=hfr (j*4);have q4:=hfr (j*4+1);have q6:=hfr (j*4+2);have q8:=hfr (j*4+2+1)
   have hki:(j:Int)<(n:Int):=by omega
   have hk0:(0:Int)<=(j:Int):=by omega
   have HN:=h_ (ho.stored j ((k+j*4:Nat):Int) (k+j*4+1) ((k+j*4+2:Nat):Int) (k+j*4+3));have HG:Hid (w.grownBy ((((wr.setCell ⟨g,j*4,none⟩ (.int l ((k+j*4:Nat):Int))).setCell ⟨g,j*4+1,none⟩ (.int l ((k+j*4+1:Nat):Int))).setCell ⟨g,j*4+2,none⟩ (.int l ((k+j*4+2:Nat):Int))).setCell ⟨g,j*4+2+1,none⟩ (.int l ((k+j*4+3:Nat):Int))) (some g)):=ik (ik (ik (ik hg)))
   have HM:=h_ (mixV_step k xs j (by rw[HL.out];exact hlt))
   clear hcl hfr ho hg;generalize ((seqV k j++xs.drop j).getD j (aj,aj)).1.num=u1 at *;generalize (((seqV k j++xs.drop j).getD j (aj,aj)).1.depth:Int)=u2 at *;generalize ((seqV k j++xs.drop j).getD j (aj,aj)).2.num=u3 at *;generalize (((seqV k j++xs.drop j).getD j (aj,aj)).2.depth:Int)=u4 at *
   have HS:Hid (((k+j*4:Nat):Int)+1=((k+j*4+1:Nat):Int)):=by unfold Hid;omega
   have HS3:Hid (((k+j*4:Nat):Int)+1+1=((k+j*4+2:Nat):Int)):=by unfold Hid;omega
   have HS4:Hid (((k+j*4:Nat):Int)+1+1+1=((k+j*4+3:Nat):Int)):=by unfold Hid;omega
   have HS2:Hid (((k+j*4:Nat):Int)+1+1+1+1=((k+(j+1)*4:Nat):Int)):=by unfold Hid;omega
   have hb0:0<=((k+j*4:Nat):Int):=by omega
   have hb1:((k+j*4:Nat):Int)<=200000000:=by omega
   rw[<-HS.out,<-HS3.out,<-HS4.out]at HN HG;rw[<-HS3.out]at HM;clear HS HS3 HS4;generalize hkj:((k+j*4:Nat):Int)=K at *
   go_wp2
   go_roundw
   case rel=>exact⟨j+1,by omega,by go_num,by rw[<-HS2.out]<;>first|rfl|go_num,by rw[<-HM.out];exact HN.out,HG.out⟩
   case measure=>simp[intOf];omega
  ·obtain rfl:j=n:=by omega
   have HF:Hid (OwnV wr base (B A j c) (seqV k j)):=by
    have:=ho
    rw[List.drop_eq_nil_of_le (by rw[HL.out];exact Nat.le_refl _),List.append_nil]at this
    exact this
   have HG:=h_ hg;clear ho hg;generalize hkj:((k+j*4:Nat):Int)=K at *;have HK:=h_ hkj;clear hkj
   go_wp2
   go_ret
   exact⟨eV (by have:=HK.out;omega),HF.out,HG.out⟩
theorem eb(A:Option Addr)(n c k:Nat)(w:World)(hx:(seqV k n).length=n/\SLZ 4 (fun _=>False) w A n (ivCs (seqV k n)))(hn:n<=2000000)(hk:k<=100000000):
  Calls Tryz.prog 21 #[B A n c,.int l k] w fun e w'=>e=D (.int l ((k+n*4:Nat):Int))/\w=w':=by
 have HX:=h_ hx;clear hx
 go_enter Tryz.func21,Tryz.ntmps21
 go_wp2_with (fail)
 go_loop [1,5] (fun q i=>∃j:Nat,j<=n/\i= .int l j/\q= .int l ((k+j*4:Nat):Int)) (fun _ i=>n-(intOf i).toNat)
 case atStart=>exact⟨0,by omega,rfl,by simp⟩
 case round=>
  obtain⟨j,hj,rfl,rfl⟩:=hrel
  by_cases hlt:j<n
  ·obtain⟨x1,o1,rfl,hb1,q1,q2,q3,q4⟩:=ivz_at HX.out.1 HX.out.2 hlt
   rw[seqV_getD k n j hlt]at q1 q2 q3 q4
   simp only at q1 q2 q3 q4
   have HS2:Hid (((k+j*4:Nat):Int)+1+1+1+1=((k+(j+1)*4:Nat):Int)):=by unfold Hid;omega
   have hb0:0<=((k+j*4:Nat):Int):=by omega
   have hb1:((k+j*4:Nat):Int)<=200000000:=by omega
   rw[show((k+j*4+1:Nat):Int)=((k+j*4:Nat):Int)+1 by omega]at q2
   rw[show((k+j*4+2:Nat):Int)=((k+j*4:Nat):Int)+1+1 by omega]at q3
   rw[show((k+j*4+3:Nat):Int)=((k+j*4:Nat):Int)+1+1+1 by omega]at q4
   generalize hkj:((k+j*4:Nat):Int)=K at *
   go_wp2
   go_round
   case rel=>exact⟨j+1,by omega,by go_num,by rw[<-HS2.out]<;>first|rfl|go_num⟩
   case measure=>simp[intOf];omega
  ·obtain rfl:j=n:=by omega
   generalize hkj:((k+j*4:Nat):Int)=K at *;have HK:=h_ hkj;clear hkj
   go_wp2
   go_ret
   exact⟨eV (by have:=HK.out;omega),rfl⟩
open Go.RowKit
def Apart(v1 v2:Value):Prop:=v1.ownBlock=none\/v1.ownBlock≠v2.ownBlock
theorem me(A1 A2:Option Addr)(n1 c1 n2 c2 b:Nat)(e:TypeId)(xs ys:List Int)(k:Nat)(w:World)(h1:OwnS w b e (B A1 n1 c1) xs)(h2:OwnS w b e (B A2 n2 c2) ys)
  (ha:Apart (B A1 n1 c1) (B A2 n2 c2)) (hn1:n1<=2000000) (hn2:n2<=2000000) (hk:k<=90000000):
  Calls Tryz.prog 19 #[C #[B A1 n1 c1,B A2 n2 c2],.int l k] w fun en w'=>en=D (.int l ((k+n1+n2:Nat):Int))/\OwnS w' b e (B A1 n1 c1) (seqL k n1)/\OwnS w' b e (B A2 n2 c2) (seqL (k+n1) n2)/\
   Frm (fun j=>some j=(Value.slice A1 n1 c1).ownBlock\/some j=(Value.slice A2 n2 c2).ownBlock) w w':=by
 have l1:=h1.lt;have H1:=h_ (h1.alloc (F #[B A1 n1 c1,B A2 n2 c2] 35));have H2:=h_ (h2.alloc (F #[B A1 n1 c1,B A2 n2 c2] 35));have HA:=h_ ha;have L1:=h_ l1;clear h1 h2 ha l1
 go_enter Tryz.func19,Tryz.ntmps19
 go_wp2_with (fail)
 refine(fT A1 n1 c1 b e xs k _ H1.out hn1 (by omega)).mono ?_
 rintro en w1 ⟨rfl,ho1,hg1⟩
 have d1:w1.cell? ⟨w.heap.size,1,none⟩=some (B A2 n2 c2):=hg1.cell (v:=B A2 n2 c2) (by simp[go_sem]) (fun h=>by have:=(L1.out _ h.symm).2;simp at this)
 have O2:=h_ ((Frm.of_grown hg1).own H2.out fun j hj hs=>by
  rcases HA.out with h|h
  ·rw[h]at hs;cases hs
  ·exact h (hs.symm.trans hj.symm))
 have O1:=h_ ho1
 have F1:=h_ ((Frm.of_grown hg1).mono (T:=fun j=>some j=(Value.slice A1 n1 c1).ownBlock\/some j=(Value.slice A2 n2 c2).ownBlock) fun _ h=>.inl h)
 clear ho1 hg1
 go_wp2_with (fail)
 refine(fT A2 n2 c2 b e ys (k+n1) _ O2.out hn2 (by omega)).mono ?_
 rintro en w2 ⟨rfl,ho2,hg2⟩
 have P1:=h_ ((Frm.of_grown hg2).own O1.out fun j hj hs=>by
  rcases HA.out with h|h
  ·rw[h]at hj;cases hj
  ·exact h (hj.trans hs))
 have P2:=h_ ho2
 have F2:=h_ ((Frm.of_grown hg2).mono (T:=fun j=>some j=(Value.slice A1 n1 c1).ownBlock\/some j=(Value.slice A2 n2 c2).ownBlock) fun _ h=>.inr h)
 clear ho2 hg2
 go_wp2_with (fail)
 go_ret
 refine⟨eV (by simp),P1.out,P2.out,?_⟩
 exact((Frm.of_below ((Below.refl _ _).alloc (Nat.le_refl _) _)).mono (fun _ h=>h.elim)).trans (F1.out.trans F2.out)
theorem piL_len(p c h s:Int)(own other:List Int)(tu ra rb:Int):((piR p c h s own other tu ra rb).2.getD []).length<=781250:=by
 rcases piR_ok p c h s own other tu ra rb with⟨s',L,_,h1,_,_,_,h2,_⟩|⟨_,h2⟩
 ·rw[h1];exact h2
 ·rw[h2];exact Nat.zero_le _
noncomputable def plR(p c h s:Int)(own other:List Int)(tu ra rb:Int):List Iv×Int:=((piR p c h s own other tu ra rb).2.getD [],(piR p c h s own other tu ra rb).1)
theorem plR_len(p c h s:Int)(own other:List Int)(tu ra rb:Int):(plR p c h s own other tu ra rb).1.length<=1000000:=by
 have:=piL_len p c h s own other tu ra rb;unfold plR
 show((piR p c h s own other tu ra rb).2.getD []).length<=1000000
 omega
theorem RetPX.list{w w':World}{r:Int×Option (List Iv)}{e:Ending}(h:RetPX w r e w'):∃v b,e=D (I #[v,.int l r.1])/\w.heap.size<=b/\OwnV w' b v (r.2.getD [])/\Below w.heap.size w w':=by
 obtain⟨v,h1,h2,h3⟩:=h
 refine⟨v,w.heap.size,h1,Nat.le_refl _,?_,h3⟩
 obtain⟨k,o⟩:=r
 rcases o with _|L
 ·obtain rfl:v = B none 0 0:=h2
  exact World.ownsRow_nil _ _ _ _
 ·exact h2
def eK:Nat->Nat
 | 0=>26
 | 1=>27
 | 2=>28
 | 3=>29
 | 4=>30
 | 5=>31
 | 6=>32
 | 7=>33
 | 8=>25
 | 9=>34
 | 10=>35
 |_=>0
def eJ:Nat->Nat
 | 0=>39
 | 1=>40
 | 2=>41
 | 3=>42
 | 4=>43
 | 5=>44
 | 6=>45
 | 7=>38
 | 8=>46
 | 9=>47
 |_=>0
def eh:Nat->Nat
 | 0=>57
 | 1=>58
 | 2=>59
 | 3=>60
 |_=>0
def ee:Nat->Nat
 | 0=>90
 | 1=>91
 | 2=>92
 | 3=>93
 | 4=>94
 | 5=>95
 | 6=>96
 | 7=>97
 | 8=>89
 | 9=>98
 | 10=>99
 |_=>0
theorem iF(p c h s:Int)(A1 A2:Option Addr)(n1 a1 n2 a2:Nat)(xs ys:List Int)(ra rb:Int)(z:Int)(w:World)(hx:SL w A1 n1 xs)(hy:SL w A2 n2 ys)(hm1:n1<=maxLen)(hm2:n2<=maxLen):
  Calls Tryz.prog 3 #[C #[.int l p,.int l c,.int l h,.int l s],C #[B A1 n1 a1,B A2 n2 a2],C #[.int l ra,.int l rb],.int l z] w fun e w'=>e=D (.bool true)/\Below w.heap.size w w':=by
 have hV0:Bel w (((w.alloc (F #[.int l p,.int l c,.int l h,.int l s] 23)).alloc (F #[B A1 n1 a1,B A2 n2 a2] 26)).alloc (F #[.int l ra,.int l rb] 28)):=(Bel.trans (Bel.trans (Bel.alloc _ _) (Bel.alloc _ _)) (Bel.alloc _ _))
 have C0:Cel (((w.alloc (F #[.int l p,.int l c,.int l h,.int l s] 23)).alloc (F #[B A1 n1 a1,B A2 n2 a2] 26)).alloc (F #[.int l ra,.int l rb] 28)) (w.heap.size) [.int l p,.int l c,.int l h,.int l s]:=((Cel.new' _ _ _ (by simp)).alloc _).alloc _
 have C1:Cel (((w.alloc (F #[.int l p,.int l c,.int l h,.int l s] 23)).alloc (F #[B A1 n1 a1,B A2 n2 a2] 26)).alloc (F #[.int l ra,.int l rb] 28)) (w.heap.size+1) [B A1 n1 a1,B A2 n2 a2]:=(Cel.new' _ _ _ (by simp)).alloc _
 have C2:Cel (((w.alloc (F #[.int l p,.int l c,.int l h,.int l s] 23)).alloc (F #[B A1 n1 a1,B A2 n2 a2] 26)).alloc (F #[.int l ra,.int l rb] 28)) (w.heap.size+1+1) [.int l ra,.int l rb]:=Cel.new' _ _ _ (by simp)
 have Sxs:=h_ (hx.below hV0);have Sys:=h_ (hy.below hV0);have Axs:=h_ hx;have Ays:=h_ hy;have Lx:=h_ hx.1;have Ly:=h_ hy.1;clear hx hy;have HB:=h_ hV0;clear hV0;replace C0:=h_ C0;replace C1:=h_ C1;replace C2:=h_ C2;obtain⟨r,hr⟩:∃r,r=plR p c h s xs ys z ra rb:=⟨_,rfl⟩;have hlen:=plR_len p c h s xs ys z ra rb;rw[<-hr]at hlen;obtain⟨L0,r3⟩:=r;replace hlen:L0.length<=1000000:=hlen
 have CZ:=h_ fun(W:World)=>szBoard_any A1 A2 n1 a1 n2 a2 1048576 W (by unfold maxLen at hm1;omega) (by unfold maxLen at hm2;omega) (by omega) (by omega)
 go_enter Tryz.func3,Tryz.ntmps3
 go_wp2_with (fail)
 generalize (((w.alloc (F #[.int l p,.int l c,.int l h,.int l s] 23)).alloc (F #[B A1 n1 a1,B A2 n2 a2] 26)).alloc (F #[.int l ra,.int l rb] 28))=V at *
 refine(CZ.out _).mono ?_
 rintro e V1 ⟨r,rfl,hr1,hr2,hr3,hb⟩
 clear CZ;replace C0:=h_ (C0.out.below hb);replace C1:=h_ (C1.out.below hb);replace C2:=h_ (C2.out.below hb);replace Sxs:=h_ (Sxs.out.below hb);replace Sys:=h_ (Sys.out.below hb);replace HB:=h_ (Bel.trans HB.out hb);clear hb
 by_cases hneg:r<0
 ·go_wp2_with (fail)
  go_ret
  exact⟨rfl,HB.out⟩
 have hsz:=hr3 (by omega)
 have hn1':n1<=2000000:=by omega
 have hn2':n2<=2000000:=by omega
 have ox:xs.length<=2000000:=by rw[Lx.out];exact hn1'
 have oy:ys.length<=2000000:=by rw[Ly.out];exact hn2'
 clear hr1 hr2 hr3 hsz
 have CS:Hid (∀(W:World) (X1:Option Addr) (k1:Nat) (X2:Option Addr) (k2:Nat),SL W X1 xs.length xs->SL W X2 ys.length ys->xs.length<=k1->ys.length<=k2->Calls Tryz.prog 12 #[C #[.int l p,.int l c,.int l h,.int l s],C #[B X1 xs.length k1,B X2 ys.length k2],C #[.int l ra,.int l rb],.int l z] W fun e w'=>∃v b,e=D (I #[v,.int l r3])/\W.heap.size<=b/\OwnV w' b (v) L0/\Below W.heap.size W w'):=fun W X1 k1 X2 k2 s1 s2 l1 l2=>by
  have:=gM p c h s z ra rb X1 X2 _ k1 _ k2 xs ys W s1 s2 l1 l2 ox oy;exact this.mono fun e W' hh=>by have h9:=RetPX.list hh;rw[show(piR p c h s xs ys z ra rb).2.getD []=L0 from(congrArg Prod.fst hr).symm,show(piR p c h s xs ys z ra rb).1=r3 from(congrArg Prod.snd hr).symm]at h9;exact h9
 have CI:Hid (∀(W:World) (X1:Option Addr) (k1:Nat) (X2:Option Addr) (k2:Nat),SL W X1 xs.length xs->SL W X2 ys.length ys->xs.length<=k1->ys.length<=k2->Calls Tryz.prog 16 #[C #[.int l p,.int l c,.int l h,.int l s],C #[B X1 xs.length k1,B X2 ys.length k2],C #[.int l ra,.int l rb],.int l z] W fun e w'=>∃v b,e=D (I #[v,.int l r3])/\W.heap.size<=b/\OwnV w' b (v) L0/\Below W.heap.size W w'):=fun W X1 k1 X2 k2 s1 s2 l1 l2=>by
  have:=iT p c h s z ra rb X1 X2 _ k1 _ k2 xs ys W s1 s2 l1 l2 ox oy;exact this.mono fun e W' hh=>by have h9:=RetPX.list hh;rw[show(piR p c h s xs ys z ra rb).2.getD []=L0 from(congrArg Prod.fst hr).symm,show(piR p c h s xs ys z ra rb).1=r3 from(congrArg Prod.snd hr).symm]at h9;exact h9
 clear hr;have zV2:=C2.out.lt
 go_wp2_with (fail)
 refine w_ 11 (fun i=>i==10) eK [Eqv (C #[.int l p,.int l c,.int l h,.int l s]),Eqv (C #[.int l p,.int l c,.int l h,.int l s]),Eqv (C #[B A1 n1 a1,B A2 n2 a2]),CpB xs ys,Eqv (C #[.int l ra,.int l rb]),Eqv (C #[.int l ra,.int l rb]),Eqv (.int l z),RowT (fun W b v=>OwnV W b (v) L0) V1.heap.size [.int l r3],RowT (fun W b v=>OwnV W b (v) L0) V1.heap.size [.int l r3],RowE (fun W b v=>OwnV W b (v) L0) V1.heap.size,Eqv (.int l r3)] (by repeat (first|exact AllStb.nil|refine AllStb.cons (by first|exact aY _|exact stb_cpy _|exact lJ stO_V|exact lK stO_V|exact stb_cpb _ _) ?_)) ?_ ?_ ?_
 ·intro i o hi hX ho a' W hW hIW hfar hdep
  have hi8:i=10:=by simpa using hX
  clear hfar hX hi;subst hi8
  simp at ho
  subst ho
  ·obtain⟨u,bs,d1,-⟩:RowT (fun W b v=>OwnV W b (v) L0) V1.heap.size [.int l r3] (a'.tmps.getD 25 undef) W:=dp hdep 8
   replace d1:a'.tmps.getD 25 undef=I #[u,.int l r3]:=d1
   exact⟨.int l r3,fun W'=>by simp only[execOp,Act.eval,d1];go_simp,rfl⟩
 focus
  refine ?za
 rotate_left
 focus
  intro v V2 hW hIW hg
  have g0:v 0=_:=gq hg 0
  have g1:v 1=_:=gq hg 1
  have g2:v 2=_:=gq hg 2
  obtain⟨_,_,_,_,g3,_,_,_,_⟩:CpB xs ys (v 3) V2:=hg 3 (by omega)
  have g4:v 4=_:=gq hg 4
  have g5:v 5=_:=gq hg 5
  have g6:v 6=_:=gq hg 6
  obtain⟨_,_,g7,_,_⟩:RowT (fun W b v=>OwnV W b (v) L0) V1.heap.size [.int l r3] (v 7) V2:=hg 7 (by omega)
  obtain⟨_,_,g8,_,_⟩:RowT (fun W b v=>OwnV W b (v) L0) V1.heap.size [.int l r3] (v 8) V2:=hg 8 (by omega)
  obtain⟨bs,-,ho⟩:RowE (fun W b v=>OwnV W b (v) L0) V1.heap.size (v 9) V2:=hg 9 (by omega)
  obtain⟨Gw,cw,g9,-,-⟩:=ho.el;rw[g9]at ho
  have g10:v 10=_:=gq hg 10
  simp only[List.drop_succ_cons,List.drop_zero,putV,eK,g0,g1,g2,g3,g4,g5,g6,g7,g8,g9,g10,Act.put]
  clear g0 g1 g2 g3 g4 g5 g6 g7 g8 g9 g10 hg hIW;have hb:=hW.out;clear hW
  have uV2:=Below.size (show Below V1.heap.size V1 V2 from hb)
  replace C0:=h_ (C0.out.below hb);replace C1:=h_ (C1.out.below hb);replace C2:=h_ (C2.out.below hb);replace Sxs:=h_ (Sxs.out.below hb);replace Sys:=h_ (Sys.out.below hb);replace HB:=h_ (Bel.trans HB.out hb);clear hb
  have UHw:Hid (∀k,(B Gw L0.length cw:Value).ownBlock=some k->k<V2.heap.size):=fun k hk=>(ho.lt' (k:=k) hk).2
  have Hw:=h_ ho;clear ho;have cC1_0:=C1.out.cell 0 _ rfl;have cC1_1:=C1.out.cell 1 _ rfl
  go_wp2_with (fail)
  refine(et _ _ _ _ _ _ _ _ _ Sxs.out Sys.out hn1' hn2').mono ?_
  rintro e V3 ⟨Y1,y1,Y2,y2,rfl,ho1,ho2,hap,hb⟩
  have HAP:=h_ hap;clear hap;clear cC1_0 cC1_1;replace Hw:=h_ (Hw.out.below hb)
  have uV3:=Below.size (show Below V2.heap.size V2 V3 from hb)
  replace C0:=h_ (C0.out.below hb);replace C1:=h_ (C1.out.below hb);replace C2:=h_ (C2.out.below hb);replace Sxs:=h_ (Sxs.out.below hb);replace Sys:=h_ (Sys.out.below hb);replace HB:=h_ (Bel.trans HB.out hb);clear hb;have H1k:=h_ (ho1.sl rfl).2;have H2k:=h_ (ho2.sl rfl).2;have ho:=ho1;clear ho1
  have UH1:Hid (∀k,(B Y1 xs.length y1:Value).ownBlock=some k->k<V3.heap.size):=fun k hk=>(ho.lt k hk).2
  have H1:=h_ ho;clear ho;have ho:=ho2;clear ho2
  have UH2:Hid (∀k,(B Y2 ys.length y2:Value).ownBlock=some k->k<V3.heap.size):=fun k hk=>(ho.lt k hk).2
  have H2:=h_ ho;clear ho
  go_wp2_with (fail)
  obtain⟨V4,hV⟩:∃V,V=V3.alloc (F #[B Y1 xs.length y1,B Y2 ys.length y2] 35):=⟨_,rfl⟩;rw[<-hV]
  have hb:Below V3.heap.size V3 V4:=by rw[hV];exact Bel.alloc _ _
  have CX:Hid (Cel V4 V3.heap.size [B Y1 xs.length y1,B Y2 ys.length y2]):=by rw[hV];exact Cel.new' _ _ _ rfl
  clear hV;replace Hw:=h_ (Hw.out.below hb);replace H1:=h_ (H1.out.below hb);replace H2:=h_ (H2.out.below hb);replace C0:=h_ (C0.out.below hb);replace C1:=h_ (C1.out.below hb);replace C2:=h_ (C2.out.below hb);replace Sxs:=h_ (Sxs.out.below hb);replace Sys:=h_ (Sys.out.below hb);replace HB:=h_ (Bel.trans HB.out hb);clear hb;have zVX:=CX.out.lt
  refine w_ 10 (fun i=>i==9) eJ [Eqv (C #[.int l p,.int l c,.int l h,.int l s]),Eqv (C #[.int l p,.int l c,.int l h,.int l s]),Eqv (C #[B Y1 xs.length y1,B Y2 ys.length y2]),Eqv (C #[.int l ra,.int l rb]),Eqv (C #[.int l ra,.int l rb]),Eqv (.int l z),RowT (fun W b v=>OwnV W b (v) L0) V4.heap.size [.int l r3],RowT (fun W b v=>OwnV W b (v) L0) V4.heap.size [.int l r3],RowE (fun W b v=>OwnV W b (v) L0) V4.heap.size,Eqv (.int l r3)] (by repeat (first|exact AllStb.nil|refine AllStb.cons (by first|exact aY _|exact stb_cpy _|exact lJ stO_V|exact lK stO_V) ?_)) ?_ ?_ ?_
  ·intro i o hi hX ho a' W hW hIW hfar hdep
   have hi8:i=9:=by simpa using hX
   clear hfar hX hi;subst hi8
   simp at ho
   subst ho
   ·obtain⟨u,bs,d1,-⟩:RowT (fun W b v=>OwnV W b (v) L0) V4.heap.size [.int l r3] (a'.tmps.getD 38 undef) W:=dp hdep 7
    replace d1:a'.tmps.getD 38 undef=I #[u,.int l r3]:=d1
    exact⟨.int l r3,fun W'=>by simp only[execOp,Act.eval,d1];go_simp,rfl⟩
  focus
   refine ?zc
  rotate_left
  focus
   intro v V5 hW hIW hg
   have g0:v 0=_:=gq hg 0
   have g1:v 1=_:=gq hg 1
   have g2:v 2=_:=gq hg 2
   have g3:v 3=_:=gq hg 3
   have g4:v 4=_:=gq hg 4
   have g5:v 5=_:=gq hg 5
   obtain⟨_,_,g6,_,_⟩:RowT (fun W b v=>OwnV W b (v) L0) V4.heap.size [.int l r3] (v 6) V5:=hg 6 (by omega)
   obtain⟨_,_,g7,_,_⟩:RowT (fun W b v=>OwnV W b (v) L0) V4.heap.size [.int l r3] (v 7) V5:=hg 7 (by omega)
   obtain⟨bs,hbs,ho⟩:RowE (fun W b v=>OwnV W b (v) L0) V4.heap.size (v 8) V5:=hg 8 (by omega)
   obtain⟨Gg,cg,g8,-,-⟩:=ho.el;rw[g8]at ho
   have g9:v 9=_:=gq hg 9
   simp only[List.drop_succ_cons,List.drop_zero,putV,eJ,g0,g1,g2,g3,g4,g5,g6,g7,g8,g9,Act.put]
   clear g0 g1 g2 g3 g4 g5 g6 g7 g8 g9 hg hIW;have hb:=hW.out;have hbw:V4.heap.size<=bs:=hbs;clear hW hbs;replace Hw:=h_ (Hw.out.below hb);replace H1:=h_ (H1.out.below hb);replace H2:=h_ (H2.out.below hb);replace C0:=h_ (C0.out.below hb);replace C1:=h_ (C1.out.below hb);replace C2:=h_ (C2.out.below hb);replace CX:=h_ (CX.out.below hb);replace Sxs:=h_ (Sxs.out.below hb);replace Sys:=h_ (Sys.out.below hb);replace HB:=h_ (Bel.trans HB.out hb);clear hb;have Hg:=h_ ho;clear ho;have bg:=hbw;clear hbw
   go_wp2_with (fail)
   refine(dw _ _ _ _ _ _ _ (Hg.out.elv).1 (Hw.out.elv).1 (by omega)).mono ?_
   rintro e V6 ⟨rfl,hb⟩
   replace Hw:=h_ (Hw.out.below hb);replace H1:=h_ (H1.out.below hb);replace H2:=h_ (H2.out.below hb);replace Hg:=h_ (Hg.out.below hb);replace C0:=h_ (C0.out.below hb);replace C1:=h_ (C1.out.below hb);replace C2:=h_ (C2.out.below hb);replace CX:=h_ (CX.out.below hb);replace Sxs:=h_ (Sxs.out.below hb);replace Sys:=h_ (Sys.out.below hb);replace HB:=h_ (Bel.trans HB.out hb);clear hb
   go_wp2_with (fail)
   refine w_ 4 (fun _=>false) eh [Eqv (C #[B Y1 xs.length y1,B Y2 ys.length y2]),Eqv (C #[B A1 n1 a1,B A2 n2 a2]),CpB xs ys,Eqv (.bool true)] (by repeat (first|exact AllStb.nil|refine AllStb.cons (by first|exact aY _|exact stb_cpb _ _) ?_)) ?_ ?_ ?_
   ·intro i o hi hX ho a' W hW hIW hfar hdep
    exact absurd hX (by simp)
   ·intro i o hi hX ho a' W hW hIW hfar hdep
    have e1:a'.tmps.getD 12 undef=J (some ⟨V3.heap.size,0,none⟩):=(fr hfar 12).trans rfl
    have e2:a'.tmps.getD 5 undef=J (some ⟨w.heap.size+1,0,none⟩):=(fr hfar 5).trans rfl
    have hi8:=i_3 hi
    clear hfar hX hi
    rcases hi8 with rfl|rfl|rfl|rfl
    all_goals (simp at ho;subst ho)
    ·have zz:=CX.out.below hW
     have z0:=zz.cell 0 _ rfl;have z1:=zz.cell 1 _ rfl
     refine il ?_;simp only[execOp,Act.eval,e1];go_simp
    ·have zz:=C1.out.below hW
     have z0:=zz.cell 0 _ rfl;have z1:=zz.cell 1 _ rfl
     refine il ?_;simp only[execOp,Act.eval,e2];go_simp
    ·have d1:a'.tmps.getD 58 undef=_:=dp hdep 1
     refine .inr ⟨14,#[C #[B A1 n1 a1,B A2 n2 a2]],by simp only[execOp,Act.eval,d1];go_simp,?_⟩
     refine(et _ _ _ _ _ _ _ _ _ (Sxs.out.below hW) (Sys.out.below hW) hn1' hn2').mono ?_
     rintro e W' ⟨X1,k1,X2,k2,rfl,ho1,ho2,_,hb'⟩
     exact⟨_,rfl,hb',trivial,X1,k1,X2,k2,rfl,(ho1.sl rfl).1,(ho1.sl rfl).2,(ho2.sl rfl).1,(ho2.sl rfl).2⟩
    ·have d1:a'.tmps.getD 57 undef=_:=dp hdep 0
     obtain⟨X1,k1,X2,k2,d2,s1,-,s2,-⟩:CpB xs ys (a'.tmps.getD 59 undef) W:=dp hdep 2
     refine .inr ⟨18,#[C #[B Y1 xs.length y1,B Y2 ys.length y2],C #[B X1 xs.length k1,B X2 ys.length k2]],by simp only[execOp,Act.eval,d1,d2];go_simp,?_⟩
     refine(eqBoard_yes _ _ _ _ _ _ _ _ _ _ _ _ _ (SL.below (H1.out.sl rfl).1 hW) (SL.below (H2.out.sl rfl).1 hW) s1 s2 ox oy).mono ?_
     rintro e W' ⟨rfl,hb'⟩
     exact⟨_,rfl,hb',trivial,rfl⟩
   intro v V7 hW hIW hg
   have g0:v 0=_:=gq hg 0
   have g1:v 1=_:=gq hg 1
   obtain⟨_,_,_,_,g2,_,_,_,_⟩:CpB xs ys (v 2) V7:=hg 2 (by omega)
   have g3:v 3=_:=gq hg 3
   simp only[List.drop_succ_cons,List.drop_zero,putV,eh,g0,g1,g2,g3,Act.put]
   clear g0 g1 g2 g3 hg hIW;have hb:=hW;clear hW;replace Hw:=h_ (Hw.out.below hb);replace H1:=h_ (H1.out.below hb);replace H2:=h_ (H2.out.below hb);replace Hg:=h_ (Hg.out.below hb);replace C0:=h_ (C0.out.below hb);replace C1:=h_ (C1.out.below hb);replace C2:=h_ (C2.out.below hb);replace CX:=h_ (CX.out.below hb);replace HB:=h_ (Bel.trans HB.out hb);clear hb;have cCX_0:=CX.out.cell 0 _ rfl;have cCX_1:=CX.out.cell 1 _ rfl
   go_wp2_with (fail)
   have M:=me Y1 Y2 xs.length y1 ys.length y2 _ _ xs ys 1 V7 H1.out H2.out HAP.out ox oy (by omega)
   obtain⟨K1,hK1⟩:∃K:Int,((1+xs.length+ys.length:Nat):Int)=K:=⟨_,rfl⟩
   have hKp1:0<=K1:=by omega
   have hKn1:¬K1<0:=by omega
   rw[hK1]at M;clear hK1
   refine M.mono ?_
   rintro e V8 ⟨rfl,-,-,hf⟩
   clear M;clear cCX_0 cCX_1
   have LB:∀j,(some j=(Value.slice Y1 xs.length y1).ownBlock\/some j=(Value.slice Y2 ys.length y2).ownBlock)->V2.heap.size<=j/\j<V3.heap.size:=fun j h=>by
    rcases h with h|h
    ·exact⟨by have:=(H1.out.lt j h.symm).1;omega,UH1.out j h.symm⟩
    ·exact⟨by have:=(H2.out.lt j h.symm).1;omega,UH2.out j h.symm⟩
   replace C0:=h_ (C0.out.frm hf (fun h=>by have:=LB _ h;omega))
   replace C1:=h_ (C1.out.frm hf (fun h=>by have:=LB _ h;omega))
   replace C2:=h_ (C2.out.frm hf (fun h=>by have:=LB _ h;omega))
   replace Hw:=h_ (hf.rowV Hw.out (fun j hj h=>by have:=LB _ h;have:=UHw.out _ hj;omega))
   replace Hg:=h_ (hf.rowV Hg.out (fun j hj h=>by have:=LB _ h;have:=(Hg.out.lt' (k:=j) hj).1;omega))
   replace HB:=h_ (show Bel w V8 from frm_lo HB.out hf (fun j h=>by have:=LB _ h;omega))
   clear LB hf H1 UH1 H2 UH2 HAP
   go_wp2_with (fail)
   refine(dw _ _ _ _ _ _ _ (Hg.out.elv).1 (Hw.out.elv).1 (by omega)).mono ?_
   rintro e V9 ⟨rfl,hb⟩
   replace Hw:=h_ (Hw.out.below hb);replace Hg:=h_ (Hg.out.below hb);replace C0:=h_ (C0.out.below hb);replace C1:=h_ (C1.out.below hb);replace C2:=h_ (C2.out.below hb);replace HB:=h_ (Bel.trans HB.out hb);clear hb
   go_wp2_with (fail)
   have M:=iJ Gg L0.length cg _ L0 1 V9 Hg.out (by omega) (by omega)
   obtain⟨KM,hKM⟩:∃K:Int,((1+L0.length*4:Nat):Int)=K:=⟨_,rfl⟩
   have hMp:0<=KM:=by omega
   have hMn:¬KM<0:=by omega
   have hMM:(KM !=KM)=false:=by simp
   rw[hKM]at M;have HKM:=h_ hKM;clear hKM
   refine M.mono ?_
   rintro e V10 ⟨rfl,ho,hg⟩
   clear M;have hf:=Frm.of_grown hg;clear hg
   have LB:=fun j hj=>(Hg.out.lt' (k:=j) hj).1
   replace C0:=h_ (C0.out.frm hf (fun h=>by have:=LB _ h.symm;omega))
   replace C1:=h_ (C1.out.frm hf (fun h=>by have:=LB _ h.symm;omega))
   replace C2:=h_ (C2.out.frm hf (fun h=>by have:=LB _ h.symm;omega))
   replace Hw:=h_ (hf.rowV Hw.out (fun j hj h=>by have:=LB _ h.symm;have:=UHw.out _ hj;omega))
   replace HB:=h_ (show Bel w V10 from frm_lo HB.out hf (fun j h=>by have:=LB _ h.symm;omega))
   clear LB;replace Hg:=h_ ho;clear ho hf
   go_wp2_with (fail)
   have M:=eb Gg L0.length cg 1 V10 (Hg.out.elv).1 (by omega) (by omega)
   rw[HKM.out]at M
   refine M.mono ?_
   rintro e W' ⟨rfl,rfl⟩
   clear M;have Sxs:=h_ (Axs.out.below HB.out);have Sys:=h_ (Ays.out.below HB.out)
   go_wp2_with (fail)
   refine w_ 11 (fun i=>i==10) ee [Eqv (C #[.int l p,.int l c,.int l h,.int l s]),Eqv (C #[.int l p,.int l c,.int l h,.int l s]),Eqv (C #[B A1 n1 a1,B A2 n2 a2]),CpB xs ys,Eqv (C #[.int l ra,.int l rb]),Eqv (C #[.int l ra,.int l rb]),Eqv (.int l z),RowT (fun W b v=>OwnV W b (v) L0) V10.heap.size [.int l r3],RowT (fun W b v=>OwnV W b (v) L0) V10.heap.size [.int l r3],RowE (fun W b v=>OwnV W b (v) L0) V10.heap.size,Eqv (.int l r3)] (by repeat (first|exact AllStb.nil|refine AllStb.cons (by first|exact aY _|exact stb_cpy _|exact lJ stO_V|exact lK stO_V|exact stb_cpb _ _) ?_)) ?_ ?_ ?_
   ·intro i o hi hX ho a' W hW hIW hfar hdep
    have hi8:i=10:=by simpa using hX
    clear hfar hX hi;subst hi8
    simp at ho
    subst ho
    ·obtain⟨u,bs,d1,-⟩:RowT (fun W b v=>OwnV W b (v) L0) V10.heap.size [.int l r3] (a'.tmps.getD 89 undef) W:=dp hdep 8
     replace d1:a'.tmps.getD 89 undef=I #[u,.int l r3]:=d1
     exact⟨.int l r3,fun W'=>by simp only[execOp,Act.eval,d1];go_simp,rfl⟩
   ·intro i o hi hX ho a' W hW hIW hfar hdep
    have e3:a'.tmps.getD 3 undef= .int l z:=(fr hfar 3).trans rfl
    have e4:a'.tmps.getD 4 undef=J (some ⟨w.heap.size,0,none⟩):=(fr hfar 4).trans rfl
    have e5:a'.tmps.getD 5 undef=J (some ⟨(w.heap.size+1),0,none⟩):=(fr hfar 5).trans rfl
    have e6:a'.tmps.getD 6 undef=J (some ⟨(w.heap.size+1+1),0,none⟩):=(fr hfar 6).trans rfl
    have hi8:i=0\/i=1\/i=2\/i=3\/i=4\/i=5\/i=6\/i=7\/i=8\/i=9:=by simp at hX;omega
    clear hfar hX hi
    rcases hi8 with rfl|rfl|rfl|rfl|rfl|rfl|rfl|rfl|rfl|rfl
    all_goals (simp at ho;subst ho)
    ·have zz:=C0.out.below hW
     have z0:=zz.cell 0 _ rfl;have z1:=zz.cell 1 _ rfl;have z2:=zz.cell 2 _ rfl;have z3:=zz.cell 3 _ rfl
     refine il ?_;simp only[execOp,Act.eval,e4];go_simp
    ·have d1:a'.tmps.getD 90 undef=_:=dp hdep 0
     refine .inr ⟨13,#[C #[.int l p,.int l c,.int l h,.int l s]],by simp only[execOp,Act.eval,d1];go_simp,?_⟩
     refine(er _ _ _ _ _).mono ?_
     rintro e W' ⟨rfl,hb'⟩
     exact⟨_,rfl,hb',trivial,rfl⟩
    ·have zz:=C1.out.below hW
     have z0:=zz.cell 0 _ rfl;have z1:=zz.cell 1 _ rfl
     refine il ?_;simp only[execOp,Act.eval,e5];go_simp
    ·have d1:a'.tmps.getD 92 undef=_:=dp hdep 2
     refine .inr ⟨14,#[C #[B A1 n1 a1,B A2 n2 a2]],by simp only[execOp,Act.eval,d1];go_simp,?_⟩
     refine(et _ _ _ _ _ _ _ _ _ (Sxs.out.below hW) (Sys.out.below hW) hn1' hn2').mono ?_
     rintro e W' ⟨X1,k1,X2,k2,rfl,ho1,ho2,_,hb'⟩
     exact⟨_,rfl,hb',trivial,X1,k1,X2,k2,rfl,(ho1.sl rfl).1,(ho1.sl rfl).2,(ho2.sl rfl).1,(ho2.sl rfl).2⟩
    ·have zz:=C2.out.below hW
     have z0:=zz.cell 0 _ rfl;have z1:=zz.cell 1 _ rfl
     refine il ?_;simp only[execOp,Act.eval,e6];go_simp
    ·have d1:a'.tmps.getD 94 undef=_:=dp hdep 4
     refine .inr ⟨15,#[C #[.int l ra,.int l rb]],by simp only[execOp,Act.eval,d1];go_simp,?_⟩
     refine(iC _ _ _).mono ?_
     rintro e W' ⟨rfl,hb'⟩
     exact⟨_,rfl,hb',trivial,rfl⟩
    ·refine il ?_;simp only[execOp,Act.eval,e3];go_simp
    ·have d91:a'.tmps.getD 91 undef=_:=dp hdep 1
     obtain⟨X1,k1,X2,k2,d93,s1,l1,s2,l2⟩:CpB xs ys (a'.tmps.getD 93 undef) W:=dp hdep 3
     have d95:a'.tmps.getD 95 undef=_:=dp hdep 5
     have d96:a'.tmps.getD 96 undef=_:=dp hdep 6
     refine .inr ⟨16,#[C #[.int l p,.int l c,.int l h,.int l s],C #[B X1 xs.length k1,B X2 ys.length k2],C #[.int l ra,.int l rb],.int l z],by simp only[execOp,Act.eval,d91,d93,d95,d96];go_simp,?_⟩
     refine(CI.out W X1 k1 X2 k2 s1 s2 l1 l2).mono ?_
     rintro e W' ⟨u,bs,rfl,hbs,ho,hb'⟩
     exact⟨_,rfl,hb',trivial,u,bs,rfl,Nat.le_trans (Below.size hW) hbs,ho⟩
    ·obtain⟨u,bs,d1,h1,h2⟩:RowT (fun W b v=>OwnV W b (v) L0) V10.heap.size [.int l r3] (a'.tmps.getD 97 undef) W:=dp hdep 7
     replace d1:a'.tmps.getD 97 undef=I #[u,.int l r3]:=d1
     exact .inl ⟨I #[u,.int l r3],W,by simp only[execOp,Act.eval,d1];go_simp,Bel.rfl' _,trivial,u,bs,rfl,h1,h2⟩
    ·obtain⟨u,bs,d1,h1,h2⟩:RowT (fun W b v=>OwnV W b (v) L0) V10.heap.size [.int l r3] (a'.tmps.getD 89 undef) W:=dp hdep 8
     replace d1:a'.tmps.getD 89 undef=I #[u,.int l r3]:=d1
     exact .inl ⟨u,W,by simp only[execOp,Act.eval,d1];go_simp,Bel.rfl' _,trivial,bs,h1,h2⟩
   intro v V11 hW hIW hg
   have g0:v 0=_:=gq hg 0
   have g1:v 1=_:=gq hg 1
   have g2:v 2=_:=gq hg 2
   obtain⟨_,_,_,_,g3,_,_,_,_⟩:CpB xs ys (v 3) V11:=hg 3 (by omega)
   have g4:v 4=_:=gq hg 4
   have g5:v 5=_:=gq hg 5
   have g6:v 6=_:=gq hg 6
   obtain⟨_,_,g7,_,_⟩:RowT (fun W b v=>OwnV W b (v) L0) V10.heap.size [.int l r3] (v 7) V11:=hg 7 (by omega)
   obtain⟨_,_,g8,_,_⟩:RowT (fun W b v=>OwnV W b (v) L0) V10.heap.size [.int l r3] (v 8) V11:=hg 8 (by omega)
   obtain⟨bs,-,ho⟩:RowE (fun W b v=>OwnV W b (v) L0) V10.heap.size (v 9) V11:=hg 9 (by omega)
   obtain⟨Gh,ch,g9,-,-⟩:=ho.el;rw[g9]at ho
   have g10:v 10=_:=gq hg 10
   simp only[List.drop_succ_cons,List.drop_zero,putV,ee,g0,g1,g2,g3,g4,g5,g6,g7,g8,g9,g10,Act.put]
   clear g0 g1 g2 g3 g4 g5 g6 g7 g8 g9 g10 hg hIW;have hb:=hW.out;clear hW;replace Hw:=h_ (Hw.out.below hb);replace Hg:=h_ (Hg.out.below hb);replace HB:=h_ (Bel.trans HB.out hb);clear hb;have Hh:=h_ ho;clear ho
   go_wp2_with (fail)
   refine(dw _ _ _ _ _ _ _ (Hh.out.elv).1 (Hw.out.elv).1 (by omega)).mono ?_
   rintro e V12 ⟨rfl,hb⟩
   replace Hg:=h_ (Hg.out.below hb);replace HB:=h_ (Bel.trans HB.out hb);clear hb
   go_wp2_with (fail)
   have M:=eb Gg L0.length cg 1 V12 (Hg.out.elv).1 (by omega) (by omega)
   rw[HKM.out]at M
   refine M.mono ?_
   rintro e W' ⟨rfl,rfl⟩
   clear M
   go_wp2_with (fail)
   go_ret
   exact⟨rfl,HB.out⟩
 case' zc|za=>
  intro i o hi hX ho a' W hW hIW hfar hdep
  have e3:a'.tmps.getD 3 undef= .int l z:=(fr hfar 3).trans rfl
  have e4:a'.tmps.getD 4 undef=J (some ⟨w.heap.size,0,none⟩):=(fr hfar 4).trans rfl
 case' za=>
  have e5:a'.tmps.getD 5 undef=J (some ⟨(w.heap.size+1),0,none⟩):=(fr hfar 5).trans rfl
 case' za|zc=>
  have e6:a'.tmps.getD 6 undef=J (some ⟨(w.heap.size+1+1),0,none⟩):=(fr hfar 6).trans rfl
 case' za=>
  have hi8:i=0\/i=1\/i=2\/i=3\/i=4\/i=5\/i=6\/i=7\/i=8\/i=9:=by simp at hX;omega
  clear hfar hX hi
 case za=>
  rcases hi8 with rfl|rfl|rfl|rfl|rfl|rfl|rfl|rfl|rfl|rfl
  all_goals (simp at ho;subst ho)
  ·have zz:=C0.out.below hW
   have z0:=zz.cell 0 _ rfl;have z1:=zz.cell 1 _ rfl;have z2:=zz.cell 2 _ rfl;have z3:=zz.cell 3 _ rfl
   refine il ?_;simp only[execOp,Act.eval,e4];go_simp
  ·have d1:a'.tmps.getD 26 undef=_:=dp hdep 0
   refine .inr ⟨13,#[C #[.int l p,.int l c,.int l h,.int l s]],by simp only[execOp,Act.eval,d1];go_simp,?_⟩
   refine(er _ _ _ _ _).mono ?_
   rintro e W' ⟨rfl,hb'⟩
   exact⟨_,rfl,hb',trivial,rfl⟩
  ·have zz:=C1.out.below hW
   have z0:=zz.cell 0 _ rfl;have z1:=zz.cell 1 _ rfl
   refine il ?_;simp only[execOp,Act.eval,e5];go_simp
  ·have d1:a'.tmps.getD 28 undef=_:=dp hdep 2
   refine .inr ⟨14,#[C #[B A1 n1 a1,B A2 n2 a2]],by simp only[execOp,Act.eval,d1];go_simp,?_⟩
   refine(et _ _ _ _ _ _ _ _ _ (Sxs.out.below hW) (Sys.out.below hW) hn1' hn2').mono ?_
   rintro e W' ⟨X1,k1,X2,k2,rfl,ho1,ho2,_,hb'⟩
   exact⟨_,rfl,hb',trivial,X1,k1,X2,k2,rfl,(ho1.sl rfl).1,(ho1.sl rfl).2,(ho2.sl rfl).1,(ho2.sl rfl).2⟩
  ·have zz:=C2.out.below hW
   have z0:=zz.cell 0 _ rfl;have z1:=zz.cell 1 _ rfl
   refine il ?_;simp only[execOp,Act.eval,e6];go_simp
  ·have d1:a'.tmps.getD 30 undef=_:=dp hdep 4
   refine .inr ⟨15,#[C #[.int l ra,.int l rb]],by simp only[execOp,Act.eval,d1];go_simp,?_⟩
   refine(iC _ _ _).mono ?_
   rintro e W' ⟨rfl,hb'⟩
   exact⟨_,rfl,hb',trivial,rfl⟩
  ·refine il ?_;simp only[execOp,Act.eval,e3];go_simp
  ·have d27:a'.tmps.getD 27 undef=_:=dp hdep 1
   obtain⟨X1,k1,X2,k2,d29,s1,l1,s2,l2⟩:CpB xs ys (a'.tmps.getD 29 undef) W:=dp hdep 3
   have d31:a'.tmps.getD 31 undef=_:=dp hdep 5
   have d32:a'.tmps.getD 32 undef=_:=dp hdep 6
   refine .inr ⟨12,#[C #[.int l p,.int l c,.int l h,.int l s],C #[B X1 xs.length k1,B X2 ys.length k2],C #[.int l ra,.int l rb],.int l z],by simp only[execOp,Act.eval,d27,d29,d31,d32];go_simp,?_⟩
   refine(CS.out W X1 k1 X2 k2 s1 s2 l1 l2).mono ?_
   rintro e W' ⟨u,bs,rfl,hbs,ho,hb'⟩
   exact⟨_,rfl,hb',trivial,u,bs,rfl,Nat.le_trans (Below.size hW) hbs,ho⟩
  ·obtain⟨u,bs,d1,h1,h2⟩:RowT (fun W b v=>OwnV W b (v) L0) V1.heap.size [.int l r3] (a'.tmps.getD 33 undef) W:=dp hdep 7
   replace d1:a'.tmps.getD 33 undef=I #[u,.int l r3]:=d1
   exact .inl ⟨I #[u,.int l r3],W,by simp only[execOp,Act.eval,d1];go_simp,Bel.rfl' _,trivial,u,bs,rfl,h1,h2⟩
  ·obtain⟨u,bs,d1,h1,h2⟩:RowT (fun W b v=>OwnV W b (v) L0) V1.heap.size [.int l r3] (a'.tmps.getD 25 undef) W:=dp hdep 8
   replace d1:a'.tmps.getD 25 undef=I #[u,.int l r3]:=d1
   exact .inl ⟨u,W,by simp only[execOp,Act.eval,d1];go_simp,Bel.rfl' _,trivial,bs,h1,h2⟩
 case zc=>
  have e12:a'.tmps.getD 12 undef=J (some ⟨V3.heap.size,0,none⟩):=(fr hfar 12).trans rfl
  have hi8:i=0\/i=1\/i=2\/i=3\/i=4\/i=5\/i=6\/i=7\/i=8:=by simp at hX;omega
  clear hfar hX hi
  rcases hi8 with rfl|rfl|rfl|rfl|rfl|rfl|rfl|rfl|rfl
  all_goals (simp at ho;subst ho)
  ·have zz:=C0.out.below hW
   have z0:=zz.cell 0 _ rfl;have z1:=zz.cell 1 _ rfl;have z2:=zz.cell 2 _ rfl;have z3:=zz.cell 3 _ rfl
   refine il ?_;simp only[execOp,Act.eval,e4];go_simp
  ·have d1:a'.tmps.getD 39 undef=_:=dp hdep 0
   refine .inr ⟨13,#[C #[.int l p,.int l c,.int l h,.int l s]],by simp only[execOp,Act.eval,d1];go_simp,?_⟩
   refine(er _ _ _ _ _).mono ?_
   rintro e W' ⟨rfl,hb'⟩
   exact⟨_,rfl,hb',trivial,rfl⟩
  ·have zz:=CX.out.below hW
   have z0:=zz.cell 0 _ rfl;have z1:=zz.cell 1 _ rfl
   refine il ?_;simp only[execOp,Act.eval,e12];go_simp
  ·have zz:=C2.out.below hW
   have z0:=zz.cell 0 _ rfl;have z1:=zz.cell 1 _ rfl
   refine il ?_;simp only[execOp,Act.eval,e6];go_simp
  ·have d1:a'.tmps.getD 42 undef=_:=dp hdep 3
   refine .inr ⟨15,#[C #[.int l ra,.int l rb]],by simp only[execOp,Act.eval,d1];go_simp,?_⟩
   refine(iC _ _ _).mono ?_
   rintro e W' ⟨rfl,hb'⟩
   exact⟨_,rfl,hb',trivial,rfl⟩
  ·refine il ?_;simp only[execOp,Act.eval,e3];go_simp
  ·have d40:a'.tmps.getD 40 undef=_:=dp hdep 1
   have d41:a'.tmps.getD 41 undef=_:=dp hdep 2
   have d43:a'.tmps.getD 43 undef=_:=dp hdep 4
   have d44:a'.tmps.getD 44 undef=_:=dp hdep 5
   refine .inr ⟨16,#[C #[.int l p,.int l c,.int l h,.int l s],C #[B Y1 xs.length y1,B Y2 ys.length y2],C #[.int l ra,.int l rb],.int l z],by simp only[execOp,Act.eval,d40,d41,d43,d44];go_simp,?_⟩
   refine(CI.out W _ _ _ _ ((H1.out.sl rfl).1.below hW) ((H2.out.sl rfl).1.below hW) H1k.out H2k.out).mono ?_
   rintro e W' ⟨u,bs,rfl,hbs,ho,hb'⟩
   exact⟨_,rfl,hb',trivial,u,bs,rfl,Nat.le_trans (Below.size hW) hbs,ho⟩
  ·obtain⟨u,bs,d1,h1,h2⟩:RowT (fun W b v=>OwnV W b (v) L0) V4.heap.size [.int l r3] (a'.tmps.getD 45 undef) W:=dp hdep 6
   replace d1:a'.tmps.getD 45 undef=I #[u,.int l r3]:=d1
   exact .inl ⟨I #[u,.int l r3],W,by simp only[execOp,Act.eval,d1];go_simp,Bel.rfl' _,trivial,u,bs,rfl,h1,h2⟩
  ·obtain⟨u,bs,d1,h1,h2⟩:RowT (fun W b v=>OwnV W b (v) L0) V4.heap.size [.int l r3] (a'.tmps.getD 38 undef) W:=dp hdep 7
   replace d1:a'.tmps.getD 38 undef=I #[u,.int l r3]:=d1
   exact .inl ⟨u,W,by simp only[execOp,Act.eval,d1];go_simp,Bel.rfl' _,trivial,bs,h1,h2⟩
open Go.ChangeShapes Go.WideShapes Go.ChangeAt Go.RowKit Go.Joins Go.Deep
theorem cellsV:Tryz.prog.cellsOf 23=4:=by kernel_rfl
theorem cellsB:Tryz.prog.cellsOf 26=2:=by kernel_rfl
theorem cellsR:Tryz.prog.cellsOf 28=2:=by kernel_rfl
theorem cellsS:Tryz.prog.cellsOf 24=1:=by kernel_rfl
theorem ki:Tryz.prog.cellsOf 2=1:=by kernel_rfl
section
variable {H:Type}{enc:TypeId×Value->H}{w:World}{base:Nat}{spare:Nat->Bool}{held:Bool}{fuel:Nat}
theorem fld{t:TypeId}{fs:Array Field}{cs:List Value}{x:DataW H×List MemPlace}(ht:Tryz.prog.underlying t=some (.struct fs))(h:DataW.trod enc Tryz.prog w base spare held fuel t cs=some x):
  cs.length=Tryz.prog.cellsOf t/\∃n,∀(i:Nat) (f:Field),fs[i]? =some f->∃y,DataW.trod enc Tryz.prog w base spare held n f.type ((cs.drop f.offset).take (Tryz.prog.cellsOf f.type))=some y:=by
 obtain⟨xs,n,_,_,hl,hx,hf⟩:=DataW.trod_struct ht h
 refine⟨hl,n,fun i f hi=>?_⟩
 have hlt:i<xs.length:=by rw[hx];exact(Array.getElem?_eq_some_iff.1 hi).1
 exact⟨_,(hf i f hi).trans (List.getElem?_eq_getElem hlt)⟩
theorem fldT{t:TypeId}{cs:List Value}{y0:DataW H×List MemPlace}{P:Program}{n:Nat}{t':TypeId}{cs':List Value}(h:DataW.trod enc P w base spare held n t cs=some y0)(e1:t=t')(e2:cs=cs'):DataW.trod enc P w base spare held n t' cs'=some y0:=by subst e1 e2;exact h
theorem iG{cs:List Value}{x:DataW H×List MemPlace}(h:DataW.trod enc Tryz.prog w base spare held fuel 2 cs=some x):∃n:Int,cs=[.int l n]/\(Lit.int l n).wf=true:=by
 obtain⟨n,h1,_,h2⟩:=DataW.trod_int Tryz.underlying2 h
 exact⟨n,h1,h2⟩
theorem openSL{cs:List Value}{x:DataW H×List MemPlace}(h:DataW.trod enc Tryz.prog w base spare held fuel 24 cs=some x):
  ∃A n c xs,cs=[B A n c]/\SL w A n xs/\n<=maxLen/\∀z∈xs,(Lit.int l z).wf=true:=by
 rcases open_ints Tryz.underlying24 Tryz.underlying2 ki h with⟨rfl,_⟩|⟨a,len,cap,zs,rfl,_,hl,hm,hz,_,hcell,hw⟩
 ·exact⟨none,0,0,[],rfl,SL.nil_ _,by simp[maxLen],by simp⟩
 ·have hle:len<=zs.length:=by rw[hz];split<;>omega
  refine⟨some a,len,cap,zs.take len,rfl,⟨by simp;omega,fun hn=>?_⟩,by omega,fun z hz'=>hw z (List.mem_of_mem_take hz')⟩
  obtain⟨b,off,spot⟩:=a
  have h0:=hcell 0 (by omega)
  have hspot:spot=none:=by simpa[Addr.add]using World.cell?_spot h0
  subst hspot
  refine⟨b,off,rfl,World.block_lt_of_cell? w _ h0,fun i hi=>?_⟩
  have h1:=hcell i (by omega)
  rw[add_plain]at h1;rw[h1]
  simp[List.getD,List.getElem?_take,hi]
theorem openBoard{cs:List Value}{x:DataW H×List MemPlace}(h:DataW.trod enc Tryz.prog w base spare held fuel 26 cs=some x):
  ∃A1 n1 c1 xs A2 n2 c2 ys,cs=[B A1 n1 c1,B A2 n2 c2]/\SL w A1 n1 xs/\n1<=maxLen/\SL w A2 n2 ys/\n2<=maxLen:=by
 obtain⟨hl,n,hf⟩:=fld Tryz.underlying26 h;obtain⟨y0,h0⟩:=hf 0 _ rfl;obtain⟨y1,h1⟩:=hf 1 _ rfl;rw[cellsB]at hl
 match cs,hl with
 | [v0,v1],_=>
  obtain⟨A1,n1,c1,xs,e1,s1,m1,_⟩:=openSL (fldT h0 (t':=24) (cs':=[v0]) rfl (by show List.take (Tryz.prog.cellsOf 24) _=_;rw[cellsS];rfl))
  obtain⟨A2,n2,c2,ys,e2,s2,m2,_⟩:=openSL (fldT h1 (t':=24) (cs':=[v1]) rfl (by show List.take (Tryz.prog.cellsOf 24) _=_;rw[cellsS];rfl))
  simp at e1 e2
  subst e1 e2
  exact⟨A1,n1,c1,xs,A2,n2,c2,ys,rfl,s1,m1,s2,m2⟩
theorem openVariant{cs:List Value}{x:DataW H×List MemPlace}(h:DataW.trod enc Tryz.prog w base spare held fuel 23 cs=some x):
  ∃p c g s:Int,cs=[.int l p,.int l c,.int l g,.int l s]/\(Lit.int l p).wf=true/\(Lit.int l c).wf=true/\(Lit.int l g).wf=true/\(Lit.int l s).wf=true:=by
 obtain⟨hl,n,hf⟩:=fld Tryz.underlying23 h;obtain⟨y0,h0⟩:=hf 0 _ rfl;obtain⟨y1,h1⟩:=hf 1 _ rfl;obtain⟨y2,h2⟩:=hf 2 _ rfl;obtain⟨y3,h3⟩:=hf 3 _ rfl;rw[cellsV]at hl
 match cs,hl with
 | [v0,v1,v2,v3],_=>
  obtain⟨p,e0,w0⟩:=iG (fldT h0 (t':=2) (cs':=[v0]) rfl (by show List.take (Tryz.prog.cellsOf 2) _=_;rw[ki];rfl))
  obtain⟨c,e1,w1⟩:=iG (fldT h1 (t':=2) (cs':=[v1]) rfl (by show List.take (Tryz.prog.cellsOf 2) _=_;rw[ki];rfl))
  obtain⟨g,e2,w2⟩:=iG (fldT h2 (t':=2) (cs':=[v2]) rfl (by show List.take (Tryz.prog.cellsOf 2) _=_;rw[ki];rfl))
  obtain⟨s,e3,w3⟩:=iG (fldT h3 (t':=2) (cs':=[v3]) rfl (by show List.take (Tryz.prog.cellsOf 2) _=_;rw[ki];rfl))
  simp at e0 e1 e2 e3
  subst e0 e1 e2 e3
  exact⟨p,c,g,s,rfl,w0,w1,w2,w3⟩
theorem openRoll{cs:List Value}{x:DataW H×List MemPlace}(h:DataW.trod enc Tryz.prog w base spare held fuel 28 cs=some x):
  ∃p c:Int,cs=[.int l p,.int l c]/\(Lit.int l p).wf=true/\(Lit.int l c).wf=true:=by
 obtain⟨hl,n,hf⟩:=fld Tryz.underlying28 h;obtain⟨y0,h0⟩:=hf 0 _ rfl;obtain⟨y1,h1⟩:=hf 1 _ rfl;rw[cellsR]at hl
 match cs,hl with
 | [v0,v1],_=>
  obtain⟨p,e0,w0⟩:=iG (fldT h0 (t':=2) (cs':=[v0]) rfl (by show List.take (Tryz.prog.cellsOf 2) _=_;rw[ki];rfl))
  obtain⟨c,e1,w1⟩:=iG (fldT h1 (t':=2) (cs':=[v1]) rfl (by show List.take (Tryz.prog.cellsOf 2) _=_;rw[ki];rfl))
  simp at e0 e1
  subst e0 e1
  exact⟨p,c,rfl,w0,w1⟩
end
end Go.Proofs.YtcmeoenkgmghkaaGreat

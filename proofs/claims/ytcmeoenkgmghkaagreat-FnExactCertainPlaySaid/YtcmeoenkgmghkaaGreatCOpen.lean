/- Part of one proof. There are no conditions. -/
import Derived.Test.YtcmeoenkgmghkaaGreatCY36
import Derived.ProofKit
import Derived.OpenShut
import Derived.Lib.SmallJoins
import Derived.Deep.Slices
import Derived.Deep.Fields
import Derived.ChangeSame
import Derived.ChangeSlices
import Derived.Below
set_option linter.unusedVariables false
set_option linter.unusedSimpArgs false
set_option maxHeartbeats 0
set_option maxRecDepth 100000
open Go.Value renaming slice->d,agg->l,pointer->B
open Go.IntKind renaming i64->j
open Go.Obj renaming cells->m
open Go.Ending renaming returned->q
namespace Go.Proofs.YtcmeoenkgmghkaaGreat
open Go.RowKit Pl Ps Ra Ex
structure JI(V:World)(TP:World->Value->(Nat->Prop)->Prop)(ev:Nat->Option Value)(L:Nat->Bool)(vs:Nat->Value)(W:World):Prop where
 b:Below V.heap.size V W
 eq:∀i y,i<9->L i=true->ev i=some y->vs i=y
 al:L 8=true->∃g,vs 8=B (some ⟨g,0,none⟩)/\V.heap.size<=g/\Cel W g [.int j 0,.int j 0,.int j 0,.int j 0]
 ra:L 1=true->L 4=false->∃(S:Nat->Prop) (l1 hi:Nat),TP W (vs 1) S/\hi<=W.heap.size/\V.heap.size<=l1/\l1<=hi/\(∀k,S k->l1<=k/\k<hi)/\∀g,L 8=true->vs 8=B (some ⟨g,0,none⟩)->g<l1\/hi<=g
section
variable {V W W':World}{TP:World->Value->(Nat->Prop)->Prop}{ev:Nat->Option Value}{L L':Nat->Bool}{vs vs':Nat->Value}{i:Nat}{v:Value}
theorem JI.alloc(H:JI V TP ev L vs W)(T:TypeId)(hu:Upd 9 8 (B (some ⟨W.heap.size,0,none⟩)) L vs L' vs')(he:ev 8=none)(hst:∀W W' v S,TP W v S->Below W.heap.size W W'->TP W' v S):JI V TP ev L' vs' (W.alloc (m #[.int j 0,.int j 0,.int j 0,.int j 0] T)):=by
 obtain⟨-,u2,u3⟩:=hu;have hb:Below W.heap.size W (W.alloc (m #[.int j 0,.int j 0,.int j 0,.int j 0] T)):=Bel.alloc W _
 have e3:=u3 4 (by omega) (by omega)
 have e1:=u3 1 (by omega) (by omega)
 refine⟨H.b.trans (hb.mono H.b.size),fun k y hk hl he'=>?_,fun hl=>⟨_,u2,H.b.size,Cel.new W #[.int j 0,.int j 0,.int j 0,.int j 0] T⟩,fun hl hl3=>?_⟩
 ·by_cases ek:k=8
  ·subst ek;rw[he]at he';cases he'
  ·rw[(u3 k hk ek).2];exact H.eq k y hk (by rw[<-(u3 k hk ek).1];exact hl) he'
 ·obtain⟨S,l1,hi,a1,a7,a8,a8',a9,_⟩:=H.ra (by rw[<-e1.1];exact hl) (by rw[<-e3.1];exact hl3)
  refine⟨S,l1,hi,by rw[e1.2];exact hst _ _ _ _ a1 hb,Nat.le_trans a7 hb.size,a8,a8',a9,fun g _ hg2=>.inr ?_⟩
  rw[u2]at hg2;injection hg2 with hg2;injection hg2 with hg2;injection hg2 with hg2
  omega
end
open Go.RowKit
theorem iT(A1 A2:Option Addr)(n c1 c2:Nat)(xs:List Int)(w:World)(h1:SL w A1 n xs)(h2:SL w A2 n xs)(hn:n<=2000000):
  Calls Tryz.prog 32 #[d A1 n c1,d A2 n c2] w fun e w'=>e=q (.bool true)/\Below w.heap.size w w':=by
 have H1:=h_ h1;have H2:=h_ h2;clear h1 h2
 go_enter Tryz.func32,Tryz.ntmps32
 go_wp2_with (fail)
 go_loopw [5] (fun i wr=>∃k:Nat,k<=n/\i= .int j k/\Below w.heap.size w wr) (fun i _=>n-(intOf i).toNat)
 case atStart=>exact⟨0,by omega,rfl,Below.refl _ _⟩
 case round=>
  obtain⟨k,hk,rfl,hb⟩:=hrel
  by_cases hlt:k<n
  ·obtain⟨x1,o1,rfl,hb1,hc1⟩:=(H1.out.keep (Nat.le_refl _) hb).2 (by omega)
   obtain⟨x2,o2,rfl,hb2,hc2⟩:=(H2.out.keep (Nat.le_refl _) hb).2 (by omega)
   have q1:=hc1 k hlt;have q2:=hc2 k hlt
   have hki:(k:Int)<(n:Int):=by omega
   have hk0:(0:Int)<=(k:Int):=by omega
   clear hc1 hc2;generalize xs.getD k 0=u at *
   go_wp2_with (fail)
   refine ac (by kernel_rfl) (by kernel_rfl) ?_
   repeat (first|go_big_quiet_step ((fail))|quiet_step ((fail)))
   refine wpQuiet_nil ?_
   intro _ hw'
   obtain⟨tq,hw''⟩:=hw';subst hw'';have hbm:=aa wr tq
   go_wp2
   go_roundw
   case rel=>exact⟨k+1,by omega,by go_num,hb.trans (hbm.mono hb.size)⟩
   case measure=>simp[intOf];omega
  ·go_wp2
   go_ret
   exact⟨rfl,hb⟩
theorem eqBoard_yes(A1 A2 B1 B2:Option Addr)(n1 c1 n2 c2 d1 d2:Nat)(xs ys:List Int)(w:World)(h1:SL w A1 n1 xs)(h2:SL w A2 n2 ys)(k1:SL w B1 n1 xs)(k2:SL w B2 n2 ys)(hn1:n1<=2000000)(hn2:n2<=2000000):
  Calls Tryz.prog 18 #[l #[d A1 n1 c1,d A2 n2 c2],l #[d B1 n1 d1,d B2 n2 d2]] w fun e w'=>e=q (.bool true)/\Below w.heap.size w w':=by
 have HB:Hid (Below w.heap.size w ((w.alloc (m #[d A1 n1 c1,d A2 n2 c2] 35)).alloc (m #[d B1 n1 d1,d B2 n2 d2] 35))):=((Below.refl _ _).alloc (Nat.le_refl _) _).alloc (by simp) _
 have C1:=h_ (iT A1 B1 n1 c1 d1 xs _ (h1.below HB.out) (k1.below HB.out) hn1)
 have C2:=h_ fun t=>iT A2 B2 n2 c2 d2 ys (more _ t) ((h2.below HB.out).more t) ((k2.below HB.out).more t) hn2
 clear h1 h2 k1 k2
 go_enter Tryz.func18,Tryz.ntmps18
 go_wp2_with (first|(go_at_call_of 32 A1;refine(more_first C1.out).mono ?_;rintro e w' ⟨rfl,t,rfl⟩)|(go_at_call_of 32 A2;refine(more_call (C2.out _)).mono ?_;rintro e w' ⟨rfl,t,rfl⟩))
 go_ret
 exact⟨rfl,HB.out.trans ((aa _ _).mono HB.out.size)⟩
def SBs(w:World)(A:Option Addr)(n:Nat)(bs:List (List Int×List Int)):Prop:=
 bs.length=n/\(0<n->∃b off,A=some ⟨b,off,none⟩/\b<w.heap.size/\∀i,i<n->∃A1 n1 c1 A2 n2 c2,w.cell? ⟨b,off+i*2,none⟩=some (d A1 n1 c1)/\w.cell? ⟨b,off+i*2+1,none⟩=some (d A2 n2 c2)/\
  SL w A1 n1 (bs.getD i ([],[])).1/\SL w A2 n2 (bs.getD i ([],[])).2/\n1<=maxLen/\n2<=maxLen)
theorem SBs.below{w w':World}{A:Option Addr}{n:Nat}{bs:List (List Int×List Int)}(h:SBs w A n bs)(hb:Below w.heap.size w w'):SBs w' A n bs:=by
 refine⟨h.1,fun hn=>?_⟩
 obtain⟨b,off,hA,hlt,hc⟩:=h.2 hn
 refine⟨b,off,hA,Nat.lt_of_lt_of_le hlt hb.size,fun i hi=>?_⟩
 obtain⟨A1,n1,c1,A2,n2,c2,h1,h2,h3,h4,h5,h6⟩:=hc i hi
 exact⟨A1,n1,c1,A2,n2,c2,ae h1 hb,ae h2 hb,h3.below hb,h4.below hb,h5,h6⟩
theorem SBs.more{w:World}{A:Option Addr}{n:Nat}{bs:List (List Int×List Int)}(h:SBs w A n bs)(t:World):SBs (more w t) A n bs:=h.below (aa w t)
theorem SBs.alloc{w:World}{A:Option Addr}{n:Nat}{bs:List (List Int×List Int)}(h:SBs w A n bs)(o:Obj):SBs (w.alloc o) A n bs:=h.below ((Below.refl _ _).alloc (Nat.le_refl _) o)
def RetZ(w:World)(left:Int)(tot:Nat)(en:Ending)(w':World):Prop:=∃r:Int,en=q (.int j r)/\-1<=r/\r<=left/\(0<=r->(tot:Int)<=left-r)/\Below w.heap.size w w'
theorem iK(A:Option Addr)(n c:Nat)(left:Int)(w:World)(hn:n<=9223372036854775807)(hl:0<=left)(hl2:left<=1048576):
  Calls Tryz.prog 64 #[d A n c,.int j left] w (RetZ w left n):=by
 by_cases h:left-n<0
 ·have HF:Hid (RetZ w left n (q (.int j (-1))) w):=⟨-1,rfl,by omega,by omega,by omega,Below.refl _ _⟩
  go_enter Tryz.func64,Tryz.ntmps64
  go_wp2
  go_ret
  exact HF.out
 ·have HF:Hid (RetZ w left n (q (.int j (left-n))) w):=⟨left-n,rfl,by omega,by omega,by omega,Below.refl _ _⟩
  go_enter Tryz.func64,Tryz.ntmps64
  go_wp2
  go_ret
  exact HF.out
theorem szBoard_any(A1 A2:Option Addr)(n1 c1 n2 c2:Nat)(left:Int)(w:World)(hn1:n1<=9223372036854775807)(hn2:n2<=9223372036854775807)(hl:0<=left)(hl2:left<=1048576):
  Calls Tryz.prog 11 #[l #[d A1 n1 c1,d A2 n2 c2],.int j left] w (RetZ w left (n1+n2)):=by
 have hb:Below w.heap.size w (w.alloc (m #[d A1 n1 c1,d A2 n2 c2] 26)):=(Below.refl _ _).alloc (Nat.le_refl _) _;have HB:=h_ hb;clear hb
 go_enter Tryz.func11,Tryz.ntmps11
 go_wp2_with (fail)
 refine(iK A1 n1 c1 left _ hn1 hl hl2).mono ?_
 rintro e w1 ⟨r,rfl,hr1,hr2,hr3,hb1⟩
 have d1:w1.cell? ⟨w.heap.size,1,none⟩=some (d A2 n2 c2):=ae (by simp[go_sem]) hb1
 have HB1:=h_ (HB.out.trans (hb1.mono HB.out.size));have H3:=h_ hr3;clear hb1 hr3
 by_cases h0:r<0
 ·have HF:Hid (∀W,Below w.heap.size w W->RetZ w left (n1+n2) (q (.int j (-1))) W):=fun W hW=>⟨-1,rfl,by omega,by omega,by omega,hW⟩
  go_wp2_with (fail)
  go_ret
  exact HF.out _ HB1.out
 ·go_wp2_with (fail)
  refine(iK A2 n2 c2 r _ hn2 (by omega) (by omega)).mono ?_
  rintro e w2 ⟨r2,rfl,hq1,hq2,hq3,hb2⟩
  have HB2:=h_ (HB1.out.trans (hb2.mono HB1.out.size))
  have HF:Hid (RetZ w left (n1+n2) (q (.int j r2)) w2):=⟨r2,rfl,hq1,by omega,fun h=>by have:=hq3 h;have:=H3.out (by omega);omega,HB2.out⟩
  have HF':Hid (RetZ w left (n1+n2) (q (.int j (-1))) w2):=⟨-1,rfl,by omega,by omega,by omega,HB2.out⟩
  clear hb2 hq3
  by_cases h2:r2<0
  ·go_wp2_with (fail)
   go_ret
   exact HF'.out
  ·go_wp2_with (fail)
   go_ret
   exact HF.out
theorem mixZ_step(xs:List Int)(n k:Nat)(hl:xs.length=n)(h:k<n):(xs.take k++List.replicate (n-k) (0:Int)).set k (xs.getD k 0)=xs.take (k+1)++List.replicate (n-(k+1)) 0:=by
 have hk:(xs.take k).length=k:=by rw[List.length_take];omega
 have e:n-k=(n-(k+1))+1:=by omega
 have h':k<xs.length:=by omega
 have g:xs.getD k 0=xs[k]:=by simp[List.getD,h']
 rw[List.set_append_right _ _ (by omega),hk,Nat.sub_self,e,List.replicate_succ,List.set_cons_zero,List.take_succ_eq_append_getElem h',List.append_assoc,g]
 rfl
theorem iJ(A:Option Addr)(n c:Nat)(xs:List Int)(w:World)(hx:SL w A n xs)(hn:n<=2000000):
  Calls Tryz.prog 68 #[d A n c] w (RetO w 2 xs):=by
 obtain⟨i0,hi,hz0,hz1,hz2⟩:=info_parts Tryz.infoI;have HX:=h_ hx;clear hx
 go_enter Tryz.func68,Tryz.ntmps68
 go_wp2_with (at_make;refine wpList_make_full _ rfl _ _ 24 rfl w.heap.size 2 i0 (.int j 0) 1 Tryz.underlying24 hi hz0 hz1 _ _ _ _ n rfl rfl rfl rfl (by rw[hz2];omega) (by unfold maxLen;omega) (Nat.le_refl _) ?_;intro w1 hown hgrow)
 have hb:Below w.heap.size w w1:=(Below.refl _ _).grown hgrow (Nat.le_refl _) (by simp)
 have hO:OwnS w1 w.heap.size 2 (d (some ⟨w.heap.size,0,none⟩) n n) (xs.take 0++List.replicate (n-0) 0):=by
  unfold OwnS
  simp only[List.take_zero,List.nil_append,Nat.sub_zero,List.length_replicate,List.map_replicate]
  have e:(madeCells #[Value.int j 0] (n*1)).toList=List.replicate n (Value.int j 0):=by rw[Nat.mul_one];exact toList_madeCells_one _ _
  first|(rw[show(Value.int IntKind.i64 0).cells=#[Value.int j 0]from rfl,e]at hown;exact hown)|(rw[e]at hown;exact hown)|(rw[Nat.mul_one]at e;rw[e]at hown;exact hown)
 have HO:=h_ hO;have HB:=h_ hb;clear hown hgrow hb hO
 go_wp2_with (fail)
 go_loopw [4] (fun i wr=>∃k:Nat,k<=n/\i= .int j k/\OwnS wr w.heap.size 2 (d (some ⟨w.heap.size,0,none⟩) n n) (xs.take k++List.replicate (n-k) 0)/\Below w.heap.size w wr) (fun i _=>n-(intOf i).toNat)
 case atStart=>exact⟨0,by omega,rfl,HO.out,HB.out⟩
 case round=>
  obtain⟨k,hk,rfl,ho,hb⟩:=hrel
  by_cases hlt:k<n
  ·obtain⟨b,off,rfl,hbl,hc⟩:=(HX.out.keep (Nat.le_refl _) hb).2 (by omega)
   have q1:=hc k hlt
   obtain⟨b',off',hA',hbl',_⟩:=HX.out.2 (by omega)
   injection hA' with hA';injection hA' with hA1 hA2;subst hA1 hA2
   obtain⟨g,hg0,_,_,hcl,hfr⟩:=ao ho (by omega)
   injection hg0 with hg0;injection hg0 with hg0 _;subst hg0;have q2:=hcl k hlt;have q3:=hfr k
   have hki:(k:Int)<(n:Int):=by omega
   have hk0:(0:Int)<=(k:Int):=by omega
   have HN:=h_ (ho.stored k (xs.getD k 0));have HM:=h_ (mixZ_step xs n k HX.out.1 hlt);have HB2:=h_ (hb.setCell (p:=⟨w.heap.size,k,none⟩) (Nat.le_refl _) (.int j (xs.getD k 0)));clear hc hcl hfr ho hb;generalize (xs.take k++List.replicate (n-k) 0).getD k 0=u at *;generalize xs.getD k 0=x at *
   go_wp2_with (fail)
   go_roundw
   case rel=>exact⟨k+1,by omega,by go_num,by rw[<-HM.out];exact HN.out,HB2.out⟩
   case measure=>simp[intOf];omega
  ·obtain rfl:k=n:=by omega
   have HF:Hid (RetO w 2 xs (q (d (some ⟨w.heap.size,0,none⟩) k k)) wr):=by
    have h:=ho
    rw[List.take_of_length_le (by rw[HX.out.1];exact Nat.le_refl _),Nat.sub_self,List.replicate_zero,List.append_nil]at h
    exact RetO.mk h hb
   clear ho hb
   go_wp2_with (fail)
   go_ret
   exact HF.out
def RetBd(w:World)(own other:List Int)(en:Ending)(w':World):Prop:=∃A1 c1 A2 c2,en=q (l #[d A1 own.length c1,d A2 other.length c2])/\
 OwnS w' w.heap.size 2 (d A1 own.length c1) own/\OwnS w' w.heap.size 2 (d A2 other.length c2) other/\
 ((Value.slice A1 own.length c1).ownBlock=none\/(Value.slice A1 own.length c1).ownBlock≠(Value.slice A2 other.length c2).ownBlock)/\Below w.heap.size w w'
theorem kC(a b:Int)(w:World):
  Calls Tryz.prog 15 #[l #[.int j a,.int j b]] w fun e w'=>e=q (l #[.int j a,.int j b])/\Below w.heap.size w w':=by
 go_enter Tryz.func15,Tryz.ntmps15
 go_wp2
 exact bodyPost_ret (v:=l #[.int j a,.int j b]) (by simp[results,Tryz.results15,go_sem]) rfl ⟨rfl,(((Below.refl _ _).alloc (Nat.le_refl _) _).alloc (by simp) _).alloc (by simp;omega) _⟩
theorem fR(A1 A2:Option Addr)(n1 c1 n2 c2:Nat)(xs ys:List Int)(w:World)(h1:SL w A1 n1 xs)(h2:SL w A2 n2 ys)(hn1:n1<=2000000)(hn2:n2<=2000000):
  Calls Tryz.prog 14 #[l #[d A1 n1 c1,d A2 n2 c2]] w (RetBd w xs ys):=by
 have HB:Hid (Below w.heap.size w (((w.alloc (m #[d A1 n1 c1,d A2 n2 c2] 26)).alloc (m #[d none 0 0,d none 0 0] 35)).alloc (m #[d none 0 0,d none 0 0] 35))):=(((Below.refl _ _).alloc (Nat.le_refl _) _).alloc (by simp) _).alloc (by simp;omega) _
 have H1:=h_ (h1.below HB.out);have H2:=h_ h2;clear h1 h2
 go_enter Tryz.func14,Tryz.ntmps14
 go_wp2_with (fail)
 refine(iJ A1 n1 c1 xs _ H1.out hn1).mono ?_
 rintro e w1 ⟨B1,k1,rfl,ho1,hb1⟩
 obtain⟨W0,hW0⟩:∃W,W=(((w.alloc (m #[d A1 n1 c1,d A2 n2 c2] 26)).alloc (m #[d none 0 0,d none 0 0] 35)).alloc (m #[d none 0 0,d none 0 0] 35)):=⟨_,rfl⟩;rw[<-hW0]at hb1 ho1
 have b1:w1.cell? ⟨w.heap.size,1,none⟩=some (d A2 n2 c2):=ae (by rw[hW0];simp[go_sem]) hb1
 have d0:w1.cell? ⟨w.heap.size+1+1,0,none⟩=some (d none 0 0):=ae (by rw[hW0];simp[go_sem]) hb1
 have d1:w1.cell? ⟨w.heap.size+1+1,1,none⟩=some (d none 0 0):=ae (by rw[hW0];simp[go_sem]) hb1
 have e0:w1.cell? ⟨w.heap.size+1,0,none⟩=some (d none 0 0):=ae (by rw[hW0];simp[go_sem]) hb1
 have e1:w1.cell? ⟨w.heap.size+1,1,none⟩=some (d none 0 0):=ae (by rw[hW0];simp[go_sem]) hb1
 have fd0:w1.frozen? ⟨w.heap.size+1+1,0,none⟩=false:=aS (w:=W0) (v:=d none 0 0) (by rw[hW0];simp[go_sem]) (by rw[hW0];simp[go_sem]) hb1
 have fd1:w1.frozen? ⟨w.heap.size+1+1,1,none⟩=false:=aS (w:=W0) (v:=d none 0 0) (by rw[hW0];simp[go_sem]) (by rw[hW0];simp[go_sem]) hb1
 have fe0:w1.frozen? ⟨w.heap.size+1,0,none⟩=false:=aS (w:=W0) (v:=d none 0 0) (by rw[hW0];simp[go_sem]) (by rw[hW0];simp[go_sem]) hb1
 have fe1:w1.frozen? ⟨w.heap.size+1,1,none⟩=false:=aS (w:=W0) (v:=d none 0 0) (by rw[hW0];simp[go_sem]) (by rw[hW0];simp[go_sem]) hb1
 have hz0:w.heap.size+2<W0.heap.size:=by rw[hW0];simp
 have HB1:=h_ ((by rw[hW0];exact HB.out:Below w.heap.size w W0).trans (hb1.mono (by omega)))
 have HO1:=h_ ho1;have hsz1:=hb1.size;clear hb1 ho1 hW0 H1 HB
 go_wp2_with (fail)
 have HBs:=h_ (HB1.out.setCell (p:=⟨w.heap.size+1+1,0,none⟩) (by simp;omega) (d B1 xs.length k1))
 have HOs:=h_ (HO1.out.setLow (a:=⟨w.heap.size+1+1,0,none⟩) (by exact hz0) (d B1 xs.length k1))
 refine(iJ A2 n2 c2 ys _ (H2.out.keep (Nat.le_refl _) HBs.out) hn2).mono ?_
 rintro e w2 ⟨B2,k2,rfl,ho2,hb2⟩
 have q0:w2.cell? ⟨w.heap.size+1+1,0,none⟩=some (d B1 xs.length k1):=ae (by simp[go_sem,d0]) hb2
 have q1:w2.cell? ⟨w.heap.size+1+1,1,none⟩=some (d none 0 0):=ae (by simp[go_sem,d1]) hb2
 have r0:w2.cell? ⟨w.heap.size+1,0,none⟩=some (d none 0 0):=ae (by simp[go_sem,e0]) hb2
 have r1:w2.cell? ⟨w.heap.size+1,1,none⟩=some (d none 0 0):=ae (by simp[go_sem,e1]) hb2
 have fq1:w2.frozen? ⟨w.heap.size+1+1,1,none⟩=false:=aS (v:=d none 0 0) (by simp[go_sem,fd1]) (by simp[go_sem,d1]) hb2
 have fr0:w2.frozen? ⟨w.heap.size+1,0,none⟩=false:=aS (v:=d none 0 0) (by simp[go_sem,fe0]) (by simp[go_sem,e0]) hb2
 have fr1:w2.frozen? ⟨w.heap.size+1,1,none⟩=false:=aS (v:=d none 0 0) (by simp[go_sem,fe1]) (by simp[go_sem,e1]) hb2
 have HF:Hid (RetBd w xs ys (q (l #[d B1 xs.length k1,d B2 ys.length k2])) (((w2.setCell ⟨w.heap.size+1+1,1,none⟩ (d B2 ys.length k2)).setCell ⟨w.heap.size+1,0,none⟩ (d B1 xs.length k1)).setCell ⟨w.heap.size+1,1,none⟩ (d B2 ys.length k2))):=by
  have hz1:w.heap.size+2<(w1.setCell ⟨w.heap.size+1+1,0,none⟩ (d B1 xs.length k1)).heap.size:=by simp;omega
  refine⟨B1,k1,B2,k2,rfl,?_,?_,?_,?_⟩
  ·exact((((HOs.out.below hb2).setLow (a:=⟨w.heap.size+1+1,1,none⟩) (by exact hz0) _).setLow (a:=⟨w.heap.size+1,0,none⟩) (by show w.heap.size+1<W0.heap.size;omega) _).setLow (a:=⟨w.heap.size+1,1,none⟩) (by show w.heap.size+1<W0.heap.size;omega) _).mono (by omega)
  ·exact(((ho2.setLow (a:=⟨w.heap.size+1+1,1,none⟩) (by exact hz1) _).setLow (a:=⟨w.heap.size+1,0,none⟩) (Nat.lt_trans (by show w.heap.size+1<w.heap.size+2;omega) hz1) _).setLow (a:=⟨w.heap.size+1,1,none⟩) (Nat.lt_trans (by show w.heap.size+1<w.heap.size+2;omega) hz1) _).mono (by omega)
  ·exact own_apart HOs.out ho2 (Nat.le_refl _)
  ·exact((((HBs.out.trans (hb2.mono (by omega))).setCell (by simp;omega) _).setCell (by simp) _).setCell (by simp) _)
 clear hb2 ho2 hsz1
 go_wp2_with (fail)
 exact bodyPost_ret (v:=l #[d B1 xs.length k1,d B2 ys.length k2]) (by simp[results,Tryz.results14,go_sem,r0,r1]) rfl HF.out
open Go.RowKit Pl Ps Ra Ex
def CpB(xs ys:List Int):RP:=fun v W=>∃X1 k1 X2 k2,v=l #[d X1 xs.length k1,d X2 ys.length k2]/\SL W X1 xs.length xs/\xs.length<=k1/\SL W X2 ys.length ys/\ys.length<=k2
theorem stb_cpb(xs ys:List Int):Stb (CpB xs ys):=fun _ _ _ ⟨X1,k1,X2,k2,h1,h2,h3,h4,h5⟩ hb=>⟨X1,k1,X2,k2,h1,h2.below hb,h3,h4.below hb,h5⟩
def fM:Nat->Nat
 | 0=>21
 | 1=>22
 | 2=>23
 | 3=>24
 | 4=>25
 | 5=>26
 | 6=>27
 | 7=>28
 | 8=>20
 | 9=>29
 | 10=>30
 |_=>0
def fL:Nat->Nat
 | 0=>34
 | 1=>35
 | 2=>36
 | 3=>37
 | 4=>38
 | 5=>39
 | 6=>40
 | 7=>33
 | 8=>41
 | 9=>42
 |_=>0
def eW:Nat->Nat
 | 0=>51
 | 1=>52
 | 2=>53
 | 3=>54
 |_=>0
theorem jY(p c h s:Int)(A1 A2:Option Addr)(n1 a1 n2 a2:Nat)(xs ys:List Int)(ra rb:Int)(z:Int)(w:World)(hx:SL w A1 n1 xs)(hy:SL w A2 n2 ys)(hm1:n1<=maxLen)(hm2:n2<=maxLen):
  Calls Tryz.prog 6 #[l #[.int j p,.int j c,.int j h,.int j s],l #[d A1 n1 a1,d A2 n2 a2],l #[.int j ra,.int j rb],.int j z] w fun e w'=>e=q (.bool true)/\Below w.heap.size w w':=by
 have hV0:Bel w (((w.alloc (m #[.int j p,.int j c,.int j h,.int j s] 23)).alloc (m #[d A1 n1 a1,d A2 n2 a2] 26)).alloc (m #[.int j ra,.int j rb] 28)):=(Bel.trans (Bel.trans (Bel.alloc _ _) (Bel.alloc _ _)) (Bel.alloc _ _))
 have C0:Cel (((w.alloc (m #[.int j p,.int j c,.int j h,.int j s] 23)).alloc (m #[d A1 n1 a1,d A2 n2 a2] 26)).alloc (m #[.int j ra,.int j rb] 28)) (w.heap.size) [.int j p,.int j c,.int j h,.int j s]:=((Cel.new' _ _ _ (by simp)).alloc _).alloc _
 have C1:Cel (((w.alloc (m #[.int j p,.int j c,.int j h,.int j s] 23)).alloc (m #[d A1 n1 a1,d A2 n2 a2] 26)).alloc (m #[.int j ra,.int j rb] 28)) (w.heap.size+1) [d A1 n1 a1,d A2 n2 a2]:=(Cel.new' _ _ _ (by simp)).alloc _
 have Sxs:=h_ (hx.below hV0);have Sys:=h_ (hy.below hV0);have Lx:=h_ hx.1;have Ly:=h_ hy.1;clear hx hy;have HB:=h_ hV0;clear hV0;replace C0:=h_ C0;replace C1:=h_ C1
 have C2:Hid (Cel (((w.alloc (m #[.int j p,.int j c,.int j h,.int j s] 23)).alloc (m #[d A1 n1 a1,d A2 n2 a2] 26)).alloc (m #[.int j ra,.int j rb] 28)) (w.heap.size+1+1) [.int j ra,.int j rb]):=Cel.new' _ _ _ (by simp)
 obtain⟨r,hr⟩:∃r,r=cpR p c h s xs ys z ra rb:=⟨_,rfl⟩;obtain⟨r0,r3⟩:=r
 have CZ:=h_ fun(W:World)=>szBoard_any A1 A2 n1 a1 n2 a2 1048576 W (by unfold maxLen at hm1;omega) (by unfold maxLen at hm2;omega) (by omega) (by omega)
 go_enter Tryz.func6,Tryz.ntmps6
 go_wp2_with (fail)
 generalize (((w.alloc (m #[.int j p,.int j c,.int j h,.int j s] 23)).alloc (m #[d A1 n1 a1,d A2 n2 a2] 26)).alloc (m #[.int j ra,.int j rb] 28))=V at *
 refine(CZ.out _).mono ?_
 rintro e V1 ⟨r,rfl,hr1,hr2,hr3,hb⟩
 clear CZ;replace C0:=h_ (C0.out.below hb);replace C1:=h_ (C1.out.below hb);replace C2:=h_ (C2.out.below hb);replace Sxs:=h_ (Sxs.out.below hb);replace Sys:=h_ (Sys.out.below hb);replace HB:=h_ (Bel.trans HB.out hb);clear hb
 by_cases hneg:r<0
 ·go_wp2_with (fail)
  go_ret
  exact⟨rfl,HB.out⟩
 have hsz:=hr3 (by omega)
 have hn1':n1<=2000000:=by omega
 have hn2':n2<=2000000:=by omega
 have ox:xs.length<=2000000:=by rw[Lx.out];exact hn1'
 have oy:ys.length<=2000000:=by rw[Ly.out];exact hn2'
 clear hr1 hr2 hr3 hsz
 have CS:Hid (∀(W:World) (X1 X2:Option Addr) (k1 k2:Nat),SL W X1 xs.length xs->SL W X2 ys.length ys->xs.length<=k1->ys.length<=k2->Calls Tryz.prog 28 #[l #[.int j p,.int j c,.int j h,.int j s],l #[d X1 xs.length k1,d X2 ys.length k2],l #[.int j ra,.int j rb],.int j z] W fun e w'=>e=q (.tuple #[.int j r0,.int j r3])/\Below W.heap.size W w'):=fun W X1 X2 k1 k2 s1 s2 l1 l2=>by
  have:=iX p c h s z ra rb X1 X2 _ k1 _ k2 xs ys W s1 s2 l1 l2 ox oy;rw[<-hr]at this;exact this
 have CI:Hid (∀(W:World) (X1 X2:Option Addr) (k1 k2:Nat),SL W X1 xs.length xs->SL W X2 ys.length ys->xs.length<=k1->ys.length<=k2->Calls Tryz.prog 29 #[l #[.int j p,.int j c,.int j h,.int j s],l #[d X1 xs.length k1,d X2 ys.length k2],l #[.int j ra,.int j rb],.int j z] W fun e w'=>e=q (.tuple #[.int j r0,.int j r3])/\Below W.heap.size W w'):=fun W X1 X2 k1 k2 s1 s2 l1 l2=>by
  have:=kg p c h s z ra rb X1 X2 _ k1 _ k2 xs ys W s1 s2 l1 l2 ox oy;rw[<-hr]at this;exact this
 clear hr
 go_wp2_with (fail)
 refine w_ 11 (fun i=>i==10) fM [Eqv (l #[.int j p,.int j c,.int j h,.int j s]),Eqv (l #[.int j p,.int j c,.int j h,.int j s]),Eqv (l #[d A1 n1 a1,d A2 n2 a2]),CpB xs ys,Eqv (l #[.int j ra,.int j rb]),Eqv (l #[.int j ra,.int j rb]),Eqv (.int j z),Eqv (.tuple #[.int j r0,.int j r3]),Eqv (.tuple #[.int j r0,.int j r3]),Eqv (.int j r0),Eqv (.int j r3)] (by repeat (first|exact AllStb.nil|refine AllStb.cons (by first|exact bf _|exact stb_cpy _|exact stb_alc _ _|exact stb_cpb _ _) ?_)) ?_ ?_ ?_
 ·intro i o hi hX ho a' W hW hIW hfar hdep
  have hi8:i=10:=by simpa using hX
  clear hfar hX hi;subst hi8
  simp at ho
  subst ho
  ·have d1:a'.tmps.getD 20 undef=_:=dp hdep 8
   exact⟨.int j r3,fun W'=>by simp only[execOp,Act.eval,d1];go_simp,rfl⟩
 focus
  refine ?za
 rotate_left
 focus
  intro v V2 hW hIW hg
  have g0:v 0=_:=gq hg 0
  have g1:v 1=_:=gq hg 1
  have g2:v 2=_:=gq hg 2
  obtain⟨_,_,_,_,g3,_,_,_,_⟩:CpB xs ys (v 3) V2:=hg 3 (by omega)
  have g4:v 4=_:=gq hg 4
  have g5:v 5=_:=gq hg 5
  have g6:v 6=_:=gq hg 6
  have g7:v 7=_:=gq hg 7
  have g8:v 8=_:=gq hg 8
  have g9:v 9=_:=gq hg 9
  have g10:v 10=_:=gq hg 10
  simp only[List.drop_succ_cons,List.drop_zero,putV,fM,g0,g1,g2,g3,g4,g5,g6,g7,g8,g9,g10,Act.put]
  clear g0 g1 g2 g3 g4 g5 g6 g7 g8 g9 g10 hg hIW;replace hW:=h_ hW;have qC1:=C1.out.below hW.out;have cC1_0:=qC1.cell 0 _ rfl;have cC1_1:=qC1.cell 1 _ rfl
  go_wp2_with (fail)
  have hb:=hW.out;clear hW;replace C0:=h_ (C0.out.below hb);replace C1:=h_ (C1.out.below hb);replace C2:=h_ (C2.out.below hb);replace Sxs:=h_ (Sxs.out.below hb);replace Sys:=h_ (Sys.out.below hb);replace HB:=h_ (Bel.trans HB.out hb);clear hb
  refine(fR _ _ _ _ _ _ _ _ _ Sxs.out Sys.out hn1' hn2').mono ?_
  rintro e V3 ⟨Y1,y1,Y2,y2,rfl,ho1,ho2,_,hb⟩
  have T1:=h_ (ho1.sl rfl).1;have T1k:=h_ (ho1.sl rfl).2;have T2:=h_ (ho2.sl rfl).1;have T2k:=h_ (ho2.sl rfl).2;clear ho1 ho2;replace C0:=h_ (C0.out.below hb);replace C1:=h_ (C1.out.below hb);replace C2:=h_ (C2.out.below hb);replace Sxs:=h_ (Sxs.out.below hb);replace Sys:=h_ (Sys.out.below hb);replace HB:=h_ (Bel.trans HB.out hb);clear hb
  go_wp2_with (fail)
  obtain⟨V4,hV⟩:∃V,V=V3.alloc (m #[d Y1 xs.length y1,d Y2 ys.length y2] 35):=⟨_,rfl⟩;rw[<-hV]
  have hb:Below V3.heap.size V3 V4:=by rw[hV];exact Bel.alloc _ _
  have CX:Hid (Cel V4 V3.heap.size [d Y1 xs.length y1,d Y2 ys.length y2]):=by rw[hV];exact Cel.new' _ _ _ rfl
  clear hV;replace C0:=h_ (C0.out.below hb);replace C1:=h_ (C1.out.below hb);replace C2:=h_ (C2.out.below hb);replace Sxs:=h_ (Sxs.out.below hb);replace Sys:=h_ (Sys.out.below hb);replace T1:=h_ (T1.out.below hb);replace T2:=h_ (T2.out.below hb);replace HB:=h_ (Bel.trans HB.out hb);clear hb
  refine w_ 10 (fun i=>i==9) fL [Eqv (l #[.int j p,.int j c,.int j h,.int j s]),Eqv (l #[.int j p,.int j c,.int j h,.int j s]),Eqv (l #[d Y1 xs.length y1,d Y2 ys.length y2]),Eqv (l #[.int j ra,.int j rb]),Eqv (l #[.int j ra,.int j rb]),Eqv (.int j z),Eqv (.tuple #[.int j r0,.int j r3]),Eqv (.tuple #[.int j r0,.int j r3]),Eqv (.int j r0),Eqv (.int j r3)] (by repeat (first|exact AllStb.nil|refine AllStb.cons (by first|exact bf _|exact stb_cpy _|exact stb_alc _ _) ?_)) ?_ ?_ ?_
  ·intro i o hi hX ho a' W hW hIW hfar hdep
   have hi8:i=9:=by simpa using hX
   clear hfar hX hi;subst hi8
   simp at ho
   subst ho
   ·have d1:a'.tmps.getD 33 undef=_:=dp hdep 7
    exact⟨.int j r3,fun W'=>by simp only[execOp,Act.eval,d1];go_simp,rfl⟩
  focus
   refine ?zb
  rotate_left
  focus
   intro v V5 hW hIW hg
   have g0:v 0=_:=gq hg 0
   have g1:v 1=_:=gq hg 1
   have g2:v 2=_:=gq hg 2
   have g3:v 3=_:=gq hg 3
   have g4:v 4=_:=gq hg 4
   have g5:v 5=_:=gq hg 5
   have g6:v 6=_:=gq hg 6
   have g7:v 7=_:=gq hg 7
   have g8:v 8=_:=gq hg 8
   have g9:v 9=_:=gq hg 9
   simp only[List.drop_succ_cons,List.drop_zero,putV,fL,g0,g1,g2,g3,g4,g5,g6,g7,g8,g9,Act.put]
   clear g0 g1 g2 g3 g4 g5 g6 g7 g8 g9 hg hIW;replace hW:=h_ hW
   go_wp2_with (fail)
   have hb:=hW.out;clear hW;replace C1:=h_ (C1.out.below hb);replace CX:=h_ (CX.out.below hb);replace Sxs:=h_ (Sxs.out.below hb);replace Sys:=h_ (Sys.out.below hb);replace T1:=h_ (T1.out.below hb);replace T2:=h_ (T2.out.below hb);replace HB:=h_ (Bel.trans HB.out hb);clear hb
   refine w_ 4 (fun _=>false) eW [Eqv (l #[d Y1 xs.length y1,d Y2 ys.length y2]),Eqv (l #[d A1 n1 a1,d A2 n2 a2]),CpB xs ys,Eqv (.bool true)] (by repeat (first|exact AllStb.nil|refine AllStb.cons (by first|exact bf _|exact stb_cpb _ _) ?_)) ?_ ?_ ?_
   ·intro i o hi hX ho a' W hW hIW hfar hdep
    exact absurd hX (by simp)
   ·intro i o hi hX ho a' W hW hIW hfar hdep
    have e1:a'.tmps.getD 12 undef=B (some ⟨V3.heap.size,0,none⟩):=(fr hfar 12).trans rfl
    have e2:a'.tmps.getD 5 undef=B (some ⟨w.heap.size+1,0,none⟩):=(fr hfar 5).trans rfl
    have hi8:=i_3 hi
    clear hfar hX hi
    rcases hi8 with rfl|rfl|rfl|rfl
    all_goals (simp at ho;subst ho)
    ·have zz:=CX.out.below hW
     have z0:=zz.cell 0 _ rfl;have z1:=zz.cell 1 _ rfl
     refine il ?_;simp only[execOp,Act.eval,e1];go_simp
    ·have zz:=C1.out.below hW
     have z0:=zz.cell 0 _ rfl;have z1:=zz.cell 1 _ rfl
     refine il ?_;simp only[execOp,Act.eval,e2];go_simp
    ·have d1:a'.tmps.getD 52 undef=_:=dp hdep 1
     refine .inr ⟨14,#[l #[d A1 n1 a1,d A2 n2 a2]],by simp only[execOp,Act.eval,d1];go_simp,?_⟩
     refine(fR _ _ _ _ _ _ _ _ _ (Sxs.out.below hW) (Sys.out.below hW) hn1' hn2').mono ?_
     rintro e W' ⟨X1,k1,X2,k2,rfl,ho1,ho2,_,hb'⟩
     exact⟨_,rfl,hb',trivial,X1,k1,X2,k2,rfl,(ho1.sl rfl).1,(ho1.sl rfl).2,(ho2.sl rfl).1,(ho2.sl rfl).2⟩
    ·have d1:a'.tmps.getD 51 undef=_:=dp hdep 0
     obtain⟨X1,k1,X2,k2,d2,s1,-,s2,-⟩:CpB xs ys (a'.tmps.getD 53 undef) W:=dp hdep 2
     refine .inr ⟨18,#[l #[d Y1 xs.length y1,d Y2 ys.length y2],l #[d X1 xs.length k1,d X2 ys.length k2]],by simp only[execOp,Act.eval,d1,d2];go_simp,?_⟩
     refine(eqBoard_yes _ _ _ _ _ _ _ _ _ _ _ _ _ (T1.out.below hW) (T2.out.below hW) s1 s2 ox oy).mono ?_
     rintro e W' ⟨rfl,hb'⟩
     exact⟨_,rfl,hb',trivial,rfl⟩
   intro v W hW hIW hg
   have g0:v 0=_:=gq hg 0
   have g1:v 1=_:=gq hg 1
   obtain⟨_,_,_,_,g2,_,_,_,_⟩:CpB xs ys (v 2) W:=hg 2 (by omega)
   have g3:v 3=_:=gq hg 3
   simp only[List.drop_succ_cons,List.drop_zero,putV,eW,g0,g1,g2,g3,Act.put]
   clear g0 g1 g2 g3 hg hIW;have HB2:Hid (Below w.heap.size w W):=Bel.trans HB.out hW;clear hW
   go_wp2_with (fail)
   go_ret
   exact⟨rfl,HB2.out⟩
 case' za|zb=>
  intro i o hi hX ho a' W hW hIW hfar hdep
  have e3:a'.tmps.getD 3 undef= .int j z:=(fr hfar 3).trans rfl
  have e4:a'.tmps.getD 4 undef=B (some ⟨w.heap.size,0,none⟩):=(fr hfar 4).trans rfl
 case' za=>
  have e5:a'.tmps.getD 5 undef=B (some ⟨w.heap.size+1,0,none⟩):=(fr hfar 5).trans rfl
 case' za|zb=>
  have e6:a'.tmps.getD 6 undef=B (some ⟨w.heap.size+1+1,0,none⟩):=(fr hfar 6).trans rfl
 case za=>
  have hi8:i=0\/i=1\/i=2\/i=3\/i=4\/i=5\/i=6\/i=7\/i=8\/i=9:=by simp at hX;omega
  clear hfar hX hi
  rcases hi8 with rfl|rfl|rfl|rfl|rfl|rfl|rfl|rfl|rfl|rfl
  all_goals (simp at ho;subst ho)
  ·have zz:=C0.out.below hW
   have z0:=zz.cell 0 _ rfl;have z1:=zz.cell 1 _ rfl;have z2:=zz.cell 2 _ rfl;have z3:=zz.cell 3 _ rfl
   refine il ?_;simp only[execOp,Act.eval,e4];go_simp
  ·have d1:a'.tmps.getD 21 undef=_:=dp hdep 0
   refine .inr ⟨13,#[l #[.int j p,.int j c,.int j h,.int j s]],by simp only[execOp,Act.eval,d1];go_simp,?_⟩
   refine(gv _ _ _ _ _).mono ?_
   rintro e W' ⟨rfl,hb'⟩
   exact⟨_,rfl,hb',trivial,rfl⟩
  ·have zz:=C1.out.below hW
   have z0:=zz.cell 0 _ rfl;have z1:=zz.cell 1 _ rfl
   refine il ?_;simp only[execOp,Act.eval,e5];go_simp
  ·have d1:a'.tmps.getD 23 undef=_:=dp hdep 2
   refine .inr ⟨14,#[l #[d A1 n1 a1,d A2 n2 a2]],by simp only[execOp,Act.eval,d1];go_simp,?_⟩
   refine(fR _ _ _ _ _ _ _ _ _ (Sxs.out.below hW) (Sys.out.below hW) hn1' hn2').mono ?_
   rintro e W' ⟨X1,k1,X2,k2,rfl,ho1,ho2,_,hb'⟩
   exact⟨_,rfl,hb',trivial,X1,k1,X2,k2,rfl,(ho1.sl rfl).1,(ho1.sl rfl).2,(ho2.sl rfl).1,(ho2.sl rfl).2⟩
  ·have zz:=C2.out.below hW
   have z0:=zz.cell 0 _ rfl;have z1:=zz.cell 1 _ rfl
   refine il ?_;simp only[execOp,Act.eval,e6];go_simp
  ·have d1:a'.tmps.getD 25 undef=_:=dp hdep 4
   refine .inr ⟨15,#[l #[.int j ra,.int j rb]],by simp only[execOp,Act.eval,d1];go_simp,?_⟩
   refine(kC _ _ _).mono ?_
   rintro e W' ⟨rfl,hb'⟩
   exact⟨_,rfl,hb',trivial,rfl⟩
  ·refine il ?_;simp only[execOp,Act.eval,e3];go_simp
  ·have d22:a'.tmps.getD 22 undef=_:=dp hdep 1
   obtain⟨X1,k1,X2,k2,d24,s1,l1,s2,l2⟩:CpB xs ys (a'.tmps.getD 24 undef) W:=dp hdep 3
   have d26:a'.tmps.getD 26 undef=_:=dp hdep 5
   have d27:a'.tmps.getD 27 undef=_:=dp hdep 6
   refine .inr ⟨28,#[l #[.int j p,.int j c,.int j h,.int j s],l #[d X1 xs.length k1,d X2 ys.length k2],l #[.int j ra,.int j rb],.int j z],by simp only[execOp,Act.eval,d22,d24,d26,d27];go_simp,?_⟩
   refine(CS.out W X1 X2 k1 k2 s1 s2 l1 l2).mono ?_
   rintro e W' ⟨rfl,hb'⟩
   exact⟨_,rfl,hb',trivial,rfl⟩
  ·have d1:a'.tmps.getD 28 undef=_:=dp hdep 7
   refine il ?_;simp only[execOp,Act.eval,d1];go_simp
  ·have d1:a'.tmps.getD 20 undef=_:=dp hdep 8
   refine il ?_;simp only[execOp,Act.eval,d1];go_simp
 case zb=>
  have e12:a'.tmps.getD 12 undef=B (some ⟨V3.heap.size,0,none⟩):=(fr hfar 12).trans rfl
  have hi8:i=0\/i=1\/i=2\/i=3\/i=4\/i=5\/i=6\/i=7\/i=8:=by simp at hX;omega
  clear hfar hX hi
  rcases hi8 with rfl|rfl|rfl|rfl|rfl|rfl|rfl|rfl|rfl
  all_goals (simp at ho;subst ho)
  ·have zz:=C0.out.below hW
   have z0:=zz.cell 0 _ rfl;have z1:=zz.cell 1 _ rfl;have z2:=zz.cell 2 _ rfl;have z3:=zz.cell 3 _ rfl
   refine il ?_;simp only[execOp,Act.eval,e4];go_simp
  ·have d1:a'.tmps.getD 34 undef=_:=dp hdep 0
   refine .inr ⟨13,#[l #[.int j p,.int j c,.int j h,.int j s]],by simp only[execOp,Act.eval,d1];go_simp,?_⟩
   refine(gv _ _ _ _ _).mono ?_
   rintro e W' ⟨rfl,hb'⟩
   exact⟨_,rfl,hb',trivial,rfl⟩
  ·have zz:=CX.out.below hW
   have z0:=zz.cell 0 _ rfl;have z1:=zz.cell 1 _ rfl
   refine il ?_;simp only[execOp,Act.eval,e12];go_simp
  ·have zz:=C2.out.below hW
   have z0:=zz.cell 0 _ rfl;have z1:=zz.cell 1 _ rfl
   refine il ?_;simp only[execOp,Act.eval,e6];go_simp
  ·have d1:a'.tmps.getD 37 undef=_:=dp hdep 3
   refine .inr ⟨15,#[l #[.int j ra,.int j rb]],by simp only[execOp,Act.eval,d1];go_simp,?_⟩
   refine(kC _ _ _).mono ?_
   rintro e W' ⟨rfl,hb'⟩
   exact⟨_,rfl,hb',trivial,rfl⟩
  ·refine il ?_;simp only[execOp,Act.eval,e3];go_simp
  ·have d35:a'.tmps.getD 35 undef=_:=dp hdep 1
   have d36:a'.tmps.getD 36 undef=_:=dp hdep 2
   have d38:a'.tmps.getD 38 undef=_:=dp hdep 4
   have d39:a'.tmps.getD 39 undef=_:=dp hdep 5
   refine .inr ⟨29,#[l #[.int j p,.int j c,.int j h,.int j s],l #[d Y1 xs.length y1,d Y2 ys.length y2],l #[.int j ra,.int j rb],.int j z],by simp only[execOp,Act.eval,d35,d36,d38,d39];go_simp,?_⟩
   refine(CI.out W _ _ _ _ (T1.out.below hW) (T2.out.below hW) T1k.out T2k.out).mono ?_
   rintro e W' ⟨rfl,hb'⟩
   exact⟨_,rfl,hb',trivial,rfl⟩
  ·have d1:a'.tmps.getD 40 undef=_:=dp hdep 6
   refine il ?_;simp only[execOp,Act.eval,d1];go_simp
  ·have d1:a'.tmps.getD 33 undef=_:=dp hdep 7
   refine il ?_;simp only[execOp,Act.eval,d1];go_simp
open Go.ChangeShapes Go.WideShapes Go.ChangeAt Go.RowKit Go.Joins Go.Deep
theorem cellsV:Tryz.prog.cellsOf 23=4:=by kernel_rfl
theorem cellsB:Tryz.prog.cellsOf 26=2:=by kernel_rfl
theorem cellsR:Tryz.prog.cellsOf 28=2:=by kernel_rfl
theorem cellsS:Tryz.prog.cellsOf 24=1:=by kernel_rfl
theorem jZ:Tryz.prog.cellsOf 2=1:=by kernel_rfl
section
variable {H:Type}{enc:TypeId×Value->H}{w:World}{base:Nat}{spare:Nat->Bool}{held:Bool}{fuel:Nat}
theorem fld{t:TypeId}{fs:Array Field}{cs:List Value}{x:DataW H×List MemPlace}(ht:Tryz.prog.underlying t=some (.struct fs))(h:DataW.trod enc Tryz.prog w base spare held fuel t cs=some x):
  cs.length=Tryz.prog.cellsOf t/\∃n,∀(i:Nat) (f:Field),fs[i]? =some f->∃y,DataW.trod enc Tryz.prog w base spare held n f.type ((cs.drop f.offset).take (Tryz.prog.cellsOf f.type))=some y:=by
 obtain⟨xs,n,_,_,hl,hx,hf⟩:=DataW.trod_struct ht h
 refine⟨hl,n,fun i f hi=>?_⟩
 have hlt:i<xs.length:=by rw[hx];exact(Array.getElem?_eq_some_iff.1 hi).1
 exact⟨_,(hf i f hi).trans (List.getElem?_eq_getElem hlt)⟩
theorem fldT{t:TypeId}{cs:List Value}{y0:DataW H×List MemPlace}{P:Program}{n:Nat}{t':TypeId}{cs':List Value}(h:DataW.trod enc P w base spare held n t cs=some y0)(e1:t=t')(e2:cs=cs'):DataW.trod enc P w base spare held n t' cs'=some y0:=by subst e1 e2;exact h
theorem iw{cs:List Value}{x:DataW H×List MemPlace}(h:DataW.trod enc Tryz.prog w base spare held fuel 2 cs=some x):∃n:Int,cs=[.int j n]/\(Lit.int j n).wf=true:=by
 obtain⟨n,h1,_,h2⟩:=DataW.trod_int Tryz.underlying2 h
 exact⟨n,h1,h2⟩
theorem openSL{cs:List Value}{x:DataW H×List MemPlace}(h:DataW.trod enc Tryz.prog w base spare held fuel 24 cs=some x):
  ∃A n c xs,cs=[d A n c]/\SL w A n xs/\n<=maxLen/\∀z∈xs,(Lit.int j z).wf=true:=by
 rcases open_ints Tryz.underlying24 Tryz.underlying2 jZ h with⟨rfl,_⟩|⟨a,len,cap,zs,rfl,_,hl,hm,hz,_,hcell,hw⟩
 ·exact⟨none,0,0,[],rfl,SL.nil_ _,by simp[maxLen],by simp⟩
 ·have hle:len<=zs.length:=by rw[hz];split<;>omega
  refine⟨some a,len,cap,zs.take len,rfl,⟨by simp;omega,fun hn=>?_⟩,by omega,fun z hz'=>hw z (List.mem_of_mem_take hz')⟩
  obtain⟨b,off,spot⟩:=a
  have h0:=hcell 0 (by omega)
  have hspot:spot=none:=by simpa[Addr.add]using World.cell?_spot h0
  subst hspot
  refine⟨b,off,rfl,World.block_lt_of_cell? w _ h0,fun i hi=>?_⟩
  have h1:=hcell i (by omega)
  rw[add_plain]at h1;rw[h1]
  simp[List.getD,List.getElem?_take,hi]
theorem openBoard{cs:List Value}{x:DataW H×List MemPlace}(h:DataW.trod enc Tryz.prog w base spare held fuel 26 cs=some x):
  ∃A1 n1 c1 xs A2 n2 c2 ys,cs=[d A1 n1 c1,d A2 n2 c2]/\SL w A1 n1 xs/\n1<=maxLen/\SL w A2 n2 ys/\n2<=maxLen:=by
 obtain⟨hl,n,hf⟩:=fld Tryz.underlying26 h;obtain⟨y0,h0⟩:=hf 0 _ rfl;obtain⟨y1,h1⟩:=hf 1 _ rfl;rw[cellsB]at hl
 match cs,hl with
 | [v0,v1],_=>
  obtain⟨A1,n1,c1,xs,e1,s1,m1,_⟩:=openSL (fldT h0 (t':=24) (cs':=[v0]) rfl (by show List.take (Tryz.prog.cellsOf 24) _=_;rw[cellsS];rfl))
  obtain⟨A2,n2,c2,ys,e2,s2,m2,_⟩:=openSL (fldT h1 (t':=24) (cs':=[v1]) rfl (by show List.take (Tryz.prog.cellsOf 24) _=_;rw[cellsS];rfl))
  simp at e1 e2
  subst e1 e2
  exact⟨A1,n1,c1,xs,A2,n2,c2,ys,rfl,s1,m1,s2,m2⟩
theorem openVariant{cs:List Value}{x:DataW H×List MemPlace}(h:DataW.trod enc Tryz.prog w base spare held fuel 23 cs=some x):
  ∃p c g s:Int,cs=[.int j p,.int j c,.int j g,.int j s]/\(Lit.int j p).wf=true/\(Lit.int j c).wf=true/\(Lit.int j g).wf=true/\(Lit.int j s).wf=true:=by
 obtain⟨hl,n,hf⟩:=fld Tryz.underlying23 h;obtain⟨y0,h0⟩:=hf 0 _ rfl;obtain⟨y1,h1⟩:=hf 1 _ rfl;obtain⟨y2,h2⟩:=hf 2 _ rfl;obtain⟨y3,h3⟩:=hf 3 _ rfl;rw[cellsV]at hl
 match cs,hl with
 | [v0,v1,v2,v3],_=>
  obtain⟨p,e0,w0⟩:=iw (fldT h0 (t':=2) (cs':=[v0]) rfl (by show List.take (Tryz.prog.cellsOf 2) _=_;rw[jZ];rfl))
  obtain⟨c,e1,w1⟩:=iw (fldT h1 (t':=2) (cs':=[v1]) rfl (by show List.take (Tryz.prog.cellsOf 2) _=_;rw[jZ];rfl))
  obtain⟨g,e2,w2⟩:=iw (fldT h2 (t':=2) (cs':=[v2]) rfl (by show List.take (Tryz.prog.cellsOf 2) _=_;rw[jZ];rfl))
  obtain⟨s,e3,w3⟩:=iw (fldT h3 (t':=2) (cs':=[v3]) rfl (by show List.take (Tryz.prog.cellsOf 2) _=_;rw[jZ];rfl))
  simp at e0 e1 e2 e3
  subst e0 e1 e2 e3
  exact⟨p,c,g,s,rfl,w0,w1,w2,w3⟩
theorem openRoll{cs:List Value}{x:DataW H×List MemPlace}(h:DataW.trod enc Tryz.prog w base spare held fuel 28 cs=some x):
  ∃p c:Int,cs=[.int j p,.int j c]/\(Lit.int j p).wf=true/\(Lit.int j c).wf=true:=by
 obtain⟨hl,n,hf⟩:=fld Tryz.underlying28 h;obtain⟨y0,h0⟩:=hf 0 _ rfl;obtain⟨y1,h1⟩:=hf 1 _ rfl;rw[cellsR]at hl
 match cs,hl with
 | [v0,v1],_=>
  obtain⟨p,e0,w0⟩:=iw (fldT h0 (t':=2) (cs':=[v0]) rfl (by show List.take (Tryz.prog.cellsOf 2) _=_;rw[jZ];rfl))
  obtain⟨c,e1,w1⟩:=iw (fldT h1 (t':=2) (cs':=[v1]) rfl (by show List.take (Tryz.prog.cellsOf 2) _=_;rw[jZ];rfl))
  simp at e0 e1
  subst e0 e1
  exact⟨p,c,rfl,w0,w1⟩
end
end Go.Proofs.YtcmeoenkgmghkaaGreat

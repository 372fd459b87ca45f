/- Part of one proof. There are no conditions. -/
import Derived.Test.YtcmeoenkgmghkaaGreatOY15
import Derived.Lib.SliceRun
import Derived.Shelf.Small.Bits
import Derived.Shelf.Strconv.Itoa0
import Derived.Shelf.Bits.Mul64
import Derived.Ground.SlsfProg
import Derived.Shelf.SlSortCmp.Insertion
import Derived.Shelf.SlSortCmp.SiftDown1
import Derived.Shelf.SlSortCmp.HeapSort1
import Derived.Shelf.SlSortCmp.Insertion1
import Derived.Shelf.SlSortCmp.Median1
import Derived.Shelf.SlSortCmp.Pivot1
import Derived.Shelf.SlSortCmp.ReverseRange1
import Derived.Shelf.SlSortCmp.PartialInsertion1
import Derived.Shelf.SlSortCmp.PartitionEqual1
import Derived.Shelf.SlSortCmp.Partition1
import Derived.Shelf.SlSortCmp.Pdq1
import Derived.Shelf.SlSortCmp.Whole1
import Derived.Test.YtcmeoenkgmghkaaGreatProg
set_option linter.unusedVariables false
set_option linter.unusedSimpArgs false
set_option maxHeartbeats 0
set_option maxRecDepth 100000
open Go.Value renaming slice->s
open Go.Ending renaming returned->C
open Go.Obj renaming cells->F
open Go renaming World->jz,Value->j0,Calls->j1
open Nat renaming le_refl->j2,le_trans->qa,lt_of_lt_of_le->qb
open List renaming take_of_length_le->qc,length_append->qd,getElem?_eq_none->qf
open Go.Proofs.Tryz renaming prog->qe
namespace Go.Proofs.YtcmeoenkgmghkaaGreat
open Go.RowKit Ps
theorem last_take{ps:List (List Int)}{m:Nat}(h1:1<=m)(h2:m<=ps.length):(ps.take m).getLast? =some (ps.getD (m-1) []):=by
 obtain⟨j,rfl⟩:∃j,m=j+1:=⟨m-1,by omega⟩
 rw[aG ps [] (by omega)]
 simp
theorem cmpct_dup{ps:List (List Int)}{m:Nat}(h1:1<=m)(h2:m<ps.length)(he:ps.getD m []=ps.getD (m-1) []):cmpct (ps.take (m+1))=cmpct (ps.take m):=by
 rw[aG ps [] h2,ej,if_pos]
 rw[fI,last_take h1 (by omega),he]
theorem cmpct_new{ps:List (List Int)}{m:Nat}(h1:1<=m)(h2:m<ps.length)(he:ps.getD m []≠ps.getD (m-1) []):cmpct (ps.take (m+1))=cmpct (ps.take m)++[ps.getD m []]:=by
 rw[aG ps [] h2,ej,if_neg]
 rw[fI,last_take h1 (by omega)]
 intro h
 injection h with h
 exact he h.symm
theorem cmpct_one{ps:List (List Int)}(h:ps.length<=1):cmpct ps=ps:=by
 match ps,h with
 | [],_=>rfl
 | [p],_=>rfl
theorem PVs.at{S:Nat->Prop}{w:jz}{cs:List j0}{ps:List (List Int)}(h:PVs S w cs ps){j:Nat}(hj:j<cs.length):∃A m c,cs.getD j undef=s A m c/\SQ S w A m (ps.getD j []):=by
 obtain⟨A,m,c,h1,h2,_⟩:=h.2 j hj
 exact⟨A,m,c,h1,h2⟩
theorem row_cell{w:jz}{base:Nat}{e:TypeId}{g n cap:Nat}{pre cs:List j0}{k:Nat}(h:w.ownsRow base e 1 (s (some ⟨g,0,none⟩) n cap) n (pre++cs.drop pre.length))(hcs:cs.length=n)(hk:pre.length<=k)(hkn:k<n):
  w.cell? ⟨g,k,none⟩=some (cs.getD k undef):=by
 rw[h.cellAt k (by omega),List.getElem?_append_right hk,List.getElem?_drop,show pre.length+(k-pre.length)=k by omega]
 simp[List.getD,show k<cs.length by omega]
theorem row_keep{w:jz}{base:Nat}{e:TypeId}{g n cap:Nat}{pre cs:List j0}{u:j0}(h:w.ownsRow base e 1 (s (some ⟨g,0,none⟩) n cap) n (pre++cs.drop pre.length))(hcs:cs.length=n)(hkn:pre.length<n):
  (w.setCell ⟨g,pre.length,none⟩ u).ownsRow base e 1 (s (some ⟨g,0,none⟩) n cap) n ((pre++[u])++cs.drop (pre++[u]).length):=by
 have h2:=(h.stored pre.length u).1
 have e1:(pre++cs.drop pre.length).set pre.length u=(pre++[u])++cs.drop (pre++[u]).length:=by
  rw[List.set_append_right _ _ (j2 _),Nat.sub_self,qd,List.length_singleton,List.append_assoc]
  congr 1
  rw[List.drop_eq_getElem_cons (by omega:pre.length<cs.length)]
  rfl
 rwa [e1]at h2
theorem row_cut{w:jz}{base:Nat}{e:TypeId}{g n cap:Nat}{pre rest:List j0}(h:w.ownsRow base e 1 (s (some ⟨g,0,none⟩) n cap) n (pre++rest))(vs:List j0):
  (w.setCells g pre.length vs).ownsRow base e 1 (s (some ⟨g,0,none⟩) pre.length cap) pre.length pre/\w.grownBy (w.setCells g pre.length vs) (some g):=by
 have key:∀(vs:List j0) (o:Nat) (w:jz),pre.length<=o->(∃cap' cur,cap'=cap/\base<=g/\w.heap[g]? =some (F cur e (0,0))/\n<=cap/\cap<=maxLen/\cur.size=cap*1/\cur.toList.take pre.length=pre)->
   (∃cap' cur,cap'=cap/\base<=g/\(w.setCells g o vs).heap[g]? =some (F cur e (0,0))/\n<=cap/\cap<=maxLen/\cur.size=cap*1/\cur.toList.take pre.length=pre)/\w.grownBy (w.setCells g o vs) (some g):=by
  intro vs
  induction vs with
  |nil=>intro o w _ hh;exact⟨hh,⟨rfl,rfl,rfl,j2 _,fun _ _ _=>rfl⟩⟩
  |cons v r ih=>
   intro o w ho hh
   obtain⟨cap',cur,h0,h1,h2,h3,h4,h5,h6⟩:=hh
   have hs:=ih (o+1) (w.setCell ⟨g,o,none⟩ v) (by omega) ⟨cap',cur.setIfInBounds o v,h0,h1,heap_setCell_same w g o cur e v h2,h3,h4,by simpa using h5,by
    rw[Array.toList_setIfInBounds,List.take_set_of_le ho];exact h6⟩
   refine⟨hs.1,?_⟩
   have hg1:w.grownBy (w.setCell ⟨g,o,none⟩ v) (some g):=⟨rfl,rfl,rfl,by simp,fun k _ hk=>heap_setCell_other w ⟨g,o,none⟩ k v (fun e=>hk (by simp[e]))⟩
   have hg2:=hs.2
   exact⟨hg2.os.trans hg1.os,hg2.tape.trans hg1.tape,hg2.output.trans hg1.output,qa hg1.size hg2.size,fun k hk hn=>(hg2.block k (qb hk hg1.size) hn).trans (hg1.block k hk hn)⟩
 rcases h.2 with⟨h',_⟩|⟨g',cap',cur,h',hb,hg,hnc,hcm,hcs,htake⟩
 ·simp at h'
 ·simp only[Value.slice.injEq,Option.some.injEq,Addr.mk.injEq,and_true,true_and]at h'
  obtain⟨rfl,rfl⟩:=h'
  have hpl:pre.length<=n:=by have:=h.1;simp at this;omega
  have h6:cur.toList.take pre.length=pre:=by
   have:(cur.toList.take (n*1)).take pre.length=pre:=by rw[htake];simp
   rwa [List.take_take,Nat.min_eq_left (by omega)]at this
  obtain⟨⟨_,cur2,_,k1,k2,-,k4,k5,k6⟩,hgr⟩:=key vs pre.length w (j2 _) ⟨cap,cur,rfl,hb,hg,hnc,hcm,hcs,h6⟩
  exact⟨⟨by simp,.inr ⟨g,cap,cur2,rfl,k1,k2,by omega,k4,k5,by rw[Nat.mul_one];exact k6⟩⟩,hgr⟩
theorem gk{a b c:jz}{r:Option Nat}(h:a.grownBy b r)(k:b.grownBy c r):a.grownBy c r:=
 ⟨k.os.trans h.os,k.tape.trans h.tape,k.output.trans h.output,qa h.size k.size,fun i hi hn=>(k.block i (qb hi h.size) hn).trans (h.block i hi hn)⟩
theorem du{a b:jz}{r:Option Nat}(h:a.grownBy b r)(k:Nat):a.grownBy (b.drewN k) r:=⟨h.os,h.tape,h.output,h.size,h.block⟩
theorem iL(a:jz)(r:Option Nat):a.grownBy a r:=⟨rfl,rfl,rfl,j2 _,fun _ _ _=>rfl⟩
theorem gN{w:jz}{base:Nat}{e:TypeId}{z n:Nat}{v:j0}{xs:List j0}(h:w.ownsRow base e z v n xs)(k:Nat):(w.drewN k).ownsRow base e z v n xs:=h
theorem row_clear{w:jz}{base:Nat}{e:TypeId}{g n cap:Nat}{xs:List j0}(h:w.ownsRow base e 1 (s (some ⟨g,0,none⟩) n cap) n xs){k:Nat}(hk:k<n)(t:TypeId)(ht:Tryz.prog.underlying t=some (.slice 24))(ty:TypeId):
  (Builtin.clear_ #[t] ty #[s (some ⟨g,k,none⟩) (n-k) (cap-k)]).run qe w= .ok (.tuple #[]) (w.setCells g k (List.replicate (n-k) (s none 0 0))):=
 Lib.run_clear_slice w _ 24 ty _ ht (fun _=>by kernel_rfl) rfl rfl g k (n-k) (cap-k) (by omega)
  (fun j hj=>by
   have h1:=h.cellAt (k+j) (by omega)
   have h2:=h.1
   rw[h1,List.getElem?_eq_getElem (by omega)];rfl)
  (fun j hj=>h.frozenAt (k+j))
def RetC(S:Nat->Prop)(w:jz)(base g cap:Nat)(ps:List (List Int))(e:Ending)(w':jz):Prop:=
 ∃k,e=C (s (some ⟨g,0,none⟩) k cap)/\OP S w' base 24 (s (some ⟨g,0,none⟩) k cap) ps/\w.grownBy w' (some g)
def InvC(S:Nat->Prop)(w:jz)(base g n cap:Nat)(cs:List j0)(ps:List (List Int))(m kk:Nat)(wr:jz):Prop:=
 ∃pre,pre.length=kk/\wr.ownsRow base 24 1 (s (some ⟨g,0,none⟩) n cap) n (pre++cs.drop pre.length)/\PVs S w pre (cmpct (ps.take m))/\w.grownBy wr (some g)
theorem kr(S:Nat->Prop)(base g n cap hgt:Nat)(ps:List (List Int))(w:jz)(h:OP S w base 24 (s (some ⟨g,0,none⟩) n cap) ps)(hn:n<=1000000000)(hnl:ps.length=n)(hl:∀p∈ps,p.length=hgt)(hh:hgt<=2000):
  j1 qe 241 #[s (some ⟨g,0,none⟩) n cap,.func (.func 242) #[] #[]] w (RetC S w base g cap (cmpct ps)):=by
 obtain⟨cs,hrow,hpv,hsb⟩:=h;rw[hnl]at hrow;have HROW:=h_ hrow;have HPV:=h_ hpv;have HSB:=h_ hsb;have HPL:=h_ hnl
 have HCL:Hid (cs.length=n):=by unfold Hid;rw[hpv.1,hnl]
 have HLN:=h_ hl
 have hcap:n<=cap:=by
  rcases hrow.2 with⟨h',_⟩|⟨g',cap',cur,h',_,_,h3,_⟩
  ·simp at h'
  ·injection h' with _ _ h4;omega
 have hcm:cap<=9223372036854775807:=by
  rcases hrow.2 with⟨h',_⟩|⟨g',cap',cur,h',_,_,_,h3,_⟩
  ·simp at h'
  ·injection h' with _ _ h4;unfold maxLen at h3;omega
 clear hrow hpv hsb hl hnl
 by_cases h2:n<2
 ·have HR:Hid (RetC S w base g cap (cmpct ps) (C (s (some ⟨g,0,none⟩) n cap)) w):=by
   refine⟨n,rfl,?_,iL _ _⟩
   rw[cmpct_one (by rw[HPL.out];omega)]
   exact⟨cs,by rw[HPL.out];exact HROW.out,HPV.out,HSB.out⟩
  have h2i:(n:Int)<2:=by omega
  go_enter Tryz.func241,Tryz.ntmps241
  go_wp2
  go_ret
  exact HR.out
 ·have h2i:¬(n:Int)<2:=by omega
  go_enter Tryz.func241,Tryz.ntmps241
  go_wp2
  go_loopw [5] (fun vi wr=>∃k:Nat,1<=k/\k<=n/\vi= .int .i64 k/\Hid (cmpct (ps.take k)=ps.take k)/\Hid (∃m,wr=w.drewN m)) (fun vi _=>n-(intOf vi).toNat)
  case atStart=>exact⟨1,by omega,by omega,rfl,by unfold Hid;exact cmpct_one (by rw[List.length_take];omega),0,rfl⟩
  case round=>
   obtain⟨k,hk1,hk,rfl,hcp,hw⟩:=hrel
   by_cases hlt:k<n
   ·have hki:(k:Int)<(n:Int):=by omega
    obtain⟨m0,hm0⟩:=hw.out
    have HRr:Hid (∀j,0<=j->j<n->wr.cell? ⟨g,j,none⟩=some (cs.getD j undef)):=fun j _ hj=>by
     rw[hm0]
     exact row_cell (pre:=[]) (k:=j) (by rw[List.nil_append];exact gN HROW.out m0) HCL.out (Nat.zero_le _) hj
    have HFR:Hid (∀(T:Nat->Prop) (q:Nat),Frm T w (wr.drewN q)):=fun T q=>by rw[hm0];exact((Frm.refl T w).drewN m0).drewN q
    obtain⟨A1,m1,c1,hu1,hs1⟩:=HPV.out.at (j:=k) (by rw[HCL.out];omega)
    obtain⟨A2,m2,c2,hu2,hs2⟩:=HPV.out.at (j:=k-1) (by rw[HCL.out];omega)
    have q1:=HRr.out (k) (by omega) (by omega)
    have q2:=HRr.out (k-1) (by omega) (by omega)
    rw[hu1]at q1;rw[hu2]at q2
    have hm1:hgt=m1:=by rw[<-hs1.1.1];symm;exact HLN.out _ (ak ps [] (by rw[HPL.out];omega))
    have hm2:hgt=m2:=by rw[<-hs2.1.1];symm;exact HLN.out _ (ak ps [] (by rw[HPL.out];omega))
    subst hm1;subst hm2
    have EQ:=h_ fun(kq:Nat)=>same_any A1 A2 hgt c1 c2 (ps.getD (k) []) (ps.getD (k-1) []) (World.drewN wr kq) (by exact(hs1.frm (HFR.out _ kq)).1) (by exact(hs2.frm (HFR.out _ kq)).1) hh
    clear hu1 hu2 hs1 hs2
    have hsub:((k:Int)-1)=((k-1:Nat):Int):=by omega
    have hsub0:(0:Int)<=(k:Int)-1:=by omega
    have hsub1:(k:Int)-1<(n:Int):=by omega
    clear hm0
    by_cases hdup:ps.getD k []=ps.getD (k-1) []
    ·have HC:Hid (cmpct (ps.take (k+1))=ps.take k):=by unfold Hid;rw[cmpct_dup hk1 (by rw[HPL.out];exact hlt) hdup];exact hcp.out
     have b0:decide (ps.getD k []=ps.getD (k-1) [])=true:=decide_eq_true hdup;rw[b0]at EQ;clear b0 hdup
     go_wp2_with (fail)
     go_quiet ((go_at_call 242;exact Calls.quiet_of (EQ.out _)))
     have HI:Hid (InvC (wth S (s (some ⟨g,0,none⟩) n cap)) w base g n cap cs ps (k+1) k (wr.drewN nq)):=by
      obtain⟨m0,hm0⟩:=hw.out
      refine⟨cs.take k,by rw[List.length_take,HCL.out];omega,?_,?_,?_⟩
      ·rw[hm0,List.length_take,HCL.out,Nat.min_eq_left (by omega),List.take_append_drop];exact HROW.out
      ·rw[HC.out];exact HPV.out.take k
      ·rw[hm0];exact du (du (iL _ _) _) _
     clear HRr HFR EQ q1 q2;generalize wr.drewN nq=wo at *
     have hck:¬cap=k:=by omega
     have hkc:(k:Int)<=(cap:Int):=by omega
     go_wp2_with (fail)
     go_loopw [5,7] (fun v5 v7 wr=>∃kk k2:Nat,1<=k2/\k+k2<=n/\kk+1<=k+k2/\k<=kk/\v5= .int .i64 kk/\v7= .int .i64 k2/\Hid (InvC (wth S (s (some ⟨g,0,none⟩) n cap)) w base g n cap cs ps (k+k2) kk wr)) (fun _ v7 _=>n-(intOf v7).toNat)
     case atStart=>exact⟨k,1,by omega,by omega,by omega,by omega,rfl,rfl,HI.out⟩
     case round=>
      clear HI;obtain⟨kk,k2,h1,h2,h3,h4,rfl,rfl,HI⟩:=hrel;obtain⟨pre,hpk,hrow,hpv,hgr⟩:=HI.out;have HPK:=h_ hpk;have HROWr:=h_ hrow;have HPVr:=h_ hpv;have HGR:=h_ hgr;clear hpk hrow hpv hgr HI
      by_cases hl2:k+k2<n
      ·have hl2i:(k2:Int)<((n-k:Nat):Int):=by omega
       have HRr:Hid (∀j,kk<=j->j<n->wr.cell? ⟨g,j,none⟩=some (cs.getD j undef)):=fun j hj1 hj=>row_cell HROWr.out HCL.out (by rw[HPK.out];exact hj1) hj
       have HFR:Hid (∀(q:Nat),Frm (wth S (s (some ⟨g,0,none⟩) n cap)) w (wr.drewN q)):=fun q=>(dB (v:=s (some ⟨g,0,none⟩) n cap) HGR.out).drewN q
       have HUV:Hid (∃u,cs.getD (k+k2) undef=u/\PV (wth S (s (some ⟨g,0,none⟩) n cap)) w u (ps.getD (k+k2) [])):=⟨_,rfl,HPV.out.2 _ (by rw[HCL.out];exact hl2)⟩
       obtain⟨A1,m1,c1,hu1,hs1⟩:=HPV.out.at (j:=k+k2) (by rw[HCL.out];omega)
       obtain⟨A2,m2,c2,hu2,hs2⟩:=HPV.out.at (j:=k+k2-1) (by rw[HCL.out];omega)
       have HU1:=h_ hu1
       have q1:=HRr.out (k+k2) (by omega) (by omega)
       have q2:=HRr.out (k+k2-1) (by omega) (by omega)
       rw[hu1]at q1;rw[hu2]at q2
       have hm1:hgt=m1:=by rw[<-hs1.1.1];symm;exact HLN.out _ (ak ps [] (by rw[HPL.out];omega))
       have hm2:hgt=m2:=by rw[<-hs2.1.1];symm;exact HLN.out _ (ak ps [] (by rw[HPL.out];omega))
       subst hm1;subst hm2
       have EQ:=h_ fun(kq:Nat)=>same_any A1 A2 hgt c1 c2 (ps.getD (k+k2) []) (ps.getD (k+k2-1) []) (World.drewN wr kq) (by exact(hs1.frm (HFR.out kq)).1) (by exact(hs2.frm (HFR.out kq)).1) hh
       clear hu1 hu2 hs1 hs2
       have hsub:((k2:Int)-1)=((k2-1:Nat):Int):=by omega
       have hsub0:(0:Int)<=(k2:Int)-1:=by omega
       have hsub1:(k2:Int)-1<((n-k:Nat):Int):=by omega
       have hadd:k+(k2-1)=k+k2-1:=by omega
       have q2':wr.cell? ⟨g,k+(k2-1),none⟩=some (s A2 hgt c2):=by rw[hadd];exact q2
       have q3:wr.frozen? ⟨g,kk,none⟩=false:=HROWr.out.frozenAt kk
       have q4:wr.cell? ⟨g,kk,none⟩=some (cs.getD kk undef):=HRr.out kk (by omega) (by omega)
       generalize cs.getD kk undef=ukk at *
       by_cases hdup:ps.getD (k+k2) []=ps.getD (k+k2-1) []
       ·have HC:Hid (cmpct (ps.take (k+k2+1))=cmpct (ps.take (k+k2))):=cmpct_dup (by omega) (by rw[HPL.out];exact hl2) hdup
        have b0:decide (ps.getD (k+k2) []=ps.getD (k+k2-1) [])=true:=decide_eq_true hdup;rw[b0]at EQ;clear b0 hdup hadd hsub
        have hsub:((k2:Int)-1).toNat=k2-1:=by omega
        go_wp2_with (fail)
        go_quiet ((go_at_call 242;exact Calls.quiet_of (EQ.out _)))
        have HI2:Hid (InvC (wth S (s (some ⟨g,0,none⟩) n cap)) w base g n cap cs ps (k+(k2+1)) kk (wr.drewN nq)):=
         ⟨pre,HPK.out,gN HROWr.out _,by rw[<-Nat.add_assoc,HC.out];exact HPVr.out,du HGR.out _⟩
        go_wp2_with (fail)
        go_roundw
        case rel=>exact⟨kk,k2+1,by omega,by omega,by omega,by omega,rfl,by go_num,HI2.out⟩
        case measure=>(simp[intOf])<;>omega
       ·have HC:Hid (cmpct (ps.take (k+k2+1))=cmpct (ps.take (k+k2))++[ps.getD (k+k2) []]):=cmpct_new (by omega) (by rw[HPL.out];exact hl2) hdup
        have b0:decide (ps.getD (k+k2) []=ps.getD (k+k2-1) [])=false:=decide_eq_false hdup;rw[b0]at EQ;clear b0 hdup hadd hsub
        have hsub:((k2:Int)-1).toNat=k2-1:=by omega
        go_wp2_with (fail)
        go_quiet ((go_at_call 242;exact Calls.quiet_of (EQ.out _)))
        have HI2:Hid (InvC (wth S (s (some ⟨g,0,none⟩) n cap)) w base g n cap cs ps (k+(k2+1)) (kk+1) ((wr.drewN nq).setCell ⟨g,kk,none⟩ (s A1 hgt c1))):=by
         refine⟨pre++[s A1 hgt c1],by rw[qd,HPK.out];rfl,?_,?_,?_⟩
         ·have:=row_keep (u:=s A1 hgt c1) (gN HROWr.out nq) HCL.out (by rw[HPK.out];omega)
          rwa [HPK.out]at this
         ·rw[<-Nat.add_assoc,HC.out]
          obtain⟨u,hu,hpu⟩:=HUV.out
          refine HPVr.out.snoc ?_
          rw[HU1.out]at hu
          rw[hu];exact hpu
         ·exact gk (du HGR.out _) ((gN HROWr.out nq).stored kk _).2
        clear HRr HFR EQ
        go_wp2_with (fail)
        go_roundw
        case rel=>exact⟨kk+1,k2+1,by omega,by omega,by omega,by omega,by go_num,by go_num,HI2.out⟩
        case measure=>(simp[intOf])<;>omega
      ·have hke:k+k2=n:=by omega
       have hl2i:¬(k2:Int)<((n-k:Nat):Int):=by omega
       have hkkn:kk<n:=by omega
       have hcl:=fun ty=>row_clear HROWr.out hkkn 186 Tryz.underlying186 ty
       have hckk:¬cap=kk:=by omega
       have HR:Hid (RetC S w base g cap (cmpct ps) (C (s (some ⟨g,0,none⟩) kk cap)) (wr.setCells g kk (List.replicate (n-kk) (s none 0 0)))):=by
        have h:=row_cut HROWr.out (List.replicate (n-kk) (s none 0 0));rw[HPK.out]at h;have hp:=HPVr.out
        rw[hke,qc (by rw[HPL.out];exact j2 _)]at hp
        have hgr:=gk HGR.out h.2
        refine⟨kk,rfl,⟨pre,?_,?_,HSB.out⟩,hgr⟩
        ·have:(cmpct ps).length=kk:=by rw[<-hp.1,HPK.out]
         rw[this];exact h.1
        ·exact hp.frm (dB (v:=s (some ⟨g,0,none⟩) n cap) hgr)
       have hkc2:(kk:Int)<=(cap:Int):=by omega
       have hkc3:(kk:Int)<=(n:Int):=by omega
       clear hw
       go_wp2_with (fail)
       go_ret
       exact HR.out
    ·have HC:Hid (cmpct (ps.take (k+1))=ps.take (k+1)):=by
      unfold Hid
      rw[cmpct_new hk1 (by rw[HPL.out];exact hlt) hdup,hcp.out,aG ps [] (by rw[HPL.out];exact hlt)]
     have b0:decide (ps.getD k []=ps.getD (k-1) [])=false:=decide_eq_false hdup;rw[b0]at EQ;clear b0 hdup
     go_wp2_with (fail)
     go_quiet ((go_at_call 242;exact Calls.quiet_of (EQ.out _)))
     have HW2:Hid (∃m,wr.drewN nq=w.drewN m):=cW hw.out
     go_wp2_with (fail)
     go_roundw
     case rel=>exact⟨k+1,by omega,by omega,by go_num,HC.out,HW2.out⟩
     case measure=>(simp[intOf])<;>omega
   ·have hkn:k=n:=by omega
    have HR:Hid (RetC S w base g cap (cmpct ps) (C (s (some ⟨g,0,none⟩) n cap)) wr):=by
     obtain⟨m,hm⟩:=hw.out
     refine⟨n,rfl,?_,by rw[hm];exact du (iL _ _) _⟩
     have e:=hcp.out
     rw[hkn,qc (by rw[HPL.out];exact j2 _)]at e
     rw[e,hm]
     exact OP.frm ⟨cs,by rw[HPL.out];exact HROW.out,HPV.out,HSB.out⟩ ((Frm.refl _ _).drewN m)
    clear hw
    go_wp2_with (fail)
    go_ret
    exact HR.out
end Go.Proofs.YtcmeoenkgmghkaaGreat
namespace Go.Proofs
open Go.Shelf
def Tryz.lays264_ren:Go.Shelf.Ren:=⟨fun|264=>150|n=>n,fun|53=>174|46=>156|n=>n,fun|n=>n⟩
theorem Tryz.lays264:Go.Proofs.Lays.n264 qe Tryz.lays264_ren:={
 mixed:=by kernel_rfl
 f264:=Tryz.func150.trans (congrArg some (by kernel_rfl))
 t46:=Tryz.underlying156
 a46:=Tryz.isAgg156
 z46:=Tryz.sizeOf156
 v46:=Tryz.zeroValue156
 t53:=Tryz.underlying174
 a53:=Tryz.isAgg174
 z53:=Tryz.sizeOf174
 v53:=Tryz.zeroValue174 }
open Go.RowKit Go.Lib in
theorem Tryz.bits_Mul64(x y:Nat)(hx:x<18446744073709551616)(hy:y<18446744073709551616)(w:jz):
  j1 qe 150 #[.int .u64 x,.int .u64 y] w fun e w'=>e=C (.tuple #[.int .u64 ((x*y/18446744073709551616:Nat):Int),.int .u64 ((x*y%18446744073709551616:Nat):Int)])/\w'=w:=Any.bits_Mul64 Tryz.lays264 x y hx hy w
open Go.RowKit Go.Lib in
open Go.RowKit Go.Lib Go.Sort in
open Go.RowKit Go.Lib Go.Sort in
open Go.RowKit Go.Lib Go.Sort in
open Go.RowKit Go.Lib Go.Sort in
open Go.RowKit Go.Lib Go.Sort in
open Go.RowKit Go.Lib Go.Sort in
open Go.RowKit Go.Lib Go.Sort in
open Go.RowKit Go.Lib Go.Sort in
open Go.RowKit Go.Lib Go.Sort in
open Go.RowKit Go.Lib Go.Sort in
open Go.RowKit Go.Lib Go.Sort in
open Go.RowKit Go.Lib Go.Sort in
open Go.RowKit Go.Lib Go.Sort in
def Tryz.laysSlF6_f239_ren:Go.Shelf.Ren:=⟨fun|6=>239|15=>246|14=>245|28=>255|29=>231|20=>247|21=>248|22=>249|23=>250|24=>251|25=>252|26=>253|27=>254|46=>256|47=>257|48=>258|49=>259|50=>260|57=>261|n=>n,fun|22=>186|24=>24|25=>251|3=>3|39=>156|0=>0|53=>236|55=>174|4=>4|46=>257|45=>256|50=>261|5=>5|9=>9|66=>264|70=>268|76=>270|77=>271|n=>n,fun|n=>n⟩
theorem Tryz.laysSlF6_f239:Go.Proofs.SlLaysF.n6 qe Tryz.laysSlF6_f239_ren:={
 mixed:=by kernel_rfl
 f6:=⟨Tryz.f239.name,by decide,Tryz.func239.trans (congrArg some (by kernel_rfl))⟩
 f14:=⟨Tryz.f245.name,by decide,Tryz.func245.trans (congrArg some (by kernel_rfl))⟩
 f15:=Tryz.func246.trans (congrArg some (by kernel_rfl))
 f20:=⟨Tryz.f247.name,by decide,Tryz.func247.trans (congrArg some (by kernel_rfl))⟩
 f21:=⟨Tryz.f248.name,by decide,Tryz.func248.trans (congrArg some (by kernel_rfl))⟩
 f22:=⟨Tryz.f249.name,by decide,Tryz.func249.trans (congrArg some (by kernel_rfl))⟩
 f23:=⟨Tryz.f250.name,by decide,Tryz.func250.trans (congrArg some (by kernel_rfl))⟩
 f24:=⟨Tryz.f251.name,by decide,Tryz.func251.trans (congrArg some (by kernel_rfl))⟩
 f25:=⟨Tryz.f252.name,by decide,Tryz.func252.trans (congrArg some (by kernel_rfl))⟩
 f26:=⟨Tryz.f253.name,by decide,Tryz.func253.trans (congrArg some (by kernel_rfl))⟩
 f27:=⟨Tryz.f254.name,by decide,Tryz.func254.trans (congrArg some (by kernel_rfl))⟩
 f28:=Tryz.func255.trans (congrArg some (by kernel_rfl))
 f29:=Tryz.func231.trans (congrArg some (by kernel_rfl))
 f46:=⟨Tryz.f256.name,by decide,Tryz.func256.trans (congrArg some (by kernel_rfl))⟩
 f47:=Tryz.func257.trans (congrArg some (by kernel_rfl))
 f48:=Tryz.func258.trans (congrArg some (by kernel_rfl))
 f49:=⟨Tryz.f259.name,by decide,Tryz.func259.trans (congrArg some (by kernel_rfl))⟩
 f50:=⟨Tryz.f260.name,by decide,Tryz.func260.trans (congrArg some (by kernel_rfl))⟩
 f57:=⟨Tryz.f261.name,by decide,Tryz.func261.trans (congrArg some (by kernel_rfl))⟩
 t0:=Tryz.underlying0
 a0:=Tryz.isAgg0
 z0:=Tryz.sizeOf0
 v0:=Tryz.zeroValue0
 t3:=Tryz.underlying3
 a3:=Tryz.isAgg3
 z3:=Tryz.sizeOf3
 v3:=Tryz.zeroValue3
 t4:=Tryz.underlying4
 a4:=Tryz.isAgg4
 z4:=Tryz.sizeOf4
 v4:=Tryz.zeroValue4
 t5:=Tryz.underlying5
 a5:=Tryz.isAgg5
 z5:=Tryz.sizeOf5
 v5:=Tryz.zeroValue5
 t9:=Tryz.underlying9
 a9:=Tryz.isAgg9
 z9:=Tryz.sizeOf9
 v9:=Tryz.zeroValue9
 t22:=Tryz.underlying186
 a22:=Tryz.isAgg186
 z22:=Tryz.sizeOf186
 v22:=Tryz.zeroValue186
 a24:=Tryz.isAgg24
 z24:=Tryz.sizeOf24
 t25:=Tryz.underlying251
 a25:=Tryz.isAgg251
 z25:=Tryz.sizeOf251
 v25:=Tryz.zeroValue251
 t39:=Tryz.underlying156
 a39:=Tryz.isAgg156
 z39:=Tryz.sizeOf156
 v39:=Tryz.zeroValue156
 t45:=Tryz.underlying256
 a45:=Tryz.isAgg256
 z45:=Tryz.sizeOf256
 v45:=Tryz.zeroValue256
 t46:=Tryz.underlying257
 a46:=Tryz.isAgg257
 z46:=Tryz.sizeOf257
 v46:=Tryz.zeroValue257
 t50:=Tryz.underlying261
 a50:=Tryz.isAgg261
 z50:=Tryz.sizeOf261
 v50:=Tryz.zeroValue261
 t53:=Tryz.underlying236
 a53:=Tryz.isAgg236
 z53:=Tryz.sizeOf236
 v53:=Tryz.zeroValue236
 t55:=Tryz.underlying174
 a55:=Tryz.isAgg174
 z55:=Tryz.sizeOf174
 v55:=Tryz.zeroValue174
 t66:=Tryz.underlying264
 a66:=Tryz.isAgg264
 z66:=Tryz.sizeOf264
 v66:=Tryz.zeroValue264
 t70:=Tryz.underlying268
 a70:=Tryz.isAgg268
 z70:=Tryz.sizeOf268
 v70:=Tryz.zeroValue268
 t76:=Tryz.underlying270
 a76:=Tryz.isAgg270
 z76:=Tryz.sizeOf270
 v76:=Tryz.zeroValue270
 t77:=Tryz.underlying271
 a77:=Tryz.isAgg271
 z77:=Tryz.sizeOf271
 v77:=Tryz.zeroValue271 }
open Go.RowKit Go.Lib Go.Sort in
open Go.RowKit Go.Lib Go.Sort in
theorem Tryz.slices_SortFunc{α:Type}[Inhabited α](enc:α->j0)(h1:OneCell enc)(cf:α->α->Int)(hO:SWO (ltOf cf))(g:Nat)(cb:Array j0)(blk off cap:Nat)(d:Array α)(w:jz)(eg:∀args w,(callFunc g args).run qe w= .ok (.enter g args) w)(hcmp:CmpLays1 qe g cb enc cf blk off d.size w)(hH:Holds enc w blk off d)(hblk:blk<w.heap.size)(hsz:d.size<4611686018427387904):
  j1 qe 239 #[s (some ⟨blk,off,none⟩) d.size cap,.func (.func g) #[] cb] w fun e w'=>
   e=C (.tuple #[])/\∃d' n os,PermIn 0 d.size d d'/\SortedIn (ltOf cf) 0 d.size d'/\w'=sortWorld enc w blk off n d' os:=Any.slices_SortFunc Tryz.laysSlF6_f239 enc h1 cf hO g cb blk off cap d w eg hcmp hH hblk hsz
end Go.Proofs
namespace Go.Proofs.YtcmeoenkgmghkaaGreat
open Go.RowKit Ps Go.Sort Go.Lib Go.Shelf
theorem heap_sorted{α:Type}[Inhabited α](enc:α->j0){w:jz}{g:Nat}{cur:Array j0}{e:TypeId}{fr:Nat×Nat}(h:w.heap[g]? =some (F cur e fr))(m:Nat)(d:Array α)(os:Array Obj):
  (sortWorld enc w g 0 m d os).heap[g]? =some (F (putCells enc 0 d cur) e fr):=by
 have hlt:=(Array.getElem?_eq_some_iff.1 h).1
 show((putRow enc (Sort.ahead w m) g 0 d).heap++os)[g]? =_
 rw[Array.getElem?_append_left (by simpa using hlt)]
 show(w.heap.modify g (onCells (putCells enc 0 d)))[g]? =_
 rw[Array.getElem?_modify,if_pos rfl,h];rfl
theorem eR{α:Type}[Inhabited α](enc:α->j0)(w:jz)(g m:Nat)(d:Array α)(os:Array Obj):w.grownBy (sortWorld enc w g 0 m d os) (some g):=by
 refine⟨rfl,rfl,rfl,?_,fun k hk hn=>?_⟩
 ·show w.heap.size<=((putRow enc (Sort.ahead w m) g 0 d).heap++os).size
  simp
 ·show((putRow enc (Sort.ahead w m) g 0 d).heap++os)[k]? =_
  rw[Array.getElem?_append_left (by simpa using hk)]
  show(w.heap.modify g (onCells (putCells enc 0 d)))[k]? =_
  rw[Array.getElem?_modify,if_neg fun e=>hn (by rw[e])]
theorem lU{α:Type}[Inhabited α](enc:α->j0)(d:Array α)(cur:Array j0)(hd:d.size<=cur.size):(putCells enc 0 d cur).toList.take d.size=d.toList.map enc:=by
 apply List.ext_getElem?
 intro i
 by_cases hi:i<d.size
 ·rw[List.getElem?_take_of_lt hi,Array.getElem?_toList,putCells,Array.getElem?_mapIdx,Array.getElem?_eq_getElem (by omega:i<cur.size)]
  simp[hi]
 ·rw[qf (by simp;omega),qf (by simp;omega)]
theorem row_sorted{α:Type}[Inhabited α](enc:α->j0){w:jz}{base:Nat}{e:TypeId}{g n cap:Nat}{cs:List j0}(h:w.ownsRow base e 1 (s (some ⟨g,0,none⟩) n cap) n cs)(m:Nat)(d:Array α)(hd:d.size=n)(os:Array Obj):
  (sortWorld enc w g 0 m d os).ownsRow base e 1 (s (some ⟨g,0,none⟩) n cap) n (d.toList.map enc):=by
 rcases h.2 with⟨h',_⟩|⟨g',cap',cur,h',hb,hg,hnc,hcm,hcs,htake⟩
 ·simp at h'
 ·simp only[Value.slice.injEq,Option.some.injEq,Addr.mk.injEq,and_true,true_and]at h'
  obtain⟨rfl,rfl⟩:=h'
  refine⟨by simp[hd],.inr ⟨g,cap,_,rfl,hb,heap_sorted enc hg m d os,hnc,hcm,by simpa[putCells]using hcs,?_⟩⟩
  have:=lU enc d cur (by omega)
  rwa [hd,<-Nat.mul_one n]at this
def El(T:Nat->Prop)(w:jz)(n:Nat):Type:={x:j0×List Int // PV T w x.1 x.2/\x.2.length=n/\∀y∈x.2,0<=y/\y<=1000}
def El.v{T:Nat->Prop}{w:jz}{n:Nat}(x:El T w n):j0:=x.1.1
def El.p{T:Nat->Prop}{w:jz}{n:Nat}(x:El T w n):List Int:=x.1.2
theorem El.ok{T:Nat->Prop}{w:jz}{n:Nat}(x:El T w n):PV T w x.v x.p/\x.p.length=n/\∀y∈x.p,0<=y/\y<=1000:=x.2
theorem els_ex{T:Nat->Prop}{w:jz}{n:Nat}:∀{cs:List j0} {ps:List (List Int)},PVs T w cs ps->(∀p∈ps,p.length=n/\∀y∈p,0<=y/\y<=1000)->∃l:List (El T w n),l.map El.v=cs/\l.map El.p=ps
 | [],[],_,_=>⟨[],rfl,rfl⟩
 | [],_::_,h,_=>by have:=h.1;simp at this
 |_::_,[],h,_=>by have:=h.1;simp at this
 |c::cs,p::ps,h,hp=>by
   have h0:PV T w c p:=by have:=h.2 0 (by simp);simpa using this
   obtain⟨l,h1,h2⟩:=els_ex (cs:=cs) (ps:=ps) (by have:=h.drop 1;simpa using this) fun q hq=>hp q (by simp [hq])
   exact⟨⟨(c,p),h0,hp p (by simp)⟩::l,congrArg (c:: ·) h1,congrArg (p:: ·) h2⟩
theorem els_pvs{T:Nat->Prop}{w:jz}{n:Nat}(l:List (El T w n)):PVs T w (l.map El.v) (l.map El.p):=by
 refine⟨by simp,fun i hi=>?_⟩
 have hi':i<l.length:=by simpa using hi
 have:=(l[i]).ok.1
 simpa[List.getD,hi']using this
def cfP{T:Nat->Prop}{w:jz}{n:Nat}(x y:El T w n):Int:=cmpI x.p y.p
theorem lt_bef{T:Nat->Prop}{w:jz}{n:Nat}(x y:El T w n):ltOf cfP x y=true↔Bef x.p y.p:=by
 unfold ltOf cfP;rw[decide_eq_true_eq];exact cmpI_lt
theorem jU{T:Nat->Prop}{w:jz}{n:Nat}(x y:El T w n):ltOf cfP x y=false↔¬Bef x.p y.p:=by
 rw[<-lt_bef];simp
theorem cfP_swo(T:Nat->Prop)(w:jz)(n:Nat):SWO (ltOf (cfP (T:=T) (w:=w) (n:=n))):=by
 refine⟨fun x=>(jU _ _).2 (iQ _),fun x y z h1 h2=>(lt_bef _ _).2 (ko (by rw[x.ok.2.1,y.ok.2.1]) ((lt_bef _ _).1 h1) ((lt_bef _ _).1 h2)),fun x y z h1 h2=>(jU _ _).2 fun h=>?_⟩
 have h1:=(jU _ _).1 h1;have h2:=(jU _ _).1 h2
 rcases ix (p:=x.p) (q:=y.p) (by rw[x.ok.2.1,y.ok.2.1])with h3|h3|h3
 ·exact h1 h3
 ·rw[h3]at h;exact h2 h
 ·exact h2 (ko (by rw[x.ok.2.1,y.ok.2.1]) h3 h)
def RetSort(S:Nat->Prop)(w:jz)(base:Nat)(v:j0)(ps:List (List Int))(e:Ending)(w':jz):Prop:=
 e=C (.tuple #[])/\∃qs,OP S w' base 24 v qs/\qs.length=ps.length/\(∀x,x∈qs↔x∈ps)/\qs.Pairwise (fun p q=>¬Bef q p)/\w.grownBy w' v.ownBlock
theorem SortFunc_any(S:Nat->Prop)(base g n cap hgt:Nat)(ps:List (List Int))(w:jz)(h:OP S w base 24 (s (some ⟨g,0,none⟩) n cap) ps)(hn:n<=1000000000)(hnl:ps.length=n)(hn0:0<n)(hl:∀p∈ps,p.length=hgt/\∀y∈p,0<=y/\y<=1000)(hh:hgt<=2000):
  j1 qe 239 #[s (some ⟨g,0,none⟩) n cap,.func (.func 240) #[] #[]] w (RetSort S w base (s (some ⟨g,0,none⟩) n cap) ps):=by
 obtain⟨cs,hrow,hpv,hsb⟩:=h;rw[hnl]at hrow;obtain⟨T,hT⟩:∃T,T=wth S (s (some ⟨g,0,none⟩) n cap):=⟨_,rfl⟩;rw[<-hT]at hpv
 have hFT:∀w',w.grownBy w' (some g)->Frm T w w':=fun w' hgr=>by rw[hT];exact dB (v:=s (some ⟨g,0,none⟩) n cap) hgr
 obtain⟨l,hl1,hl2⟩:=els_ex hpv hl
 have hll:l.length=n:=by rw[<-hnl,<-hl2];exact(List.length_map _).symm
 have hblk:g<w.heap.size:=(World.ownsRow.lt hrow g rfl).2
 cases l with
 |nil=>simp at hll;omega
 |cons x0 l0=>
  letI:Inhabited (El T w hgt):=⟨x0⟩
  generalize hL:x0::l0=L at *
  have hsz:L.toArray.size=n:=by simpa using hll
  have h1:OneCell (El.v (T:=T) (w:=w) (n:=hgt)):=fun x=>by
   obtain⟨A,m,c,hu,_⟩:=x.ok.1
   rw[hu];rfl
  have hH:Holds El.v w g 0 L.toArray:=fun j hj=>by
   rw[hsz]at hj;rw[Nat.zero_add]
   refine⟨?_,hrow.frozenAt j⟩
   rw[hrow.cellAt j (by omega),<-hl1]
   simp[show j<L.length by omega]
  have hC:CmpReads qe 240 #[] El.v (cfP (T:=T) (w:=w) (n:=hgt)) g 0 L.toArray.size w:=fun m os dk _ x y=>by
   have hfr:Frm T w (sortWorld El.v w g 0 m dk os):=hFT _ (eR El.v w g m dk os);obtain⟨⟨A,m1,c1,hu1,hs1,_⟩,hx2,hx3⟩:=x.ok;obtain⟨⟨B,m2,c2,hu2,hs2,_⟩,hy2,hy3⟩:=y.ok
   have e1:hgt=m1:=by rw[<-hs1.1.1,hx2]
   have e2:hgt=m2:=by rw[<-hs2.1.1,hy2]
   subst e1 e2;rw[hu1,hu2]
   exact gt A B hgt c1 c2 x.p y.p _ (hs1.frm hfr).1 (hs2.frm hfr).1 hh hx3 hy3
  have key:=Tryz.slices_SortFunc El.v h1 cfP (cfP_swo _ _ _) 240 #[] g 0 cap L.toArray w (fun args w=>by kernel_rfl) hC.lays hH hblk (by omega)
  rw[hsz]at key
  refine key.mono ?_
  rintro e w' ⟨rfl,d',nq,os,hperm,hsorted,rfl⟩
  have hd:d'.size=n:=by rw[hperm.1,hsz]
  refine⟨rfl,d'.toList.map El.p,⟨d'.toList.map El.v,?_,?_,hsb⟩,by simp[hd,hnl],fun x=>?_,?_,eR _ _ _ _ _ _⟩
  ·have:=row_sorted El.v hrow nq d' hd os
   simpa[hd]using this
  ·rw[<-hT];exact(els_pvs d'.toList).frm (hFT _ (eR El.v w g nq d' os))
  ·have hp:d'.toList.Perm L:=by
    have h:=hperm.2.2
    rw[show d'.extract 0 n=d' by rw[<-hd];simp,show L.toArray.extract 0 n=L.toArray by rw[<-hsz];exact Array.extract_size]at h
    simpa using h
   rw[(hp.map El.p).mem_iff,hl2]
  ·rw[List.pairwise_map,List.pairwise_iff_getElem]
   intro i j hi hj hij
   have:=hsorted i j (Nat.zero_le _) hij (by simp at hj;omega)
   have h2:=(jU _ _).1 this
   simp at hi hj
   simpa[hi,hj]using h2
def RetSP(S:Nat->Prop)(w:jz)(base:Nat)(v:j0)(ps:List (List Int))(e:Ending)(w':jz):Prop:=
 ∃v',e=C v'/\OP S w' base 24 v' (sortU ps)/\v'.ownBlock=v.ownBlock/\w.grownBy w' v.ownBlock
theorem dj(S:Nat->Prop)(base n hgt:Nat)(v:j0)(ps:List (List Int))(w:jz)(h:OP S w base 24 v ps)(hn:n<=1000000000)(hnl:ps.length=n)(hn0:0<n)(hl:∀p∈ps,p.length=hgt/\∀y∈p,0<=y/\y<=1000)(hh:hgt<=2000):
  j1 qe 235 #[v] w (RetSP S w base v ps):=by
 have h0:=h;obtain⟨cs,hrow,_,_⟩:=h0;obtain⟨_,h3⟩:=hrow
 rcases h3 with⟨h3,h4⟩|⟨g,cap,cur,rfl,_⟩
 ·omega
 ·rw[hnl]at h ⊢
  have CS:=h_ (SortFunc_any S base g n cap hgt ps w h hn hnl hn0 hl hh)
  have CC:Hid (∀(W:jz) (qs:List (List Int)),OP S W base 24 (s (some ⟨g,0,none⟩) n cap) qs->qs.length=ps.length->(∀x,x∈qs↔x∈ps)->j1 qe 241 #[s (some ⟨g,0,none⟩) n cap,.func (.func 242) #[] #[]] W (RetC S W base g cap (cmpct qs))):=fun W qs hq h1 h2=>
   kr S base g n cap hgt qs W hq hn (by rw[h1,hnl]) (fun p hp=>(hl p ((h2 p).1 hp)).1) hh
  have HL:=h_ hl;clear h hl hnl
  go_enter Tryz.func235,Tryz.ntmps235
  go_wp2_with (fail)
  refine CS.out.mono ?_
  rintro e w1 ⟨rfl,qs,hq,hq1,hq2,hq3,hg1⟩
  have CC2:=h_ (CC.out w1 qs hq hq1 hq2)
  have HS:Hid (cmpct qs=sortU ps):=cmpct_sortU (n:=hgt) (fun p hp=>(HL.out p hp).1) hq2 hq3
  have HG:=h_ hg1;clear hq hq1 hq2 hq3 hg1 CC CS
  go_wp2_with (fail)
  refine CC2.out.mono ?_
  rintro e w2 ⟨k,rfl,ho,hg2⟩
  have HR:Hid (RetSP S w base (s (some ⟨g,0,none⟩) n cap) ps (C (s (some ⟨g,0,none⟩) k cap)) w2):=
   ⟨_,rfl,by rw[<-HS.out];exact ho,rfl,gk HG.out hg2⟩
  clear ho hg2
  go_wp2_with (fail)
  go_ret
  exact HR.out
open Go.RowKit Ps
theorem rowL_snoc(ds:List Nat)(d:Nat):∀row:List (List Int),rowL (ds++[d]) row=sortU ((rowL ds row).flatMap (adv d)):=by
 induction ds with
 |nil=>intro row;rfl
 |cons e ds ih=>intro row;exact ih _
theorem mp{row:List (List Int)}{d:Nat}(h:∀q∈row,(adv d q).length<=24):(row.flatMap (adv d)).length<=row.length*24:=by
 induction row with
 |nil=>simp
 |cons q row ih=>
  have h1:=h q (by simp)
  have h2:=ih fun p hp=>h p (by simp[hp])
  simp only[List.flatMap_cons,qd,List.length_cons];omega
theorem mJ{n c d:Nat}{q:List Int}(hq:PosP n c q)(hn:n<=24):(adv d q).length<=24:=by
 unfold adv
 split
 ·simp
 ·have:=cA (p:=q) (d:=d) q.length
  unfold au;have:=hq.1
  omega
theorem jk{n c:Nat}{ds:List Nat}{p:List Int}(hd:∀d∈ds,1<=d)(hp:PosP n c p):∀q∈rowL ds [p],PosP n c q:=
 (gO (row := [p]) hd fun q hq => by have:q=p:=by simpa using hq
                                    rw [this];exact hp).2
theorem rowL_some{n c:Nat}{ds:List Nat}{p:List Int}(hd:∀d∈ds,1<=d)(hp:PosP n c p):rowL ds [p]≠[]:=by
 have h1 := (gO (row := [p]) hd fun q hq => by have:q=p:=by simpa using hq
                                               rw [this];exact hp).1
 intro e
 obtain⟨x,hx⟩:=List.exists_mem_of_ne_nil _ (dU hd hp)
 have:=(h1 x).2 ⟨p,by simp,hx⟩
 rw[e]at this;simp at this
theorem lR{n c:Nat}(hn:n<=24):∀{ds:List Nat} {p:List Int},(∀d∈ds,1<=d)->PosP n c p->(rowL ds [p]).length<=24^ds.length:=by
 intro ds
 induction ds using bw with
 |nil=>intro p _ _;exact j2 _
 |snoc ds d ih=>
  intro p hd hp
  have hd':∀e∈ds,1<=e:=fun e he=>hd e (by simp[he])
  rw[rowL_snoc];have h1:=bU ((rowL ds [p]).flatMap (adv d))
  have h2:=mp (row:=rowL ds [p]) (d:=d) fun q hq=>mJ (jk hd' hp q hq) hn
  have h3:=ih hd' hp;rw[qd,List.length_singleton,Nat.pow_succ]
  omega
theorem mz{a b:Nat}:(dice a b).length<=2/\∀ds∈dice a b,ds.length<=4:=by
 unfold dice
 split
 ·refine⟨by simp,fun ds h=>?_⟩
  have:ds=[a,a,a,a]:=by simpa using h
  subst this;simp
 ·refine⟨by simp,fun ds h=>?_⟩
  simp at h
  rcases h with rfl|rfl<;>simp
theorem pow4{k:Nat}(h:k<=4):24^k<=331776:=qa (Nat.pow_le_pow_right (by omega) h) (by decide)
theorem pow3{k:Nat}(h:k<=3):24^k<=13824:=qa (Nat.pow_le_pow_right (by omega) h) (by decide)
noncomputable def rowsF(p:List Int)(l:List (List Nat)):List (List Int):=l.flatMap fun ds=>rowL ds [p]
theorem rowsF_snoc(p:List Int)(l:List (List Nat))(ds:List Nat):rowsF p (l++[ds])=rowsF p l++rowL ds [p]:=by unfold rowsF;simp
theorem gM{n c:Nat}(hn:n<=24){p:List Int}(hp:PosP n c p):∀{l:List (List Nat)},(∀ds∈l,(∀d∈ds,1<=d)/\ds.length<=4)->(rowsF p l).length<=l.length*331776
 | [],_=>by simp[rowsF]
 |ds::l,h=>by
   have h1:=lR hn (h ds (by simp)).1 hp
   have h2:=pow4 (h ds (by simp)).2
   have h3:=gM hn hp (l:=l) fun e he=>h e (by simp [he])
   unfold rowsF at h3 ⊢
   simp only [List.flatMap_cons,qd,List.length_cons];omega
theorem castD_len(l:List (List Nat)):(castD l).length=l.length:=by simp[castD]
theorem castD_get(l:List (List Nat)){i:Nat}(h:i<l.length):(castD l).getD i []=(l.getD i []).map (Nat.cast:Nat->Int):=by
 unfold castD;rw[getD_map _ l [] [] h]
theorem cast_get(l:List Nat){j:Nat}(h:j<l.length):(l.map (Nat.cast:Nat->Int)).getD j 0=((l.getD j 0:Nat):Int):=getD_map _ l 0 0 h
theorem flat_take{row:List (List Int)}{d k:Nat}(h:k<row.length):(row.take (k+1)).flatMap (adv d)=(row.take k).flatMap (adv d)++adv d (row.getD k []):=by
 rw[aG row [] h,List.flatMap_append];simp
theorem OP.slice{S:Nat->Prop}{w:jz}{base:Nat}{e:TypeId}{v:j0}{ps:List (List Int)}(h:OP S w base e v ps)(hne:ps≠[]):
  ∃g c,v=s (some ⟨g,0,none⟩) ps.length c/\PL S w (some ⟨g,0,none⟩) ps.length ps/\ps.length<=c/\base<=g:=by
 have h2:=h;obtain⟨A,c,hv,hpl,hc⟩:=h2.read;obtain⟨cs,⟨_,h3⟩,_,_⟩:=h
 rcases h3 with⟨h3,h4⟩|⟨g,cap,cur,h3,h4,_⟩
 ·exact absurd (List.eq_nil_of_length_eq_zero h4) hne
 ·rw[hv]at h3
  injection h3 with h5 h6 h7;subst h5 h7
  exact⟨g,c,hv,hpl,hc,h4⟩
def RetO1(S:Nat->Prop)(w:jz)(ps:List (List Int))(e:Ending)(w':jz):Prop:=∃v,e=C v/\OP S w' w.heap.size 24 v ps/\Below w.heap.size w w'
theorem PVs.less{S S':Nat->Prop}{w:jz}{cs:List j0}{ps:List (List Int)}(h:PVs S w cs ps)(hS:∀k,S' k->S k):PVs S' w cs ps:=h.set fun k hk=>.inl (hS k hk)
theorem iy(S:Nat->Prop)(A:Option Addr)(n c a b:Nat)(p:List Int)(w:jz)(hx:SQ S w A n p)(hc:n<=c)(hp:PosP n 15 p)(hn:n<=24)(hn0:0<n)(hb1:1<=b)(hba:b<=a)(ha6:a<=6)(hS:∀k,w.heap.size<=k->¬S k):
  j1 qe 228 #[s A n c,.agg #[.int .i64 a,.int .i64 b]] w (RetO1 S w (resultsL p a b)):=by
 obtain⟨i0,hi,hz0,hz1,hz2⟩:=info_parts Tryz.infoL;have HX:=h_ hx;have HP:=h_ hp;have HSS:=h_ hS
 have HDP:=h_ (fH (a:=a) (b:=b) (by omega) hb1)
 have HDL:=h_ (mz (a:=a) (b:=b))
 have HRES:Hid (sortU (rowsF p (dice a b))=resultsL p a b):=iV (by omega) hb1 hp
 have HRNE:Hid (resultsL p a b≠[]):=iW (by omega) hb1 hp
 have HB0:Hid (Below w.heap.size w (w.alloc (F #[.int .i64 a,.int .i64 b] 37))):=(Below.refl _ _).alloc (j2 _) _;clear hx hp hS
 have HDM:Hid (∀ds∈dice a b,∀d∈ds,d<=6):=by
  intro ds hds d hd
  unfold dice at hds
  split at hds
  ·have:ds=[a,a,a,a]:=by simpa using hds
   subst this;simp at hd;omega
  ·simp at hds
   rcases hds with rfl|rfl<;>(simp at hd;omega)
 go_enter Tryz.func228,Tryz.ntmps228
 go_wp2_with (fail)
 refine(iY S a b _ (fun k hk=>HSS.out k (by simp at hk;omega))).mono ?_
 rintro e w1 ⟨bo,oo,no,co,rfl,hpo,hco,hb⟩
 have HB1:Hid (Below w.heap.size w w1):=HB0.out.trans (hb.mono (by simp))
 have HPO:=h_ hpo
 have hno:no=(dice a b).length:=by rw[<-hpo.len,castD_len]
 generalize hD:dice a b=D at *;have HNO:=h_ hno
 have hno2:no<=2:=by have:=HDL.out.1;omega
 clear hpo hb hno hD
 go_wp2_with (fail)
 go_loopw [5,17] (fun v5 v17 wr=>∃i:Nat,i<=no/\v17= .int .i64 i/\(∃vx,vx=v5/\OP S wr w1.heap.size 24 vx (rowsF p (D.take i)))/\Below w1.heap.size w1 wr) (fun _ v17 _=>no-(intOf v17).toNat)
 case atStart=>exact⟨0,by omega,rfl,⟨_,rfl,OP.nil_ _ _ _ _⟩,Below.refl _ _⟩
 case round=>
  obtain⟨wa,rfl⟩:∃wa:jz,wa=wr:=⟨_,rfl⟩;obtain⟨i,hi',rfl,⟨vx,rfl,hO⟩,hb⟩:=hrel;have HO:=h_ hO;have HBr:=h_ hb;clear hO hb
  by_cases hlt:i<no
  ·have hli:(i:Int)<(no:Int):=by omega
   obtain⟨_,_,Bo,mo,cq,hA,hz,hcell,hso,hmo⟩:=(HPO.out.below HBr.out).at hlt;injection hA with hA;injection hA with hA1 hA2;subst hA1 hA2
   have hmem:=ak D ([]:List Nat) (k:=i) (by have:=HNO.out;omega)
   rw[castD_get D (by have:=HNO.out;omega)]at hso
   have HTK:Hid (D.take (i+1)=D.take i++[D.getD i []]):=aG D [] (by have:=HNO.out;omega)
   have hd1:=HDP.out _ hmem;have hd2:=HDL.out.2 _ hmem;have hd3:=HDM.out _ hmem;generalize D.getD i []=dl at *;have HD1:=h_ hd1.1;have HD2:=h_ hd2;have HD3:=h_ hd3
   have hmd:mo=dl.length:=by rw[<-hso.1.1,List.length_map]
   have HMD:=h_ hmd
   have hmo4:mo<=4:=by omega
   have HDS:=h_ hso.1;obtain⟨T,hT⟩:∃T,T=wth S vx:=⟨_,rfl⟩
   have HTS:Hid (∀k,wa.heap.size<=k->¬T k):=fun k hk h=>by
    rw[hT]at h
    rcases h with h|h
    ·exact HSS.out k (qa (qa HB1.out.size HBr.out.size) hk) h
    ·have:=(HO.out.lt k h).2;omega
   have HTT:=h_ hT;clear hmem hd1 hd2 hd3 hmd hso hT;have HXr:Hid (SL wa A n p):=HX.out.1.below (HB1.out.trans (HBr.out.mono HB1.out.size))
   go_wp2_with (fail)
   refine(fK A n c p wa (by exact HXr.out) (by omega) hn0).mono ?_
   rintro e w2 ⟨gc,cc,rfl,hoc,hgc1,hgc2,_,_,hbc⟩
   have HPL0:Hid (OP T (w2.alloc (F #[s (some ⟨gc,0,none⟩) n cc] 24)) wa.heap.size 24 (s (some ⟨w2.heap.size,0,none⟩) 1 1) [p]):=
    OP.made w2 (cs:=[s (some ⟨gc,0,none⟩) n cc]) (ps:=[p]) hbc.size HTS.out (PVs.one (PV.own hoc HTS.out)) (by unfold maxLen;simp)
   have HB2:Hid (Below wa.heap.size wa (w2.alloc (F #[s (some ⟨gc,0,none⟩) n cc] 24))):=hbc.alloc hbc.size _
   have HPL1:Hid (PL T (w2.alloc (F #[s (some ⟨gc,0,none⟩) n cc] 24)) (some ⟨w2.heap.size,0,none⟩) 1 [p]):=by
    obtain⟨_,_,hv,hpl,_⟩:=HPL0.out.read;injection hv with h1 h2 h3;subst h1
    exact hpl
   clear hoc hgc1 hgc2 hbc HPL0
   go_wp2_with (fail)
   generalize hV:w2.alloc (F #[s (some ⟨gc,0,none⟩) n cc] 24)=V at *;clear hV;generalize w2.heap.size=g2 at *
   go_loopw [8,26] (fun v8 v26 ws=>∃j br or' nr cr:Nat,j<=mo/\v26= .int .i64 j/\v8=s (some ⟨br,or',none⟩) nr cr/\nr<=cr/\Hid (PL T ws (some ⟨br,or',none⟩) nr (rowL (dl.take j) [p]))/\Hid (Below V.heap.size V ws)) (fun _ v26 _=>mo-(intOf v26).toNat)
   case atStart=>exact⟨0,g2,0,1,1,by omega,rfl,rfl,by omega,HPL1.out,Below.refl _ _⟩
   case round=>
    obtain⟨ws,rfl⟩:∃ws:jz,ws=wr:=⟨_,rfl⟩;clear HPL1;obtain⟨j,br,or',nr,cr,hj,rfl,rfl,hncr,HRow,HBs⟩:=hrel
    by_cases hjl:j<mo
    ·have hlj:(j:Int)<(mo:Int):=by omega
     have HDS2:SL ws Bo mo (dl.map (Nat.cast:Nat->Int)):=(HDS.out.below HB2.out).below HBs.out
     obtain⟨bd,od,rfl,hzd,hcd⟩:=HDS2.2 (by omega)
     have hdc:=hcd j hjl
     rw[cast_get dl (by have:=HMD.out;omega)]at hdc
     have hdm:=ak dl (0:Nat) (k:=j) (by have:=HMD.out;omega)
     have hde1:=HD1.out _ hdm;have hde6:=HD3.out _ hdm
     have HTJ:Hid (dl.take (j+1)=dl.take j++[dl.getD j 0]):=aG dl 0 (by have:=HMD.out;omega)
     have htj:∀d∈dl.take j,1<=d:=fun d hd=>HD1.out d (List.mem_of_mem_take hd)
     have HRP:=h_ (jk htj HP.out)
     have HRL:Hid ((rowL (dl.take j) [p]).length<=13824):=qa (lR hn htj HP.out) (pow3 (by rw[List.length_take];omega))
     have HRSOME:=h_ (rowL_some htj HP.out);have HRN:Hid ((rowL (dl.take j) [p]).length=nr):=HRow.out.len;have HRNX:=h_ (rowL_snoc (dl.take j) (dl.getD j 0) [p]);generalize rowL (dl.take j) [p]=row at *;generalize dl.getD j 0=d at *
     have hnr:nr<=13824:=by rw[<-HRN.out];exact HRL.out
     have HTW:Hid (∀k,ws.heap.size<=k->¬T k):=fun k hk=>HTS.out k (qa (qa HB2.out.size HBs.out.size) hk)
     clear HDS2 hcd hdm htj
     go_wp2_with (fail)
     go_loopw [11,32] (fun v11 v32 wt=>∃k:Nat,k<=nr/\v32= .int .i64 k/\(∃vn,vn=v11/\OP T wt ws.heap.size 24 vn ((row.take k).flatMap (adv d)))/\Below ws.heap.size ws wt) (fun _ v32 _=>nr-(intOf v32).toNat)
     case atStart=>exact⟨0,by omega,rfl,⟨_,rfl,OP.nil_ _ _ _ _⟩,Below.refl _ _⟩
     case round=>
      obtain⟨wt,rfl⟩:∃wt:jz,wt=wr:=⟨_,rfl⟩;obtain⟨k,hk,rfl,⟨vn,rfl,hON⟩,hbt⟩:=hrel;have HON:=h_ hON;have HBt:=h_ hbt;clear hON hbt
      by_cases hkl:k<nr
      focus
       have hlk:(k:Int)<(nr:Int):=by omega
       obtain⟨_,_,Bq,mq,cq2,hA,hzq,hcellq,_,-⟩:=(HRow.out.below HBt.out).at hkl;injection hA with hA;injection hA with hA1 hA2;subst hA1 hA2
       have hqs:PV (fun k=>T k\/ws.heap.size<=k) ws (s Bq mq cq2) (row.getD k []):=by
        obtain⟨_,_,Bq',mq',cq',hA',_,hcell',hsq',hmq'⟩:=HRow.out.at hkl;injection hA' with hA';injection hA' with hA1' hA2';subst hA1' hA2';have:=ae hcell' HBt.out;rw[hcellq]at this;injection this with this;injection this with e1 e2 e3;subst e1 e2 e3
        exact⟨_,_,_,rfl,hsq'.set fun k hk=>hk,hmq'⟩
       have HQS:=h_ hqs
       have hqp:=HRP.out _ (ak row [] (by rw[HRN.out];exact hkl))
       have HFT:Hid ((row.take (k+1)).flatMap (adv d)=(row.take k).flatMap (adv d)++adv d (row.getD k [])):=flat_take (by rw[HRN.out];exact hkl)
       have hml:mq=n:=by
        obtain⟨_,_,_,he,hs,_⟩:=hqs;injection he with e1 e2 e3;subst e1 e2 e3
        rw[<-hs.1.1];exact hqp.1
       subst hml
       have hsl:SL wt Bq mq (row.getD k []):=by
        obtain⟨_,_,_,he,hs,_⟩:=hqs;injection he with e1 e2 e3;subst e1 e2 e3
        exact hs.1.below HBt.out
       have HSL:=h_ hsl;have HQP:=h_ hqp
       have HOL:Hid (((row.take k).flatMap (adv d)).length<=331776):=by
        unfold Hid
        have:=mp (row:=row.take k) (d:=d) fun q hq=>mJ (HRP.out q (List.mem_of_mem_take hq)) hn
        have h2:(row.take k).length<=nr:=by rw[List.length_take,HRN.out];omega
        omega
       clear hqs hqp hsl;generalize row.getD k []=q at *
       have TOT:Hid (j1 qe 97 #[s Bq mq cq2] wt fun e w'=>e=C (.int .i64 q.sum)/\wt=w'):=cE Bq mq cq2 q wt HSL.out HQP.out.2.1 (by have:=HQP.out.2.2;omega) (by omega)
       obtain⟨csn,hrow,hpv,_⟩:=HON.out;have hvlt:=HON.out.lt;have HVL:=h_ hvlt
       by_cases hs0:q.sum=0
       focus
        have b0:(q.sum==0)=true:=by simp[hs0]
        have HAD:Hid (adv d q=[q]):=if_pos hs0;have HROW:=h_ (row_alloc hrow (F #[s Bq mq cq2] 24));have HPV:=h_ (hpv.frm ((Frm.refl (wth T vn) _).alloc (F #[s Bq mq cq2] 24)))
        have HPE:Hid (PVs (wth T vn) (wt.alloc (F #[s Bq mq cq2] 24)) [s Bq mq cq2] [q]):=(PVs.one HQS.out).into (HBt.out.alloc HBt.out.size _) (fun x hx=>(HVL.out x hx).1)
        clear hrow hpv hvlt hs0
        go_wp2_with (first
         |(go_at_call 97;(with_reducible refine TOT.out.mono ?_);rintro e w' ⟨rfl,rfl⟩)
         |(at_builtin;(refine wpList_append_own_at _ rfl _ _ 186 rfl ws.heap.size 24 i0 (s none 0 0) 1 24 Tryz.underlying186 hi hz0 hz1 hz2 rfl (by decide) _ _ _ rfl HROW.out ⟨wt.heap.size,0,none⟩ 1 1 [s Bq mq cq2] rfl rfl (one_new _ _ _) (aI _ _ _) (by have:=HOL.out;unfold maxLen;omega) (by have:=HOL.out;omega) (by have h1:=HBt.out.size;simp;omega) ?_);intro v' w9 hown hgrow _ hat))
        have HO2:Hid (OP T w9 ws.heap.size 24 v' ((row.take k).flatMap (adv d)++[q])):=OP.grew HPV.out HPE.out hown rfl hgrow hat HTW.out
        have HB9:Hid (Below ws.heap.size ws w9):=(HBt.out.alloc HBt.out.size _).grown hgrow (by have h1:=HBt.out.size;simp;omega) (fun x hx=>(HVL.out x hx).1)
        refine ?zb
       rotate_left
       focus
        have b0:(q.sum==0)=false:=by simp[hs0]
        have HAD:Hid (adv d q=au q d):=if_neg hs0;have HSN:Hid (au q d≠[]):=dQ HQP.out.2.1 hs0
        have HSLN:Hid ((au q d).length<=24):=by unfold Hid;rw[<-HAD.out];exact mJ HQP.out hn
        have STP:Hid (j1 qe 234 #[s Bq mq cq2,.int .i64 d] wt fun e w'=>∃v,e=C v/\OP (wth T vn) w' wt.heap.size 24 v (au q d)/\Below wt.heap.size wt w'):=
         jc (wth T vn) Bq mq cq2 d q wt HSL.out HQP.out.2.1 HQP.out.2.2 hn hn0 hde1 hde6 (fun x hx=>by
          rintro(h|h)
          ·exact HTW.out x (qa HBt.out.size hx) h
          ·have:=(HVL.out x h).2;omega)
        clear hs0 hvlt;have HROW0:=h_ hrow;have HPV0:=h_ hpv;clear hrow hpv
        go_wp2_with (go_at_call 97;(with_reducible refine TOT.out.mono ?_);rintro e w' ⟨rfl,rfl⟩)
        refine STP.out.mono ?_
        rintro e w8 ⟨vs,rfl,hos,hb8⟩
        obtain⟨gs,cs8,rfl,hpl8,hcs8,_⟩:=hos.slice HSN.out;obtain⟨css,hrows,hpvs,_⟩:=hos;have HROW:=h_ (own_below HROW0.out hb8);have HPV:Hid (PVs (wth T vn) w8 csn ((row.take k).flatMap (adv d))):=HPV0.out.frm (Frm.of_below' _ hb8)
        have HPE:Hid (PVs (wth T vn) w8 css (au q d)):=hpvs.less fun x hx=>.inl hx
        have HB8:Hid (Below ws.heap.size ws w8):=HBt.out.trans (hb8.mono HBt.out.size)
        have HNW:Hid (∀x u,css[x]? =some u->w8.cell? ((⟨gs,0,none⟩:Addr).add x)=some u):=fun x u hu=>by
         have hx:x<css.length:=(List.getElem?_eq_some_iff.1 hu).1
         rw[Addr.add_lit,Nat.zero_add,hrows.cellAt x (by rw[<-hrows.1];exact hx)];exact hu
        have HCL:Hid (css.length=(au q d).length*1):=hrows.1;have HC1:Hid (∀u∈css,u.oneCell'=true):=hpvs.slices;have hz8:ws.heap.size<=w8.heap.size:=HB8.out.size;generalize hst:au q d=st at *;clear hrows hpvs hpl8 hb8 HPV0 HROW0 hst
        go_wp2_with (at_builtin;(refine wpList_append_own_at _ rfl _ _ 186 rfl ws.heap.size 24 i0 (s none 0 0) 1 24 Tryz.underlying186 hi hz0 hz1 hz2 rfl (by decide) _ _ _ rfl HROW.out ⟨gs,0,none⟩ st.length cs8 css rfl HCL.out HNW.out HC1.out (by have:=HOL.out;have:=HSLN.out;unfold maxLen;omega) (by have:=HOL.out;have:=HSLN.out;omega) hz8 ?_);intro v' w9 hown hgrow _ hat)
        have HO2:Hid (OP T w9 ws.heap.size 24 v' ((row.take k).flatMap (adv d)++st)):=OP.grew HPV.out HPE.out hown rfl hgrow hat HTW.out
        have HB9:Hid (Below ws.heap.size ws w9):=HB8.out.grown hgrow hz8 (fun x hx=>(HVL.out x hx).1)
        refine ?za
      rotate_left 2
      ·have hke:k=nr:=by omega
       have HNE:Hid (OP T wt ws.heap.size 24 vn (row.flatMap (adv d))):=by
        have h:=HON.out
        rwa [hke,qc (by rw[HRN.out];exact j2 _)]at h
       have HFP:Hid (∀x∈row.flatMap (adv d),PosP n 15 x):=fun x hx=>by
        obtain⟨y,hy,hx⟩:=List.mem_flatMap.1 hx
        exact adv_pos hde1 (HRP.out y hy) hx
       have HFN:Hid (row.flatMap (adv d)≠[]):=fun e0=>by
        obtain⟨y,hy⟩:=List.exists_mem_of_ne_nil _ HRSOME.out
        have h1:adv d y≠[]:=by
         unfold adv
         split
         ·simp
         ·exact dQ (HRP.out y hy).2.1 ‹_›
        obtain⟨z,hz⟩:=List.exists_mem_of_ne_nil _ h1;have:z∈row.flatMap (adv d):=List.mem_flatMap.2 ⟨y,hy,hz⟩
        rw[e0]at this;simp at this
       have HFL:Hid ((row.flatMap (adv d)).length<=331776):=by
        unfold Hid
        have:=mp (row:=row) (d:=d) fun q hq=>mJ (HRP.out q hq) hn
        have:=HRN.out
        omega
       have SRT:Hid (j1 qe 235 #[vn] wt (RetSP T wt ws.heap.size vn (row.flatMap (adv d)))):=
        dj T ws.heap.size _ n vn _ wt HNE.out (by have:=HFL.out;omega) rfl (List.length_pos_iff.2 HFN.out) (fun x hx=>⟨(HFP.out x hx).1,pos_bd (HFP.out x hx) (by omega)⟩) (by omega)
       have HVL:=h_ HON.out.lt;clear HON
       go_wp2_with (fail)
       refine SRT.out.mono ?_
       rintro e w8 ⟨v8,rfl,ho8,_,hg8⟩
       have HSS8:Hid (sortU (row.flatMap (adv d))≠[]):=fun e0=>by
        have hs:=aP (n:=n) (l:=row.flatMap (adv d)) fun x hx=>(HFP.out x hx).1
        obtain⟨y,hy⟩:=List.exists_mem_of_ne_nil _ HFN.out;have:=(hs.2.2 y).2 hy
        rw[e0]at this;simp at this
       obtain⟨g8,c8,rfl,hpl8,hc8,_⟩:=ho8.slice HSS8.out
       have HPL8:Hid (PL T w8 (some ⟨g8,0,none⟩) (sortU (row.flatMap (adv d))).length (rowL (dl.take (j+1)) [p])):=by
        unfold Hid
        rw[HTJ.out,HRNX.out];exact hpl8
       have HB8:Hid (Below V.heap.size V w8):=HBs.out.trans ((HBt.out.grown hg8 HBt.out.size (fun x hx=>(HVL.out x hx).1)).mono HBs.out.size)
       clear ho8 hg8 hpl8;generalize (sortU (row.flatMap (adv d))).length=n8 at *
       go_wp2_with (fail)
       go_roundw
       case rel=>exact⟨j+1,g8,0,n8,c8,by omega,by go_num,rfl,hc8,HPL8.out,HB8.out⟩
       case measure=>(simp[intOf])<;>omega
      case za|zb=>
       clear hown hgrow hat HROW HPV HPE
       go_wp2_with (fail)
       go_roundw
       case rel=>exact⟨k+1,by omega,by go_num,⟨_,rfl,by rw[HFT.out,HAD.out];exact HO2.out⟩,HB9.out⟩
       case measure=>(simp[intOf])<;>omega
    ·have hje:j=mo:=by omega
     have HRE:Hid (PL T ws (some ⟨br,or',none⟩) nr (rowL dl [p])):=by
      have h:=HRow.out
      rwa [qc (by have:=HMD.out;omega)]at h
     have HRP:=h_ (jk HD1.out HP.out);have HRL:Hid ((rowL dl [p]).length<=331776):=qa (lR hn HD1.out HP.out) (pow4 HD2.out);have HVV:Hid (OP S ws w1.heap.size 24 vx (rowsF p (D.take i))):=(HO.out.below HB2.out).below HBs.out
     have HVL:Hid (rowsF p (D.take i)=rowsF p (D.take i)/\(rowsF p (D.take i)).length<=663552):=by
      refine⟨rfl,?_⟩
      have h1:=gM hn HP.out (l:=D.take i) fun ds hds=>⟨(HDP.out ds (List.mem_of_mem_take hds)).1,HDL.out.2 ds (List.mem_of_mem_take hds)⟩
      have h2:(D.take i).length<=2:=by rw[List.length_take];have:=HDL.out.1;omega
      omega
     have HRF:=h_ (rowsF_snoc p (D.take i) dl);have HB7:Hid (Below w1.heap.size w1 ws):=(HBr.out.trans (HB2.out.mono HBr.out.size)).trans (HBs.out.mono (qa HBr.out.size HB2.out.size));have hz7:w1.heap.size<=ws.heap.size:=HB7.out.size;have HNR:Hid ((rowL dl [p]).length=nr):=HRE.out.len;obtain⟨csr,hcz,hpvr⟩:=HRE.out
     have HNW:Hid (∀x u,csr[x]? =some u->ws.cell? ((⟨br,or',none⟩:Addr).add x)=some u):=fun x u hu=>by
      have h:=hcz.news (Below.refl _ _) 0 csr.length x u;rw[List.drop_zero,List.take_length]at h
      exact h hu
     have HCL:Hid (csr.length=nr*1):=hcz.1;have HC1:Hid (∀u∈csr,u.oneCell'=true):=hpvr.slices
     have HPE:Hid (PVs (wth S vx) ws csr (rowL dl [p])):=by rw[<-HTT.out];exact hpvr
     obtain⟨csx,hrowx,hpvx,_⟩:=HVV.out;have HROW:=h_ hrowx;have HPV:=h_ hpvx;have HXL:=h_ HVV.out.lt
     have hnr6:nr<=331776:=by rw[<-HNR.out];exact HRL.out
     generalize rowsF p (D.take i)=acc at *;generalize rowL dl [p]=row at *;clear hcz hpvr hrowx hpvx
     go_wp2_with (at_builtin;(refine wpList_append_own_at _ rfl _ _ 186 rfl w1.heap.size 24 i0 (s none 0 0) 1 24 Tryz.underlying186 hi hz0 hz1 hz2 rfl (by decide) _ _ _ rfl HROW.out ⟨br,or',none⟩ nr cr csr rfl HCL.out HNW.out HC1.out (by have:=HVL.out.2;unfold maxLen;omega) (by have:=HVL.out.2;omega) hz7 ?_);intro v' w9 hown hgrow _ hat)
     have HO2:Hid (OP S w9 w1.heap.size 24 v' (acc++row)):=OP.grew HPV.out HPE.out hown HNR.out.symm hgrow hat (fun x hx=>HSS.out x (qa HB1.out.size hx))
     have HB9:Hid (Below w1.heap.size w1 w9):=HB7.out.grown hgrow hz7 (fun x hx=>(HXL.out x hx).1)
     clear hown hgrow hat HROW HPV HPE
     go_wp2_with (fail)
     go_roundw
     case rel=>exact⟨i+1,by omega,by go_num,⟨_,rfl,by rw[HTK.out,HRF.out];exact HO2.out⟩,HB9.out⟩
     case measure=>(simp[intOf])<;>omega
  ·have hie:i=no:=by omega
   have HOE:Hid (OP S wa w1.heap.size 24 vx (rowsF p D)):=by
    have h:=HO.out
    rwa [qc (by have:=HNO.out;omega)]at h
   have HFL:Hid ((rowsF p D).length<=663552):=by
    have h1:=gM hn HP.out (l:=D) fun ds hds=>⟨(HDP.out ds hds).1,HDL.out.2 ds hds⟩
    have:=HDL.out.1
    unfold Hid;omega
   have HFN:Hid (rowsF p D≠[]):=fun e0=>by
    have h:=HRES.out;rw[e0]at h
    exact HRNE.out h.symm
   have HFP:Hid (∀x∈rowsF p D,PosP n 15 x):=fun x hx=>by
    obtain⟨ds,hds,hx⟩:=List.mem_flatMap.1 hx
    exact jk (HDP.out ds hds).1 HP.out x hx
   have SRT:Hid (j1 qe 235 #[vx] wa (RetSP S wa w1.heap.size vx (rowsF p D))):=
    dj S w1.heap.size _ n vx _ wa HOE.out (by have:=HFL.out;omega) rfl (List.length_pos_iff.2 HFN.out) (fun x hx=>⟨(HFP.out x hx).1,pos_bd (HFP.out x hx) (by omega)⟩) (by omega)
   have HVL:=h_ HOE.out.lt;clear HO HOE
   go_wp2_with (fail)
   refine SRT.out.mono ?_
   rintro e w8 ⟨v8,rfl,ho8,_,hg8⟩
   have HR:Hid (RetO1 S w (resultsL p a b) (C v8) w8):=by
    refine⟨v8,rfl,?_,HB1.out.trans ((HBr.out.grown hg8 HBr.out.size (fun x hx=>(HVL.out x hx).1)).mono HB1.out.size)⟩
    rw[<-HRES.out]
    exact ho8.mono HB1.out.size
   clear ho8 hg8
   go_wp2_with (fail)
   go_ret
   exact HR.out
end Go.Proofs.YtcmeoenkgmghkaaGreat

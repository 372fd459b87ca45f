/- Part of one proof. There are no conditions. -/
import Derived.Test.YtkaiilmgemaljaaGreatRE5
import Derived.Test.YtkaiilmgemaljaaGreatRZf
import Derived.Test.YtkaiilmgemaljaaGreatRZb
import Derived.Deep.Cut
import Derived.Test.YtkaiilmgemaljaaGreatRD2
set_option maxHeartbeats 0
set_option linter.unusedVariables false
set_option linter.unusedSimpArgs false
set_option maxRecDepth 100000
/- Contract of the best of some results, the reference's. There are no conditions. -/
namespace Go.Proofs.YtkaiilmgemaljaaGreat
open Go.RowKit Ps Ra Ex
end Go.Proofs.YtkaiilmgemaljaaGreat
/- Contract of the results of a roll, the reference's. There are no conditions. -/
namespace Go.Proofs.YtkaiilmgemaljaaGreat
open Go.RowKit Ps
theorem sl_lit (W:World) (xs:List Int) (e:TypeId):SL (W.alloc (.cells (xs.map (Value.int .i64)).toArray e)) (some ⟨W.heap.size,0,none⟩) xs.length xs:=by
 refine⟨rfl,fun hn=>⟨W.heap.size,0,rfl,by simp,fun i hi=>?_⟩⟩
 rw[Nat.zero_add]
 have h:(xs.map (Value.int .i64))[i]? = some (.int .i64 (xs.getD i 0)):=by simp[List.getD,hi]
 simp[go_sem,List.getD,hi]
theorem fo (S:Nat->Prop) (vp vc vh vs:Int) (A:Option Addr) (n c a b:Nat) (p:List Int) (w:World) (hx:SL w A n p) (hc:n<=c) (hp:PosP n 15 p) (hn:n<=24) (hn0:0<n) (hb1:1<=b) (hba:b<=a) (ha6:a<=6) (hS:∀k,w.heap.size<=k->¬S k):
  Calls Tryz.prog 91 #[.agg #[.int .i64 vp,.int .i64 vc,.int .i64 vh,.int .i64 vs],.slice A n c,.agg #[.int .i64 a,.int .i64 b]] w (RetL S w (resultsL p a b)):=by
 have HF:Hid (Fr w ((w.alloc (.cells #[.int .i64 vp,.int .i64 vc,.int .i64 vh,.int .i64 vs] 25)).alloc (.cells #[.int .i64 a,.int .i64 b] 39)) [[.int .i64 vp,.int .i64 vc,.int .i64 vh,.int .i64 vs],[.int .i64 a,.int .i64 b]]):=
  ((Fr.start w).allocT (by simp) _ _).allocT (by simp) _ _
 have HX:=h_ hx;have HP:=h_ hp;have HSS:=h_ hS;clear hx hp hS
 by_cases hab:a=b
 ·subst hab
  obtain⟨m,hm,hu⟩:=gD (d:=a) (by omega) 4 HP.out
  have CW:Hid (∀(W:World) (k:Nat),Below w.heap.size w W->W.heap.size=k->Calls Tryz.prog 173 #[.slice A n c,.slice (some ⟨k,0,none⟩) 4 4] (W.alloc (.cells #[.int .i64 a,.int .i64 a,.int .i64 a,.int .i64 a] 2)) (RetW S (W.alloc (.cells #[.int .i64 a,.int .i64 a,.int .i64 a,.int .i64 a] 2)) (sortU (reach [a,a,a,a] p)) m)):=fun W k hW hk=>by
   subst hk;have hW2:Below w.heap.size w (W.alloc (.cells #[.int .i64 a,.int .i64 a,.int .i64 a,.int .i64 a] 2)):=hW.alloc hW.size _
   exact dZ [a,a,a,a] (fun e he=>by simp at he;omega) (by simp) S p m A n c (some ⟨W.heap.size,0,none⟩) 4 _ (HX.out.below hW2) hc HP.out hn hn0 (sl_lit W [(a:Int),a,a,a] _) (by simp) hu (by omega) (fun k hk=>HSS.out k (Nat.le_trans hW2.size hk))
  have HBW:Hid (Below w.heap.size w ((w.alloc (.cells #[.int .i64 vp,.int .i64 vc,.int .i64 vh,.int .i64 vs] 25)).alloc (.cells #[.int .i64 a,.int .i64 a] 39))):=HF.out.b;clear hm hu
  go_enter Tryz.func91,Tryz.ntmps91
  go_wp2_with (go_at_call 173;(with_reducible refine (CW.out _ _ (by exact HBW.out) (by simp)).mono ?_);rintro e w1 ⟨b1,o1,n1,c1,rfl,hpl1,hc1,hb1⟩)
  go_ret
  rw[<- res_eq (by omega) HP.out]
  exact⟨b1,o1,n1,c1,rfl,hpl1,hc1,HBW.out.trans ((Below.alloc (Below.refl _ _) (Nat.le_refl _) _ |>.trans (hb1.mono (by simp))).mono HBW.out.size)⟩
 ·have b0:((a:Int) == (b:Int))=false:=by simp;omega
  have hu1:=cntP_uni (b:=b) (show 1<=a by omega) HP.out
  have hu2:=cntP_uni (b:=a) (show 1<=b by omega) HP.out
  have hN1:cntP a p<=2:=by unfold cntP;split;omega;split<;>omega
  have hN2:cntP b p<=2:=by unfold cntP;split;omega;split<;>omega
  have HL:=h_ (fun h=>res_less (a:=a) (b:=b) (by omega) hb1 HP.out hab h)
  have HM:=h_ (fun h=>res_more (a:=a) (b:=b) (by omega) hb1 HP.out hab h)
  have HE:=h_ (res_both (a:=a) (b:=b) (by omega) hb1 HP.out hab)
  generalize cntP a p=N1 at *;generalize cntP b p=N2 at *
  have CW1:Hid (∀(W:World) (k:Nat),Below w.heap.size w W->W.heap.size=k->Calls Tryz.prog 173 #[.slice A n c,.slice (some ⟨k,0,none⟩) 2 2] (W.alloc (.cells #[.int .i64 a,.int .i64 b] 2)) (RetW S (W.alloc (.cells #[.int .i64 a,.int .i64 b] 2)) (sortU (reach [a,b] p)) N1)):=fun W k hW hk=>by
   subst hk;have hW2:Below w.heap.size w (W.alloc (.cells #[.int .i64 a,.int .i64 b] 2)):=hW.alloc hW.size _
   exact dZ [a,b] (fun e he=>by simp at he;omega) (by simp) S p N1 A n c (some ⟨W.heap.size,0,none⟩) 2 _ (HX.out.below hW2) hc HP.out hn hn0 (sl_lit W [(a:Int),b] _) (by simp) hu1 (by omega) (fun k hk=>HSS.out k (Nat.le_trans hW2.size hk))
  have CW2:Hid (∀(W:World) (k:Nat),Below w.heap.size w W->W.heap.size=k->Calls Tryz.prog 173 #[.slice A n c,.slice (some ⟨k,0,none⟩) 2 2] (W.alloc (.cells #[.int .i64 b,.int .i64 a] 2)) (RetW S (W.alloc (.cells #[.int .i64 b,.int .i64 a] 2)) (sortU (reach [b,a] p)) N2)):=fun W k hW hk=>by
   subst hk;have hW2:Below w.heap.size w (W.alloc (.cells #[.int .i64 b,.int .i64 a] 2)):=hW.alloc hW.size _
   exact dZ [b,a] (fun e he=>by simp at he;omega) (by simp) S p N2 A n c (some ⟨W.heap.size,0,none⟩) 2 _ (HX.out.below hW2) hc HP.out hn hn0 (sl_lit W [(b:Int),a] _) (by simp) hu2 (by omega) (fun k hk=>HSS.out k (Nat.le_trans hW2.size hk))
  clear hu1 hu2
  rcases Nat.lt_trichotomy N1 N2 with hlt|heq|hgt
  ·have b1:decide ((N1:Int)<(N2:Int))=true:=decide_eq_true (by omega)
   have HR:Hid (sortU (reach [b,a] p)=resultsL p a b):=HL.out hlt
   go_enter Tryz.func91,Tryz.ntmps91
   go_wp2_with (first
    | (go_at_call 173
       have _t1 := CW1
       (with_reducible refine (CW1.out _ _ (by exact HF.out.b) (by simp)).mono ?_)
       rintro e w1 ⟨b1', o1, n1, c1, rfl, hpl1, hc1, hbb⟩
       have HF1 : Hid (Fr w w1 [[.int .i64 vp, .int .i64 vc, .int .i64 vh, .int .i64 vs], [.int .i64 a, .int .i64 b]]) := (HF.out.alloc _).below hbb; have HP1 := h_ hpl1; clear CW1 _t1 hpl1 hbb; obtain ⟨z0, c00, f00, c01, f01, c02, f02, c03, f03, z1, c10, f10, c11, f11⟩ := HF1.out.xf0
       )
    | (go_at_call 173
       (with_reducible refine (CW2.out _ _ (by exact HF1.out.b) (by simp)).mono ?_)
       rintro e w2 ⟨b2, o2, n2, c2, rfl, hpl2, hc2, hbb⟩
       have HP2 := h_ hpl2
       have hba2 : Below w1.heap.size w1 w2 := ((Below.refl _ _).alloc (Nat.le_refl _) _).trans (hbb.mono (by simp))
       have HP3 : Hid (PL S w2 (some ⟨b1', o1, none⟩) n1 (sortU (reach [a, b] p))) := HP1.out.below hba2; have HB2 : Hid (Below w.heap.size w w2) := HF1.out.b.trans (hba2.mono HF1.out.b.size)
       clear hpl2 hbb hba2))
   go_ret
   rw[<- HR.out]
   exact⟨b2,o2,n2,c2,rfl,HP2.out,hc2,HB2.out⟩
  ·have heq:=h_ heq
   have b1:decide ((N1:Int)<(N2:Int))=false:=decide_eq_false (by have:=heq.out;omega)
   have b2:((N2:Int) == (N1:Int))=true:=by simp;have:=heq.out;omega
   have HR:Hid (bz (sortU (reach [a,b] p)) (sortU (reach [b,a] p))=resultsL p a b):=HE.out
   have hda:∀e∈[a,b],1<=e:=fun e he=>by simp at he;omega
   have hdb:∀e∈[b,a],1<=e:=fun e he=>by simp at he;omega
   have P1:Hid (∀x∈reach [a,b] p,PosP n 15 x):=fun x hx=>(bC hda HP.out x hx).1
   have P2:Hid (∀x∈reach [b,a] p,PosP n 15 x):=fun x hx=>(bC hdb HP.out x hx).1
   have W1:=h_ (aM (bc hda HP.out));have W2:=h_ (aM (bc hdb HP.out))
   have hr1:=Nat.le_trans (bN _) (bZ (ds:=[a,b]) (p:=p) (by simp) (by rw[HP.out.1];exact hn))
   have hr2:=Nat.le_trans (bN _) (bZ (ds:=[b,a]) (p:=p) (by simp) (by rw[HP.out.1];exact hn))
   have HR1:=h_ hr1;have HR2:=h_ hr2;clear hda hdb hr1 hr2 HL HM HE
   go_enter Tryz.func91,Tryz.ntmps91
   go_wp2_with (first
    | (go_at_call 173
       have _t1 := CW1
       (with_reducible refine (CW1.out _ _ (by exact HF.out.b) (by simp)).mono ?_)
       rintro e w1 ⟨b1', o1, n1, c1, rfl, hpl1, hc1, hbb⟩
       have HF1 : Hid (Fr w w1 [[.int .i64 vp, .int .i64 vc, .int .i64 vh, .int .i64 vs], [.int .i64 a, .int .i64 b]]) := (HF.out.alloc _).below hbb; have HP1 := h_ hpl1; clear CW1 _t1 hpl1 hbb; obtain ⟨z0, c00, f00, c01, f01, c02, f02, c03, f03, z1, c10, f10, c11, f11⟩ := HF1.out.xf0
       )
    | (go_at_call 173
       (with_reducible refine (CW2.out _ _ (by exact HF1.out.b) (by simp)).mono ?_)
       rintro e w2 ⟨b2, o2, n2, c2, rfl, hpl2, hc2, hbb⟩
       have HP2 := h_ hpl2
       have hba2 : Below w1.heap.size w1 w2 := ((Below.refl _ _).alloc (Nat.le_refl _) _).trans (hbb.mono (by simp))
       have HP3 : Hid (PL S w2 (some ⟨b1', o1, none⟩) n1 (sortU (reach [a, b] p))) := HP1.out.below hba2; have HB2 : Hid (Below w.heap.size w w2) := HF1.out.b.trans (hba2.mono HF1.out.b.size)
       clear hpl2 hbb hba2))
   generalize sortU (reach [a,b] p)=L1 at *;generalize sortU (reach [b,a] p)=L2 at *
   have hn2:n2<=331776:=by rw[<- HP2.out.len];exact HR2.out
   go_loopw [9,13] (fun vb vk wi=>∃k:Nat,k<=n2/\vk = .int .i64 k/\∃(b7 o7 n7 c7:Nat),vb = .slice (some ⟨b7,o7,none⟩) n7 c7/\n7<=c7/\Hid (PL S wi (some ⟨b7,o7,none⟩) n7 (bz L1 (L2.take k)))/\Hid (Below w2.heap.size w2 wi)) (fun _ vk _=>n2-(intOf vk).toNat)
   case atStart=>exact⟨0,Nat.zero_le _,rfl,b1',o1,n1,c1,rfl,hc1,by unfold Hid;rw[List.take_zero,cj];exact HP3.out,Below.refl _ _⟩
   case round=>
    obtain⟨k,hk,rfl,b7,o7,n7,c7,rfl,hnc7,HP7,HB7⟩:=hrel
    by_cases hkn:k<n2
    ·have hkk:(k:Int)<(n2:Int):=by omega
     obtain⟨b9',o9',Br,mr,cr,hA,hz9,hcell9,hsr,hmr⟩:=(HP2.out.below HB7.out).at hkn;injection hA with hA;injection hA with hA1 hA2;subst hA1 hA2;have hlen9:=HP2.out.len
     have hrm:=ao L2 ([]:List Int) (k:=k) (by omega)
     have htk:Hid (L2.take (k+1)=L2.take k++[L2.getD k []]):=by
      unfold Hid
      rw[List.take_succ_eq_append_getElem (by omega)]
      simp[List.getD,show k<L2.length by omega]
     have hrp:PosP n 15 (L2.getD k []):=P2.out _ ((W2.out.2.2 _).1 hrm)
     have hps:∀x∈bz L1 (L2.take k),PosP n 15 x:=fun x hx=>by
      rcases ((cT W1.out.1 (fun y hy=>W2.out.1 y (List.mem_of_mem_take hy)) W1.out.2.1).2.2 x).1 hx with h|h
      ·exact P1.out x ((W1.out.2.2 x).1 h)
      ·exact P2.out x ((W2.out.2.2 x).1 (List.mem_of_mem_take h))
     have hn7:n7<=1000000:=by
      rw[<- HP7.out.len];have h1:=cL L1 (L2.take k)
      have h3:(L2.take k).length<=L2.length:=by rw[List.length_take];omega
      have h4:=HR1.out;have h5:=HR2.out
      omega
     generalize L2.getD k []=r at *
     have hrn:n=mr:=by rw[<- hsr.1.1];exact hrp.1.symm
     subst hrn
     have CP:=h_ (dI S b7 o7 n7 c7 _ Br n cr r wr (fun j hj=>HSS.out j (by have h1:=HB7.out.size;have h2:=HB2.out.size;omega)) HP7.out hnc7 hn7 hsr hmr hn hrp hps)
     clear hps hrp hsr hlen9 hrm
     go_wp2_with (go_at_call 174;((with_reducible refine CP.out.mono ?_);rintro e w5 ⟨b5,o5,n5,c5,rfl,hpl5,hc5,hb5⟩))
     go_roundw
     case rel=>exact⟨k+1,by omega,by go_num,b5,o5,n5,c5,rfl,hc5,by unfold Hid;rw[htk.out,ci];exact hpl5,HB7.out.trans (hb5.mono HB7.out.size)⟩
     case measure=>(simp[intOf])<;>omega
    ·have hkl:k=n2:=by omega
     subst hkl
     have HPe:Hid (PL S wr (some ⟨b7,o7,none⟩) n7 (bz L1 L2)):=by
      have h:=HP7.out
      rw[List.take_of_length_le (by rw[HP2.out.len];exact Nat.le_refl _)]at h
      exact h
     go_wp2_with (fail)
     go_ret
     rw[<- HR.out]
     exact⟨b7,o7,n7,c7,rfl,HPe.out,hnc7,HB2.out.trans (HB7.out.mono HB2.out.size)⟩
  ·have b1:decide ((N1:Int)<(N2:Int))=false:=decide_eq_false (by omega)
   have b2:((N2:Int) == (N1:Int))=false:=by simp;omega
   have HR:Hid (sortU (reach [a,b] p)=resultsL p a b):=HM.out hgt
   go_enter Tryz.func91,Tryz.ntmps91
   go_wp2_with (first
    | (go_at_call 173
       have _t1 := CW1
       (with_reducible refine (CW1.out _ _ (by exact HF.out.b) (by simp)).mono ?_)
       rintro e w1 ⟨b1', o1, n1, c1, rfl, hpl1, hc1, hbb⟩
       have HF1 : Hid (Fr w w1 [[.int .i64 vp, .int .i64 vc, .int .i64 vh, .int .i64 vs], [.int .i64 a, .int .i64 b]]) := (HF.out.alloc _).below hbb; have HP1 := h_ hpl1; clear CW1 _t1 hpl1 hbb; obtain ⟨z0, c00, f00, c01, f01, c02, f02, c03, f03, z1, c10, f10, c11, f11⟩ := HF1.out.xf0
       )
    | (go_at_call 173
       (with_reducible refine (CW2.out _ _ (by exact HF1.out.b) (by simp)).mono ?_)
       rintro e w2 ⟨b2, o2, n2, c2, rfl, hpl2, hc2, hbb⟩
       have HP2 := h_ hpl2
       have hba2 : Below w1.heap.size w1 w2 := ((Below.refl _ _).alloc (Nat.le_refl _) _).trans (hbb.mono (by simp))
       have HP3 : Hid (PL S w2 (some ⟨b1', o1, none⟩) n1 (sortU (reach [a, b] p))) := HP1.out.below hba2; have HB2 : Hid (Below w.heap.size w w2) := HF1.out.b.trans (hba2.mono HF1.out.b.size)
       clear hpl2 hbb hba2))
   go_loopw [9,13] (fun vb vk wi=>vb = .slice (some ⟨b1',o1,none⟩) n1 c1/\vk = .int .i64 0/\Hid (wi=w2)) (fun _ _ _=>0)
   case atStart=>exact⟨rfl,rfl,rfl⟩
   case round=>
    obtain⟨rfl,rfl,hw⟩:=hrel
    by_cases hn2:0<n2
    ·have hn2':(0:Int)<(n2:Int):=by omega
     go_wp2_with (fail)
     go_ret
     rw[<- HR.out,hw.out]
     exact⟨b1',o1,n1,c1,rfl,HP3.out,hc1,HB2.out⟩
    ·have hn2':¬(0:Int)<(n2:Int):=by omega
     go_wp2_with (fail)
     go_ret
     rw[<- HR.out,hw.out]
     exact⟨b1',o1,n1,c1,rfl,HP3.out,hc1,HB2.out⟩
end Go.Proofs.YtkaiilmgemaljaaGreat
/- Contract of a win chance, the reference's. There are no conditions. -/
namespace Go.Proofs.YtkaiilmgemaljaaGreat
open Go.RowKit Ps Ra Ex
theorem Frm.outs {S O:Nat->Prop} {w wr w2:World} (h:Frm S w wr) (hf:Frm O wr w2) (hO:∀k,O k->w.heap.size<=k):Frm S w w2:=
 ⟨hf.os.trans h.os,hf.tape.trans h.tape,hf.output.trans h.output,Nat.le_trans h.size hf.size,fun k hk hn=>(hf.block k (Nat.lt_of_lt_of_le hk h.size) fun ho=>by have:=hO k ho;omega).trans (h.block k hk hn)⟩
open Go.RowKit
theorem OwnS.base {w:World} {b b':Nat} {e:TypeId} {v:Value} {xs:List Int} (h:OwnS w b e v xs) (hb:b'<=b):OwnS w b' e v xs:=cB h hb
theorem own_snoc {w:World} {base:Nat} {e:TypeId} {v:Value} {xs:List Int} {x:Int} (h:w.ownsRow base e 1 v (xs.length+1) (xs.map (Value.int .i64)++[.int .i64 x])):OwnS w base e v (xs++[x]):=by
 unfold OwnS;rw[List.length_append,List.map_append]
 exact h
section
variable {P:Program} {w:World}
def Upd (n i:Nat) (v:Value) (L:Nat->Bool) (vs:Nat->Value) (L':Nat->Bool) (vs':Nat->Value):Prop:=
 L' i=true/\vs' i=v/\∀k,k<n->k≠i->L' k=L k/\vs' k=vs k
structure JInv (ops:Array Oper) (a0:Act) (n:Nat) (ds:Nat->Nat) (J:(Nat->Bool)->(Nat->Value)->World->Prop) (listed:Array Bool) (a:Act) (W:World):Prop where
 inv:HeadInv .any ops n listed
 df:a.defers=a0.defers
 sz:a.tmps.size=a0.tmps.size
 far:∀t,(∀i,i<n->ds i≠t)->a.tmps.getD t undef=a0.tmps.getD t undef
 j:J (fun k=>listed.getD k false) (fun k=>a.tmps.getD (ds k) undef) W
theorem ce {id:Nat} {Q:Exit->Act->World->Prop} {a:Act} {l:List Oper} (n:Nat) (X:Nat->Bool) (ds:Nat->Nat) (J:(Nat->Bool)->(Nat->Value)->World->Prop)
  (hm:P.follows .mixedOrders=true) (hB:ii l.toArray n X ds a.tmps.size=true) (hQ:∀(c:List PanicEntry) (a:Act) (d:Tmp) (v:Value) (w:World),Q (.panic c) (Act.put a (some d) v) w->Q (.panic c) a w)
  (start:∀vs,J (fun _=>false) vs { w with drawn:=w.drawn+1 })
  (early:∀i o,i<n→X i=true→l[i]? = some o→∀(L:Nat→Bool) (a':Act) (W:World),J L (fun k=>a'.tmps.getD (ds k) undef) W→L i=false→(∀t,(∀i,i<n→ds i≠t)→a'.tmps.getD t undef=a.tmps.getD t undef)→
   (∀j,j<n->Region.waitsFor .any l.toArray i j=true->L j=true)->∃v,(∀W',(execOp a'.eval o).run P W' = .ok (.value v) W')/\∀L' vs',Upd n i v L (fun k=>a'.tmps.getD (ds k) undef) L' vs'->J L' vs' W)
  (step:∀i o,i<n→X i=false→l[i]? = some o→∀(L:Nat→Bool) (a':Act) (W:World),J L (fun k=>a'.tmps.getD (ds k) undef) W→L i=false→(∀t,(∀i,i<n→ds i≠t)→a'.tmps.getD t undef=a.tmps.getD t undef)→
   (∀j,j<n->Region.waitsFor .any l.toArray i j=true->L j=true)->MStep P o a' W (fun v W'=>∀L' vs',Upd n i v L (fun k=>a'.tmps.getD (ds k) undef) L' vs'->J L' vs' W'))
  (tail:∀(L:Nat->Bool) (v:Nat->Value) (W:World),(∀i,i<n->L i=true)->J L v W->wpList P l.toArray Q (l.drop n) (putV a ds v n) W):
  (Code.region id l.toArray true).wp P Q a w:=by
 simp only[ii,Bool.and_eq_true,decide_eq_true_eq]at hB
 obtain⟨⟨⟨⟨⟨⟨hn,hs⟩,hc⟩,hq⟩,hsel⟩,hh⟩,hx⟩:=hB
 have hop:∀i,i<n->∃o,l.toArray[i]? = some o/\l[i]? = some o/\o.guard=none/\o.dst=some (ds i)/\ds i<a.tmps.size/\(∀e∈o.after,Region.binds .any e=true->e.on<i)/\∀j,j<n->i≠j->ds i≠ds j:=fun i hi=>by
  have h:=List.all_eq_true.1 hh i (List.mem_range.2 hi)
  cases ho:l.toArray[i]? with
  | none=>rw[ho]at h;cases h
  | some o =>
    rw [ho] at h
    simp only [Bool.and_eq_true, decide_eq_true_eq] at h
    obtain ⟨⟨⟨⟨h1, h2⟩, h3⟩, h4⟩, h5⟩ := h
    refine ⟨o, rfl, by simpa using ho, by simpa using h1, h2, h3, fun e he hb => ?_, fun j hj hij => ?_⟩
    · have h6 := (Array.all_eq_true'.1 h4) e he
      simpa [hb] using h6
    · have h6 := List.all_eq_true.1 h5 j (List.mem_range.2 hj)
      simpa [hij] using h6
 have hdd:∀i j,i<n->j<n->i≠j->ds i≠ds j:=fun i j hi hj hij=>by obtain⟨_,_,_,_,_,_,_,h⟩:=hop i hi;exact h j hj hij
 have hdz:∀i,i<n->ds i<a.tmps.size:=fun i hi=>by obtain⟨_,_,_,_,_,h,_⟩:=hop i hi;exact h
 have H:∀(f:Nat) (listed:Array Bool) (a':Act) (W:World),cntL listed n+f=n->JInv l.toArray a n ds J listed a' W->wpAny P .any l.toArray Q (f+(l.toArray.size-n)) listed a' W:=by
  intro f
  induction f with
  | zero =>
    intro listed a' W hcnt I
    have hall := dM (listed := listed) (n := n) (by omega)
    have hl := gK I.inv hall
    have hv : putV a ds (fun i => a'.tmps.getD (ds i) undef) n = a' := by
      have e1 : (putV a ds (fun i => a'.tmps.getD (ds i) undef) n).tmps = a'.tmps := by
        apply Array.ext
        · rw [eA, I.sz]
        · intro t h1 h2
          have e : ∀ (A : Array Value) (h : t < A.size), A[t] = A.getD t undef := fun A h => by simp [h]
          rw [e _ h1, e _ h2]
          by_cases hx : ∃ i, i < n /\ ds i = t
          · obtain ⟨i, hi, rfl⟩ := hx
            exact ke a ds _ n hdz hdd i hi
          · have hx' : ∀ i, i < n → ds i ≠ t := fun i hi he => hx ⟨i, hi, he⟩
            rw [iy a ds _ n hx', I.far t hx']
      have e2 : (putV a ds (fun i => a'.tmps.getD (ds i) undef) n).defers = a'.defers := by rw [dV, I.df]
      generalize putV a ds (fun i => a'.tmps.getD (ds i) undef) n = x at *
      cases x; cases a'
      simp only at e1 e2
      rw [e1, e2]
    have ht := tail (fun k => listed.getD k false) (fun i => a'.tmps.getD (ds i) undef) W (fun i hi => hall i hi) I.j
    rw [hv] at ht; rw [Nat.zero_add]
    have hdl : (l.drop n).length = l.toArray.size - n := by simp
    have := wpAny_of_seq (md := .any) (Q' := Q) (ops := l.toArray) (l.drop n) n listed a' W (fun j => by simp [List.getElem?_drop]) (by rw [hdl, hl]; exact hq) ht
    rwa [hdl] at this
  | succ f ih =>
    intro listed a' W hcnt I
    by_cases hxr : ∃ x, x ∈ Region.ready .any l.toArray listed /\ x < n /\ X x = true
    · obtain ⟨x, hxr, hxn, hxX⟩ := hxr
      obtain ⟨hun, o', ho', hall'⟩ := mem_ready.1 hxr; obtain ⟨o, ho, hol, hg, hd, hz, _, _⟩ := hop x hxn; have : o' = o := Option.some.inj (ho'.symm.trans ho); subst this
      obtain ⟨v, hrun, hG⟩ := early x o' hxn hxX hol (fun k => listed.getD k false) a' W I.j (getD_both hun) I.far fun j hj hw => by
        obtain ⟨oj, hoj, e, he, hb, hon⟩ := Region.waitsFor_spec hw; have : oj = o' := Option.some.inj (hoj.symm.trans ho'); subst this
        have := hall' e he hb; rwa [hon] at this
      have hfree : ∀ j oj, l.toArray[j]? = some oj -> j ≠ x -> listed.getD j true = false -> (∀ e ∈ oj.after, Region.binds .any e = true -> e.on ≠ x) -> o'.apart l.toArray oj = true := fun j oj hj hjx hju hno => by
        have h := List.all_eq_true.1 hx x (List.mem_range.2 hxn); rw [hxX, ho'] at h
        simp only [Bool.not_true, Bool.false_or] at h
        have h2 := List.all_eq_true.1 h j (List.mem_range.2 (Array.getElem?_eq_some_iff.1 hj).1); rw [hj] at h2
        simp only [Bool.or_eq_true, beq_iff_eq] at h2
        rcases h2 with ((h2 | h2) | h2) | h2
        · exact absurd h2 hjx
        · obtain ⟨oj', hoj', e, he, hb, hon⟩ := Region.waitsFor_spec h2
          have : oj' = oj := Option.some.inj (hoj'.symm.trans hj); subst this
          exact absurd hon (hno e he hb)
        · obtain ⟨oj', hoj', e, he, hb, hon⟩ := Region.waitsFor_spec h2
          have : oj' = o' := Option.some.inj (hoj'.symm.trans ho'); subst this; have h3 := hall' e he hb; rw [hon, getD_both hju] at h3
          cases h3
        · exact h2
      have hsz : x < listed.size := by rw [I.inv.size]; omega
      rw [show f + 1 + (l.toArray.size - n) = (f + (l.toArray.size - n)) + 1 by omega]
      refine wpAny_first ho' (Region.noSelect_spec hsel) (fun c a w h => hQ c a (ds x) v w (by rw [<- hd]; exact h)) _ listed a' W hfree hxr (.inl ⟨by simp [Region.wanted, hg], hrun⟩) ?_
      rw [hd]
      refine ih _ _ _ (by rw [ec hsz (getD_both hun), if_pos hxn]; omega) ⟨I.inv.set hxr hxn, by simp [Act.put, I.df], by simp [Act.put, I.sz], fun t ht => ?_, hG _ _ ⟨?_, ?_, fun j hj hne => ⟨?_, ?_⟩⟩⟩
      · rw [aE _ (ht x hxn)]; exact I.far t ht
      · simp [hsz]
      · exact bI _ (by rw [I.sz]; exact hz) _
      · exact getD_set_ne false (Ne.symm hne)
      · exact aE _ (hdd x j hxn hj (Ne.symm hne)) _
    obtain ⟨k, hk, hkf, hkl⟩ := eH (listed := listed) (n := n) (by omega)
    have hkr : k ∈ Region.ready .any l.toArray listed := by
      obtain ⟨o, ho, _, _, _, _, h5, _⟩ := hop k hk
      exact mem_ready.2 ⟨getD_in (by rw [I.inv.size]; omega) hkf, o, ho, fun e he hb => hkl _ (h5 e he hb)⟩
    have hkX : X k = false := by
      cases h : X k with
      | false => rfl
      | true => exact absurd ⟨k, hkr, hk, h⟩ hxr
    rw [show f + 1 + (l.toArray.size - n) = (f + (l.toArray.size - n)) + 1 by omega]
    refine ⟨fun h0 => (by rw [h0] at hkr; cases hkr), fun i hi => ?_⟩
    have hin : i < n := by
      rcases Nat.lt_or_ge i n with h | h
      · exact h
      · exact absurd hi (gV hs hc hn I.inv _ k rfl hk hkX (getD_in (by rw [I.inv.size]; omega) hkf) i h)
    have hiX : X i = false := by
      cases h : X i with
      | false => rfl
      | true => exact absurd ⟨i, hi, hin, h⟩ hxr
    obtain ⟨hun, o', ho', hall'⟩ := mem_ready.1 hi; obtain ⟨o, ho, hol, hg, hd, hz, _, _⟩ := hop i hin; have : o' = o := Option.some.inj (ho'.symm.trans ho); subst this
    have hst := step i o' hin hiX hol (fun k => listed.getD k false) a' W I.j (getD_both hun) I.far fun j hj hw => by
      obtain ⟨oj, hoj, e, he, hb, hon⟩ := Region.waitsFor_spec hw; have : oj = o' := Option.some.inj (hoj.symm.trans ho'); subst this
      have := hall' e he hb; rwa [hon] at this
    unfold wpOp; rw [ho']
    simp only [Region.wanted, hg]
    simp only [if_true]
    refine .inl (hst.wp fun v W' hgd => ?_)
    rw [hd]
    have hsz : i < listed.size := by rw [I.inv.size]; omega
    refine ih _ _ _ (by rw [ec hsz (getD_both hun), if_pos hin]; omega) ⟨I.inv.set hi hin, by simp [Act.put, I.df], by simp [Act.put, I.sz], fun t ht => ?_, hgd _ _ ⟨?_, ?_, fun j hj hne => ⟨?_, ?_⟩⟩⟩
    · rw [aE _ (ht i hin)]; exact I.far t ht
    · simp [hsz]
    · exact bI _ (by rw [I.sz]; exact hz) _
    · exact getD_set_ne false (Ne.symm hne)
    · exact aE _ (hdd i j hin hj (Ne.symm hne)) _
 refine wp_region_any hm ?_
 have:=H n (Array.replicate l.toArray.size false) a { w with drawn:=w.drawn+1 } (by rw[eG];omega)
  ⟨⟨by simp, fun j oj _ hl => (by rw [getD_replicate_false] at hl; cases hl), fun t _ ht => getD_in (by simpa using ht) (getD_replicate_false _ _)⟩, rfl, rfl, fun _ _ => rfl, by
    have h := start (fun k => a.tmps.getD (ds k) undef)
    have e : (fun k => (Array.replicate l.toArray.size false).getD k false) = fun _ => false := funext fun k => getD_replicate_false _ _
    rw [e]; exact h⟩
 rwa [show n+(l.toArray.size-n)=l.toArray.size by omega]at this
end
open Go.RowKit
theorem OwnS.far {w:World} {base:Nat} {e:TypeId} {v:Value} {xs:List Int} (h:OwnS w base e v xs) {b i:Nat} (hb:b<base) (u:Value):OwnS (w.setCell ⟨b,i,none⟩ u) base e v xs:=
 (Frm.set w b i u).own h fun k hk hs=>by have:=(h.lt k hk).1;omega
theorem Cel.frmN {S:Nat->Prop} {W W':World} {g:Nat} {cs:List Value} (h:Cel W g cs) (hf:Frm S W W') (hn:¬S g):Cel W' g cs:=
 ⟨Nat.lt_of_lt_of_le h.lt hf.size,fun i x hx=>hf.cell' (h.cell i x hx) hn,fun i x hx=>(aV hf h.lt hn).trans (h.froz i x hx)⟩
theorem SBy.below {w w':World} {C:Option Addr} {n:Nat} {bs:List Int} (h:SBy w C n bs) (hb:Below w.heap.size w w'):SBy w' C n bs:=
 h.frm (S:=fun _=>False) (Frm.of_below' _ hb) fun _ _ _ _ _ h=>h.elim
theorem Frm.belowOwn {B:Nat} {W W1 W2:World} {g:Nat} (hb:Below B W W1) (hf:Frm (fun j=>j=g) W1 W2) (hg:B<=g) (hB:B<=W.heap.size):Below B W W2:=
 ⟨hf.os.trans hb.os,hf.tape.trans hb.tape,hf.output.trans hb.output,Nat.le_trans hb.size hf.size,fun k hk=>(hf.block k (by have:=hb.size;omega) (fun (e:k=g)=>by omega)).trans (hb.block k hk)⟩
end Go.Proofs.YtkaiilmgemaljaaGreat

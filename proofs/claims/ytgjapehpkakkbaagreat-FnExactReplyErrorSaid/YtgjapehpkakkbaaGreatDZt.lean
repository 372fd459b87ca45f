/- Part of one proof. There are no conditions. -/
import Derived.Test.YtgjapehpkakkbaaGreatDZr
import Derived.Test.YtgjapehpkakkbaaGreatDZf
import Derived.Test.YtgjapehpkakkbaaGreatDZb
import Derived.Deep.Cut
set_option linter.unusedVariables false
set_option linter.unusedSimpArgs false
/- Contract of the best of some results, the reference's. There are no conditions. -/
namespace Go.Proofs.YtgjapehpkakkbaaGreat
open Go.RowKit Ps Ra Ex
end Go.Proofs.YtgjapehpkakkbaaGreat
/- Contract of the results of a roll, the reference's. There are no conditions. -/
namespace Go.Proofs.YtgjapehpkakkbaaGreat
open Go.RowKit Ps
theorem sl_lit (W:World) (xs:List Int) (e:TypeId):SL (W.alloc (.cells (xs.map (Value.int .i64)).toArray e)) (some ⟨W.heap.size,0,none⟩) xs.length xs:=by
 refine⟨rfl,fun hn=>⟨W.heap.size,0,rfl,by simp,fun i hi=>?_⟩⟩
 rw[Nat.zero_add]
 have h:(xs.map (Value.int .i64))[i]? = some (.int .i64 (xs.getD i 0)):=by simp[List.getD,hi]
 simp[go_sem,List.getD,hi]
set_option maxRecDepth 100000 in
set_option maxHeartbeats 4000000 in
theorem l10Results_any (S:Nat→Prop) (vp vc vh vs:Int) (A:Option Addr) (n c a b:Nat) (p:List Int) (w:World) (hx:SL w A n p) (hc:n≤c) (hp:PosP n 15 p) (hn:n≤24) (hn0:0<n) (hb1:1≤b) (hba:b≤a) (ha6:a≤6) (hS:∀k,w.heap.size≤k→¬S k):
  Calls Tryz.prog 80 #[.agg #[.int .i64 vp,.int .i64 vc,.int .i64 vh,.int .i64 vs],.slice A n c,.agg #[.int .i64 a,.int .i64 b]] w (RetL S w (resultsL p a b)):=by
 have HF:Hid (Fr w ((w.alloc (.cells #[.int .i64 vp,.int .i64 vc,.int .i64 vh,.int .i64 vs] 25)).alloc (.cells #[.int .i64 a,.int .i64 b] 39)) [[.int .i64 vp,.int .i64 vc,.int .i64 vh,.int .i64 vs],[.int .i64 a,.int .i64 b]]):=
  ((Fr.start w).allocT (by simp) _ _).allocT (by simp) _ _
 have HX:=h_ hx;have HP:=h_ hp;have HSS:=h_ hS;clear hx hp hS
 by_cases hab:a=b
 ·subst hab
  obtain⟨m,hm,hu⟩:=uni_double (d:=a) (by omega) 4 HP.out
  have CW:Hid (∀(W:World) (k:Nat),Below w.heap.size w W→W.heap.size=k→Calls Tryz.prog 138 #[.slice A n c,.slice (some ⟨k,0,none⟩) 4 4] (W.alloc (.cells #[.int .i64 a,.int .i64 a,.int .i64 a,.int .i64 a] 2)) (RetW S (W.alloc (.cells #[.int .i64 a,.int .i64 a,.int .i64 a,.int .i64 a] 2)) (sortU (reach [a,a,a,a] p)) m)):=fun W k hW hk=>by
   subst hk;have hW2:Below w.heap.size w (W.alloc (.cells #[.int .i64 a,.int .i64 a,.int .i64 a,.int .i64 a] 2)):=hW.alloc hW.size _
   exact l10Walk_all [a,a,a,a] (fun e he=>by simp at he;omega) (by simp) S p m A n c (some ⟨W.heap.size,0,none⟩) 4 _ (HX.out.below hW2) hc HP.out hn hn0 (sl_lit W [(a:Int),a,a,a] _) (by simp) hu (by omega) (fun k hk=>HSS.out k (Nat.le_trans hW2.size hk))
  have HBW:Hid (Below w.heap.size w ((w.alloc (.cells #[.int .i64 vp,.int .i64 vc,.int .i64 vh,.int .i64 vs] 25)).alloc (.cells #[.int .i64 a,.int .i64 a] 39))):=HF.out.b;clear hm hu
  go_enter Tryz.func80,Tryz.ntmps80
  go_wp2_with (go_at_call 138;(with_reducible refine (CW.out _ _ (by exact HBW.out) (by simp)).mono ?_);rintro e w1 ⟨b1,o1,n1,c1,rfl,hpl1,hc1,hb1⟩)
  go_ret
  rw[← res_eq (by omega) HP.out]
  exact⟨b1,o1,n1,c1,rfl,hpl1,hc1,HBW.out.trans ((Below.alloc (Below.refl _ _) (Nat.le_refl _) _ |>.trans (hb1.mono (by simp))).mono HBW.out.size)⟩
 ·have b0:((a:Int) == (b:Int))=false:=by simp;omega
  have hu1:=cntP_uni (b:=b) (show 1≤a by omega) HP.out
  have hu2:=cntP_uni (b:=a) (show 1≤b by omega) HP.out
  have hN1:cntP a p≤2:=by unfold cntP;split;omega;split<;>omega
  have hN2:cntP b p≤2:=by unfold cntP;split;omega;split<;>omega
  have HL:=h_ (fun h=>res_less (a:=a) (b:=b) (by omega) hb1 HP.out hab h)
  have HM:=h_ (fun h=>res_more (a:=a) (b:=b) (by omega) hb1 HP.out hab h)
  have HE:=h_ (res_both (a:=a) (b:=b) (by omega) hb1 HP.out hab)
  generalize cntP a p=N1 at *;generalize cntP b p=N2 at *
  have CW1:Hid (∀(W:World) (k:Nat),Below w.heap.size w W→W.heap.size=k→Calls Tryz.prog 138 #[.slice A n c,.slice (some ⟨k,0,none⟩) 2 2] (W.alloc (.cells #[.int .i64 a,.int .i64 b] 2)) (RetW S (W.alloc (.cells #[.int .i64 a,.int .i64 b] 2)) (sortU (reach [a,b] p)) N1)):=fun W k hW hk=>by
   subst hk;have hW2:Below w.heap.size w (W.alloc (.cells #[.int .i64 a,.int .i64 b] 2)):=hW.alloc hW.size _
   exact l10Walk_all [a,b] (fun e he=>by simp at he;omega) (by simp) S p N1 A n c (some ⟨W.heap.size,0,none⟩) 2 _ (HX.out.below hW2) hc HP.out hn hn0 (sl_lit W [(a:Int),b] _) (by simp) hu1 (by omega) (fun k hk=>HSS.out k (Nat.le_trans hW2.size hk))
  have CW2:Hid (∀(W:World) (k:Nat),Below w.heap.size w W→W.heap.size=k→Calls Tryz.prog 138 #[.slice A n c,.slice (some ⟨k,0,none⟩) 2 2] (W.alloc (.cells #[.int .i64 b,.int .i64 a] 2)) (RetW S (W.alloc (.cells #[.int .i64 b,.int .i64 a] 2)) (sortU (reach [b,a] p)) N2)):=fun W k hW hk=>by
   subst hk;have hW2:Below w.heap.size w (W.alloc (.cells #[.int .i64 b,.int .i64 a] 2)):=hW.alloc hW.size _
   exact l10Walk_all [b,a] (fun e he=>by simp at he;omega) (by simp) S p N2 A n c (some ⟨W.heap.size,0,none⟩) 2 _ (HX.out.below hW2) hc HP.out hn hn0 (sl_lit W [(b:Int),a] _) (by simp) hu2 (by omega) (fun k hk=>HSS.out k (Nat.le_trans hW2.size hk))
  clear hu1 hu2
  rcases Nat.lt_trichotomy N1 N2 with hlt|heq|hgt
  ·have b1:decide ((N1:Int)<(N2:Int))=true:=decide_eq_true (by omega)
   have HR:Hid (sortU (reach [b,a] p)=resultsL p a b):=HL.out hlt
   go_enter Tryz.func80,Tryz.ntmps80
   go_wp2_with (first
    | (go_at_call 138
       have _t1 := CW1
       (with_reducible refine (CW1.out _ _ (by exact HF.out.b) (by simp)).mono ?_)
       rintro e w1 ⟨b1', o1, n1, c1, rfl, hpl1, hc1, hbb⟩
       have HF1 : Hid (Fr w w1 [[.int .i64 vp, .int .i64 vc, .int .i64 vh, .int .i64 vs], [.int .i64 a, .int .i64 b]]) := (HF.out.alloc _).below hbb; have HP1 := h_ hpl1; clear CW1 _t1 hpl1 hbb; obtain ⟨z0, c00, f00, c01, f01, c02, f02, c03, f03, z1, c10, f10, c11, f11⟩ := HF1.out.xf2
       )
    | (go_at_call 138
       (with_reducible refine (CW2.out _ _ (by exact HF1.out.b) (by simp)).mono ?_)
       rintro e w2 ⟨b2, o2, n2, c2, rfl, hpl2, hc2, hbb⟩
       have HP2 := h_ hpl2
       have hba2 : Below w1.heap.size w1 w2 := ((Below.refl _ _).alloc (Nat.le_refl _) _).trans (hbb.mono (by simp))
       have HP3 : Hid (PL S w2 (some ⟨b1', o1, none⟩) n1 (sortU (reach [a, b] p))) := HP1.out.below hba2; have HB2 : Hid (Below w.heap.size w w2) := HF1.out.b.trans (hba2.mono HF1.out.b.size)
       clear hpl2 hbb hba2))
   go_ret
   rw[← HR.out]
   exact⟨b2,o2,n2,c2,rfl,HP2.out,hc2,HB2.out⟩
  ·have heq:=h_ heq
   have b1:decide ((N1:Int)<(N2:Int))=false:=decide_eq_false (by have:=heq.out;omega)
   have b2:((N2:Int) == (N1:Int))=true:=by simp;have:=heq.out;omega
   have HR:Hid (putAll (sortU (reach [a,b] p)) (sortU (reach [b,a] p))=resultsL p a b):=HE.out
   have hda:∀e∈[a,b],1≤e:=fun e he=>by simp at he;omega
   have hdb:∀e∈[b,a],1≤e:=fun e he=>by simp at he;omega
   have P1:Hid (∀x∈reach [a,b] p,PosP n 15 x):=fun x hx=>(reach_pos hda HP.out x hx).1
   have P2:Hid (∀x∈reach [b,a] p,PosP n 15 x):=fun x hx=>(reach_pos hdb HP.out x hx).1
   have W1:=h_ (sortU_spec (reach_lens hda HP.out));have W2:=h_ (sortU_spec (reach_lens hdb HP.out))
   have hr1:=Nat.le_trans (sortU_len _) (reach_len4 (ds:=[a,b]) (p:=p) (by simp) (by rw[HP.out.1];exact hn))
   have hr2:=Nat.le_trans (sortU_len _) (reach_len4 (ds:=[b,a]) (p:=p) (by simp) (by rw[HP.out.1];exact hn))
   have HR1:=h_ hr1;have HR2:=h_ hr2;clear hda hdb hr1 hr2 HL HM HE
   go_enter Tryz.func80,Tryz.ntmps80
   go_wp2_with (first
    | (go_at_call 138
       have _t1 := CW1
       (with_reducible refine (CW1.out _ _ (by exact HF.out.b) (by simp)).mono ?_)
       rintro e w1 ⟨b1', o1, n1, c1, rfl, hpl1, hc1, hbb⟩
       have HF1 : Hid (Fr w w1 [[.int .i64 vp, .int .i64 vc, .int .i64 vh, .int .i64 vs], [.int .i64 a, .int .i64 b]]) := (HF.out.alloc _).below hbb; have HP1 := h_ hpl1; clear CW1 _t1 hpl1 hbb; obtain ⟨z0, c00, f00, c01, f01, c02, f02, c03, f03, z1, c10, f10, c11, f11⟩ := HF1.out.xf2
       )
    | (go_at_call 138
       (with_reducible refine (CW2.out _ _ (by exact HF1.out.b) (by simp)).mono ?_)
       rintro e w2 ⟨b2, o2, n2, c2, rfl, hpl2, hc2, hbb⟩
       have HP2 := h_ hpl2
       have hba2 : Below w1.heap.size w1 w2 := ((Below.refl _ _).alloc (Nat.le_refl _) _).trans (hbb.mono (by simp))
       have HP3 : Hid (PL S w2 (some ⟨b1', o1, none⟩) n1 (sortU (reach [a, b] p))) := HP1.out.below hba2; have HB2 : Hid (Below w.heap.size w w2) := HF1.out.b.trans (hba2.mono HF1.out.b.size)
       clear hpl2 hbb hba2))
   generalize sortU (reach [a,b] p)=L1 at *;generalize sortU (reach [b,a] p)=L2 at *
   have hn2:n2≤331776:=by rw[← HP2.out.len];exact HR2.out
   go_loopw [9,13] (fun vb vk wi=>∃k:Nat,k≤n2∧vk = .int .i64 k∧∃(b7 o7 n7 c7:Nat),vb = .slice (some ⟨b7,o7,none⟩) n7 c7∧n7≤c7∧Hid (PL S wi (some ⟨b7,o7,none⟩) n7 (putAll L1 (L2.take k)))∧Hid (Below w2.heap.size w2 wi)) (fun _ vk _=>n2-(intOf vk).toNat)
   case atStart=>exact⟨0,Nat.zero_le _,rfl,b1',o1,n1,c1,rfl,hc1,by unfold Hid;rw[List.take_zero,putAll_nil];exact HP3.out,Below.refl _ _⟩
   case round=>
    obtain⟨k,hk,rfl,b7,o7,n7,c7,rfl,hnc7,HP7,HB7⟩:=hrel
    by_cases hkn:k<n2
    ·have hkk:(k:Int)<(n2:Int):=by omega
     obtain⟨b9',o9',Br,mr,cr,hA,hz9,hcell9,hsr,hmr⟩:=(HP2.out.below HB7.out).at hkn;injection hA with hA;injection hA with hA1 hA2;subst hA1 hA2;have hlen9:=HP2.out.len
     have hrm:=getD_mem' L2 ([]:List Int) (k:=k) (by omega)
     have htk:Hid (L2.take (k+1)=L2.take k++[L2.getD k []]):=by
      unfold Hid
      rw[List.take_succ_eq_append_getElem (by omega)]
      simp[List.getD,show k<L2.length by omega]
     have hrp:PosP n 15 (L2.getD k []):=P2.out _ ((W2.out.2.2 _).1 hrm)
     have hps:∀x∈putAll L1 (L2.take k),PosP n 15 x:=fun x hx=>by
      rcases ((putAll_spec W1.out.1 (fun y hy=>W2.out.1 y (List.mem_of_mem_take hy)) W1.out.2.1).2.2 x).1 hx with h|h
      ·exact P1.out x ((W1.out.2.2 x).1 h)
      ·exact P2.out x ((W2.out.2.2 x).1 (List.mem_of_mem_take h))
     have hn7:n7≤1000000:=by
      rw[← HP7.out.len];have h1:=putAll_len L1 (L2.take k)
      have h3:(L2.take k).length≤L2.length:=by rw[List.length_take];omega
      have h4:=HR1.out;have h5:=HR2.out
      omega
     generalize L2.getD k []=r at *
     have hrn:n=mr:=by rw[← hsr.1.1];exact hrp.1.symm
     subst hrn
     have CP:=h_ (l10Put_any S b7 o7 n7 c7 _ Br n cr r wr (fun j hj=>HSS.out j (by have h1:=HB7.out.size;have h2:=HB2.out.size;omega)) HP7.out hnc7 hn7 hsr hmr hn hrp hps)
     clear hps hrp hsr hlen9 hrm
     go_wp2_with (go_at_call 139;((with_reducible refine CP.out.mono ?_);rintro e w5 ⟨b5,o5,n5,c5,rfl,hpl5,hc5,hb5⟩))
     go_roundw
     case rel=>exact⟨k+1,by omega,by go_num,b5,o5,n5,c5,rfl,hc5,by unfold Hid;rw[htk.out,putAll_snoc];exact hpl5,HB7.out.trans (hb5.mono HB7.out.size)⟩
     case measure=>(simp[intOf])<;>omega
    ·have hkl:k=n2:=by omega
     subst hkl
     have HPe:Hid (PL S wr (some ⟨b7,o7,none⟩) n7 (putAll L1 L2)):=by
      have h:=HP7.out
      rw[List.take_of_length_le (by rw[HP2.out.len];exact Nat.le_refl _)]at h
      exact h
     go_wp2_with (fail)
     go_ret
     rw[← HR.out]
     exact⟨b7,o7,n7,c7,rfl,HPe.out,hnc7,HB2.out.trans (HB7.out.mono HB2.out.size)⟩
  ·have b1:decide ((N1:Int)<(N2:Int))=false:=decide_eq_false (by omega)
   have b2:((N2:Int) == (N1:Int))=false:=by simp;omega
   have HR:Hid (sortU (reach [a,b] p)=resultsL p a b):=HM.out hgt
   go_enter Tryz.func80,Tryz.ntmps80
   go_wp2_with (first
    | (go_at_call 138
       have _t1 := CW1
       (with_reducible refine (CW1.out _ _ (by exact HF.out.b) (by simp)).mono ?_)
       rintro e w1 ⟨b1', o1, n1, c1, rfl, hpl1, hc1, hbb⟩
       have HF1 : Hid (Fr w w1 [[.int .i64 vp, .int .i64 vc, .int .i64 vh, .int .i64 vs], [.int .i64 a, .int .i64 b]]) := (HF.out.alloc _).below hbb; have HP1 := h_ hpl1; clear CW1 _t1 hpl1 hbb; obtain ⟨z0, c00, f00, c01, f01, c02, f02, c03, f03, z1, c10, f10, c11, f11⟩ := HF1.out.xf2
       )
    | (go_at_call 138
       (with_reducible refine (CW2.out _ _ (by exact HF1.out.b) (by simp)).mono ?_)
       rintro e w2 ⟨b2, o2, n2, c2, rfl, hpl2, hc2, hbb⟩
       have HP2 := h_ hpl2
       have hba2 : Below w1.heap.size w1 w2 := ((Below.refl _ _).alloc (Nat.le_refl _) _).trans (hbb.mono (by simp))
       have HP3 : Hid (PL S w2 (some ⟨b1', o1, none⟩) n1 (sortU (reach [a, b] p))) := HP1.out.below hba2; have HB2 : Hid (Below w.heap.size w w2) := HF1.out.b.trans (hba2.mono HF1.out.b.size)
       clear hpl2 hbb hba2))
   go_loopw [9,13] (fun vb vk wi=>vb = .slice (some ⟨b1',o1,none⟩) n1 c1∧vk = .int .i64 0∧Hid (wi=w2)) (fun _ _ _=>0)
   case atStart=>exact⟨rfl,rfl,rfl⟩
   case round=>
    obtain⟨rfl,rfl,hw⟩:=hrel
    by_cases hn2:0<n2
    ·have hn2':(0:Int)<(n2:Int):=by omega
     go_wp2_with (fail)
     go_ret
     rw[← HR.out,hw.out]
     exact⟨b1',o1,n1,c1,rfl,HP3.out,hc1,HB2.out⟩
    ·have hn2':¬(0:Int)<(n2:Int):=by omega
     go_wp2_with (fail)
     go_ret
     rw[← HR.out,hw.out]
     exact⟨b1',o1,n1,c1,rfl,HP3.out,hc1,HB2.out⟩
end Go.Proofs.YtgjapehpkakkbaaGreat
/- Contract of a win chance, the reference's. There are no conditions. -/
namespace Go.Proofs.YtgjapehpkakkbaaGreat
open Go.RowKit Ps Ra Ex
theorem Frm.outs {S O:Nat→Prop} {w wr w2:World} (h:Frm S w wr) (hf:Frm O wr w2) (hO:∀k,O k→w.heap.size≤k):Frm S w w2:=
 ⟨hf.os.trans h.os,hf.tape.trans h.tape,hf.output.trans h.output,Nat.le_trans h.size hf.size,fun k hk hn=>(hf.block k (Nat.lt_of_lt_of_le hk h.size) fun ho=>by have:=hO k ho;omega).trans (h.block k hk hn)⟩
end Go.Proofs.YtgjapehpkakkbaaGreat
/- Contract of the program's true database. There are no conditions. -/
import Derived.Test.YtkaiilmgemaljaaGreatPR8
set_option linter.unusedVariables false
set_option linter.unusedSimpArgs false
namespace Go.Proofs.YtkaiilmgemaljaaGreat
open Go.RowKit Ps Ra Ex
theorem dbC_1 {p c h s k:Int} (h1:isVar p c h s=false):dbC p c h s k=1:=by unfold dbC;rw[if_pos h1]
theorem dbC_2 {p c h s k:Int} (h1:isVar p c h s=true) (h2:¬(k=1∨k=2)):dbC p c h s k=2:=by unfold dbC;rw[if_neg (by rw[h1];simp),if_pos h2]
theorem dbC_3 {p k:Int} {c h s:Nat} (h1:isVar p c h s=true) (h2:k=1∨k=2) (h3:¬dbOk h c k):dbC p c h s k=3:=by unfold dbC;simp only[Int.toNat_natCast];rw[if_neg (by rw[h1];simp),if_neg (fun h=>h h2),if_pos h3]
theorem dbC_4 {p k:Int} {c h s:Nat} (h1:isVar p c h s=true) (h2:k=1∨k=2) (h3:dbOk h c k) (h4:dbE h c s k=none):dbC p c h s k=3:=by unfold dbC;simp only[Int.toNat_natCast];rw[if_neg (by rw[h1];simp),if_neg (fun h=>h h2),if_neg (fun h=>h h3),if_pos (by simp[h4])]
theorem dbC_0 {p k:Int} {c h s:Nat} {xs:List E} (h1:isVar p c h s=true) (h2:k=1∨k=2) (h3:dbOk h c k) (h4:dbE h c s k=some xs):dbC p c h s k=0:=by unfold dbC;simp only[Int.toNat_natCast];rw[if_neg (by rw[h1];simp),if_neg (fun h=>h h2),if_neg (fun h=>h h3),if_neg (by simp[h4])]
theorem RetDB.no {p c h s k n:Int} {w w':World} (hc:dbC p c h s k=n) (hn:n≠0) (hb:Below w.heap.size w w'):RetDB p c h s k w (.returned (.tuple #[.agg #[.int .i64 0,.int .i64 0,.int .i64 0,.int .i64 0,.int .i64 0,.slice none 0 0],.int .i64 n])) w':=by subst hc;exact⟨hb,.inl ⟨hn,rfl⟩⟩
theorem rowE_setne {W:World} {base:Nat} {v:Value} {xs:List E} {g j:Nat} (h:OwnE W base v xs) (hn:v.ownBlock≠some g) (u:Value):OwnE (W.setCell ⟨g,j,none⟩ u) base v xs:=(Frm.set W g j u).rowE h fun k hk e=>hn (by rw[hk];exact congrArg some e)
theorem FrS.belowW {w W:World} {L:List (List Value)} (h:FrS (fun _=>False) w W L):Below w.heap.size w W:=h.f.below (Nat.le_refl _) fun _ h=>h.elim
set_option maxRecDepth 100000 in
set_option maxHeartbeats 4000000 in
theorem BuildDatabase_any (p c h s k:Int) (w:World):
  Calls Tryz.prog 63 #[.agg #[.int .i64 p,.int .i64 c,.int .i64 h,.int .i64 s],.int .i64 k] w (RetDB p c h s k w):=by
 have HF0:Hid (FrS (fun _=>False) w ((w.alloc (.cells #[.int .i64 p,.int .i64 c,.int .i64 h,.int .i64 s] 25)).alloc (.cells #[.int .i64 0,.int .i64 0,.int .i64 0,.int .i64 0,.int .i64 0,.slice none 0 0] 85)) [[.int .i64 p,.int .i64 c,.int .i64 h,.int .i64 s],[.int .i64 0,.int .i64 0,.int .i64 0,.int .i64 0,.int .i64 0,.slice none 0 0]]):=((FrS.start w (fun _ h=>h.elim)).allocT (by simp) _ _).allocT (by simp) _ _
 have CV:=Lib.hid fun W=>IsVariant_any p c h s W
 rcases hvv:isVar p c h s with _|_
 ·rw[hvv]at CV
  have HR:=Lib.hid (dbC_1 (k:=k) hvv);clear hvv
  go_enter Tryz.func63,Tryz.ntmps63
  go_wp2_with (fail)
  generalize (w.alloc (.cells #[.int .i64 p,.int .i64 c,.int .i64 h,.int .i64 s] 25)).alloc (.cells #[.int .i64 0,.int .i64 0,.int .i64 0,.int .i64 0,.int .i64 0,.slice none 0 0] 85)=W0 at *
  refine (CV.out _).mono ?_
  rintro e w1 ⟨rfl,hb⟩
  have HF1:=Lib.hid (HF0.out.below hb);clear hb HF0;obtain⟨z0,c00,f00,c01,f01,c02,f02,c03,f03,z1,c10,f10,c11,f11,c12,f12,c13,f13,c14,f14,c15,f15⟩:=HF1.out.xf6
  go_wp2_with (fail)
  have HFz:=Lib.hid (((((((HF1.out.set 1 0 rfl rfl (.int .i64 0)).set 1 1 rfl rfl (.int .i64 0)).set 1 2 rfl rfl (.int .i64 0)).set 1 3 rfl rfl (.int .i64 0)).set 1 4 rfl rfl (.int .i64 0)).set 1 5 rfl rfl (.slice none 0 0)))
  refine bodyPost_ret (v:=.tuple #[.agg #[.int .i64 0,.int .i64 0,.int .i64 0,.int .i64 0,.int .i64 0,.slice none 0 0],.int .i64 1]) (by simp[results,Tryz.results63,go_sem,c10,c11,c12,c13,c14,c15,z1,f10,f11,f12,f13,f14,f15]) rfl (RetDB.no HR.out (by decide) ?_)
  exact HFz.out.belowW
 ·rw[hvv]at CV
  by_cases hk:k=1∨k=2
  ·have hvv':=isVar_yes hvv
   obtain⟨c',rfl⟩:∃c':Nat,c=c':=⟨c.toNat,by omega⟩
   obtain⟨h',rfl⟩:∃h':Nat,h=h':=⟨h.toNat,by omega⟩
   obtain⟨s',rfl⟩:∃s':Nat,s=s':=⟨s.toNat,by omega⟩
   have CE:=Lib.hid fun W=>entryCount_any p k c' h' s' W hvv hk
   have hk1:(k != 1)=true→(k != 2)=false:=fun h1=>by rcases hk with rfl|rfl<;>first|rfl|cases h1
   by_cases hok:dbOk h' c' k
   ·have CE2:Hid (∀W,Calls Tryz.prog 146 #[.agg #[.int .i64 p,.int .i64 c',.int .i64 h',.int .i64 s'],.int .i64 k] W fun e w'=>e = .returned (.tuple #[.int .i64 (dbN h' c' k:Int),.bool true])∧Below W.heap.size W w'):=fun W=>(CE.out W).mono fun e w' h=>⟨h.1.elim (fun h=>h.2) fun h=>absurd hok h.1,h.2⟩
    clear CE;have hN5:wys h' c'≤500:=hok.1;have HN2:Hid (dbN h' c' k≤2500):=hok.2
    have hD:dbN h' c' k=if k=2 then wys h' c'*wys h' c' else wys h' c':=rfl
    have hE:dbE h' c' s' k=if k=2 then allN (winsF h' c' s') (dbN h' c' k) else allN (rollsF h' c' s') (dbN h' c' k):=rfl
    have HR0:Hid (dbE h' c' s' k=none→dbC p c' h' s' k=3):=fun h4=>dbC_4 hvv hk hok h4
    have HR1:Hid (∀xs,dbE h' c' s' k=some xs→dbC p c' h' s' k=0):=fun xs h4=>dbC_0 hvv hk hok h4
    have HW1:Hid (wys h' c'*wys h' c'=dbN h' c' k→wys h' c'≤50):=fun h1=>by
     have:=hok.2;rw[← h1]at this
     rcases Nat.lt_or_ge 50 (wys h' c') with h5|h5
     ·have:=Nat.mul_le_mul h5 h5;omega
     ·exact h5
    have CB1:=Lib.hid fun (W:World) (hn:wys h' c'=dbN h' c' k)=>buildRolls_any p c' h' s' (dbN h' c' k) W hvv hN5 hn
    have CB2:=Lib.hid fun (W:World) (hn:wys h' c'*wys h' c'=dbN h' c' k)=>buildWins_any p c' h' s' (dbN h' c' k) W hvv (HW1.out hn) hn
    have CB:Hid (∀W,Calls Tryz.prog (if k=2 then 148 else 147) #[.agg #[.int .i64 p,.int .i64 c',.int .i64 h',.int .i64 s'],.int .i64 (dbN h' c' k:Int)] W (RetDbs W (dbE h' c' s' k))):=fun W=>by
     rcases hk with rfl|rfl
     ·rw[if_neg (by omega),hE,if_neg (by omega)]
      exact CB1.out W (by rw[hD,if_neg (by omega)])
     ·rw[if_pos rfl,hE,if_pos rfl]
      exact CB2.out W (by rw[hD,if_pos rfl])
    clear CB1 CB2 HW1 hE hD hok hvv hvv' hN5
    rcases hk with rfl|rfl
    ·have b0:((1:Int) != 1)=false:=rfl
     rw[if_neg (by omega)]at CB
     clear hk1;generalize dbN h' c' 1=N at *
     go_enter Tryz.func63,Tryz.ntmps63
     go_wp2_with (fail)
     generalize (w.alloc (.cells #[.int .i64 p,.int .i64 c',.int .i64 h',.int .i64 s'] 25)).alloc (.cells #[.int .i64 0,.int .i64 0,.int .i64 0,.int .i64 0,.int .i64 0,.slice none 0 0] 85)=W0 at *
     refine (CV.out _).mono ?_
     rintro e w1 ⟨rfl,hb⟩
     have HF1:=Lib.hid (HF0.out.below hb);clear hb HF0;obtain⟨z0,c00,f00,c01,f01,c02,f02,c03,f03,z1,c10,f10,c11,f11,c12,f12,c13,f13,c14,f14,c15,f15⟩:=HF1.out.xf6
     go_wp2_with (fail)
     clear z0 c00 f00 c01 f01 c02 f02 c03 f03 z1 c10 f10 c11 f11 c12 f12 c13 f13 c14 f14 c15 f15
     refine (CE2.out _).mono ?_
     rintro e w2 ⟨rfl,hb⟩
     have HF2:=Lib.hid (HF1.out.below hb);clear hb HF1;obtain⟨z0,c00,f00,c01,f01,c02,f02,c03,f03,z1,c10,f10,c11,f11,c12,f12,c13,f13,c14,f14,c15,f15⟩:=HF2.out.xf6
     go_wp2_with (fail)
     clear z0 c00 f00 c01 f01 c02 f02 c03 f03 z1 c10 f10 c11 f11 c12 f12 c13 f13 c14 f14 c15 f15
     refine (CB.out _).mono ?_
     rintro e w3 ⟨hb,he⟩
     have HF3:=Lib.hid (HF2.out.below hb);have hz22:w.heap.size+2≤w2.heap.size:=HF2.out.z
     have hz:w.heap.size≤w2.heap.size:=by omega
     clear hb HF2 CB
     rcases hE:dbE h' c' s' 1 with _|xs
     ·rw[hE]at he
      simp only at he
      subst he;have HR:=Lib.hid (HR0.out hE);clear hE HR0 HR1;obtain⟨z0,c00,f00,c01,f01,c02,f02,c03,f03,z1,c10,f10,c11,f11,c12,f12,c13,f13,c14,f14,c15,f15⟩:=HF3.out.xf6
      go_wp2_with (fail)
      have HFz:=Lib.hid (((((((HF3.out.set 1 0 rfl rfl (.int .i64 0)).set 1 1 rfl rfl (.int .i64 0)).set 1 2 rfl rfl (.int .i64 0)).set 1 3 rfl rfl (.int .i64 0)).set 1 4 rfl rfl (.int .i64 0)).set 1 5 rfl rfl (.slice none 0 0)))
      refine bodyPost_ret (v:=.tuple #[.agg #[.int .i64 0,.int .i64 0,.int .i64 0,.int .i64 0,.int .i64 0,.slice none 0 0],.int .i64 3]) (by simp[results,Tryz.results63,go_sem,c10,c11,c12,c13,c14,c15,z1,f10,f11,f12,f13,f14,f15]) rfl (RetDB.no HR.out (by decide) ?_)
      exact HFz.out.belowW
     ·rw[hE]at he
      simp only at he
      obtain⟨v,rfl,hov⟩:=he
      have HO:Hid (OwnE w3 w.heap.size v xs):=⟨hov.1,hov.2.imp id fun⟨g,cap,cur,q1,q2,q3⟩=>⟨g,cap,cur,q1,Nat.le_trans hz q2,q3⟩⟩
      have HOL:=Lib.hid fun j hj=>(World.ownsRow.lt hov j hj).1
      have HRc:=Lib.hid (HR1.out xs hE);have HEE:=Lib.hid hE
      obtain⟨A,n,cv,rfl⟩:∃A n c,v = .slice A n c:=by rcases hov.2 with⟨h1,_⟩|⟨_,_,_,h1,_⟩<;>exact⟨_,_,_,h1⟩
      clear hE HR0 HR1 hov;obtain⟨z0,c00,f00,c01,f01,c02,f02,c03,f03,z1,c10,f10,c11,f11,c12,f12,c13,f13,c14,f14,c15,f15⟩:=HF3.out.xf6
      go_wp2_with (fail)
      have HFz:=Lib.hid (((((((HF3.out.set 1 0 rfl rfl (.int .i64 p)).set 1 1 rfl rfl (.int .i64 c')).set 1 2 rfl rfl (.int .i64 h')).set 1 3 rfl rfl (.int .i64 s')).set 1 4 rfl rfl (.int .i64 1)).set 1 5 rfl rfl (.slice A n cv)))
      refine bodyPost_ret (v:=.tuple #[.agg #[.int .i64 p,.int .i64 c',.int .i64 h',.int .i64 s',.int .i64 1,.slice A n cv],.int .i64 0]) (by simp[results,Tryz.results63,go_sem,c10,c11,c12,c13,c14,c15,z1,f10,f11,f12,f13,f14,f15]) rfl ⟨?_,.inr ⟨HRc.out,_,xs,HEE.out,?_,rfl⟩⟩
      ·exact HFz.out.belowW
      ·repeat (with_reducible first|exact HO.out|refine rowE_setne ?_ (fun h=>by have:=HOL.out _ h;omega) _)
    ·have b0:((2:Int) != 1)=true:=rfl
     rw[if_pos rfl]at CB;clear hk1;generalize dbN h' c' 2=N at *
     go_enter Tryz.func63,Tryz.ntmps63
     go_wp2_with (fail)
     generalize (w.alloc (.cells #[.int .i64 p,.int .i64 c',.int .i64 h',.int .i64 s'] 25)).alloc (.cells #[.int .i64 0,.int .i64 0,.int .i64 0,.int .i64 0,.int .i64 0,.slice none 0 0] 85)=W0 at *
     refine (CV.out _).mono ?_
     rintro e w1 ⟨rfl,hb⟩
     have HF1:=Lib.hid (HF0.out.below hb);clear hb HF0;obtain⟨z0,c00,f00,c01,f01,c02,f02,c03,f03,z1,c10,f10,c11,f11,c12,f12,c13,f13,c14,f14,c15,f15⟩:=HF1.out.xf6
     go_wp2_with (fail)
     clear z0 c00 f00 c01 f01 c02 f02 c03 f03 z1 c10 f10 c11 f11 c12 f12 c13 f13 c14 f14 c15 f15
     refine (CE2.out _).mono ?_
     rintro e w2 ⟨rfl,hb⟩
     have HF2:=Lib.hid (HF1.out.below hb);clear hb HF1;obtain⟨z0,c00,f00,c01,f01,c02,f02,c03,f03,z1,c10,f10,c11,f11,c12,f12,c13,f13,c14,f14,c15,f15⟩:=HF2.out.xf6
     go_wp2_with (fail)
     clear z0 c00 f00 c01 f01 c02 f02 c03 f03 z1 c10 f10 c11 f11 c12 f12 c13 f13 c14 f14 c15 f15
     refine (CB.out _).mono ?_
     rintro e w3 ⟨hb,he⟩
     have HF3:=Lib.hid (HF2.out.below hb);have hz22:w.heap.size+2≤w2.heap.size:=HF2.out.z
     have hz:w.heap.size≤w2.heap.size:=by omega
     clear hb HF2 CB
     rcases hE:dbE h' c' s' 2 with _|xs
     ·rw[hE]at he
      simp only at he
      subst he;have HR:=Lib.hid (HR0.out hE);clear hE HR0 HR1;obtain⟨z0,c00,f00,c01,f01,c02,f02,c03,f03,z1,c10,f10,c11,f11,c12,f12,c13,f13,c14,f14,c15,f15⟩:=HF3.out.xf6
      go_wp2_with (fail)
      have HFz:=Lib.hid (((((((HF3.out.set 1 0 rfl rfl (.int .i64 0)).set 1 1 rfl rfl (.int .i64 0)).set 1 2 rfl rfl (.int .i64 0)).set 1 3 rfl rfl (.int .i64 0)).set 1 4 rfl rfl (.int .i64 0)).set 1 5 rfl rfl (.slice none 0 0)))
      refine bodyPost_ret (v:=.tuple #[.agg #[.int .i64 0,.int .i64 0,.int .i64 0,.int .i64 0,.int .i64 0,.slice none 0 0],.int .i64 3]) (by simp[results,Tryz.results63,go_sem,c10,c11,c12,c13,c14,c15,z1,f10,f11,f12,f13,f14,f15]) rfl (RetDB.no HR.out (by decide) ?_)
      exact HFz.out.belowW
     ·rw[hE]at he
      simp only at he
      obtain⟨v,rfl,hov⟩:=he
      have HO:Hid (OwnE w3 w.heap.size v xs):=⟨hov.1,hov.2.imp id fun⟨g,cap,cur,q1,q2,q3⟩=>⟨g,cap,cur,q1,Nat.le_trans hz q2,q3⟩⟩
      have HOL:=Lib.hid fun j hj=>(World.ownsRow.lt hov j hj).1
      have HRc:=Lib.hid (HR1.out xs hE);have HEE:=Lib.hid hE
      obtain⟨A,n,cv,rfl⟩:∃A n c,v = .slice A n c:=by rcases hov.2 with⟨h1,_⟩|⟨_,_,_,h1,_⟩<;>exact⟨_,_,_,h1⟩
      clear hE HR0 HR1 hov;obtain⟨z0,c00,f00,c01,f01,c02,f02,c03,f03,z1,c10,f10,c11,f11,c12,f12,c13,f13,c14,f14,c15,f15⟩:=HF3.out.xf6
      go_wp2_with (fail)
      have HFz:=Lib.hid (((((((HF3.out.set 1 0 rfl rfl (.int .i64 p)).set 1 1 rfl rfl (.int .i64 c')).set 1 2 rfl rfl (.int .i64 h')).set 1 3 rfl rfl (.int .i64 s')).set 1 4 rfl rfl (.int .i64 2)).set 1 5 rfl rfl (.slice A n cv)))
      refine bodyPost_ret (v:=.tuple #[.agg #[.int .i64 p,.int .i64 c',.int .i64 h',.int .i64 s',.int .i64 2,.slice A n cv],.int .i64 0]) (by simp[results,Tryz.results63,go_sem,c10,c11,c12,c13,c14,c15,z1,f10,f11,f12,f13,f14,f15]) rfl ⟨?_,.inr ⟨HRc.out,_,xs,HEE.out,?_,rfl⟩⟩
      ·exact HFz.out.belowW
      ·repeat (with_reducible first|exact HO.out|refine rowE_setne ?_ (fun h=>by have:=HOL.out _ h;omega) _)
   ·have CE2:Hid (∀W,Calls Tryz.prog 146 #[.agg #[.int .i64 p,.int .i64 c',.int .i64 h',.int .i64 s'],.int .i64 k] W fun e w'=>∃n,e = .returned (.tuple #[.int .i64 n,.bool false])∧Below W.heap.size W w'):=fun W=>(CE.out W).mono fun e w' h=>h.1.elim (fun h=>absurd h.1 hok) fun h1=>h1.2.elim fun n hn=>⟨n,hn,h.2⟩
    have HR:=Lib.hid (dbC_3 hvv hk hok);clear CE hok hvv hvv'
    rcases hk with rfl|rfl
    ·have b0:((1:Int) != 1)=false:=rfl
     clear hk1
     go_enter Tryz.func63,Tryz.ntmps63
     go_wp2_with (fail)
     generalize (w.alloc (.cells #[.int .i64 p,.int .i64 c',.int .i64 h',.int .i64 s'] 25)).alloc (.cells #[.int .i64 0,.int .i64 0,.int .i64 0,.int .i64 0,.int .i64 0,.slice none 0 0] 85)=W0 at *
     refine (CV.out _).mono ?_
     rintro e w1 ⟨rfl,hb⟩
     have HF1:=Lib.hid (HF0.out.below hb);clear hb HF0;obtain⟨z0,c00,f00,c01,f01,c02,f02,c03,f03,z1,c10,f10,c11,f11,c12,f12,c13,f13,c14,f14,c15,f15⟩:=HF1.out.xf6
     go_wp2_with (fail)
     clear z0 c00 f00 c01 f01 c02 f02 c03 f03 z1 c10 f10 c11 f11 c12 f12 c13 f13 c14 f14 c15 f15
     refine (CE2.out _).mono ?_
     rintro e w2 ⟨n,rfl,hb⟩
     have HF2:=Lib.hid (HF1.out.below hb);clear hb HF1;obtain⟨z0,c00,f00,c01,f01,c02,f02,c03,f03,z1,c10,f10,c11,f11,c12,f12,c13,f13,c14,f14,c15,f15⟩:=HF2.out.xf6
     go_wp2_with (fail)
     have HFz:=Lib.hid (((((((HF2.out.set 1 0 rfl rfl (.int .i64 0)).set 1 1 rfl rfl (.int .i64 0)).set 1 2 rfl rfl (.int .i64 0)).set 1 3 rfl rfl (.int .i64 0)).set 1 4 rfl rfl (.int .i64 0)).set 1 5 rfl rfl (.slice none 0 0)))
     refine bodyPost_ret (v:=.tuple #[.agg #[.int .i64 0,.int .i64 0,.int .i64 0,.int .i64 0,.int .i64 0,.slice none 0 0],.int .i64 3]) (by simp[results,Tryz.results63,go_sem,c10,c11,c12,c13,c14,c15,z1,f10,f11,f12,f13,f14,f15]) rfl (RetDB.no HR.out (by decide) ?_)
     exact HFz.out.belowW
    ·have b0:((2:Int) != 1)=true:=rfl
     clear hk1
     go_enter Tryz.func63,Tryz.ntmps63
     go_wp2_with (fail)
     generalize (w.alloc (.cells #[.int .i64 p,.int .i64 c',.int .i64 h',.int .i64 s'] 25)).alloc (.cells #[.int .i64 0,.int .i64 0,.int .i64 0,.int .i64 0,.int .i64 0,.slice none 0 0] 85)=W0 at *
     refine (CV.out _).mono ?_
     rintro e w1 ⟨rfl,hb⟩
     have HF1:=Lib.hid (HF0.out.below hb);clear hb HF0;obtain⟨z0,c00,f00,c01,f01,c02,f02,c03,f03,z1,c10,f10,c11,f11,c12,f12,c13,f13,c14,f14,c15,f15⟩:=HF1.out.xf6
     go_wp2_with (fail)
     clear z0 c00 f00 c01 f01 c02 f02 c03 f03 z1 c10 f10 c11 f11 c12 f12 c13 f13 c14 f14 c15 f15
     refine (CE2.out _).mono ?_
     rintro e w2 ⟨n,rfl,hb⟩
     have HF2:=Lib.hid (HF1.out.below hb);clear hb HF1;obtain⟨z0,c00,f00,c01,f01,c02,f02,c03,f03,z1,c10,f10,c11,f11,c12,f12,c13,f13,c14,f14,c15,f15⟩:=HF2.out.xf6
     go_wp2_with (fail)
     have HFz:=Lib.hid (((((((HF2.out.set 1 0 rfl rfl (.int .i64 0)).set 1 1 rfl rfl (.int .i64 0)).set 1 2 rfl rfl (.int .i64 0)).set 1 3 rfl rfl (.int .i64 0)).set 1 4 rfl rfl (.int .i64 0)).set 1 5 rfl rfl (.slice none 0 0)))
     refine bodyPost_ret (v:=.tuple #[.agg #[.int .i64 0,.int .i64 0,.int .i64 0,.int .i64 0,.int .i64 0,.slice none 0 0],.int .i64 3]) (by simp[results,Tryz.results63,go_sem,c10,c11,c12,c13,c14,c15,z1,f10,f11,f12,f13,f14,f15]) rfl (RetDB.no HR.out (by decide) ?_)
     exact HFz.out.belowW
  ·have b0:(k != 1)=true:=by simp;omega
   have b1:(k != 2)=true:=by simp;omega
   have HR:=Lib.hid (dbC_2 hvv hk);clear hvv hk
   go_enter Tryz.func63,Tryz.ntmps63
   go_wp2_with (fail)
   generalize (w.alloc (.cells #[.int .i64 p,.int .i64 c,.int .i64 h,.int .i64 s] 25)).alloc (.cells #[.int .i64 0,.int .i64 0,.int .i64 0,.int .i64 0,.int .i64 0,.slice none 0 0] 85)=W0 at *
   refine (CV.out _).mono ?_
   rintro e w1 ⟨rfl,hb⟩
   have HF1:=Lib.hid (HF0.out.below hb);clear hb HF0;obtain⟨z0,c00,f00,c01,f01,c02,f02,c03,f03,z1,c10,f10,c11,f11,c12,f12,c13,f13,c14,f14,c15,f15⟩:=HF1.out.xf6
   go_wp2_with (fail)
   have HFz:=Lib.hid (((((((HF1.out.set 1 0 rfl rfl (.int .i64 0)).set 1 1 rfl rfl (.int .i64 0)).set 1 2 rfl rfl (.int .i64 0)).set 1 3 rfl rfl (.int .i64 0)).set 1 4 rfl rfl (.int .i64 0)).set 1 5 rfl rfl (.slice none 0 0)))
   refine bodyPost_ret (v:=.tuple #[.agg #[.int .i64 0,.int .i64 0,.int .i64 0,.int .i64 0,.int .i64 0,.slice none 0 0],.int .i64 2]) (by simp[results,Tryz.results63,go_sem,c10,c11,c12,c13,c14,c15,z1,f10,f11,f12,f13,f14,f15]) rfl (RetDB.no HR.out (by decide) ?_)
   exact HFz.out.belowW
end Go.Proofs.YtkaiilmgemaljaaGreat

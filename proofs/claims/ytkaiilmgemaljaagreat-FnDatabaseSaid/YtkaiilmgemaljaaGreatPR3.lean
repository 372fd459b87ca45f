/- Contract of the best result of a roll, by the program's table of expected numbers. There are no conditions beyond those that it states. -/
import Derived.Test.YtkaiilmgemaljaaGreatPR2
set_option linter.unusedVariables false
set_option linter.unusedSimpArgs false
namespace Go.Proofs.YtkaiilmgemaljaaGreat
open Go.RowKit Ps Ra Ex Go.Maps
def RetChO (t:OT) (w:World) (o:Option (Nat×Nat×E)) (e:Ending) (w':World):Prop:=
 OneI t w'∧Frm t.S w w'∧match o with
  | none=>e = .returned (.tuple #[.slice none 0 0,.agg #[.int .i64 0,.int .i64 0],.bool false])
  | some (_,_,x)=>∃v,e = .returned (.tuple #[v,.agg #[.int .i64 x.num,.int .i64 (x.depth:Int)],.bool true])
def BestN (h k:Nat) (v:Value):Prop:=(k=0∧v = .slice none 0 0)∨(0<k∧∃b off c,v = .slice (some ⟨b,off,none⟩) h c)
set_option maxRecDepth 100000 in
set_option maxHeartbeats 4000000 in
theorem choice_any (t:OT) (ht:t.Ok) {q:List Int} (hq:PosP t.h t.c q) (a b:Nat) (r1:1≤b) (r2:b≤a) (r3:a≤t.s) (hexp:∀x∈resultsL q a b,ExpC t x)
  (A:Option Addr) (ca:Nat) (w:World) (hI:OneI t w) (hA:SQ t.S w A t.h q) (hca:t.h≤ca):
  Calls Tryz.prog 244 #[.pointer (some ⟨t.bt,0,none⟩),.slice A t.h ca,.agg #[.int .i64 (a:Int),.int .i64 (b:Int)]] w (RetChO t w (lstS (sq t.s) (xp t.s) (resultsL q a b))):=by
 have hv:=isVar_yes ht.v
 have hs1:1≤t.s:=by omega
 have hs6:t.s≤6:=by omega
 have hh24:t.h≤24:=by omega
 have hh1:0<t.h:=by omega
 obtain⟨hq1,hq36,_⟩:=sq_bd hs1 hs6;have hlow:=hI.ltS;have HLOW:=Lib.hid hlow
 have HNS:Hid (∀j,¬t.S (w.heap.size+j)):=fun j h=>by have:=hlow _ h;omega
 have HNB:Hid (∀j,t.bt≠w.heap.size+j):=fun j h=>by have:=hI.ltB;omega
 obtain⟨T',hT'⟩:∃T':Nat→Prop,T'=ownT t.S w 3:=⟨_,rfl⟩
 have HTO:Hid (T' (w.heap.size+1+1)):=by unfold Hid;rw[hT'];exact ownT_at 2 rfl (by omega)
 have HTS:Hid (∀k,t.S k→T' k):=fun k hk=>by rw[hT'];exact .inl hk
 have HTL:Hid (∀k,T' k→k<w.heap.size+3):=fun k hk=>by
  rw[hT']at hk
  rcases hk with h|h
  ·have:=HLOW.out k h;omega
  ·exact h.2
 obtain⟨W3,hW3⟩:∃W3,W3=((w.alloc (.cells #[.int .i64 (a:Int),.int .i64 (b:Int)] 39)).alloc (.cells #[.int .i64 0,.int .i64 0] 35)).alloc (.cells #[.int .i64 0,.int .i64 0] 35):=⟨_,rfl⟩
 have HF0:Hid (FrS t.S w W3 [[.int .i64 (a:Int),.int .i64 (b:Int)],[.int .i64 0,.int .i64 0],[.int .i64 0,.int .i64 0]]):=by rw[hW3];exact (((FrS.start w hlow).allocT (by simp) _ _).allocT (by simp) _ _).allocT (by simp) _ _
 have hb0:Below w.heap.size w W3:=by rw[hW3];exact (((Below.refl _ _).alloc (Nat.le_refl _) _).alloc (by simp) _).alloc (by simp;omega) _
 have HI0:Hid (OneI t W3):=hI.below hb0
 have hz3:W3.heap.size=w.heap.size+3:=by rw[hW3];simp
 have e4:=((hI.alloc (.cells #[.int .i64 (a:Int),.int .i64 (b:Int)] 39)).alloc (.cells #[.int .i64 0,.int .i64 0] 35)).tb 4 _ rfl;have hbt0:=hI.ltB
 have CRES:=Lib.hid (bearoffResults_any T' A t.h ca a b q W3 (by rw[hT'];exact (hA.wide 3).below hb0) hca ⟨hq.1,hq.2.1,by have:=hq.2.2;omega⟩ hh24 hh1 r1 r2 (by omega) (fun k hk h=>by have:=HTL.out k h;omega))
 have HRP:Hid (∀x∈resultsL q a b,PosP t.h t.c x):=fun x h=>(results_pos (by omega) r1 hq x h).1
 have HEXP:=Lib.hid hexp
 have HSV:=Lib.hid fun (x:List Int) (e:E) (h:xp t.s x=some e)=>xp_val hq1 h
 have hlen:(resultsL q a b).length≤1000000:=Nat.le_trans (results_len (by omega) r1 hq hh24) (by omega)
 have HLEN:=Lib.hid hlen;have HST:Hid (lstS (sq t.s) (xp t.s) ((resultsL q a b).take 0)=some (0,0,⟨0,0⟩)):=rfl;clear hI hA hv hlow hb0 hq hexp r1 r2 r3 hlen ht hT';generalize resultsL q a b=L at *
 go_enter Tryz.func244,Tryz.ntmps244
 go_wp2_with (fail)
 rw[← hW3]
 refine CRES.out.mono ?_
 rintro e w1 ⟨u,rfl,ho2,hb2⟩
 obtain⟨Al,cl,rfl,hpl,hcl⟩:=ho2.read;obtain⟨nl,hnl⟩:∃nl,L.length=nl:=⟨_,rfl⟩;rw[hnl]at hpl hcl ⊢;have HNL:=Lib.hid hnl
 have hnl6:nl≤1000000:=by rw[← hnl];exact HLEN.out
 have HPL:=Lib.hid hpl;have HF1:=Lib.hid (HF0.out.below hb2);have HI1:=Lib.hid (HI0.out.below hb2)
 have hz1:w.heap.size+3≤w1.heap.size:=by have:=HF1.out.z;simpa using this
 clear hpl hnl ho2 hb2 CRES HF0 HI0 e4 hW3 hz3 hbt0
 go_wp2_with (fail)
 go_loopw [12,38] (fun v12 v38 wr=>∃(k at':Nat) (xn:Int) (xd:Nat),k≤nl∧v38 = .int .i64 k∧Hid (lstS (sq t.s) (xp t.s) (L.take k)=some (k,at',⟨xn,xd⟩))∧(∃vx,vx=v12∧Hid (BestN t.h k vx))∧Hid (FrS t.S w wr [[.int .i64 (a:Int),.int .i64 (b:Int)],[.int .i64 0,.int .i64 0],[.int .i64 xn,.int .i64 (xd:Int)]])∧Hid (OneI t wr)∧Hid (Frm T' w1 wr)) (fun _ v38 _=>nl-(intOf v38).toNat)
 case atStart=>exact⟨0,0,0,0,by omega,rfl,HST.out,⟨_,rfl,.inl ⟨rfl,rfl⟩⟩,HF1.out,HI1.out,Frm.refl _ _⟩
 case round=>
  clear HF1 HI1 HST hcl;obtain⟨k,at',xn,xd,hk,rfl,hbs,⟨vx,rfl,HBV⟩,HF,HI,HFW⟩:=hrel
  by_cases hlt:k<nl
  ·have hki:(k:Int)<(nl:Int):=by omega
   obtain⟨bl,ol,Bq,mq,cq,rfl,hzl,hcq,hsq,hmq⟩:=(HPL.out.frm HFW.out).at hlt
   have hmem:=getD_mem' L [] (k:=k) (by rw[HNL.out];exact hlt)
   have hqp:=HRP.out _ hmem
   have hmh:t.h=mq:=by rw[← hsq.1.1];exact hqp.1.symm
   subst hmh;obtain⟨bq,oq,rfl,_,_⟩:=hsq.1.2 hh1;have CEX:=Lib.hid (HEXP.out _ hmem (some ⟨bq,oq,none⟩) cq wr HI.out (hsq.less HTS.out) hmq)
   have HLL:Hid (k<L.length):=by unfold Hid;rw[HNL.out];exact hlt
   rcases hso:xp t.s (L.getD k []) with _|⟨yn,yd⟩
   ·have HR:Hid (lstS (sq t.s) (xp t.s) L=none):=lstS_stop HLL.out hbs.out hso
    rw[hso]at CEX;clear hqp hsq hso hmem;obtain⟨z0,c00,f00,c01,f01,z1,c10,f10,c11,f11,z2,c20,f20,c21,f21⟩:=HF.out.xf5
    go_wp2_with (fail)
    clear z0 c00 f00 c01 f01 z1 c10 f10 c11 f11 z2 c20 f20 c21 f21
    refine CEX.out.mono ?_
    rintro e w2 ⟨rfl,hI2,hf2⟩
    have HF2:=Lib.hid (HF.out.frm hf2);have HI2:=Lib.hid hI2;unfold exV
    simp only[Option.getD_none,Option.isSome_none]
    clear hI2 hf2 HF HI HBV CEX;obtain⟨z0,c00,f00,c01,f01,z1,c10,f10,c11,f11,z2,c20,f20,c21,f21⟩:=HF2.out.xf5
    go_wp2_with (fail)
    refine bodyPost_ret (v:=.tuple #[.slice none 0 0,.agg #[.int .i64 0,.int .i64 0],.bool false]) (by simp[results,Tryz.results244,go_sem,c10,c11,z1,f10,f11]) rfl ?_
    rw[HR.out]
    refine⟨?_,?_,rfl⟩
    ·repeat (with_reducible first|exact HI2.out|refine OneI.alloc ?_ _|refine OneI.stored ?_ _ (HNS.out 1) (HNB.out 1))
    ·repeat (with_reducible first|exact HF2.out.f|refine Frm.alloc ?_ _|refine Frm.ownSet ?_ (by omega) _)
   ·have HYV:Hid (Val (sq t.s) ⟨yn,yd⟩):=HSV.out _ _ hso
    have HXV:Hid (Val (sq t.s) ⟨xn,xd⟩):=lstS_val HSV.out hbs.out
    have HGO:Hid (k=0∨ltE (sq t.s) ⟨yn,yd⟩ ⟨xn,xd⟩=true→lstS (sq t.s) (xp t.s) (L.take (k+1))=some (k+1,k,⟨yn,yd⟩)):=fun h=>lstS_go HLL.out hbs.out hso h
    have HKP:Hid (k≠0→ltE (sq t.s) ⟨yn,yd⟩ ⟨xn,xd⟩=false→lstS (sq t.s) (xp t.s) (L.take (k+1))=some (k+1,at',⟨xn,xd⟩)):=fun h1 h2=>lstS_keep HLL.out hbs.out hso h1 h2
    rw[hso]at CEX;clear hqp hsq hso hmem;obtain⟨z0,c00,f00,c01,f01,z1,c10,f10,c11,f11,z2,c20,f20,c21,f21⟩:=HF.out.xf5
    go_wp2_with (fail)
    clear z0 c00 f00 c01 f01 z1 c10 f10 c11 f11 z2 c20 f20 c21 f21
    refine CEX.out.mono ?_
    rintro e w2 ⟨rfl,hI2,hf2⟩
    have HF2:Hid (FrS t.S w (w2.alloc (.cells #[.int .i64 yn,.int .i64 (yd:Int)] 35)) [[.int .i64 (a:Int),.int .i64 (b:Int)],[.int .i64 0,.int .i64 0],[.int .i64 xn,.int .i64 (xd:Int)]]):=(HF.out.frm hf2).alloc _;have HI2:Hid (OneI t (w2.alloc (.cells #[.int .i64 yn,.int .i64 (yd:Int)] 35))):=hI2.alloc _;have HFW2:Hid (Frm T' w1 (w2.alloc (.cells #[.int .i64 yn,.int .i64 (yd:Int)] 35))):=(HFW.out.trans (hf2.mono HTS.out)).alloc _
    have hzr:w.heap.size+3≤wr.heap.size:=by have:=HF.out.z;simpa using this
    have hzg:w.heap.size+3≤w2.heap.size:=Nat.le_trans hzr hf2.size
    have g0:(w2.alloc (.cells #[.int .i64 yn,.int .i64 (yd:Int)] 35)).cell? ⟨w2.heap.size,0,none⟩=some (.int .i64 yn):=by simp[go_sem]
    have g1:(w2.alloc (.cells #[.int .i64 yn,.int .i64 (yd:Int)] 35)).cell? ⟨w2.heap.size,1,none⟩=some (.int .i64 (yd:Int)):=by simp[go_sem]
    have gz:w2.heap.size<(w2.alloc (.cells #[.int .i64 yn,.int .i64 (yd:Int)] 35)).heap.size:=by simp
    unfold exV
    simp only[Option.getD_some,Option.isSome_some]
    clear hI2 hf2 HF HI CEX hzr;have e0:=HI2.out.tb 0 _ rfl;have e1:=HI2.out.tb 1 _ rfl;have e2:=HI2.out.tb 2 _ rfl;have e3:=HI2.out.tb 3 _ rfl;have hbt:=HI2.out.ltB
    by_cases hk0:k=0
    ·have hvx:vx = .slice none 0 0:=by
      rcases HBV.out with⟨_,h⟩|⟨h,_⟩
      ·exact h
      ·omega
     have HR:=Lib.hid (HGO.out (.inl hk0));have HK0:=Lib.hid hk0;subst hvx
     have hnil:∀W:World,(binOp .eql 26 (.slice none 0 0) (.slice none 0 0)).run Tryz.prog W = .ok (.bool true) W:=fun W=>Lib.run_eql_slice_nil (P:=Tryz.prog) W 26 2 none 0 0 0 0 Tryz.underlying26
     clear hk0 HGO HKP HBV
     go_wp2_with (fail)
     generalize w2.alloc (.cells #[.int .i64 yn,.int .i64 (yd:Int)] 35)=W2 at *
     first|refine wp_region_more2 (by kernel_rfl) (by kernel_rfl) ?_|refine wp_region_more (by kernel_rfl) (by kernel_rfl) ?_
     repeat (first|go_big_quiet_step (fail)|quiet_step (fail))
     refine wpQuiet_nil ?_
     intro _ hw'
     obtain⟨tr,hw''⟩:=hw';subst hw'';have HF3:=Lib.hid (HF2.out.more tr);have HI3:=Lib.hid (HI2.out.more tr);have HFW3:=Lib.hid (HFW2.out.trans (Frm.of_below' _ (below_more _ tr)));have k0:=keep_cell g0 (below_more _ tr);have k1:=keep_cell g1 (below_more _ tr);have kz:=Nat.lt_of_lt_of_le gz (size_more _ tr);clear HF2 HI2 HFW2 g0 g1 gz e0 e1 e2 e3 hbt;generalize more W2 tr=Z at *;obtain⟨z0,c00,f00,c01,f01,z1,c10,f10,c11,f11,z2,c20,f20,c21,f21⟩:=HF3.out.xf5
     go_wp2_with (fail)
     first|refine wp_region_tail_more2 3 (by kernel_rfl) (by kernel_rfl) ?_|refine wp_region_tail_more 3 (by kernel_rfl) (by kernel_rfl) ?_
     simp only[List.take_succ_cons,List.take_zero,List.drop_succ_cons,List.drop_zero]
     repeat (first|go_big_quiet_step (fail)|quiet_step (fail))
     refine wpQuiet_nil ?_
     intro _ hw'
     obtain⟨tr2,hw''⟩:=hw';subst hw'';have HF4:=Lib.hid (HF3.out.more tr2);have HI4:=Lib.hid (HI3.out.more tr2);have HFW4:=Lib.hid (HFW3.out.trans (Frm.of_below' _ (below_more _ tr2)));clear z0 c00 f00 c01 f01 z1 c10 f10 c11 f11 z2 c20 f20 c21 f21;clear HF3 HI3 HFW3 k0 k1 kz;generalize more Z tr2=Y at *;obtain⟨z0,c00,f00,c01,f01,z1,c10,f10,c11,f11,z2,c20,f20,c21,f21⟩:=HF4.out.xf5
     go_wp2_with (fail)
     clear z0 c00 f00 c01 f01 z1 c10 f10 c11 f11 z2 c20 f20 c21 f21
     have hfo:∀(X:World) (j:Nat) (v:Value),Frm T' X (X.setCell ⟨w.heap.size+1+1,j,none⟩ v):=fun X j v=>(Frm.set X (w.heap.size+1+1) j v).mono fun x hx=>by rw[hx];exact HTO.out
     have HF5:Hid (FrS t.S w ((Y.setCell ⟨w.heap.size+1+1,0,none⟩ (.int .i64 yn)).setCell ⟨w.heap.size+1+1,1,none⟩ (.int .i64 (yd:Int))) [[.int .i64 (a:Int),.int .i64 (b:Int)],[.int .i64 0,.int .i64 0],[.int .i64 yn,.int .i64 (yd:Int)]]):=(HF4.out.set 2 0 rfl rfl _).set 2 1 rfl rfl _;have HI5:Hid (OneI t ((Y.setCell ⟨w.heap.size+1+1,0,none⟩ (.int .i64 yn)).setCell ⟨w.heap.size+1+1,1,none⟩ (.int .i64 (yd:Int)))):=(HI4.out.stored _ (HNS.out 2) (HNB.out 2)).stored _ (HNS.out 2) (HNB.out 2);have HFW5:Hid (Frm T' w1 ((Y.setCell ⟨w.heap.size+1+1,0,none⟩ (.int .i64 yn)).setCell ⟨w.heap.size+1+1,1,none⟩ (.int .i64 (yd:Int)))):=(HFW4.out.trans (hfo _ _ _)).trans (hfo _ _ _)
     have HBN:Hid (BestN t.h (k+1) (.slice (some ⟨bq,oq,none⟩) t.h cq)):=.inr ⟨by omega,_,_,_,rfl⟩
     clear hfo HF4 HI4 HFW4
     go_roundw
     case rel=>exact⟨k+1,k,yn,yd,by omega,by go_num,HR.out,⟨_,rfl,HBN.out⟩,HF5.out,HI5.out,HFW5.out⟩
     case measure=>(simp[intOf])<;>omega
    ·obtain⟨bv,ov,cv,hvx⟩:∃b off c,vx = .slice (some ⟨b,off,none⟩) t.h c:=by
      rcases HBV.out with⟨h,_⟩|⟨_,h⟩
      ·exact absurd h hk0
      ·exact h
     subst hvx
     have hnil:∀W:World,(binOp .eql 26 (.slice (some ⟨bv,ov,none⟩) t.h cv) (.slice none 0 0)).run Tryz.prog W = .ok (.bool false) W:=fun W=>Lib.run_eql_slice_nil (P:=Tryz.prog) W 26 2 (some ⟨bv,ov,none⟩) t.h cv 0 0 Tryz.underlying26
     have COMP:=Lib.hid fun (W:World)=>compareExact_any t.p t.c t.h yn xn t.s yd xd W hs1 hs6 HYV.out HXV.out
     have HCS:Hid ((cmpE (sq t.s) ⟨yn,yd⟩ ⟨xn,xd⟩<0)=(ltE (sq t.s) ⟨yn,yd⟩ ⟨xn,xd⟩=true)):=cmp_ltE;have hcb1:=cmp_bd (sq t.s) ⟨yn,yd⟩ ⟨xn,xd⟩;generalize cmpE (sq t.s) ⟨yn,yd⟩ ⟨xn,xd⟩=cm at *
     by_cases hcm:cm<0
     ·have HR:=Lib.hid (HGO.out (.inr (by rw[← HCS.out];exact hcm)))
      clear HGO HKP HBV
      go_wp2_with (fail)
      generalize w2.alloc (.cells #[.int .i64 yn,.int .i64 (yd:Int)] 35)=W2 at *;obtain⟨z0,c00,f00,c01,f01,z1,c10,f10,c11,f11,z2,c20,f20,c21,f21⟩:=HF2.out.xf5
      first|refine wp_region_more2 (by kernel_rfl) (by kernel_rfl) ?_|refine wp_region_more (by kernel_rfl) (by kernel_rfl) ?_
      repeat (first|go_big_quiet_step ((go_at_call 166;exact more_call (COMP.out _)))|quiet_step ((go_at_call 166;exact more_call (COMP.out _))))
      refine wpQuiet_nil ?_
      intro _ hw'
      obtain⟨tr,hw''⟩:=hw';subst hw'';clear z0 c00 f00 c01 f01 z1 c10 f10 c11 f11 z2 c20 f20 c21 f21;have HF3:=Lib.hid (HF2.out.more tr);have HI3:=Lib.hid (HI2.out.more tr);have HFW3:=Lib.hid (HFW2.out.trans (Frm.of_below' _ (below_more _ tr)));have k0:=keep_cell g0 (below_more _ tr);have k1:=keep_cell g1 (below_more _ tr);have kz:=Nat.lt_of_lt_of_le gz (size_more _ tr);clear HF2 HI2 HFW2 g0 g1 gz e0 e1 e2 e3 hbt;generalize more W2 tr=Z at *;obtain⟨z0,c00,f00,c01,f01,z1,c10,f10,c11,f11,z2,c20,f20,c21,f21⟩:=HF3.out.xf5
      go_wp2_with (fail)
      first|refine wp_region_tail_more2 3 (by kernel_rfl) (by kernel_rfl) ?_|refine wp_region_tail_more 3 (by kernel_rfl) (by kernel_rfl) ?_
      simp only[List.take_succ_cons,List.take_zero,List.drop_succ_cons,List.drop_zero]
      repeat (first|go_big_quiet_step (fail)|quiet_step (fail))
      refine wpQuiet_nil ?_
      intro _ hw'
      obtain⟨tr2,hw''⟩:=hw';subst hw'';have HF4:=Lib.hid (HF3.out.more tr2);have HI4:=Lib.hid (HI3.out.more tr2);have HFW4:=Lib.hid (HFW3.out.trans (Frm.of_below' _ (below_more _ tr2)));clear z0 c00 f00 c01 f01 z1 c10 f10 c11 f11 z2 c20 f20 c21 f21;clear HF3 HI3 HFW3 k0 k1 kz;generalize more Z tr2=Y at *;obtain⟨z0,c00,f00,c01,f01,z1,c10,f10,c11,f11,z2,c20,f20,c21,f21⟩:=HF4.out.xf5
      go_wp2_with (fail)
      clear z0 c00 f00 c01 f01 z1 c10 f10 c11 f11 z2 c20 f20 c21 f21
      have hfo:∀(X:World) (j:Nat) (v:Value),Frm T' X (X.setCell ⟨w.heap.size+1+1,j,none⟩ v):=fun X j v=>(Frm.set X (w.heap.size+1+1) j v).mono fun x hx=>by rw[hx];exact HTO.out
      have HF5:Hid (FrS t.S w ((Y.setCell ⟨w.heap.size+1+1,0,none⟩ (.int .i64 yn)).setCell ⟨w.heap.size+1+1,1,none⟩ (.int .i64 (yd:Int))) [[.int .i64 (a:Int),.int .i64 (b:Int)],[.int .i64 0,.int .i64 0],[.int .i64 yn,.int .i64 (yd:Int)]]):=(HF4.out.set 2 0 rfl rfl _).set 2 1 rfl rfl _;have HI5:Hid (OneI t ((Y.setCell ⟨w.heap.size+1+1,0,none⟩ (.int .i64 yn)).setCell ⟨w.heap.size+1+1,1,none⟩ (.int .i64 (yd:Int)))):=(HI4.out.stored _ (HNS.out 2) (HNB.out 2)).stored _ (HNS.out 2) (HNB.out 2);have HFW5:Hid (Frm T' w1 ((Y.setCell ⟨w.heap.size+1+1,0,none⟩ (.int .i64 yn)).setCell ⟨w.heap.size+1+1,1,none⟩ (.int .i64 (yd:Int)))):=(HFW4.out.trans (hfo _ _ _)).trans (hfo _ _ _)
      have HBN:Hid (BestN t.h (k+1) (.slice (some ⟨bq,oq,none⟩) t.h cq)):=.inr ⟨by omega,_,_,_,rfl⟩
      clear hfo HF4 HI4 HFW4
      go_roundw
      case rel=>exact⟨k+1,k,yn,yd,by omega,by go_num,HR.out,⟨_,rfl,HBN.out⟩,HF5.out,HI5.out,HFW5.out⟩
      case measure=>(simp[intOf])<;>omega
     ·have HR:=Lib.hid (HKP.out hk0 (by
       cases hl:ltE (sq t.s) ⟨yn,yd⟩ ⟨xn,xd⟩with
       | false=>rfl
       | true=>exact absurd (by rw[HCS.out];exact hl) hcm))
      have HBN:Hid (BestN t.h (k+1) (.slice (some ⟨bv,ov,none⟩) t.h cv)):=.inr ⟨by omega,_,_,_,rfl⟩
      clear HGO HKP HBV
      go_wp2_with (fail)
      generalize w2.alloc (.cells #[.int .i64 yn,.int .i64 (yd:Int)] 35)=W2 at *;obtain⟨z0,c00,f00,c01,f01,z1,c10,f10,c11,f11,z2,c20,f20,c21,f21⟩:=HF2.out.xf5
      first|refine wp_region_more2 (by kernel_rfl) (by kernel_rfl) ?_|refine wp_region_more (by kernel_rfl) (by kernel_rfl) ?_
      repeat (first|go_big_quiet_step ((go_at_call 166;exact more_call (COMP.out _)))|quiet_step ((go_at_call 166;exact more_call (COMP.out _))))
      refine wpQuiet_nil ?_
      intro _ hw'
      obtain⟨tr,hw''⟩:=hw';subst hw'';clear z0 c00 f00 c01 f01 z1 c10 f10 c11 f11 z2 c20 f20 c21 f21;have HF3:=Lib.hid (HF2.out.more tr);have HI3:=Lib.hid (HI2.out.more tr);have HFW3:=Lib.hid (HFW2.out.trans (Frm.of_below' _ (below_more _ tr)));have k0:=keep_cell g0 (below_more _ tr);have k1:=keep_cell g1 (below_more _ tr);have kz:=Nat.lt_of_lt_of_le gz (size_more _ tr);clear HF2 HI2 HFW2 g0 g1 gz e0 e1 e2 e3 hbt;generalize more W2 tr=Z at *
      go_wp2_with (fail)
      go_roundw
      case rel=>exact⟨k+1,at',xn,xd,by omega,by go_num,HR.out,⟨_,rfl,HBN.out⟩,HF3.out,HI3.out,HFW3.out⟩
      case measure=>(simp[intOf])<;>omega
  ·have hke:k=nl:=by omega
   have HR:Hid (lstS (sq t.s) (xp t.s) L=some (k,at',⟨xn,xd⟩)):=by
    have h:=hbs.out
    rwa [List.take_of_length_le (by rw[HNL.out];omega)]at h
   obtain⟨z0,c00,f00,c01,f01,z1,c10,f10,c11,f11,z2,c20,f20,c21,f21⟩:=HF.out.xf5
   go_wp2_with (fail)
   first|refine wp_region_tail_more2 3 (by kernel_rfl) (by kernel_rfl) ?_|refine wp_region_tail_more 3 (by kernel_rfl) (by kernel_rfl) ?_
   simp only[List.take_succ_cons,List.take_zero,List.drop_succ_cons,List.drop_zero]
   repeat (first|go_big_quiet_step (fail)|quiet_step (fail))
   refine wpQuiet_nil ?_
   intro _ hw'
   obtain⟨tr,hw''⟩:=hw';subst hw'';clear z0 c00 f00 c01 f01 z1 c10 f10 c11 f11 z2 c20 f20 c21 f21;have HF2:=Lib.hid (HF.out.more tr);have HI2:=Lib.hid (HI.out.more tr);clear HF HI HPL HBV HFW;generalize more wr tr=Y at *;obtain⟨z0,c00,f00,c01,f01,z1,c10,f10,c11,f11,z2,c20,f20,c21,f21⟩:=HF2.out.xf5
   go_wp2_with (fail)
   refine bodyPost_ret (v:=.tuple #[vx,.agg #[.int .i64 xn,.int .i64 (xd:Int)],.bool true]) (by simp[results,Tryz.results244,go_sem,c10,c11,z1,f10,f11]) rfl ?_
   rw[HR.out]
   refine⟨?_,?_,vx,rfl⟩
   ·repeat (with_reducible first|exact HI2.out|refine OneI.alloc ?_ _|refine OneI.stored ?_ _ (HNS.out 1) (HNB.out 1))
   ·repeat (with_reducible first|exact HF2.out.f|refine Frm.alloc ?_ _|refine Frm.ownSet ?_ (by omega) _)
end Go.Proofs.YtkaiilmgemaljaaGreat

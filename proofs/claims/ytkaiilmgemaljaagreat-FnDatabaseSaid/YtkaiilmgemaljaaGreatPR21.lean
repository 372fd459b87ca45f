/- Contract of a database's verification, the program's. There are no conditions beyond those that it states. -/
import Derived.Test.YtkaiilmgemaljaaGreatPR20
import Derived.Test.YtkaiilmgemaljaaGreatPU6
set_option linter.unusedVariables false
set_option linter.unusedSimpArgs false
namespace Go.Proofs.YtkaiilmgemaljaaGreat
open Go.RowKit Ps Ra Ex Go.Maps Go.WideShapes
inductive AllV (S:Nat→Prop):List RP→Prop
 | nil:AllV S []
 | cons {P:RP} {l:List RP}:(∀v W W',P v W→Frm S W W'→P v W')→AllV S l→AllV S (P::l)
theorem GL.stabV {S:Nat→Prop}:∀{l:List RP},AllV S l→∀i v W W',GL l i v W→Frm S W W'→GL l i v W'
 | _,.nil,_,_,_,_,_,_=>trivial
 | _,.cons h _,0,v,W,W',hg,hb=>h v W W' hg hb
 | _,.cons _ h,i+1,v,W,W',hg,hb=>GL.stabV h i v W W' hg hb
theorem stv_eq (S:Nat→Prop) (x:Value):∀v W W',Eqv x v W→Frm S W W'→Eqv x v W':=fun _ _ _ h _=>h
def OwnV (lo h:Nat) (q:List Int):RP:=fun v W=>∃A c,v = .slice A h c∧OwnS W lo 2 (.slice A h c) q∧q.length=h
theorem stv_own {S:Nat→Prop} {lo:Nat} (hS:∀k,S k→k<lo) (h:Nat) (q:List Int):∀v W W',OwnV lo h q v W→Frm S W W'→OwnV lo h q v W':=fun _ _ _ ⟨A,c,h1,h2,h3⟩ hf=>⟨A,c,h1,hf.row h2 (fun j hj h=>by have:=hS j h;have:=(World.ownsRow.lt h2 j hj).1;omega),h3⟩
def RsvV (T:Nat→Prop) (ls:List (List (List Int))):RP:=fun v W=>RSV T W v ls
theorem stv_rsv {S T:Nat→Prop} (hS:∀k,S k→T k) (ls:List (List (List Int))):∀v W W',RsvV T ls v W→Frm S W W'→RsvV T ls v W':=fun _ _ _ h hf=>RSV.frm h hf hS
def v12d:Nat→Nat
 | 0=>46
 | 1=>47
 | 2=>48
 | 3=>49
 | 4=>50
 | 5=>51
 | 6=>52
 | 7=>53
 | 8=>54
 | 9=>45
 | 10=>55
 | 11=>56
 | _=>0
def v11d:Nat→Nat
 | 0=>29
 | 1=>30
 | 2=>31
 | 3=>32
 | 4=>33
 | 5=>34
 | 6=>35
 | 7=>36
 | 8=>37
 | 9=>38
 | 10=>39
 | 11=>40
 | 12=>41
 | 13=>42
 | 14=>28
 | 15=>43
 | 16=>44
 | _=>0
def verV:Option Nat→Value
 | none=>.tuple #[.int .i64 (-1),.int .i64 0]
 | some j=>.tuple #[.int .i64 (j:Int),.int .i64 5]
set_option maxRecDepth 100000 in
set_option maxHeartbeats 1000000 in
theorem trueRolls_zero (p kk:Int) (c h s n cv:Nat) (A:Option Addr) (u:Value) (w:World):
  Calls Tryz.prog 159 #[.agg #[.int .i64 p,.int .i64 c,.int .i64 h,.int .i64 s,.int .i64 kk,.slice A n cv],u,.int .i64 0] w fun e w'=>e = .returned (.tuple #[exV (some zeroE'),.bool (some zeroE').isSome])∧Below w.heap.size w w':=by
 have HF0:Hid (FrS (fun _=>False) w ((w.alloc (.cells #[.int .i64 p,.int .i64 c,.int .i64 h,.int .i64 s,.int .i64 kk,.slice A n cv] 85)).alloc (.cells #[.int .i64 0,.int .i64 0] 35)) [[.int .i64 p,.int .i64 c,.int .i64 h,.int .i64 s,.int .i64 kk,.slice A n cv],[.int .i64 0,.int .i64 0]]):=((FrS.start w (fun _ h=>h.elim)).allocT (by simp) _ _).allocT (by simp) _ _
 go_enter Tryz.func159,Tryz.ntmps159
 go_wp2_with (fail)
 refine bodyPost_ret (v:=.tuple #[.agg #[.int .i64 0,.int .i64 0],.bool true]) (by simp[results,Tryz.results159,go_sem]) rfl ⟨rfl,?_⟩
 repeat (with_reducible first|exact HF0.out.belowW|refine bd_set ?_ (by simp) _|refine Below.alloc ?_ (by first|omega|(simp;omega)) _)
set_option maxRecDepth 100000 in
set_option maxHeartbeats 8000000 in
theorem VerifyDatabase_rolls (p:Int) (c h s n cv:Nat) (A:Option Addr) (xs:List E) (w:World) (hv:isVar p c h s=true) (hok:dbOk h c 1) (hn:dbN h c 1=n) (hx:EL (fun _=>False) w A n xs) (hval:∀x∈xs,Val (sq s) x):
  Calls Tryz.prog 68 #[.agg #[.int .i64 p,.int .i64 c,.int .i64 h,.int .i64 s,.int .i64 1,.slice A n cv]] w fun e w'=>e = .returned (verV (badD h c s 1 (fun j=>xs.getD j ⟨0,0⟩) n))∧Below w.heap.size w w':=by
 have hvv:=isVar_yes hv
 have hs1:1≤s:=by omega
 have hs6:s≤6:=by omega
 have hh24:h≤24:=by omega
 have hc15:c≤15:=by omega
 have hn25:n≤2500:=by rw[← hn];exact hok.2
 have hw5:wys h c≤500:=hok.1
 obtain⟨T,hT⟩:∃T:Nat→Prop,T=fun k=>w.heap.size≤k:=⟨_,rfl⟩
 have HT:Hid (∀k,w.heap.size≤k→T k):=fun k hk=>by rw[hT];exact hk
 have HX:Hid (EL T w A n xs):=hx.spare fun b hb=>by rw[hT];omega
 have HF0:Hid (FrS (fun _=>False) w (w.alloc (.cells #[.int .i64 p,.int .i64 c,.int .i64 h,.int .i64 s,.int .i64 1,.slice A n cv] 85)) [[.int .i64 p,.int .i64 c,.int .i64 h,.int .i64 s,.int .i64 1,.slice A n cv]]):=(FrS.start w (fun _ h=>h.elim)).allocT (by simp) _ _
 have HFT0:Hid (Frm T w (w.alloc (.cells #[.int .i64 p,.int .i64 c,.int .i64 h,.int .i64 s,.int .i64 1,.slice A n cv] 85))):=(Frm.refl _ _).alloc _
 have CIS:=Lib.hid (IsDatabase_yes p 1 c h s n cv A xs (w.alloc (.cells #[.int .i64 p,.int .i64 c,.int .i64 h,.int .i64 s,.int .i64 1,.slice A n cv] 85)) hv (by omega) hok hn ((HX.out.frm HFT0.out).all) hval)
 have CNR:=Lib.hid fun (W:World)=>newRace_any p c h s W hv hw5
 have CAT:=Lib.hid fun (k:Nat) (W:World) (hk:k<wys h c)=>(show Calls Tryz.prog 158 #[.agg #[.int .i64 p,.int .i64 c,.int .i64 h,.int .i64 s],.int .i64 (k:Int)] W (RetO W 2 (atP h c k)) from by have h1:=bearoffAt_any p s c h (atP h c k) W (atP_pos hk).1 hc15 hh24 (by omega);rw[(atP_pos hk).2]at h1;exact h1)
 have HPP:Hid (∀k,k<wys h c→PosP h c (atP h c k)):=fun k hk=>(atP_pos hk).1
 have HBD0:Hid (badD h c s 1 (fun j=>xs.getD j ⟨0,0⟩) 0=none):=rfl
 have HBGO:Hid (∀k,badD h c s 1 (fun j=>xs.getD j ⟨0,0⟩) k=none→trueE h c s 1 (fun j=>xs.getD j ⟨0,0⟩) k=some (xs.getD k ⟨0,0⟩)→badD h c s 1 (fun j=>xs.getD j ⟨0,0⟩) (k+1)=none):=fun k h0 h1=>badD_go h0 h1
 have HBST:Hid (∀k,k<n→badD h c s 1 (fun j=>xs.getD j ⟨0,0⟩) k=none→trueE h c s 1 (fun j=>xs.getD j ⟨0,0⟩) k≠some (xs.getD k ⟨0,0⟩)→badD h c s 1 (fun j=>xs.getD j ⟨0,0⟩) n=some k):=fun k hk h0 h1=>by
  have h2:=badD_keep (badD_stop h0 h1) (n-(k+1))
  rwa [show k+1+(n-(k+1))=n by omega]at h2
 have hwn:wys h c=n:=by rw[← hn];unfold dbN;rw[if_neg (by omega)]
 have HFIN0:Hid (∀(k:Nat) (W:World) (u:Value),k<n→EL (fun _=>False) W A n xs→RSV (fun _=>False) W u (rsl s (atP h c k))→Calls Tryz.prog 159 #[.agg #[.int .i64 p,.int .i64 c,.int .i64 h,.int .i64 s,.int .i64 1,.slice A n cv],u,.int .i64 (k:Int)] W fun e w'=>e = .returned (.tuple #[exV (trueE h c s 1 (fun j=>xs.getD j ⟨0,0⟩) k),.bool (trueE h c s 1 (fun j=>xs.getD j ⟨0,0⟩) k).isSome])∧Below W.heap.size W w'):=fun k W u hkn h1 h2=>by
  by_cases h0:k=0
  ·subst h0
   rw[show trueE h c s 1 (fun j=>xs.getD j ⟨0,0⟩) 0=some zeroE' by unfold trueE;rw[if_neg (by omega),if_pos rfl]]
   exact trueRolls_zero p 1 c h s n cv A u W
  ·rw[show trueE h c s 1 (fun j=>xs.getD j ⟨0,0⟩) k=tX c s (fun j=>xs.getD j ⟨0,0⟩) (atP h c k) by unfold trueE;rw[if_neg (by omega),if_neg h0]]
   exact trueRolls_any p 1 c h s n cv k A xs u W hv (by omega) hn25 (atP_pos (by omega)).1 h0 hval h1 h2
 have HWN:=Lib.hid hwn;clear hwn
 generalize badD h c s 1 (fun j=>xs.getD j ⟨0,0⟩)=BD at *
 generalize trueE h c s 1 (fun j=>xs.getD j ⟨0,0⟩)=TE at *
 have HXL:Hid (xs.length=n):=hx.1;have HWW:=Lib.hid hw5;clear hv hvv hok hx hval hT hn
 go_enter Tryz.func68,Tryz.ntmps68
 go_wp2_with (fail)
 refine CIS.out.mono ?_
 rintro e w1 ⟨rfl,hb⟩
 have HF1:=Lib.hid (HF0.out.below hb);have HFT1:Hid (Frm T w w1):=HFT0.out.trans (Frm.of_below' _ hb);clear hb HF0 HFT0 CIS;obtain⟨z0,c00,f00,c01,f01,c02,f02,c03,f03,c04,f04,c05,f05⟩:=HF1.out.xf7
 go_wp2_with (fail)
 clear z0 c00 f00 c01 f01 c02 f02 c03 f03 c04 f04 c05 f05
 refine (CNR.out _).mono ?_
 rintro e w2 ⟨t,rfl,rfl,rfl,rfl,rfl,htok,hI2,hlo,hbt,hb⟩
 have hz12:=hb.size;have hzw1:w.heap.size+1≤w1.heap.size:=HF1.out.z;have HF2:=Lib.hid (HF1.out.below hb);have HFT2:Hid (Frm T w w2):=HFT1.out.trans (Frm.of_below' _ hb)
 have HSO:Hid (∀k,t.S k→w.heap.size+1≤k):=fun k hk=>by have:=hlo k hk;omega
 have HST:Hid (∀k,t.S k→T k):=fun k hk=>HT.out k (by have:=hlo k hk;omega)
 have HI2:=Lib.hid hI2;have htok:=Lib.hid htok;have hbt2:=hI2.ltB;clear hb HF1 HFT1 CNR hI2;obtain⟨z0,c00,f00,c01,f01,c02,f02,c03,f03,c04,f04,c05,f05⟩:=HF2.out.xf7
 go_wp2_with (fail)
 clear z0 c00 f00 c01 f01 c02 f02 c03 f03 c04 f04 c05 f05;clear hbt2
 go_loopw [19] (fun v19 wr=>∃k:Nat,k≤n∧v19 = .int .i64 k∧Hid (BD k=none)∧Hid (FrS (fun _=>False) w wr [[.int .i64 t.p,.int .i64 t.c,.int .i64 t.h,.int .i64 t.s,.int .i64 1,.slice A n cv]])∧Hid (Frm T w wr)∧Hid (RaceI t t.S wr)) (fun v19 _=>n-(intOf v19).toNat)
 case atStart=>exact⟨0,by omega,rfl,HBD0.out,HF2.out,HFT2.out,HI2.out⟩
 case round=>
  clear HF2 HFT2 HI2 HBD0;obtain⟨k,hk,rfl,HBk,HF,HFT,HI⟩:=hrel;have hzr:w.heap.size+1≤wr.heap.size:=HF.out.z
  by_cases hlt:k<n
  ·have hki:(k:Int)<(n:Int):=by omega
   obtain⟨ba,oa,hAa,halt,q1,q2⟩:=(HX.out.frm HFT.out).at hlt;subst hAa
   rcases hxk:xs.getD k ⟨0,0⟩with⟨em,ed⟩
   rw[hxk]at q1 q2
   simp only at q1 q2
   obtain⟨V,hV⟩:∃V,V=(wr.alloc (.cells #[.int .i64 em,.int .i64 (ed:Int)] 35)).alloc (.cells #[.int .i64 0,.int .i64 0] 35):=⟨_,rfl⟩
   have hzV:V.heap.size=wr.heap.size+2:=by rw[hV];simp
   have HE0:Hid (Cel V wr.heap.size [.int .i64 em,.int .i64 (ed:Int)]):=by rw[hV];exact (Cel.new wr #[.int .i64 em,.int .i64 (ed:Int)] _).alloc _
   have HX0:Hid (Cel V (wr.heap.size+1) [.int .i64 0,.int .i64 0]):=by
    have h1:=Cel.new (wr.alloc (.cells #[.int .i64 em,.int .i64 (ed:Int)] 35)) #[.int .i64 0,.int .i64 0] 35
    rw[show (wr.alloc (.cells #[.int .i64 em,.int .i64 (ed:Int)] 35)).heap.size=wr.heap.size+1 by simp]at h1
    rw[hV];exact h1
   obtain⟨T1,hT1⟩:∃T1:Nat→Prop,T1=fun x=>t.S x∨x=wr.heap.size+1:=⟨_,rfl⟩
   have HTS:Hid (∀x,t.S x→T1 x):=fun x hx=>by rw[hT1];exact .inl hx
   have HTG:Hid (T1 (wr.heap.size+1)):=by unfold Hid;rw[hT1];exact .inr rfl
   have hlowr:=HI.out.ltS;have HLO:=Lib.hid hlowr
   have hlowV:Hid (∀x,t.S x→x<V.heap.size):=fun x hx=>by have:=hlowr x hx;omega
   have HTL:Hid (∀x,T1 x→x<V.heap.size):=fun x hx=>by
    rw[hT1]at hx
    rcases hx with h|h
    ·exact hlowV.out x h
    ·omega
   have HI1:Hid (RaceI t T1 V):=by rw[hV];exact ((HI.out.set (T':=T1) (fun x hx=>by rw[hT1]at hx;rcases hx with h|h;exact .inl h;exact .inr (by omega)) HTS.out).alloc _).alloc _
   have HFv:Hid (FrS (fun _=>False) w V [[.int .i64 t.p,.int .i64 t.c,.int .i64 t.h,.int .i64 t.s,.int .i64 1,.slice (some ⟨ba,oa,none⟩) n cv]]):=by rw[hV];exact (HF.out.alloc _).alloc _
   have HFTv:Hid (Frm T w V):=by rw[hV];exact (HFT.out.alloc _).alloc _
   have CRS:=Lib.hid fun (A:Option Addr) (ca:Nat) (q:List Int) (W:World) (hT:∀k,W.heap.size≤k→¬T1 k) (hI:RaceI t T1 W) (hx:SQ T1 W A t.h q) (hca:t.h≤ca) (hq:PosP t.h t.c q)=>resultsOf_any t htok.out T1 A ca q W hT hI hx hca hq
   obtain⟨zm,zd,zb,hzx,hzs,hzo⟩:∃(zm:Int) (zd:Nat) (zb:Bool),exV (TE k) = .agg #[.int .i64 zm,.int .i64 (zd:Int)]∧(TE k).isSome=zb∧((zb=true∧TE k=some ⟨zm,zd⟩)∨(zb=false∧TE k=none)):=by
    cases TE k with
    | none=>exact⟨0,0,false,rfl,rfl,.inr ⟨rfl,rfl⟩⟩
    | some z=>exact⟨z.num,z.depth,true,rfl,rfl,.inl ⟨rfl,rfl⟩⟩
   have HFIN:=Lib.hid fun (W:World) (u:Value) (h1:EL (fun _=>False) W (some ⟨ba,oa,none⟩) n xs)=>HFIN0.out k W u hlt h1
   rw[hzx,hzs]at HFIN;have HZO:=Lib.hid hzo;have HXK:=Lib.hid hxk;obtain⟨z0,c00,f00,c01,f01,c02,f02,c03,f03,c04,f04,c05,f05⟩:=HF.out.xf7;clear hT1 hlowr hzx hzs hzo hxk HF HFT HI
   have hla:k<wys t.h t.c:=by rw[HWN.out];exact hlt
   have HQP:=Lib.hid (HPP.out k hla);have HQH:Hid ((atP t.h t.c k).length=t.h):=HQP.out.1
   go_upto_region 12 with (fail)
   rw[← hV];clear hV;clear z0 c00 f00 c01 f01 c02 f02 c03 f03 c04 f04 c05 f05
   refine wp_region_early 12 (fun i=>i == 11) v12d (Frm t.S) (RaceI t T1) (GL [Eqv (.agg #[.int .i64 t.p,.int .i64 t.c,.int .i64 t.h,.int .i64 t.s,.int .i64 1,.slice (some ⟨ba,oa,none⟩) n cv]),Eqv (.pointer (some ⟨t.bt,0,none⟩)),Eqv (.pointer (some ⟨w.heap.size,0,none⟩)),Eqv (.agg #[.int .i64 t.p,.int .i64 t.c,.int .i64 t.h,.int .i64 t.s]),Eqv (.int .i64 (k:Int)),OwnV V.heap.size t.h (atP t.h t.c k),RsvV T1 (rsl t.s (atP t.h t.c k)),Eqv (.int .i64 (k:Int)),Eqv (.tuple #[.agg #[.int .i64 zm,.int .i64 (zd:Int)],.bool zb]),Eqv (.tuple #[.agg #[.int .i64 zm,.int .i64 (zd:Int)],.bool zb]),Eqv (.agg #[.int .i64 zm,.int .i64 (zd:Int)]),Eqv (.bool zb)]) (by kernel_rfl) (by kernel_rfl) (fun _ _ _ _ _ h=>h) (fun _ _ _ h1 h2=>h1.trans h2) (fun _=>Frm.refl _ _) (GL.stabV (AllV.cons (stv_eq _ _) (AllV.cons (stv_eq _ _) (AllV.cons (stv_eq _ _) (AllV.cons (stv_eq _ _) (AllV.cons (stv_eq _ _) (AllV.cons (stv_own hlowV.out _ _) (AllV.cons (stv_rsv HTS.out _) (AllV.cons (stv_eq _ _) (AllV.cons (stv_eq _ _) (AllV.cons (stv_eq _ _) (AllV.cons (stv_eq _ _) (AllV.cons (stv_eq _ _) (AllV.nil)))))))))))))) (Frm.refl _ _).drew HI1.out.drew ?_ ?_ ?_
   ·intro i o hi hX ho a' W hW hIW hfar hdep
    have e1:a'.tmps.getD 1 undef = .pointer (some ⟨w.heap.size,0,none⟩):=(hfar 1 (by decide)).trans rfl
    have e4:a'.tmps.getD 4 undef = .pointer (some ⟨t.bt,0,none⟩):=(hfar 4 (by decide)).trans rfl
    have e7:a'.tmps.getD 7 undef = .int .i64 (k:Int):=(hfar 7 (by decide)).trans rfl
    have dep:∀j,j<12→Region.waitsFor .any _ i j=true→(GL [Eqv (.agg #[.int .i64 t.p,.int .i64 t.c,.int .i64 t.h,.int .i64 t.s,.int .i64 1,.slice (some ⟨ba,oa,none⟩) n cv]),Eqv (.pointer (some ⟨t.bt,0,none⟩)),Eqv (.pointer (some ⟨w.heap.size,0,none⟩)),Eqv (.agg #[.int .i64 t.p,.int .i64 t.c,.int .i64 t.h,.int .i64 t.s]),Eqv (.int .i64 (k:Int)),OwnV V.heap.size t.h (atP t.h t.c k),RsvV T1 (rsl t.s (atP t.h t.c k)),Eqv (.int .i64 (k:Int)),Eqv (.tuple #[.agg #[.int .i64 zm,.int .i64 (zd:Int)],.bool zb]),Eqv (.tuple #[.agg #[.int .i64 zm,.int .i64 (zd:Int)],.bool zb]),Eqv (.agg #[.int .i64 zm,.int .i64 (zd:Int)]),Eqv (.bool zb)]) j (a'.tmps.getD (v12d j) undef) W:=hdep
    have hi8:i=11:=by simpa[or_assoc]using hX
    clear hfar hdep hX hi;subst hi8
    simp at ho
    subst ho
    ·have d1:a'.tmps.getD 45 undef = .tuple #[.agg #[.int .i64 zm,.int .i64 (zd:Int)],.bool zb]:=dep 9 (by omega) (by kernel_rfl)
     exact⟨.bool zb,fun W'=>by simp only[execOp,Act.eval,d1];go_simp,rfl⟩
   ·intro i o hi hX ho a' W hW hIW hfar hdep
    have e1:a'.tmps.getD 1 undef = .pointer (some ⟨w.heap.size,0,none⟩):=(hfar 1 (by decide)).trans rfl
    have e4:a'.tmps.getD 4 undef = .pointer (some ⟨t.bt,0,none⟩):=(hfar 4 (by decide)).trans rfl
    have e7:a'.tmps.getD 7 undef = .int .i64 (k:Int):=(hfar 7 (by decide)).trans rfl
    have dep:∀j,j<12→Region.waitsFor .any _ i j=true→(GL [Eqv (.agg #[.int .i64 t.p,.int .i64 t.c,.int .i64 t.h,.int .i64 t.s,.int .i64 1,.slice (some ⟨ba,oa,none⟩) n cv]),Eqv (.pointer (some ⟨t.bt,0,none⟩)),Eqv (.pointer (some ⟨w.heap.size,0,none⟩)),Eqv (.agg #[.int .i64 t.p,.int .i64 t.c,.int .i64 t.h,.int .i64 t.s]),Eqv (.int .i64 (k:Int)),OwnV V.heap.size t.h (atP t.h t.c k),RsvV T1 (rsl t.s (atP t.h t.c k)),Eqv (.int .i64 (k:Int)),Eqv (.tuple #[.agg #[.int .i64 zm,.int .i64 (zd:Int)],.bool zb]),Eqv (.tuple #[.agg #[.int .i64 zm,.int .i64 (zd:Int)],.bool zb]),Eqv (.agg #[.int .i64 zm,.int .i64 (zd:Int)]),Eqv (.bool zb)]) j (a'.tmps.getD (v12d j) undef) W:=hdep
    have hi8:i=0∨i=1∨i=2∨i=3∨i=4∨i=5∨i=6∨i=7∨i=8∨i=9∨i=10:=by simp at hX;omega
    clear hfar hdep hX hi
    rcases hi8 with rfl|rfl|rfl|rfl|rfl|rfl|rfl|rfl|rfl|rfl|rfl
    all_goals (simp at ho;subst ho)
    ·have zz:=HFv.out.outs hW HSO.out
     have y0:=zz.c0 0 rfl;have y1:=zz.c0 1 rfl;have y2:=zz.c0 2 rfl;have y3:=zz.c0 3 rfl;have y4:=zz.c0 4 rfl;have y5:=zz.c0 5 rfl
     exact .inl ⟨.agg #[.int .i64 t.p,.int .i64 t.c,.int .i64 t.h,.int .i64 t.s,.int .i64 1,.slice (some ⟨ba,oa,none⟩) n cv],W,by simp only[execOp,Act.eval,e1];go_simp,Frm.refl _ _,hIW,rfl⟩
    ·exact .inl ⟨.pointer (some ⟨t.bt,0,none⟩),W,by simp only[execOp,Act.eval,e4];go_simp,Frm.refl _ _,hIW,rfl⟩
    ·exact .inl ⟨.pointer (some ⟨w.heap.size,0,none⟩),W,by simp only[execOp,Act.eval,e1];go_simp,Frm.refl _ _,hIW,rfl⟩
    ·have d1:a'.tmps.getD 48 undef = .pointer (some ⟨w.heap.size,0,none⟩):=dep 2 (by omega) (by kernel_rfl)
     have zz:=HFv.out.outs hW HSO.out;have y0:=zz.c0 0 rfl;have y1:=zz.c0 1 rfl;have y2:=zz.c0 2 rfl;have y3:=zz.c0 3 rfl
     exact .inl ⟨.agg #[.int .i64 t.p,.int .i64 t.c,.int .i64 t.h,.int .i64 t.s],W,by simp only[execOp,Act.eval,d1];go_simp,Frm.refl _ _,hIW,rfl⟩
    ·exact .inl ⟨.int .i64 (k:Int),W,by simp only[execOp,Act.eval,e7];go_simp,Frm.refl _ _,hIW,rfl⟩
    ·have d1:a'.tmps.getD 49 undef = .agg #[.int .i64 t.p,.int .i64 t.c,.int .i64 t.h,.int .i64 t.s]:=dep 3 (by omega) (by kernel_rfl)
     have d2:a'.tmps.getD 50 undef = .int .i64 (k:Int):=dep 4 (by omega) (by kernel_rfl)
     refine .inr ⟨158,#[.agg #[.int .i64 t.p,.int .i64 t.c,.int .i64 t.h,.int .i64 t.s],.int .i64 (k:Int)],by simp only[execOp,Act.eval,d1,d2];go_simp,?_⟩
     refine (CAT.out _ W hla).mono ?_
     rintro e W' ⟨A2,ca,rfl,hoa,hba⟩
     have hln:=HQH.out;rw[hln]at hoa ⊢
     exact⟨_,rfl,Frm.of_below' _ hba,hIW.below hba,A2,ca,rfl,ownS_base hoa hW.size,hln⟩
    ·have d1:a'.tmps.getD 47 undef = .pointer (some ⟨t.bt,0,none⟩):=dep 1 (by omega) (by kernel_rfl)
     obtain⟨A2,ca,d2,hA,hla2⟩:OwnV V.heap.size t.h (atP t.h t.c k) (a'.tmps.getD 51 undef) W:=dep 5 (by omega) (by kernel_rfl)
     refine .inr ⟨157,#[.pointer (some ⟨t.bt,0,none⟩),.slice A2 t.h ca],by simp only[execOp,Act.eval,d1,d2];go_simp,?_⟩
     obtain⟨hsa,hca⟩:=ownS_sq hA hla2 (T:=T1) (fun x hx=>.inl (HTL.out x hx))
     refine (CRS.out A2 ca (atP t.h t.c k) W (fun x hx h=>by have:=HTL.out x h;have:=hW.size;omega) hIW hsa hca HQP.out).mono ?_
     rintro e W' ⟨u,rfl,hu,hI',hf'⟩
     exact⟨_,rfl,hf',hI',hu⟩
    ·exact .inl ⟨.int .i64 (k:Int),W,by simp only[execOp,Act.eval,e7];go_simp,Frm.refl _ _,hIW,rfl⟩
    ·have d1:a'.tmps.getD 46 undef = .agg #[.int .i64 t.p,.int .i64 t.c,.int .i64 t.h,.int .i64 t.s,.int .i64 1,.slice (some ⟨ba,oa,none⟩) n cv]:=dep 0 (by omega) (by kernel_rfl)
     have d2:a'.tmps.getD 53 undef = .int .i64 (k:Int):=dep 7 (by omega) (by kernel_rfl)
     obtain⟨A2,n2,c2,d3,hu2,hc2⟩:RSV T1 W (a'.tmps.getD 52 undef) (rsl t.s (atP t.h t.c k)):=dep 6 (by omega) (by kernel_rfl)
     refine .inr ⟨159,#[.agg #[.int .i64 t.p,.int .i64 t.c,.int .i64 t.h,.int .i64 t.s,.int .i64 1,.slice (some ⟨ba,oa,none⟩) n cv],.slice A2 n2 c2,.int .i64 (k:Int)],by simp only[execOp,Act.eval,d1,d2,d3];go_simp,?_⟩
     have hu3:RSV (fun _=>False) W (.slice A2 n2 c2) (rsl t.s (atP t.h t.c k)):=RSV.set (T:=T1) ⟨A2,n2,c2,rfl,hu2,hc2⟩ (fun _ h=>h.elim)
     refine (HFIN.out W _ ((HX.out.frm (HFTv.out.trans (hW.mono HST.out))).all) hu3).mono ?_
     rintro e W' ⟨rfl,hb'⟩
     exact⟨_,rfl,Frm.of_below' _ hb',hIW.below hb',rfl⟩
    ·have d1:a'.tmps.getD 54 undef = .tuple #[.agg #[.int .i64 zm,.int .i64 (zd:Int)],.bool zb]:=dep 8 (by omega) (by kernel_rfl)
     exact .inl ⟨.tuple #[.agg #[.int .i64 zm,.int .i64 (zd:Int)],.bool zb],W,by simp only[execOp,Act.eval,d1];go_simp,Frm.refl _ _,hIW,rfl⟩
    ·have d1:a'.tmps.getD 45 undef = .tuple #[.agg #[.int .i64 zm,.int .i64 (zd:Int)],.bool zb]:=dep 9 (by omega) (by kernel_rfl)
     exact .inl ⟨.agg #[.int .i64 zm,.int .i64 (zd:Int)],W,by simp only[execOp,Act.eval,d1];go_simp,Frm.refl _ _,hIW,rfl⟩
   intro v W2 hW hIW hg
   have g0:v 0 = .agg #[.int .i64 t.p,.int .i64 t.c,.int .i64 t.h,.int .i64 t.s,.int .i64 1,.slice (some ⟨ba,oa,none⟩) n cv]:=hg 0 (by omega)
   have g1:v 1 = .pointer (some ⟨t.bt,0,none⟩):=hg 1 (by omega)
   have g2:v 2 = .pointer (some ⟨w.heap.size,0,none⟩):=hg 2 (by omega)
   have g3:v 3 = .agg #[.int .i64 t.p,.int .i64 t.c,.int .i64 t.h,.int .i64 t.s]:=hg 3 (by omega)
   have g4:v 4 = .int .i64 (k:Int):=hg 4 (by omega)
   obtain⟨_,_,g5,_,_⟩:OwnV V.heap.size t.h (atP t.h t.c k) (v 5) W2:=hg 5 (by omega)
   obtain⟨_,_,_,g6,_,_⟩:RSV T1 W2 (v 6) (rsl t.s (atP t.h t.c k)):=hg 6 (by omega)
   have g7:v 7 = .int .i64 (k:Int):=hg 7 (by omega)
   have g8:v 8 = .tuple #[.agg #[.int .i64 zm,.int .i64 (zd:Int)],.bool zb]:=hg 8 (by omega)
   have g9:v 9 = .tuple #[.agg #[.int .i64 zm,.int .i64 (zd:Int)],.bool zb]:=hg 9 (by omega)
   have g10:v 10 = .agg #[.int .i64 zm,.int .i64 (zd:Int)]:=hg 10 (by omega)
   have g11:v 11 = .bool zb:=hg 11 (by omega)
   simp only[List.drop_succ_cons,List.drop_zero,putV,v12d,g0,g1,g2,g3,g4,g5,g6,g7,g8,g9,g10,g11,Act.put]
   clear g0 g1 g2 g3 g4 g5 g6 g7 g8 g9 g10 g11 hg;have hlowr:=HLO.out
   have hgS:¬t.S (wr.heap.size+1):=fun h=>by have:=hlowr _ h;omega
   have hgE:¬t.S wr.heap.size:=fun h=>by have:=hlowr _ h;omega
   have HE2:=Lib.hid (HE0.out.frm hW hgE);have HX2:=Lib.hid (HX0.out.frm hW hgS)
   have hset:Frm (fun x=>x=wr.heap.size+1) W2 ((W2.setCell ⟨wr.heap.size+1,0,none⟩ (.int .i64 zm)).setCell ⟨wr.heap.size+1,1,none⟩ (.int .i64 (zd:Int))):=(Frm.set _ _ _ _).trans (Frm.set _ _ _ _)
   have HF4:=Lib.hid ((HFv.out.outs hW HSO.out).outs hset (fun x hx=>by rw[hx];simp only[List.length_cons,List.length_nil];omega))
   have HFT4:Hid (Frm T w ((W2.setCell ⟨wr.heap.size+1,0,none⟩ (.int .i64 zm)).setCell ⟨wr.heap.size+1,1,none⟩ (.int .i64 (zd:Int)))):=(HFTv.out.trans (hW.mono HST.out)).trans (hset.mono fun x hx=>by rw[hx];exact HT.out _ (by omega))
   have HI4:Hid (RaceI t t.S ((W2.setCell ⟨wr.heap.size+1,0,none⟩ (.int .i64 zm)).setCell ⟨wr.heap.size+1,1,none⟩ (.int .i64 (zd:Int)))):=(hIW.own hset (fun x hx=>by rw[hx];exact HTG.out) (fun x hx=>by rw[hx];exact hgS)).less HTS.out (fun _ h=>h)
   have x0:=HX2.out.cell 0 _ rfl;have x1:=HX2.out.cell 1 _ rfl;have x0':=HX2.out.froz 0 _ rfl;have x1':=HX2.out.froz 1 _ rfl;have xz:=HX2.out.lt;have y0:=HE2.out.cell 0 _ rfl;have y1:=HE2.out.cell 1 _ rfl;have yz:=HE2.out.lt
   have hNE:=fun (W:World)=>neq_exact zm (zd:Int) em (ed:Int) W
   clear hlowr hgS hgE hW hIW hset HE0 HX0 HFv HFTv HI1
   rcases HZO.out with⟨rfl,hz⟩|⟨rfl,hz⟩
   ·by_cases heq:zm=em∧(zd:Int)=(ed:Int)
    ·have HBN:Hid (BD (k+1)=none):=HBGO.out k HBk.out (by rw[hz,HXK.out,heq.1,show zd=ed by omega])
     rw[decide_eq_true heq]at hNE;clear heq hz
     go_wp2_with (fail)
     go_roundw
     case rel=>exact⟨k+1,by omega,by go_num,HBN.out,HF4.out,HFT4.out,HI4.out⟩
     case measure=>(simp[intOf])<;>omega
    ·have HBN:Hid (BD n=some k):=HBST.out k hlt HBk.out (by
      rw[hz,HXK.out]
      intro he
      injection he with he;injection he with h1 h2
      exact heq ⟨h1,by omega⟩)
     rw[decide_eq_false heq]at hNE;clear heq hz
     go_wp2_with (fail)
     go_ret2
     exact⟨by rw[HBN.out];rfl,HF4.out.belowW⟩
   ·have HBN:Hid (BD n=some k):=HBST.out k hlt HBk.out (by rw[hz,HXK.out];intro he;cases he)
    clear hz
    go_wp2_with (fail)
    go_ret2
    exact⟨by rw[HBN.out];rfl,HF4.out.belowW⟩
  ·have hke:k=n:=by omega
   have HBN:Hid (BD n=none):=by rw[← hke];exact HBk.out
   go_wp2_with (fail)
   go_ret2
   exact⟨by rw[HBN.out];rfl,HF.out.belowW⟩
set_option maxRecDepth 100000 in
set_option maxHeartbeats 8000000 in
theorem VerifyDatabase_wins (p:Int) (c h s n cv:Nat) (A:Option Addr) (xs:List E) (w:World) (hv:isVar p c h s=true) (hok:dbOk h c 2) (hn:dbN h c 2=n) (hx:EL (fun _=>False) w A n xs) (hval:∀x∈xs,Val (sq s) x):
  Calls Tryz.prog 68 #[.agg #[.int .i64 p,.int .i64 c,.int .i64 h,.int .i64 s,.int .i64 2,.slice A n cv]] w fun e w'=>e = .returned (verV (badD h c s 2 (fun j=>xs.getD j ⟨0,0⟩) n))∧Below w.heap.size w w':=by
 have hvv:=isVar_yes hv
 have hs1:1≤s:=by omega
 have hs6:s≤6:=by omega
 have hh24:h≤24:=by omega
 have hc15:c≤15:=by omega
 have hn25:n≤2500:=by rw[← hn];exact hok.2
 have hw5:wys h c≤500:=hok.1
 obtain⟨T,hT⟩:∃T:Nat→Prop,T=fun k=>w.heap.size≤k:=⟨_,rfl⟩
 have HT:Hid (∀k,w.heap.size≤k→T k):=fun k hk=>by rw[hT];exact hk
 have HX:Hid (EL T w A n xs):=hx.spare fun b hb=>by rw[hT];omega
 have HF0:Hid (FrS (fun _=>False) w (w.alloc (.cells #[.int .i64 p,.int .i64 c,.int .i64 h,.int .i64 s,.int .i64 2,.slice A n cv] 85)) [[.int .i64 p,.int .i64 c,.int .i64 h,.int .i64 s,.int .i64 2,.slice A n cv]]):=(FrS.start w (fun _ h=>h.elim)).allocT (by simp) _ _
 have HFT0:Hid (Frm T w (w.alloc (.cells #[.int .i64 p,.int .i64 c,.int .i64 h,.int .i64 s,.int .i64 2,.slice A n cv] 85))):=(Frm.refl _ _).alloc _
 have CIS:=Lib.hid (IsDatabase_yes p 2 c h s n cv A xs (w.alloc (.cells #[.int .i64 p,.int .i64 c,.int .i64 h,.int .i64 s,.int .i64 2,.slice A n cv] 85)) hv (by omega) hok hn ((HX.out.frm HFT0.out).all) hval)
 have CNR:=Lib.hid fun (W:World)=>newRace_any p c h s W hv hw5
 have CAT:=Lib.hid fun (k:Nat) (W:World) (hk:k<wys h c)=>(show Calls Tryz.prog 158 #[.agg #[.int .i64 p,.int .i64 c,.int .i64 h,.int .i64 s],.int .i64 (k:Int)] W (RetO W 2 (atP h c k)) from by have h1:=bearoffAt_any p s c h (atP h c k) W (atP_pos hk).1 hc15 hh24 (by omega);rw[(atP_pos hk).2]at h1;exact h1)
 have HPP:Hid (∀k,k<wys h c→PosP h c (atP h c k)):=fun k hk=>(atP_pos hk).1
 have HBD0:Hid (badD h c s 2 (fun j=>xs.getD j ⟨0,0⟩) 0=none):=rfl
 have HBGO:Hid (∀k,badD h c s 2 (fun j=>xs.getD j ⟨0,0⟩) k=none→trueE h c s 2 (fun j=>xs.getD j ⟨0,0⟩) k=some (xs.getD k ⟨0,0⟩)→badD h c s 2 (fun j=>xs.getD j ⟨0,0⟩) (k+1)=none):=fun k h0 h1=>badD_go h0 h1
 have HBST:Hid (∀k,k<n→badD h c s 2 (fun j=>xs.getD j ⟨0,0⟩) k=none→trueE h c s 2 (fun j=>xs.getD j ⟨0,0⟩) k≠some (xs.getD k ⟨0,0⟩)→badD h c s 2 (fun j=>xs.getD j ⟨0,0⟩) n=some k):=fun k hk h0 h1=>by
  have h2:=badD_keep (badD_stop h0 h1) (n-(k+1))
  rwa [show k+1+(n-(k+1))=n by omega]at h2
 have hwn:wys h c*wys h c=n:=by rw[← hn];unfold dbN;rw[if_pos rfl]
 have HN0:0<wys h c:=wys_pos h c
 have HFIN0:Hid (∀(k:Nat) (W:World) (u:Value),k<n→EL (fun _=>False) W A n xs→RSV (fun _=>False) W u (rsl s (atP h c (k / wys h c)))→Calls Tryz.prog 156 #[.agg #[.int .i64 p,.int .i64 c,.int .i64 h,.int .i64 s,.int .i64 2,.slice A n cv],u,.int .i64 (k:Int)] W fun e w'=>e = .returned (.tuple #[exV (trueE h c s 2 (fun j=>xs.getD j ⟨0,0⟩) k),.bool (trueE h c s 2 (fun j=>xs.getD j ⟨0,0⟩) k).isSome])∧Below W.heap.size W w'):=fun k W u hkn h1 h2=>by
  have hla:k / wys h c<wys h c:=Nat.div_lt_of_lt_mul (by rw[hwn];exact hkn)
  refine trueWin_any p 2 c h s n cv k A xs u (trueE h c s 2 (fun j=>xs.getD j ⟨0,0⟩) k) W hv hw5 hwn hn25 (atP_pos hla).1 hkn hval h1 h2 (fun ha hb=>?_) (fun hb=>?_) (fun ha hb=>?_)
  ·unfold trueE;rw[if_pos rfl,if_pos ⟨ha,hb⟩]
  ·unfold trueE;rw[if_pos rfl,if_neg (by omega),if_pos hb]
  ·unfold trueE;rw[if_pos rfl,if_neg (fun h=>ha h.1),if_neg hb]
 have HWN:=Lib.hid hwn;have HN0:=Lib.hid HN0;clear hwn
 generalize badD h c s 2 (fun j=>xs.getD j ⟨0,0⟩)=BD at *
 generalize trueE h c s 2 (fun j=>xs.getD j ⟨0,0⟩)=TE at *
 have HXL:Hid (xs.length=n):=hx.1;have HWW:=Lib.hid hw5;clear hv hvv hok hx hval hT hn
 go_enter Tryz.func68,Tryz.ntmps68
 go_wp2_with (fail)
 refine CIS.out.mono ?_
 rintro e w1 ⟨rfl,hb⟩
 have HF1:=Lib.hid (HF0.out.below hb);have HFT1:Hid (Frm T w w1):=HFT0.out.trans (Frm.of_below' _ hb);clear hb HF0 HFT0 CIS;obtain⟨z0,c00,f00,c01,f01,c02,f02,c03,f03,c04,f04,c05,f05⟩:=HF1.out.xf7
 go_wp2_with (fail)
 clear z0 c00 f00 c01 f01 c02 f02 c03 f03 c04 f04 c05 f05
 refine (CNR.out _).mono ?_
 rintro e w2 ⟨t,rfl,rfl,rfl,rfl,rfl,htok,hI2,hlo,hbt,hb⟩
 have hz12:=hb.size;have hzw1:w.heap.size+1≤w1.heap.size:=HF1.out.z;have HF2:=Lib.hid (HF1.out.below hb);have HFT2:Hid (Frm T w w2):=HFT1.out.trans (Frm.of_below' _ hb)
 have HSO:Hid (∀k,t.S k→w.heap.size+1≤k):=fun k hk=>by have:=hlo k hk;omega
 have HST:Hid (∀k,t.S k→T k):=fun k hk=>HT.out k (by have:=hlo k hk;omega)
 have HI2:=Lib.hid hI2;have htok:=Lib.hid htok;have hbt2:=hI2.ltB;clear hb HF1 HFT1 CNR hI2;obtain⟨z0,c00,f00,c01,f01,c02,f02,c03,f03,c04,f04,c05,f05⟩:=HF2.out.xf7
 go_wp2_with (fail)
 clear z0 c00 f00 c01 f01 c02 f02 c03 f03 c04 f04 c05 f05;clear hbt2
 go_loopw [19] (fun v19 wr=>∃k:Nat,k≤n∧v19 = .int .i64 k∧Hid (BD k=none)∧Hid (FrS (fun _=>False) w wr [[.int .i64 t.p,.int .i64 t.c,.int .i64 t.h,.int .i64 t.s,.int .i64 2,.slice A n cv]])∧Hid (Frm T w wr)∧Hid (RaceI t t.S wr)) (fun v19 _=>n-(intOf v19).toNat)
 case atStart=>exact⟨0,by omega,rfl,HBD0.out,HF2.out,HFT2.out,HI2.out⟩
 case round=>
  clear HF2 HFT2 HI2 HBD0;obtain⟨k,hk,rfl,HBk,HF,HFT,HI⟩:=hrel;have hzr:w.heap.size+1≤wr.heap.size:=HF.out.z
  by_cases hlt:k<n
  ·have hki:(k:Int)<(n:Int):=by omega
   obtain⟨ba,oa,hAa,halt,q1,q2⟩:=(HX.out.frm HFT.out).at hlt;subst hAa
   rcases hxk:xs.getD k ⟨0,0⟩with⟨em,ed⟩
   rw[hxk]at q1 q2
   simp only at q1 q2
   obtain⟨V,hV⟩:∃V,V=(wr.alloc (.cells #[.int .i64 em,.int .i64 (ed:Int)] 35)).alloc (.cells #[.int .i64 0,.int .i64 0] 35):=⟨_,rfl⟩
   have hzV:V.heap.size=wr.heap.size+2:=by rw[hV];simp
   have HE0:Hid (Cel V wr.heap.size [.int .i64 em,.int .i64 (ed:Int)]):=by rw[hV];exact (Cel.new wr #[.int .i64 em,.int .i64 (ed:Int)] _).alloc _
   have HX0:Hid (Cel V (wr.heap.size+1) [.int .i64 0,.int .i64 0]):=by
    have h1:=Cel.new (wr.alloc (.cells #[.int .i64 em,.int .i64 (ed:Int)] 35)) #[.int .i64 0,.int .i64 0] 35
    rw[show (wr.alloc (.cells #[.int .i64 em,.int .i64 (ed:Int)] 35)).heap.size=wr.heap.size+1 by simp]at h1
    rw[hV];exact h1
   obtain⟨T1,hT1⟩:∃T1:Nat→Prop,T1=fun x=>t.S x∨x=wr.heap.size+1:=⟨_,rfl⟩
   have HTS:Hid (∀x,t.S x→T1 x):=fun x hx=>by rw[hT1];exact .inl hx
   have HTG:Hid (T1 (wr.heap.size+1)):=by unfold Hid;rw[hT1];exact .inr rfl
   have hlowr:=HI.out.ltS;have HLO:=Lib.hid hlowr
   have hlowV:Hid (∀x,t.S x→x<V.heap.size):=fun x hx=>by have:=hlowr x hx;omega
   have HTL:Hid (∀x,T1 x→x<V.heap.size):=fun x hx=>by
    rw[hT1]at hx
    rcases hx with h|h
    ·exact hlowV.out x h
    ·omega
   have HI1:Hid (RaceI t T1 V):=by rw[hV];exact ((HI.out.set (T':=T1) (fun x hx=>by rw[hT1]at hx;rcases hx with h|h;exact .inl h;exact .inr (by omega)) HTS.out).alloc _).alloc _
   have HFv:Hid (FrS (fun _=>False) w V [[.int .i64 t.p,.int .i64 t.c,.int .i64 t.h,.int .i64 t.s,.int .i64 2,.slice (some ⟨ba,oa,none⟩) n cv]]):=by rw[hV];exact (HF.out.alloc _).alloc _
   have HFTv:Hid (Frm T w V):=by rw[hV];exact (HFT.out.alloc _).alloc _
   have CRS:=Lib.hid fun (A:Option Addr) (ca:Nat) (q:List Int) (W:World) (hT:∀k,W.heap.size≤k→¬T1 k) (hI:RaceI t T1 W) (hx:SQ T1 W A t.h q) (hca:t.h≤ca) (hq:PosP t.h t.c q)=>resultsOf_any t htok.out T1 A ca q W hT hI hx hca hq
   obtain⟨zm,zd,zb,hzx,hzs,hzo⟩:∃(zm:Int) (zd:Nat) (zb:Bool),exV (TE k) = .agg #[.int .i64 zm,.int .i64 (zd:Int)]∧(TE k).isSome=zb∧((zb=true∧TE k=some ⟨zm,zd⟩)∨(zb=false∧TE k=none)):=by
    cases TE k with
    | none=>exact⟨0,0,false,rfl,rfl,.inr ⟨rfl,rfl⟩⟩
    | some z=>exact⟨z.num,z.depth,true,rfl,rfl,.inl ⟨rfl,rfl⟩⟩
   have HFIN:=Lib.hid fun (W:World) (u:Value) (h1:EL (fun _=>False) W (some ⟨ba,oa,none⟩) n xs)=>HFIN0.out k W u hlt h1
   rw[hzx,hzs]at HFIN;have HZO:=Lib.hid hzo;have HXK:=Lib.hid hxk;obtain⟨z0,c00,f00,c01,f01,c02,f02,c03,f03,c04,f04,c05,f05⟩:=HF.out.xf7;clear hT1 hlowr hzx hzs hzo hxk HF HFT HI;have hN0:=HN0.out
   have hla:k / wys t.h t.c<wys t.h t.c:=Nat.div_lt_of_lt_mul (by rw[HWN.out];exact hlt)
   obtain⟨a0,ha0⟩:∃a0,a0=k / wys t.h t.c:=⟨_,rfl⟩
   have HDV:Hid ((k:Int).tdiv (t.N:Int)=(a0:Int)):=by rw[ha0];exact (Int.ofNat_tdiv _ _).symm
   have HDE:Hid ((k:Int) / (t.N:Int)=(a0:Int)):=by rw[ha0];exact (Int.natCast_ediv _ _).symm
   have hNt:0<t.N:=hN0;rw[← ha0]at hla HFIN;have HQP:=Lib.hid (HPP.out a0 hla);have HQH:Hid ((atP t.h t.c a0).length=t.h):=HQP.out.1
   have ha0n:a0≤500:=by have:=HWW.out;omega
   clear ha0
   go_upto_region 11 with (fail)
   rw[← hV];clear hV;clear z0 c00 f00 c01 f01 c02 f02 c03 f03 c04 f04 c05 f05
   refine wp_region_early 17 (fun i=>i == 16) v11d (Frm t.S) (RaceI t T1) (GL [Eqv (.agg #[.int .i64 t.p,.int .i64 t.c,.int .i64 t.h,.int .i64 t.s,.int .i64 2,.slice (some ⟨ba,oa,none⟩) n cv]),Eqv (.pointer (some ⟨t.bt,0,none⟩)),Eqv (.pointer (some ⟨w.heap.size,0,none⟩)),Eqv (.agg #[.int .i64 t.p,.int .i64 t.c,.int .i64 t.h,.int .i64 t.s]),Eqv (.int .i64 (k:Int)),Eqv (.pointer (some ⟨t.bt,0,none⟩)),Eqv (.pointer (some ⟨t.bt,0,none⟩)),Eqv (.pointer (some ⟨t.bt,4,none⟩)),Eqv (.int .i64 (t.N:Int)),Eqv (.int .i64 (a0:Int)),OwnV V.heap.size t.h (atP t.h t.c a0),RsvV T1 (rsl t.s (atP t.h t.c a0)),Eqv (.int .i64 (k:Int)),Eqv (.tuple #[.agg #[.int .i64 zm,.int .i64 (zd:Int)],.bool zb]),Eqv (.tuple #[.agg #[.int .i64 zm,.int .i64 (zd:Int)],.bool zb]),Eqv (.agg #[.int .i64 zm,.int .i64 (zd:Int)]),Eqv (.bool zb)]) (by kernel_rfl) (by kernel_rfl) (fun _ _ _ _ _ h=>h) (fun _ _ _ h1 h2=>h1.trans h2) (fun _=>Frm.refl _ _) (GL.stabV (AllV.cons (stv_eq _ _) (AllV.cons (stv_eq _ _) (AllV.cons (stv_eq _ _) (AllV.cons (stv_eq _ _) (AllV.cons (stv_eq _ _) (AllV.cons (stv_eq _ _) (AllV.cons (stv_eq _ _) (AllV.cons (stv_eq _ _) (AllV.cons (stv_eq _ _) (AllV.cons (stv_eq _ _) (AllV.cons (stv_own hlowV.out _ _) (AllV.cons (stv_rsv HTS.out _) (AllV.cons (stv_eq _ _) (AllV.cons (stv_eq _ _) (AllV.cons (stv_eq _ _) (AllV.cons (stv_eq _ _) (AllV.cons (stv_eq _ _) (AllV.nil))))))))))))))))))) (Frm.refl _ _).drew HI1.out.drew ?_ ?_ ?_
   ·intro i o hi hX ho a' W hW hIW hfar hdep
    have e1:a'.tmps.getD 1 undef = .pointer (some ⟨w.heap.size,0,none⟩):=(hfar 1 (by decide)).trans rfl
    have e4:a'.tmps.getD 4 undef = .pointer (some ⟨t.bt,0,none⟩):=(hfar 4 (by decide)).trans rfl
    have e7:a'.tmps.getD 7 undef = .int .i64 (k:Int):=(hfar 7 (by decide)).trans rfl
    have dep:∀j,j<17→Region.waitsFor .any _ i j=true→(GL [Eqv (.agg #[.int .i64 t.p,.int .i64 t.c,.int .i64 t.h,.int .i64 t.s,.int .i64 2,.slice (some ⟨ba,oa,none⟩) n cv]),Eqv (.pointer (some ⟨t.bt,0,none⟩)),Eqv (.pointer (some ⟨w.heap.size,0,none⟩)),Eqv (.agg #[.int .i64 t.p,.int .i64 t.c,.int .i64 t.h,.int .i64 t.s]),Eqv (.int .i64 (k:Int)),Eqv (.pointer (some ⟨t.bt,0,none⟩)),Eqv (.pointer (some ⟨t.bt,0,none⟩)),Eqv (.pointer (some ⟨t.bt,4,none⟩)),Eqv (.int .i64 (t.N:Int)),Eqv (.int .i64 (a0:Int)),OwnV V.heap.size t.h (atP t.h t.c a0),RsvV T1 (rsl t.s (atP t.h t.c a0)),Eqv (.int .i64 (k:Int)),Eqv (.tuple #[.agg #[.int .i64 zm,.int .i64 (zd:Int)],.bool zb]),Eqv (.tuple #[.agg #[.int .i64 zm,.int .i64 (zd:Int)],.bool zb]),Eqv (.agg #[.int .i64 zm,.int .i64 (zd:Int)]),Eqv (.bool zb)]) j (a'.tmps.getD (v11d j) undef) W:=hdep
    have hi8:i=16:=by simpa[or_assoc]using hX
    clear hfar hdep hX hi;subst hi8
    simp at ho
    subst ho
    ·have d1:a'.tmps.getD 28 undef = .tuple #[.agg #[.int .i64 zm,.int .i64 (zd:Int)],.bool zb]:=dep 14 (by omega) (by kernel_rfl)
     exact⟨.bool zb,fun W'=>by simp only[execOp,Act.eval,d1];go_simp,rfl⟩
   ·intro i o hi hX ho a' W hW hIW hfar hdep
    have e1:a'.tmps.getD 1 undef = .pointer (some ⟨w.heap.size,0,none⟩):=(hfar 1 (by decide)).trans rfl
    have e4:a'.tmps.getD 4 undef = .pointer (some ⟨t.bt,0,none⟩):=(hfar 4 (by decide)).trans rfl
    have e7:a'.tmps.getD 7 undef = .int .i64 (k:Int):=(hfar 7 (by decide)).trans rfl
    have dep:∀j,j<17→Region.waitsFor .any _ i j=true→(GL [Eqv (.agg #[.int .i64 t.p,.int .i64 t.c,.int .i64 t.h,.int .i64 t.s,.int .i64 2,.slice (some ⟨ba,oa,none⟩) n cv]),Eqv (.pointer (some ⟨t.bt,0,none⟩)),Eqv (.pointer (some ⟨w.heap.size,0,none⟩)),Eqv (.agg #[.int .i64 t.p,.int .i64 t.c,.int .i64 t.h,.int .i64 t.s]),Eqv (.int .i64 (k:Int)),Eqv (.pointer (some ⟨t.bt,0,none⟩)),Eqv (.pointer (some ⟨t.bt,0,none⟩)),Eqv (.pointer (some ⟨t.bt,4,none⟩)),Eqv (.int .i64 (t.N:Int)),Eqv (.int .i64 (a0:Int)),OwnV V.heap.size t.h (atP t.h t.c a0),RsvV T1 (rsl t.s (atP t.h t.c a0)),Eqv (.int .i64 (k:Int)),Eqv (.tuple #[.agg #[.int .i64 zm,.int .i64 (zd:Int)],.bool zb]),Eqv (.tuple #[.agg #[.int .i64 zm,.int .i64 (zd:Int)],.bool zb]),Eqv (.agg #[.int .i64 zm,.int .i64 (zd:Int)]),Eqv (.bool zb)]) j (a'.tmps.getD (v11d j) undef) W:=hdep
    have hi8:i=0∨i=1∨i=2∨i=3∨i=4∨i=5∨i=6∨i=7∨i=8∨i=9∨i=10∨i=11∨i=12∨i=13∨i=14∨i=15:=by simp at hX;omega
    clear hfar hdep hX hi
    rcases hi8 with rfl|rfl|rfl|rfl|rfl|rfl|rfl|rfl|rfl|rfl|rfl|rfl|rfl|rfl|rfl|rfl
    all_goals (simp at ho;subst ho)
    ·have zz:=HFv.out.outs hW HSO.out
     have y0:=zz.c0 0 rfl;have y1:=zz.c0 1 rfl;have y2:=zz.c0 2 rfl;have y3:=zz.c0 3 rfl;have y4:=zz.c0 4 rfl;have y5:=zz.c0 5 rfl
     exact .inl ⟨.agg #[.int .i64 t.p,.int .i64 t.c,.int .i64 t.h,.int .i64 t.s,.int .i64 2,.slice (some ⟨ba,oa,none⟩) n cv],W,by simp only[execOp,Act.eval,e1];go_simp,Frm.refl _ _,hIW,rfl⟩
    ·exact .inl ⟨.pointer (some ⟨t.bt,0,none⟩),W,by simp only[execOp,Act.eval,e4];go_simp,Frm.refl _ _,hIW,rfl⟩
    ·exact .inl ⟨.pointer (some ⟨w.heap.size,0,none⟩),W,by simp only[execOp,Act.eval,e1];go_simp,Frm.refl _ _,hIW,rfl⟩
    ·have d1:a'.tmps.getD 31 undef = .pointer (some ⟨w.heap.size,0,none⟩):=dep 2 (by omega) (by kernel_rfl)
     have zz:=HFv.out.outs hW HSO.out;have y0:=zz.c0 0 rfl;have y1:=zz.c0 1 rfl;have y2:=zz.c0 2 rfl;have y3:=zz.c0 3 rfl
     exact .inl ⟨.agg #[.int .i64 t.p,.int .i64 t.c,.int .i64 t.h,.int .i64 t.s],W,by simp only[execOp,Act.eval,d1];go_simp,Frm.refl _ _,hIW,rfl⟩
    ·exact .inl ⟨.int .i64 (k:Int),W,by simp only[execOp,Act.eval,e7];go_simp,Frm.refl _ _,hIW,rfl⟩
    ·exact .inl ⟨.pointer (some ⟨t.bt,0,none⟩),W,by simp only[execOp,Act.eval,e4];go_simp,Frm.refl _ _,hIW,rfl⟩
    ·have d1:a'.tmps.getD 34 undef = .pointer (some ⟨t.bt,0,none⟩):=dep 5 (by omega) (by kernel_rfl)
     exact .inl ⟨.pointer (some ⟨t.bt,0,none⟩),W,by simp only[execOp,Act.eval,d1];go_simp,Frm.refl _ _,hIW,rfl⟩
    ·have d1:a'.tmps.getD 35 undef = .pointer (some ⟨t.bt,0,none⟩):=dep 6 (by omega) (by kernel_rfl)
     exact .inl ⟨.pointer (some ⟨t.bt,4,none⟩),W,by simp only[execOp,Act.eval,d1];go_simp,Frm.refl _ _,hIW,rfl⟩
    ·have d1:a'.tmps.getD 36 undef = .pointer (some ⟨t.bt,4,none⟩):=dep 7 (by omega) (by kernel_rfl)
     have y0:=hIW.tb 4 _ rfl
     exact .inl ⟨.int .i64 (t.N:Int),W,by simp only[execOp,Act.eval,d1];go_simp,Frm.refl _ _,hIW,rfl⟩
    ·have d1:a'.tmps.getD 33 undef = .int .i64 (k:Int):=dep 4 (by omega) (by kernel_rfl)
     have d2:a'.tmps.getD 37 undef = .int .i64 (t.N:Int):=dep 8 (by omega) (by kernel_rfl)
     exact .inl ⟨.int .i64 (a0:Int),W,by simp only[execOp,Act.eval,d1,d2];go_simp;first|rw[HDV.out]|rw[HDE.out];rw[if_neg (by omega),show IntKind.i64.wrap (a0:Int)=(a0:Int) from IntWalk.i64_in _ (by omega)],Frm.refl _ _,hIW,rfl⟩
    ·have d1:a'.tmps.getD 32 undef = .agg #[.int .i64 t.p,.int .i64 t.c,.int .i64 t.h,.int .i64 t.s]:=dep 3 (by omega) (by kernel_rfl)
     have d2:a'.tmps.getD 38 undef = .int .i64 (a0:Int):=dep 9 (by omega) (by kernel_rfl)
     refine .inr ⟨158,#[.agg #[.int .i64 t.p,.int .i64 t.c,.int .i64 t.h,.int .i64 t.s],.int .i64 (a0:Int)],by simp only[execOp,Act.eval,d1,d2];go_simp,?_⟩
     refine (CAT.out _ W hla).mono ?_
     rintro e W' ⟨A2,ca,rfl,hoa,hba⟩
     have hln:=HQH.out;rw[hln]at hoa ⊢
     exact⟨_,rfl,Frm.of_below' _ hba,hIW.below hba,A2,ca,rfl,ownS_base hoa hW.size,hln⟩
    ·have d1:a'.tmps.getD 30 undef = .pointer (some ⟨t.bt,0,none⟩):=dep 1 (by omega) (by kernel_rfl)
     obtain⟨A2,ca,d2,hA,hla2⟩:OwnV V.heap.size t.h (atP t.h t.c a0) (a'.tmps.getD 39 undef) W:=dep 10 (by omega) (by kernel_rfl)
     refine .inr ⟨157,#[.pointer (some ⟨t.bt,0,none⟩),.slice A2 t.h ca],by simp only[execOp,Act.eval,d1,d2];go_simp,?_⟩
     obtain⟨hsa,hca⟩:=ownS_sq hA hla2 (T:=T1) (fun x hx=>.inl (HTL.out x hx))
     refine (CRS.out A2 ca (atP t.h t.c a0) W (fun x hx h=>by have:=HTL.out x h;have:=hW.size;omega) hIW hsa hca HQP.out).mono ?_
     rintro e W' ⟨u,rfl,hu,hI',hf'⟩
     exact⟨_,rfl,hf',hI',hu⟩
    ·exact .inl ⟨.int .i64 (k:Int),W,by simp only[execOp,Act.eval,e7];go_simp,Frm.refl _ _,hIW,rfl⟩
    ·have d1:a'.tmps.getD 29 undef = .agg #[.int .i64 t.p,.int .i64 t.c,.int .i64 t.h,.int .i64 t.s,.int .i64 2,.slice (some ⟨ba,oa,none⟩) n cv]:=dep 0 (by omega) (by kernel_rfl)
     have d2:a'.tmps.getD 41 undef = .int .i64 (k:Int):=dep 12 (by omega) (by kernel_rfl)
     obtain⟨A2,n2,c2,d3,hu2,hc2⟩:RSV T1 W (a'.tmps.getD 40 undef) (rsl t.s (atP t.h t.c a0)):=dep 11 (by omega) (by kernel_rfl)
     refine .inr ⟨156,#[.agg #[.int .i64 t.p,.int .i64 t.c,.int .i64 t.h,.int .i64 t.s,.int .i64 2,.slice (some ⟨ba,oa,none⟩) n cv],.slice A2 n2 c2,.int .i64 (k:Int)],by simp only[execOp,Act.eval,d1,d2,d3];go_simp,?_⟩
     have hu3:RSV (fun _=>False) W (.slice A2 n2 c2) (rsl t.s (atP t.h t.c a0)):=RSV.set (T:=T1) ⟨A2,n2,c2,rfl,hu2,hc2⟩ (fun _ h=>h.elim)
     refine (HFIN.out W _ ((HX.out.frm (HFTv.out.trans (hW.mono HST.out))).all) hu3).mono ?_
     rintro e W' ⟨rfl,hb'⟩
     exact⟨_,rfl,Frm.of_below' _ hb',hIW.below hb',rfl⟩
    ·have d1:a'.tmps.getD 42 undef = .tuple #[.agg #[.int .i64 zm,.int .i64 (zd:Int)],.bool zb]:=dep 13 (by omega) (by kernel_rfl)
     exact .inl ⟨.tuple #[.agg #[.int .i64 zm,.int .i64 (zd:Int)],.bool zb],W,by simp only[execOp,Act.eval,d1];go_simp,Frm.refl _ _,hIW,rfl⟩
    ·have d1:a'.tmps.getD 28 undef = .tuple #[.agg #[.int .i64 zm,.int .i64 (zd:Int)],.bool zb]:=dep 14 (by omega) (by kernel_rfl)
     exact .inl ⟨.agg #[.int .i64 zm,.int .i64 (zd:Int)],W,by simp only[execOp,Act.eval,d1];go_simp,Frm.refl _ _,hIW,rfl⟩
   intro v W2 hW hIW hg
   have g0:v 0 = .agg #[.int .i64 t.p,.int .i64 t.c,.int .i64 t.h,.int .i64 t.s,.int .i64 2,.slice (some ⟨ba,oa,none⟩) n cv]:=hg 0 (by omega)
   have g1:v 1 = .pointer (some ⟨t.bt,0,none⟩):=hg 1 (by omega)
   have g2:v 2 = .pointer (some ⟨w.heap.size,0,none⟩):=hg 2 (by omega)
   have g3:v 3 = .agg #[.int .i64 t.p,.int .i64 t.c,.int .i64 t.h,.int .i64 t.s]:=hg 3 (by omega)
   have g4:v 4 = .int .i64 (k:Int):=hg 4 (by omega)
   have g5:v 5 = .pointer (some ⟨t.bt,0,none⟩):=hg 5 (by omega)
   have g6:v 6 = .pointer (some ⟨t.bt,0,none⟩):=hg 6 (by omega)
   have g7:v 7 = .pointer (some ⟨t.bt,4,none⟩):=hg 7 (by omega)
   have g8:v 8 = .int .i64 (t.N:Int):=hg 8 (by omega)
   have g9:v 9 = .int .i64 (a0:Int):=hg 9 (by omega)
   obtain⟨_,_,g10,_,_⟩:OwnV V.heap.size t.h (atP t.h t.c a0) (v 10) W2:=hg 10 (by omega)
   obtain⟨_,_,_,g11,_,_⟩:RSV T1 W2 (v 11) (rsl t.s (atP t.h t.c a0)):=hg 11 (by omega)
   have g12:v 12 = .int .i64 (k:Int):=hg 12 (by omega)
   have g13:v 13 = .tuple #[.agg #[.int .i64 zm,.int .i64 (zd:Int)],.bool zb]:=hg 13 (by omega)
   have g14:v 14 = .tuple #[.agg #[.int .i64 zm,.int .i64 (zd:Int)],.bool zb]:=hg 14 (by omega)
   have g15:v 15 = .agg #[.int .i64 zm,.int .i64 (zd:Int)]:=hg 15 (by omega)
   have g16:v 16 = .bool zb:=hg 16 (by omega)
   simp only[List.drop_succ_cons,List.drop_zero,putV,v11d,g0,g1,g2,g3,g4,g5,g6,g7,g8,g9,g10,g11,g12,g13,g14,g15,g16,Act.put]
   clear g0 g1 g2 g3 g4 g5 g6 g7 g8 g9 g10 g11 g12 g13 g14 g15 g16 hg;have hlowr:=HLO.out
   have hgS:¬t.S (wr.heap.size+1):=fun h=>by have:=hlowr _ h;omega
   have hgE:¬t.S wr.heap.size:=fun h=>by have:=hlowr _ h;omega
   have HE2:=Lib.hid (HE0.out.frm hW hgE);have HX2:=Lib.hid (HX0.out.frm hW hgS)
   have hset:Frm (fun x=>x=wr.heap.size+1) W2 ((W2.setCell ⟨wr.heap.size+1,0,none⟩ (.int .i64 zm)).setCell ⟨wr.heap.size+1,1,none⟩ (.int .i64 (zd:Int))):=(Frm.set _ _ _ _).trans (Frm.set _ _ _ _)
   have HF4:=Lib.hid ((HFv.out.outs hW HSO.out).outs hset (fun x hx=>by rw[hx];simp only[List.length_cons,List.length_nil];omega))
   have HFT4:Hid (Frm T w ((W2.setCell ⟨wr.heap.size+1,0,none⟩ (.int .i64 zm)).setCell ⟨wr.heap.size+1,1,none⟩ (.int .i64 (zd:Int)))):=(HFTv.out.trans (hW.mono HST.out)).trans (hset.mono fun x hx=>by rw[hx];exact HT.out _ (by omega))
   have HI4:Hid (RaceI t t.S ((W2.setCell ⟨wr.heap.size+1,0,none⟩ (.int .i64 zm)).setCell ⟨wr.heap.size+1,1,none⟩ (.int .i64 (zd:Int)))):=(hIW.own hset (fun x hx=>by rw[hx];exact HTG.out) (fun x hx=>by rw[hx];exact hgS)).less HTS.out (fun _ h=>h)
   have x0:=HX2.out.cell 0 _ rfl;have x1:=HX2.out.cell 1 _ rfl;have x0':=HX2.out.froz 0 _ rfl;have x1':=HX2.out.froz 1 _ rfl;have xz:=HX2.out.lt;have y0:=HE2.out.cell 0 _ rfl;have y1:=HE2.out.cell 1 _ rfl;have yz:=HE2.out.lt
   have hNE:=fun (W:World)=>neq_exact zm (zd:Int) em (ed:Int) W
   clear hlowr hgS hgE hW hIW hset HE0 HX0 HFv HFTv HI1
   rcases HZO.out with⟨rfl,hz⟩|⟨rfl,hz⟩
   ·by_cases heq:zm=em∧(zd:Int)=(ed:Int)
    ·have HBN:Hid (BD (k+1)=none):=HBGO.out k HBk.out (by rw[hz,HXK.out,heq.1,show zd=ed by omega])
     rw[decide_eq_true heq]at hNE;clear heq hz
     go_wp2_with (fail)
     go_roundw
     case rel=>exact⟨k+1,by omega,by go_num,HBN.out,HF4.out,HFT4.out,HI4.out⟩
     case measure=>(simp[intOf])<;>omega
    ·have HBN:Hid (BD n=some k):=HBST.out k hlt HBk.out (by
      rw[hz,HXK.out]
      intro he
      injection he with he;injection he with h1 h2
      exact heq ⟨h1,by omega⟩)
     rw[decide_eq_false heq]at hNE;clear heq hz
     go_wp2_with (fail)
     go_ret2
     exact⟨by rw[HBN.out];rfl,HF4.out.belowW⟩
   ·have HBN:Hid (BD n=some k):=HBST.out k hlt HBk.out (by rw[hz,HXK.out];intro he;cases he)
    clear hz
    go_wp2_with (fail)
    go_ret2
    exact⟨by rw[HBN.out];rfl,HF4.out.belowW⟩
  ·have hke:k=n:=by omega
   have HBN:Hid (BD n=none):=by rw[← hke];exact HBk.out
   go_wp2_with (fail)
   go_ret2
   exact⟨by rw[HBN.out];rfl,HF.out.belowW⟩
theorem VerifyDatabase_any (p kk:Int) (c h s n cv:Nat) (A:Option Addr) (xs:List E) (w:World) (hv:isVar p c h s=true) (hk:kk=1∨kk=2) (hok:dbOk h c kk) (hn:dbN h c kk=n) (hx:EL (fun _=>False) w A n xs) (hval:∀x∈xs,Val (sq s) x):
  Calls Tryz.prog 68 #[.agg #[.int .i64 p,.int .i64 c,.int .i64 h,.int .i64 s,.int .i64 kk,.slice A n cv]] w fun e w'=>e = .returned (verV (badD h c s kk (fun j=>xs.getD j ⟨0,0⟩) n))∧Below w.heap.size w w':=by
 rcases hk with rfl|rfl
 ·exact VerifyDatabase_rolls p c h s n cv A xs w hv hok hn hx hval
 ·exact VerifyDatabase_wins p c h s n cv A xs w hv hok hn hx hval
end Go.Proofs.YtkaiilmgemaljaaGreat

/- FnDatabase's law: its walk. There are no conditions. -/
import Derived.Test.YtkaiilmgemaljaaGreatPR15
import Derived.Test.YtkaiilmgemaljaaGreatPR21
import Derived.Test.YtkaiilmgemaljaaGreatPR22
import Derived.Test.YtkaiilmgemaljaaGreatPR23
import Derived.Test.YtkaiilmgemaljaaGreatPR24
import Derived.Test.YtkaiilmgemaljaaGreatPU6
set_option linter.unusedVariables false
set_option linter.unusedSimpArgs false
namespace Go.Proofs.YtkaiilmgemaljaaGreat
open Go.RowKit Ps Ra Ex
theorem allN_get {f:Nat→Option E}:∀{n:Nat} {t:List E},allN f n=some t→∀j,j<n→f j=some (t.getD j ⟨0,0⟩)
 | 0,_,_,j,hj=>by omega
 | n + 1, t, h, j, hj => by
   unfold allN at h
   cases hs : allN f n with
   | none => rw [hs] at h; cases h
   | some u =>
     rw [hs] at h
     cases hf : f n with
     | none => rw [hf] at h; cases h
     | some x =>
       rw [hf] at h
       simp only [Option.bind_some, Option.map_some, Option.some.injEq] at h
       subst h; have hl := allN_len hs
       by_cases e : j = n
       · subst e
         rw [hf, List.getD_eq_getElem?_getD, List.getElem?_append_right (by omega), hl]; simp
       · rw [allN_get hs j (by omega), List.getD_eq_getElem?_getD, List.getD_eq_getElem?_getD, List.getElem?_append_left (by omega)]
theorem db_facts {p cI hI sI k:Int} (h0:dbC p cI hI sI k=0):∃(cc h s m:Nat) (xs:List E),cI=cc∧hI=h∧sI=s∧isVar p cc h s=true∧(k=1∨k=2)∧dbOk h cc k∧dbN h cc k=m∧1≤m∧m≤2500∧dbE h cc s k=some xs∧xs.length=m∧(∀j,j<m→famD h cc s k j=some (xs.getD j ⟨0,0⟩))∧∀x∈xs,Val (sq s) x:=by
 have hv:isVar p cI hI sI=true:=by
  cases hv:isVar p cI hI sI with
  | true=>rfl
  | false=>unfold dbC at h0;rw[if_pos hv]at h0;cases h0
 have hvv:=isVar_yes hv
 obtain⟨cc,rfl⟩:∃n:Nat,cI=n:=⟨cI.toNat,by omega⟩
 obtain⟨h,rfl⟩:∃n:Nat,hI=n:=⟨hI.toNat,by omega⟩
 obtain⟨s,rfl⟩:∃n:Nat,sI=n:=⟨sI.toNat,by omega⟩
 have hok:=dbC_zero h0;unfold dbC at h0
 rw[if_neg (by rw[hv];decide)]at h0
 simp only[Int.toNat_natCast]at h0 hok
 by_cases hk:k=1∨k=2
 ·rw[if_neg (not_not_intro hk),if_neg (not_not_intro hok)]at h0
  cases hE:dbE h cc s k with
  | none=>simp[hE]at h0
  | some xs =>
    have hl := dbE_len hE; have hw : 1 ≤ wys h cc := wys_pos h cc
    have hB : 1 ≤ sq s := (sq_bd (by omega) (by omega)).1
    have hfam : ∀ j, j < dbN h cc k → famD h cc s k j = some (xs.getD j ⟨0, 0⟩) := by
      intro j hj
      unfold dbE at hE; unfold famD
      split at hE
      · rename_i h2; rw [if_pos h2]; exact allN_get hE j hj
      · rename_i h2; rw [if_neg h2]; exact allN_get hE j hj
    refine ⟨cc, h, s, _, xs, rfl, rfl, rfl, hv, hk, hok, rfl, ?_, hok.2, hE, hl, hfam, ?_⟩
    · unfold dbN
      split
      · exact Nat.mul_le_mul hw hw
      · exact hw
    · intro x hx
      obtain ⟨j, hj, hjx⟩ := List.getElem_of_mem hx
      have h1 := hfam j (by rw [← hl]; exact hj)
      rw [show xs.getD j ⟨0, 0⟩ = x by rw [List.getD_eq_getElem?_getD, List.getElem?_eq_getElem hj, hjx]; rfl] at h1
      unfold famD at h1
      split at h1
      · unfold winsF at h1
        split at h1
        · injection h1 with h1; rw [← h1]; exact zero_val
        · exact win_val hB h1
      · exact xp_val hB h1
 ·rw[if_pos hk]at h0;cases h0
inductive AllR (Rel:World→World→Prop):List RP→Prop
 | nil:AllR Rel []
 | cons {P:RP} {l:List RP}:(∀v W W',P v W→Rel W W'→P v W')→AllR Rel l→AllR Rel (P::l)
theorem GL.stabR {Rel:World→World→Prop}:∀{l:List RP},AllR Rel l→∀i v W W',GL l i v W→Rel W W'→GL l i v W'
 | _,.nil,_,_,_,_,_,_=>trivial
 | _,.cons h _,0,v,W,W',hg,hb=>h v W W' hg hb
 | _,.cons _ h,i+1,v,W,W',hg,hb=>GL.stabR h i v W W' hg hb
def DiceW (C:Option Addr) (n c:Nat) (W:World) (g:Nat):Prop:=∃(i:Nat) (u:Int),i≤n∧Cel W g [.slice C n c,.int .i64 (i:Int),.int .u64 u]
def RelD (C:Option Addr) (n c lo:Nat) (W W':World):Prop:=Below lo W W'∧∀g,DiceW C n c W g→DiceW C n c W' g
def DicP (C:Option Addr) (n c lo:Nat):RP:=fun v W=>∃g,v = .pointer (some ⟨g,0,none⟩)∧lo≤g∧DiceW C n c W g
def InP (m:Nat):RP:=fun v _=>∃x:Int,v = .int .i64 x∧0≤x∧x<m
def d18:Nat→Nat
 | 0=>83
 | 1=>84
 | 2=>85
 | 3=>86
 | 4=>87
 | 5=>88
 | _=>0
def d19:Nat→Nat
 | 0=>90
 | 1=>91
 | 2=>92
 | 3=>93
 | 4=>94
 | 5=>95
 | 6=>96
 | 7=>97
 | 8=>89
 | 9=>98
 | 10=>99
 | 11=>13
 | _=>0
theorem db_changed {h cc s m i:Nat} {k:Int} {xs:List E} {y:E} (hk:k=1∨k=2) (hm:dbN h cc k=m) (hi:i<m) (hxl:xs.length=m) (hfam:∀j,j<m→famD h cc s k j=some (xs.getD j ⟨0,0⟩)) (hne:xs.getD i ⟨0,0⟩≠y):∃j,j<m∧badD h cc s k (fun j=>(xs.set i y).getD j ⟨0,0⟩) m=some j:=by
 refine badD_changed (i:=i) (y:=xs.getD i ⟨0,0⟩) hk hm hi (fun j hj hji=>?_) (hfam i hi) ?_
 ·show famD h cc s k j=some ((xs.set i y).getD j ⟨0,0⟩)
  rw[hfam j hj,List.getD_eq_getElem?_getD,List.getD_eq_getElem?_getD,List.getElem?_set_ne (fun e=>hji e.symm)]
 ·show xs.getD i ⟨0,0⟩≠(xs.set i y).getD i ⟨0,0⟩
  rw[List.getD_eq_getElem?_getD (l:=xs.set i y),List.getElem?_set_self (by omega)]
  exact hne
set_option maxRecDepth 100000 in
set_option maxHeartbeats 8000000 in
theorem database_law (C:Option Addr) (n c:Nat) (bs:List Int) (w:World) (hC:SBy w C n bs):
  Calls Tryz.prog 13 #[.slice C n c] w fun e w'=>e = .returned (.bool true)∧Below w.heap.size w w':=by
 have HC:=Lib.hid hC;clear hC
 by_cases hn:4096<n
 ·have hd:decide (4096<n)=true:=by simp[hn]
  go_enter Tryz.func13,Tryz.ntmps13
  go_wp2_with (fail)
  refine (big_any C n c w).mono ?_
  rintro e w' ⟨rfl,rfl⟩
  rw[hd]
  go_wp2_with (fail)
  go_ret
  exact⟨rfl,Bel.rfl' _⟩
 have hd:decide (4096<n)=false:=by simp[hn]
 have hn':n≤4096:=by omega
 go_enter Tryz.func13,Tryz.ntmps13
 go_wp2_with (fail)
 refine (big_any C n c w).mono ?_
 rintro e w' ⟨rfl,rfl⟩
 rw[hd]
 go_wp2_with (fail)
 refine (DrawBuildDatabase_any C n c bs w HC.out hn').mono ?_
 rintro e w1 ⟨p,cI,hI,sI,k,rfl,hb⟩
 have HV1:Hid (Cel (w1.alloc (.cells #[.int .i64 p,.int .i64 cI,.int .i64 hI,.int .i64 sI] 25)) w1.heap.size [.int .i64 p,.int .i64 cI,.int .i64 hI,.int .i64 sI]):=Cel.new w1 #[.int .i64 p,.int .i64 cI,.int .i64 hI,.int .i64 sI] _;have HB1:=Lib.hid (hb.alloc hb.size (.cells #[.int .i64 p,.int .i64 cI,.int .i64 hI,.int .i64 sI] 25));have hz1:w.heap.size≤w1.heap.size:=hb.size;clear hb;have c0:=HV1.out.cell 0 _ rfl;have c1:=HV1.out.cell 1 _ rfl;have c2:=HV1.out.cell 2 _ rfl;have c3:=HV1.out.cell 3 _ rfl;have cz:=HV1.out.lt
 go_wp2_with (fail)
 generalize w1.alloc (.cells #[.int .i64 p,.int .i64 cI,.int .i64 hI,.int .i64 sI] 25)=V1 at *;generalize w1.heap.size=g1 at *;clear c0 c1 c2 c3 cz
 by_cases h0:dbC p cI hI sI k=0
 ·obtain⟨cc,h,s,m,xs,rfl,rfl,rfl,hv,hk,hok,hm,hm1,hm25,hE,hxl,hfam,hval⟩:=db_facts h0
  have CI:Hid (∀W:World,Calls Tryz.prog 63 #[.agg #[.int .i64 p,.int .i64 cc,.int .i64 h,.int .i64 s],.int .i64 k] W fun e w'=>∃A cv,e = .returned (.tuple #[.agg #[.int .i64 p,.int .i64 cc,.int .i64 h,.int .i64 s,.int .i64 k,.slice A m cv],.int .i64 0])∧OwnE w' W.heap.size (.slice A m cv) xs∧Below W.heap.size W w'):=fun W=>(BuildDatabase_any p cc h s k W).mono fun e w' hr=>by
   obtain⟨hb,⟨h1,_⟩|⟨_,v,ys,h2,ho,rfl⟩⟩:=hr
   ·exact absurd h0 h1
   ·simp only[Int.toNat_natCast]at h2
    rw[hE]at h2;injection h2 with h2;subst h2;obtain⟨A,cv,rfl,_,_⟩:=ho.el;rw[hxl]at ho ⊢
    exact⟨A,cv,rfl,ho,hb⟩
  have CS:Hid (∀W:World,Calls Tryz.prog 62 #[.agg #[.int .i64 p,.int .i64 cc,.int .i64 h,.int .i64 s],.int .i64 k] W fun e w'=>∃A cv,e = .returned (.tuple #[.agg #[.int .i64 p,.int .i64 cc,.int .i64 h,.int .i64 s,.int .i64 k,.slice A m cv],.int .i64 0])∧OwnE w' W.heap.size (.slice A m cv) xs∧Below W.heap.size W w'):=fun W=>(sBuildDatabase_any p cc h s k W).mono fun e w' hr=>by
   obtain⟨hb,⟨h1,_⟩|⟨_,v,ys,h2,ho,rfl⟩⟩:=hr
   ·exact absurd h0 h1
   ·simp only[Int.toNat_natCast]at h2
    rw[hE]at h2;injection h2 with h2;subst h2;obtain⟨A,cv,rfl,_,_⟩:=ho.el;rw[hxl]at ho ⊢
    exact⟨A,cv,rfl,ho,hb⟩
  have CV:Hid (∀(A:Option Addr) (cv:Nat) (W:World),EL (fun _=>False) W A m xs→Calls Tryz.prog 68 #[.agg #[.int .i64 p,.int .i64 cc,.int .i64 h,.int .i64 s,.int .i64 k,.slice A m cv]] W fun e w'=>e = .returned (.tuple #[.int .i64 (-1),.int .i64 0])∧Below W.heap.size W w'):=fun A cv W hx=>by
   have h1:=VerifyDatabase_any p k cc h s m cv A xs W hv hk hok hm hx hval
   rw[badD_true hk hm (fun j hj=>hfam j hj)]at h1
   exact h1
  have CX:Hid (∀i,i<m→∃(ym:Int) (yd:Nat),(∀W:World,Calls Tryz.prog 53 #[.agg #[.int .i64 p,.int .i64 cc,.int .i64 h,.int .i64 s],.agg #[.int .i64 (xs.getD i ⟨0,0⟩).num,.int .i64 ((xs.getD i ⟨0,0⟩).depth:Int)],.agg #[.int .i64 1,.int .i64 0]] W fun e w'=>e = .returned (.tuple #[.agg #[.int .i64 ym,.int .i64 (yd:Int)],.int .i64 0])∧Below W.heap.size W w')∧
    ∃j,j<m∧∀(A:Option Addr) (cv:Nat) (W:World),EL (fun _=>False) W A m (xs.set i ⟨ym,yd⟩)→Calls Tryz.prog 68 #[.agg #[.int .i64 p,.int .i64 cc,.int .i64 h,.int .i64 s,.int .i64 k,.slice A m cv]] W fun e w'=>e = .returned (.tuple #[.int .i64 (j:Int),.int .i64 5])∧Below W.heap.size W w'):=fun i hi=>by
   have hvi:=hval _ (getD_mem' xs ⟨0,0⟩ (k:=i) (by omega))
   obtain⟨y,hy,hyv,hyn⟩:=famD_plus hv hk (by rw[hm];exact hi) (hfam i hi) hvi
   obtain⟨j,hj,hbd⟩:=db_changed (y:=y) hk hm hi hxl hfam hyn
   refine⟨y.num,y.depth,fun W=>?_,j,hj,fun A cv W hx=>?_⟩
   ·have h1:=AddExact_val p cc h (xs.getD i ⟨0,0⟩).num 1 s (xs.getD i ⟨0,0⟩).depth 0 W hv hvi one_val
    rw[show addE (sq s) ⟨(xs.getD i ⟨0,0⟩).num,(xs.getD i ⟨0,0⟩).depth⟩ ⟨1,0⟩=some y from hy]at h1
    exact h1
   ·have h1:=VerifyDatabase_any p k cc h s m cv A (xs.set i y) W hv hk hok hm hx (fun x hx=>by
     rcases List.mem_or_eq_of_mem_set hx with h2|h2
     ·exact hval x h2
     ·rw[h2];exact hyv)
    rw[hbd]at h1
    exact h1
  have HXL:=Lib.hid hxl;have HVX:=Lib.hid hval;clear hv hk hok hm hE hxl hfam hval h0
  have hm0:((m:Int) == 0)=false:=by simp;omega
  have hm0':¬(m:Int)=0:=by omega
  refine (CI.out _).mono ?_
  rintro e w2 ⟨A1,cA,rfl,ho1,hb⟩
  have hg1:g1<V1.heap.size:=HV1.out.lt;have hz2:V1.heap.size≤w2.heap.size:=hb.size;have HO12:=Lib.hid ho1;clear ho1;have HV2:=Lib.hid (HV1.out.below hb);have HB2:=Lib.hid (HB1.out.trans (hb.mono HB1.out.size));clear hb HV1 HB1;obtain⟨W3,hW3⟩:∃W3,W3=w2.alloc (.cells #[.int .i64 p,.int .i64 cc,.int .i64 h,.int .i64 s,.int .i64 k,.slice A1 m cA] 85):=⟨_,rfl⟩
  have HD3:Hid (Cel W3 w2.heap.size [.int .i64 p,.int .i64 cc,.int .i64 h,.int .i64 s,.int .i64 k,.slice A1 m cA]):=by rw[hW3];exact Cel.new w2 #[.int .i64 p,.int .i64 cc,.int .i64 h,.int .i64 s,.int .i64 k,.slice A1 m cA] _
  have hb:Below w2.heap.size w2 W3:=by rw[hW3];exact (Below.refl _ _).alloc (Nat.le_refl _) _
  have hz3:w2.heap.size<W3.heap.size:=HD3.out.lt;have HV3:=Lib.hid (HV2.out.below hb);have HB3:=Lib.hid (HB2.out.trans (hb.mono HB2.out.size));have HO13:=Lib.hid (HO12.out.below hb);clear hb HV2 HB2 HO12;subst hW3;have c0:=HV3.out.cell 0 _ rfl;have c1:=HV3.out.cell 1 _ rfl;have c2:=HV3.out.cell 2 _ rfl;have c3:=HV3.out.cell 3 _ rfl;have cz:=HV3.out.lt
  go_wp2_with (fail)
  generalize w2.alloc (.cells #[.int .i64 p,.int .i64 cc,.int .i64 h,.int .i64 s,.int .i64 k,.slice A1 m cA] 85)=W3 at *;generalize hg2:w2.heap.size=g2 at *;clear hg2;clear c0 c1 c2 c3 cz
  refine (CS.out _).mono ?_
  rintro e w4 ⟨A2,cB,rfl,ho2,hb⟩
  have hz4:W3.heap.size≤w4.heap.size:=hb.size;have HO24:=Lib.hid ho2;clear ho2;have HV4:=Lib.hid (HV3.out.below hb);have HB4:=Lib.hid (HB3.out.trans (hb.mono HB3.out.size));have HO14:=Lib.hid (HO13.out.below hb);have HD4:=Lib.hid (HD3.out.below hb);clear hb HV3 HB3 HO13 HD3;obtain⟨W5,hW5⟩:∃W5,W5=w4.alloc (.cells #[.int .i64 p,.int .i64 cc,.int .i64 h,.int .i64 s,.int .i64 k,.slice A2 m cB] 85):=⟨_,rfl⟩
  have HW5:Hid (Cel W5 w4.heap.size [.int .i64 p,.int .i64 cc,.int .i64 h,.int .i64 s,.int .i64 k,.slice A2 m cB]):=by rw[hW5];exact Cel.new w4 #[.int .i64 p,.int .i64 cc,.int .i64 h,.int .i64 s,.int .i64 k,.slice A2 m cB] _
  have hb:Below w4.heap.size w4 W5:=by rw[hW5];exact (Below.refl _ _).alloc (Nat.le_refl _) _
  have hz5:w4.heap.size<W5.heap.size:=HW5.out.lt
  have HL2:Hid (∀j,(Value.slice A2 m cB).ownBlock=some j→W3.heap.size≤j∧j<w4.heap.size):=fun j hj=>World.ownsRow.lt HO24.out j hj
  have HV5:=Lib.hid (HV4.out.below hb);have HB5:=Lib.hid (HB4.out.trans (hb.mono HB4.out.size));have HO15:=Lib.hid (HO14.out.below hb);have HD5:=Lib.hid (HD4.out.below hb);have HO25:=Lib.hid (HO24.out.below hb);clear hb HV4 HB4 HO14 HD4 HO24;have HWW5:=HW5;clear HW5;have HW5:=HWW5;clear HWW5
  go_upto_region 6 with (fail)
  rw[← hW5];generalize hg3:w4.heap.size=g3 at *;clear hW5 hg3;have q0:=HD5.out.cell 0 _ rfl;have q1:=HD5.out.cell 1 _ rfl;have q2:=HD5.out.cell 2 _ rfl;have q3:=HD5.out.cell 3 _ rfl;have q4:=HD5.out.cell 4 _ rfl;have q5:=HD5.out.cell 5 _ rfl;have qz:=HD5.out.lt;have r0:=HW5.out.cell 0 _ rfl;have r1:=HW5.out.cell 1 _ rfl;have r2:=HW5.out.cell 2 _ rfl;have r3:=HW5.out.cell 3 _ rfl;have r4:=HW5.out.cell 4 _ rfl;have r5:=HW5.out.cell 5 _ rfl;have rz:=HW5.out.lt
  go_wp2_with (fail)
  clear q0 q1 q2 q3 q4 q5 qz;clear r0 r1 r2 r3 r4 r5 rz
  go_loopw [9] (fun v9 wr=>∃j:Nat,j≤m∧v9 = .int .i64 j∧∃q,wr=W5.drewN q) (fun v9 _=>m-(intOf v9).toNat)
  case atStart=>exact⟨0,by omega,rfl,0,rfl⟩
  case round=>
   obtain⟨j,hj,rfl,q,rfl⟩:=hrel;obtain⟨W6,hW6⟩:∃W6,W6=W5.drewN q:=⟨_,rfl⟩
   have hb:Below W5.heap.size W5 W6:=by rw[hW6];exact below_drewN' (Below.refl _ _) q
   rw[← hW6];have HW6q:=Lib.hid hW6;clear hW6;have HV6:=Lib.hid (HV5.out.below hb);have HB6:=Lib.hid (HB5.out.trans (hb.mono HB5.out.size));have HO16:=Lib.hid (HO15.out.below hb);have HD6:=Lib.hid (HD5.out.below hb);have HO26:=Lib.hid (HO25.out.below hb);have HW6:=Lib.hid (HW5.out.below hb);clear hb HV5 HB5 HO15 HD5 HO25 HW5;have q0:=HD6.out.cell 0 _ rfl;have q1:=HD6.out.cell 1 _ rfl;have q2:=HD6.out.cell 2 _ rfl;have q3:=HD6.out.cell 3 _ rfl;have q4:=HD6.out.cell 4 _ rfl;have q5:=HD6.out.cell 5 _ rfl;have qz:=HD6.out.lt;have r0:=HW6.out.cell 0 _ rfl;have r1:=HW6.out.cell 1 _ rfl;have r2:=HW6.out.cell 2 _ rfl;have r3:=HW6.out.cell 3 _ rfl;have r4:=HW6.out.cell 4 _ rfl;have r5:=HW6.out.cell 5 _ rfl;have rz:=HW6.out.lt
   by_cases hlt:j<m
   ·have hji:(j:Int)<(m:Int):=by omega
    obtain⟨b1,o1,hA1,hbz1,e1,e2⟩:=HO16.out.elv.1.at hlt;obtain⟨b2,o2,hA2,hbz2,e3,e4⟩:=HO26.out.elv.1.at hlt;subst hA1 hA2
    rcases hxj:xs.getD j ⟨0,0⟩with⟨em,ed⟩
    rw[hxj]at e1 e2 e3 e4
    simp only at e1 e2 e3 e4
    have hNE:∀W:World,(binOp .neq 35 (.agg #[.int .i64 em,.int .i64 (ed:Int)]) (.agg #[.int .i64 em,.int .i64 (ed:Int)])).run Tryz.prog W = .ok (.bool false) W:=fun W=>by rw[neq_exact];simp
    clear hxj
    go_wp2_with (fail)
    go_quiet (fail)
    go_wp2_with (fail)
    go_roundw
    case rel=>exact⟨j+1,by omega,by go_num,_,by rw[HW6q.out];exact World.drewN_drewN ..⟩
    case measure=>(simp[intOf])<;>omega
   ·have hji:¬(j:Int)<(m:Int):=by omega
    clear HW6q
    go_wp2_with (fail)
    refine (CV.out A1 cA _ HO16.out.elv.1).mono ?_
    rintro e w7 ⟨rfl,hb⟩
    clear q0 q1 q2 q3 q4 q5 qz;clear r0 r1 r2 r3 r4 r5 rz;have HV7:=Lib.hid (HV6.out.below hb);have HB7:=Lib.hid (HB6.out.trans (hb.mono HB6.out.size));have HO17:=Lib.hid (HO16.out.below hb);have HD7:=Lib.hid (HD6.out.below hb);have HO27:=Lib.hid (HO26.out.below hb);have HW7:=Lib.hid (HW6.out.below hb);clear hb HV6 HB6 HO16 HD6 HO26 HW6;have q0:=HD7.out.cell 0 _ rfl;have q1:=HD7.out.cell 1 _ rfl;have q2:=HD7.out.cell 2 _ rfl;have q3:=HD7.out.cell 3 _ rfl;have q4:=HD7.out.cell 4 _ rfl;have q5:=HD7.out.cell 5 _ rfl;have qz:=HD7.out.lt;have r0:=HW7.out.cell 0 _ rfl;have r1:=HW7.out.cell 1 _ rfl;have r2:=HW7.out.cell 2 _ rfl;have r3:=HW7.out.cell 3 _ rfl;have r4:=HW7.out.cell 4 _ rfl;have r5:=HW7.out.cell 5 _ rfl;have rz:=HW7.out.lt
    go_wp2_with (fail)
    clear q0 q1 q2 q3 q4 q5 qz;clear r0 r1 r2 r3 r4 r5 rz
    obtain⟨b2,hA2,hb20,hb2z,_,_⟩:=own_formE HO27.out (by omega)
    subst hA2;have hb2:=HL2.out b2 rfl;generalize w7=V at *;have HSV:=Lib.hid (SBy.bel HC.out HB7.out)
    have hCne:∀g,V.heap.size≤g→0<n→∀b off s,C=some ⟨b,off,s⟩→b≠g:=fun g hg h0 b off s hA e=>by
     obtain⟨b',off',hA',hlt',_⟩:=HSV.out.2.1 h0;rw[hA]at hA';injection hA' with hA';injection hA' with h1
     omega
    have HNEC:=Lib.hid hCne;clear hCne
    refine wp_region_early 6 (fun _=>false) d18 (RelD C n c V.heap.size) (fun _=>True) (GL [Eqv (.slice C n c),DicP C n c V.heap.size,Eqv (.pointer (some ⟨g3,5,none⟩)),Eqv (.slice (some ⟨b2,0,none⟩) m cB),Eqv (.int .i64 (m:Int)),InP m]) (by kernel_rfl) (by kernel_rfl) (fun _ _ _ _ _ h=>h) (fun _ _ _ h1 h2=>⟨h1.1.trans h2.1,fun g hg=>h2.2 g (h1.2 g hg)⟩) (fun _=>⟨Below.refl _ _,fun _ h=>h⟩) (GL.stabR (AllR.cons (fun _ _ _ h _=>h) (AllR.cons (fun _ _ _ ⟨g,h1,h2,h3⟩ hr=>⟨g,h1,h2,hr.2 g h3⟩) (AllR.cons (fun _ _ _ h _=>h) (AllR.cons (fun _ _ _ h _=>h) (AllR.cons (fun _ _ _ h _=>h) (AllR.cons (fun _ _ _ h _=>h) AllR.nil))))))) ⟨drw (Below.refl _ _),fun g ⟨i,u,h1,h2⟩=>⟨i,u,h1,h2.below (drw (Below.refl _ _))⟩⟩ trivial (fun i o' _ hX=>by cases hX) ?_ ?_
    ·intro i o hi hX ho a' W hW hIW hfar hdep
     have e0:a'.tmps.getD 0 undef = .slice C n c:=(hfar 0 (by decide)).trans rfl
     have e7:a'.tmps.getD 7 undef = .pointer (some ⟨g3,0,none⟩):=(hfar 7 (by decide)).trans rfl
     have dep:∀j,j<6→Region.waitsFor .any _ i j=true→(GL [Eqv (.slice C n c),DicP C n c V.heap.size,Eqv (.pointer (some ⟨g3,5,none⟩)),Eqv (.slice (some ⟨b2,0,none⟩) m cB),Eqv (.int .i64 (m:Int)),InP m]) j (a'.tmps.getD (d18 j) undef) W:=hdep
     have hi8:i=0∨i=1∨i=2∨i=3∨i=4∨i=5:=by omega
     have hsz:V.heap.size≤W.heap.size:=hW.1.size
     have hrr:RelD C n c V.heap.size W W:=⟨Below.refl _ _,fun _ h=>h⟩
     clear hfar hdep hX hi
     rcases hi8 with rfl|rfl|rfl|rfl|rfl|rfl
     all_goals (simp at ho;subst ho)
     ·exact .inl ⟨.slice C n c,W,by simp only[execOp,Act.eval,e0];go_simp,hrr,trivial,rfl⟩
     ·have d1:a'.tmps.getD 83 undef = .slice C n c:=dep 0 (by omega) (by kernel_rfl)
      refine .inr ⟨69,#[.slice C n c,.int .u64 811],by simp only[execOp,Act.eval,d1];go_simp,?_⟩
      refine (roll_any C n c bs W (HSV.out.bel hW.1) hn').mono ?_
      rintro e W' ⟨rfl,⟨u,_,hc⟩,hb'⟩
      exact⟨_,rfl,⟨hb'.mono hsz,fun g ⟨i,u,h1,h2⟩=>⟨i,u,h1,h2.below hb'⟩⟩,trivial,W.heap.size,rfl,hsz,0,u,by omega,hc⟩
     ·exact .inl ⟨.pointer (some ⟨g3,5,none⟩),W,by simp only[execOp,Act.eval,e7];go_simp,hrr,trivial,rfl⟩
     ·have d1:a'.tmps.getD 85 undef = .pointer (some ⟨g3,5,none⟩):=dep 2 (by omega) (by kernel_rfl)
      have y5:=(HW7.out.below hW.1).cell 5 _ rfl
      exact .inl ⟨.slice (some ⟨b2,0,none⟩) m cB,W,by simp only[execOp,Act.eval,d1];go_simp,hrr,trivial,rfl⟩
     ·have d1:a'.tmps.getD 86 undef = .slice (some ⟨b2,0,none⟩) m cB:=dep 3 (by omega) (by kernel_rfl)
      exact .inl ⟨.int .i64 (m:Int),W,by simp only[execOp,Act.eval,d1];go_simp,hrr,trivial,rfl⟩
     ·obtain⟨g,d1,hlg,i,u,hi,hc⟩:DicP C n c V.heap.size (a'.tmps.getD 84 undef) W:=dep 1 (by omega) (by kernel_rfl)
      have d2:a'.tmps.getD 87 undef = .int .i64 (m:Int):=dep 4 (by omega) (by kernel_rfl)
      refine .inr ⟨70,#[.pointer (some ⟨g,0,none⟩),.int .i64 (m:Int)],by simp only[execOp,Act.eval,d1,d2];go_simp,?_⟩
      refine (below_any C n c g i bs u m W (HSV.out.bel hW.1) hc (HNEC.out g hlg) hn' hi (by omega) (by omega)).mono ?_
      rintro e W' ⟨x,rfl,hx0,hx1,⟨i',u',hi',hc'⟩,hf⟩
      refine⟨_,rfl,⟨hf.below hsz (fun j hj=>by rw[hj];exact hlg),fun g' ⟨i2,u2,h1,h2⟩=>?_⟩,trivial,x,rfl,hx0,hx1⟩
      by_cases e:g'=g
      ·rw[e];exact⟨i',u',hi',hc'⟩
      ·exact⟨i2,u2,h1,h2.frm hf e⟩
    intro v W8 hW hIW hg
    have g0':v 0 = .slice C n c:=hg 0 (by omega)
    obtain⟨gd,g1',_,_⟩:DicP C n c V.heap.size (v 1) W8:=hg 1 (by omega)
    have g2':v 2 = .pointer (some ⟨g3,5,none⟩):=hg 2 (by omega)
    have g3':v 3 = .slice (some ⟨b2,0,none⟩) m cB:=hg 3 (by omega)
    have g4':v 4 = .int .i64 (m:Int):=hg 4 (by omega)
    obtain⟨x,g5',hx0,hx1⟩:InP m (v 5) W8:=hg 5 (by omega)
    simp only[List.drop_succ_cons,List.drop_zero,putV,d18,g0',g1',g2',g3',g4',g5',Act.put]
    clear g0' g1' g2' g3' g4' g5' hg hIW
    obtain⟨ix,rfl⟩:∃i:Nat,x=i:=⟨x.toNat,by omega⟩
    have hi:ix<m:=by omega
    have hb:=hW.1;clear hW HSV HNEC;have HV8:=Lib.hid (HV7.out.below hb);have HB8:=Lib.hid (HB7.out.trans (hb.mono HB7.out.size));have HO18:=Lib.hid (HO17.out.below hb);have HD8:=Lib.hid (HD7.out.below hb);have HO28:=Lib.hid (HO27.out.below hb);have HW8:=Lib.hid (HW7.out.below hb);clear hb HV7 HB7 HO17 HD7 HO27 HW7;obtain⟨ym,yd,hadd,jj,hjj,hver⟩:=CX.out ix hi
    rcases hxi:xs.getD ix ⟨0,0⟩with⟨em,ed⟩
    obtain⟨_,hA2,_,hb2z,he,hfr⟩:=own_formE HO28.out (by omega)
    injection hA2 with hA2;injection hA2 with hA2;subst hA2;obtain⟨e3,e4⟩:=he ix hi;rw[hxi]at e3 e4 hadd
    simp only at e3 e4 hadd
    have hen2:=Lib.hid e3;have hen3:=Lib.hid e4;have CADD:=Lib.hid hadd;have CVER:=Lib.hid hver;have HFR:=Lib.hid hfr;clear hxi e3 e4 hadd hver he hfr CX CV CI CS
    go_upto_region 19 with (fail)
    refine wp_region_early 12 (fun i=>i == 10) d19 Bel (fun _=>True) (GL [Eqv (.agg #[.int .i64 p,.int .i64 cc,.int .i64 h,.int .i64 s]),Eqv (.pointer (some ⟨g3,5,none⟩)),Eqv (.slice (some ⟨b2,0,none⟩) m cB),Eqv (.int .i64 (ix:Int)),Eqv (.pointer (some ⟨b2,ix*2,none⟩)),Eqv (.agg #[.int .i64 em,.int .i64 (ed:Int)]),Eqv (.agg #[.int .i64 1,.int .i64 0]),Eqv (.tuple #[.agg #[.int .i64 ym,.int .i64 (yd:Int)],.int .i64 0]),Eqv (.tuple #[.agg #[.int .i64 ym,.int .i64 (yd:Int)],.int .i64 0]),Eqv (.agg #[.int .i64 ym,.int .i64 (yd:Int)]),Eqv (.int .i64 0),AlcD W8.heap.size 35 [.int .i64 0,.int .i64 0]]) (by kernel_rfl) (by kernel_rfl) (fun _ _ _ _ _ h=>h) (fun _ _ _ h1 h2=>Bel.trans h1 h2) Bel.rfl' (GL.stab (by repeat (first|exact AllStb.nil|refine AllStb.cons (by first|exact stb_eq _|exact stb_alcD _ _ _) ?_))) (Bel.drew _) trivial ?_ ?_ ?_
    ·intro i o hi hX ho a' W hW hIW hfar hdep
     have e3:a'.tmps.getD 3 undef = .pointer (some ⟨g1,0,none⟩):=(hfar 3 (by decide)).trans rfl
     have e7:a'.tmps.getD 7 undef = .pointer (some ⟨g3,0,none⟩):=(hfar 7 (by decide)).trans rfl
     have e12:a'.tmps.getD 12 undef = .int .i64 (ix:Int):=(hfar 12 (by decide)).trans rfl
     have dep:∀j,j<12→Region.waitsFor .any _ i j=true→(GL [Eqv (.agg #[.int .i64 p,.int .i64 cc,.int .i64 h,.int .i64 s]),Eqv (.pointer (some ⟨g3,5,none⟩)),Eqv (.slice (some ⟨b2,0,none⟩) m cB),Eqv (.int .i64 (ix:Int)),Eqv (.pointer (some ⟨b2,ix*2,none⟩)),Eqv (.agg #[.int .i64 em,.int .i64 (ed:Int)]),Eqv (.agg #[.int .i64 1,.int .i64 0]),Eqv (.tuple #[.agg #[.int .i64 ym,.int .i64 (yd:Int)],.int .i64 0]),Eqv (.tuple #[.agg #[.int .i64 ym,.int .i64 (yd:Int)],.int .i64 0]),Eqv (.agg #[.int .i64 ym,.int .i64 (yd:Int)]),Eqv (.int .i64 0),AlcD W8.heap.size 35 [.int .i64 0,.int .i64 0]]) j (a'.tmps.getD (d19 j) undef) W:=hdep
     have hi8:i=10:=by simpa[or_assoc]using hX
     clear hfar hdep hX hi;subst hi8
     simp at ho
     subst ho
     ·have d1:a'.tmps.getD 89 undef = .tuple #[.agg #[.int .i64 ym,.int .i64 (yd:Int)],.int .i64 0]:=dep 8 (by omega) (by kernel_rfl)
      exact⟨.int .i64 0,fun W'=>by simp only[execOp,Act.eval,d1];go_simp,rfl⟩
    ·intro i o hi hX ho a' W hW hIW hfar hdep
     have e3:a'.tmps.getD 3 undef = .pointer (some ⟨g1,0,none⟩):=(hfar 3 (by decide)).trans rfl
     have e7:a'.tmps.getD 7 undef = .pointer (some ⟨g3,0,none⟩):=(hfar 7 (by decide)).trans rfl
     have e12:a'.tmps.getD 12 undef = .int .i64 (ix:Int):=(hfar 12 (by decide)).trans rfl
     have dep:∀j,j<12→Region.waitsFor .any _ i j=true→(GL [Eqv (.agg #[.int .i64 p,.int .i64 cc,.int .i64 h,.int .i64 s]),Eqv (.pointer (some ⟨g3,5,none⟩)),Eqv (.slice (some ⟨b2,0,none⟩) m cB),Eqv (.int .i64 (ix:Int)),Eqv (.pointer (some ⟨b2,ix*2,none⟩)),Eqv (.agg #[.int .i64 em,.int .i64 (ed:Int)]),Eqv (.agg #[.int .i64 1,.int .i64 0]),Eqv (.tuple #[.agg #[.int .i64 ym,.int .i64 (yd:Int)],.int .i64 0]),Eqv (.tuple #[.agg #[.int .i64 ym,.int .i64 (yd:Int)],.int .i64 0]),Eqv (.agg #[.int .i64 ym,.int .i64 (yd:Int)]),Eqv (.int .i64 0),AlcD W8.heap.size 35 [.int .i64 0,.int .i64 0]]) j (a'.tmps.getD (d19 j) undef) W:=hdep
     have hi8:i=0∨i=1∨i=2∨i=3∨i=4∨i=5∨i=6∨i=7∨i=8∨i=9∨i=11:=by simp at hX;omega
     clear hfar hdep hX hi
     rcases hi8 with rfl|rfl|rfl|rfl|rfl|rfl|rfl|rfl|rfl|rfl|rfl
     all_goals (simp at ho;subst ho)
     ·have y0:=(HV8.out.below hW).cell 0 _ rfl
      have y1:=(HV8.out.below hW).cell 1 _ rfl;have y2:=(HV8.out.below hW).cell 2 _ rfl;have y3:=(HV8.out.below hW).cell 3 _ rfl
      exact .inl ⟨.agg #[.int .i64 p,.int .i64 cc,.int .i64 h,.int .i64 s],W,by simp only[execOp,Act.eval,e3];go_simp,Bel.rfl' _,trivial,rfl⟩
     ·exact .inl ⟨.pointer (some ⟨g3,5,none⟩),W,by simp only[execOp,Act.eval,e7];go_simp,Bel.rfl' _,trivial,rfl⟩
     ·have d1:a'.tmps.getD 91 undef = .pointer (some ⟨g3,5,none⟩):=dep 1 (by omega) (by kernel_rfl)
      have y0:=(HW8.out.below hW).cell 5 _ rfl
      exact .inl ⟨.slice (some ⟨b2,0,none⟩) m cB,W,by simp only[execOp,Act.eval,d1];go_simp,Bel.rfl' _,trivial,rfl⟩
     ·exact .inl ⟨.int .i64 (ix:Int),W,by simp only[execOp,Act.eval,e12];go_simp,Bel.rfl' _,trivial,rfl⟩
     ·have d1:a'.tmps.getD 92 undef = .slice (some ⟨b2,0,none⟩) m cB:=dep 2 (by omega) (by kernel_rfl)
      have d2:a'.tmps.getD 93 undef = .int .i64 (ix:Int):=dep 3 (by omega) (by kernel_rfl)
      exact .inl ⟨.pointer (some ⟨b2,ix*2,none⟩),W,by simp only[execOp,Act.eval,d1,d2];go_simp,Bel.rfl' _,trivial,rfl⟩
     ·have d1:a'.tmps.getD 94 undef = .pointer (some ⟨b2,ix*2,none⟩):=dep 4 (by omega) (by kernel_rfl)
      have y0:=keep_cell hen2.out hW;have y1:=keep_cell hen3.out hW
      exact .inl ⟨.agg #[.int .i64 em,.int .i64 (ed:Int)],W,by simp only[execOp,Act.eval,d1];go_simp,Bel.rfl' _,trivial,rfl⟩
     ·exact .inl ⟨.agg #[.int .i64 1,.int .i64 0],W,by simp only[execOp,Act.eval];go_simp,Bel.rfl' _,trivial,rfl⟩
     ·have d1:a'.tmps.getD 90 undef = .agg #[.int .i64 p,.int .i64 cc,.int .i64 h,.int .i64 s]:=dep 0 (by omega) (by kernel_rfl)
      have d2:a'.tmps.getD 95 undef = .agg #[.int .i64 em,.int .i64 (ed:Int)]:=dep 5 (by omega) (by kernel_rfl)
      have d3:a'.tmps.getD 96 undef = .agg #[.int .i64 1,.int .i64 0]:=dep 6 (by omega) (by kernel_rfl)
      refine .inr ⟨53,#[.agg #[.int .i64 p,.int .i64 cc,.int .i64 h,.int .i64 s],.agg #[.int .i64 em,.int .i64 (ed:Int)],.agg #[.int .i64 1,.int .i64 0]],by simp only[execOp,Act.eval,d1,d2,d3];go_simp,?_⟩
      refine (CADD.out W).mono ?_
      rintro e W' ⟨rfl,hb'⟩
      exact⟨_,rfl,hb',trivial,rfl⟩
     ·have d1:a'.tmps.getD 97 undef = .tuple #[.agg #[.int .i64 ym,.int .i64 (yd:Int)],.int .i64 0]:=dep 7 (by omega) (by kernel_rfl)
      exact .inl ⟨.tuple #[.agg #[.int .i64 ym,.int .i64 (yd:Int)],.int .i64 0],W,by simp only[execOp,Act.eval,d1];go_simp,Bel.rfl' _,trivial,rfl⟩
     ·have d1:a'.tmps.getD 89 undef = .tuple #[.agg #[.int .i64 ym,.int .i64 (yd:Int)],.int .i64 0]:=dep 8 (by omega) (by kernel_rfl)
      exact .inl ⟨.agg #[.int .i64 ym,.int .i64 (yd:Int)],W,by simp only[execOp,Act.eval,d1];go_simp,Bel.rfl' _,trivial,rfl⟩
     ·exact .inl ⟨.pointer (some ⟨W.heap.size,0,none⟩),W.alloc (.cells #[.int .i64 0,.int .i64 0] 35),by kernel_rfl,Bel.alloc _ _,trivial,alcD_new _ _ _ (Below.size hW)⟩
    intro v W10 hW hIW hg
    have g0:v 0 = .agg #[.int .i64 p,.int .i64 cc,.int .i64 h,.int .i64 s]:=hg 0 (by omega)
    have g1:v 1 = .pointer (some ⟨g3,5,none⟩):=hg 1 (by omega)
    have g2:v 2 = .slice (some ⟨b2,0,none⟩) m cB:=hg 2 (by omega)
    have g3:v 3 = .int .i64 (ix:Int):=hg 3 (by omega)
    have g4:v 4 = .pointer (some ⟨b2,ix*2,none⟩):=hg 4 (by omega)
    have g5:v 5 = .agg #[.int .i64 em,.int .i64 (ed:Int)]:=hg 5 (by omega)
    have g6:v 6 = .agg #[.int .i64 1,.int .i64 0]:=hg 6 (by omega)
    have g7:v 7 = .tuple #[.agg #[.int .i64 ym,.int .i64 (yd:Int)],.int .i64 0]:=hg 7 (by omega)
    have g8:v 8 = .tuple #[.agg #[.int .i64 ym,.int .i64 (yd:Int)],.int .i64 0]:=hg 8 (by omega)
    have g9:v 9 = .agg #[.int .i64 ym,.int .i64 (yd:Int)]:=hg 9 (by omega)
    have g10:v 10 = .int .i64 0:=hg 10 (by omega)
    obtain⟨gy,g11,glgy,hA9,_⟩:AlcD W8.heap.size 35 [.int .i64 0,.int .i64 0] (v 11) W10:=hg 11 (by omega)
    simp only[List.drop_succ_cons,List.drop_zero,putV,d19,g0,g1,g2,g3,g4,g5,g6,g7,g8,g9,g10,g11,Act.put]
    clear g0 g1 g2 g3 g4 g5 g6 g7 g8 g9 g10 g11 hg hIW;have hb:=hW;have hz8:W8.heap.size≤W10.heap.size:=hW.size;have hg38:g3<W8.heap.size:=HW8.out.lt;clear hW hen2 hen3;have HV10:=Lib.hid (HV8.out.below hb);have HB10:=Lib.hid (HB8.out.trans (hb.mono HB8.out.size));have HO110:=Lib.hid (HO18.out.below hb);have HD10:=Lib.hid (HD8.out.below hb);have HO210:=Lib.hid (HO28.out.below hb);have HW10:=Lib.hid (HW8.out.below hb);clear hb HV8 HB8 HO18 HD8 HO28 HW8
    obtain⟨_,hA2,_,hb2y,he,hfr⟩:=own_formE HO210.out (by omega)
    injection hA2 with hA2;injection hA2 with hA2;subst hA2;obtain⟨e3,e4⟩:=he ix hi;have f3:=hfr (ix*2);have f4:=hfr (ix*2+1);clear he hfr;have x0:=hA9.cell 0 _ rfl;have x1:=hA9.cell 1 _ rfl;have x0':=hA9.froz 0 _ rfl;have x1':=hA9.froz 1 _ rfl;have xz:=hA9.lt
    have n1:¬gy=b2:=by omega
    have n2:¬b2=gy:=by omega
    have n3:¬g3=gy:=by omega
    have n4:¬gy=g3:=by omega
    have n5:¬g3=b2:=by omega
    have n6:¬b2=g3:=by omega
    have hset:Frm (fun x=>x=gy) W10 ((W10.setCell ⟨gy,0,none⟩ (.int .i64 ym)).setCell ⟨gy,1,none⟩ (.int .i64 (yd:Int))):=(Frm.set _ _ _ _).trans (Frm.set _ _ _ _)
    have hoz:=hset.rowE HO210.out (by
     intro j hj h
     have h1:j=gy:=h;have h2:some b2=some j:=hj;injection h2 with h2
     omega)
    have HOz:=Lib.hid (hoz.stored ix ym yd)
    have hsetb:Frm (fun x=>x=b2) ((W10.setCell ⟨gy,0,none⟩ (.int .i64 ym)).setCell ⟨gy,1,none⟩ (.int .i64 (yd:Int))) ((((W10.setCell ⟨gy,0,none⟩ (.int .i64 ym)).setCell ⟨gy,1,none⟩ (.int .i64 (yd:Int))).setCell ⟨b2,ix*2,none⟩ (.int .i64 ym)).setCell ⟨b2,ix*2+1,none⟩ (.int .i64 (yd:Int))):=(Frm.set _ _ _ _).trans (Frm.set _ _ _ _)
    have HWz:=Lib.hid ((HW10.out.frm hset n3).frm hsetb n5);have hzB:=HB10.out.size
    have HBz:Hid (Below w.heap.size w ((((W10.setCell ⟨gy,0,none⟩ (.int .i64 ym)).setCell ⟨gy,1,none⟩ (.int .i64 (yd:Int))).setCell ⟨b2,ix*2,none⟩ (.int .i64 ym)).setCell ⟨b2,ix*2+1,none⟩ (.int .i64 (yd:Int)))):=bd_set (bd_set (bd_set (bd_set HB10.out (by omega) _) (by omega) _) (by omega) _) (by omega) _
    clear hset hsetb hoz hA9 HV10 HB10 HO110 HD10 HO210;have r0:=HW10.out.cell 0 _ rfl;have r1:=HW10.out.cell 1 _ rfl;have r2:=HW10.out.cell 2 _ rfl;have r3:=HW10.out.cell 3 _ rfl;have r4:=HW10.out.cell 4 _ rfl;have r5:=HW10.out.cell 5 _ rfl;have rz:=HW10.out.lt
    go_wp2_with (fail)
    refine (CVER.out (some ⟨b2,0,none⟩) cB _ HOz.out.elv.1).mono ?_
    rintro e wf ⟨rfl,hb⟩
    have HWf:=Lib.hid (HWz.out.below hb);have HBf:=Lib.hid (HBz.out.trans (hb.mono HBz.out.size))
    have hj1:(0:Int)≤(jj:Int):=by omega
    have hj2:(jj:Int)≤(m:Int):=by omega
    clear hb HWz HBz HOz e3 e4 f3 f4 x0 x1 x0' x1' xz;clear r0 r1 r2 r3 r4 r5 rz;have r0:=HWf.out.cell 0 _ rfl;have r1:=HWf.out.cell 1 _ rfl;have r2:=HWf.out.cell 2 _ rfl;have r3:=HWf.out.cell 3 _ rfl;have r4:=HWf.out.cell 4 _ rfl;have r5:=HWf.out.cell 5 _ rfl;have rz:=HWf.out.lt
    go_wp2_with (fail)
    go_ret
    exact⟨rfl,HBf.out⟩
 ·have CI:Hid (∀W:World,Calls Tryz.prog 63 #[.agg #[.int .i64 p,.int .i64 cI,.int .i64 hI,.int .i64 sI],.int .i64 k] W fun e w'=>e = .returned (.tuple #[.agg #[.int .i64 0,.int .i64 0,.int .i64 0,.int .i64 0,.int .i64 0,.slice none 0 0],.int .i64 (dbC p cI hI sI k)])∧Below W.heap.size W w'):=fun W=>(BuildDatabase_any p cI hI sI k W).mono fun e w' hr=>by
   obtain⟨hb,⟨_,rfl⟩|⟨h1,_⟩⟩:=hr
   ·exact⟨rfl,hb⟩
   ·exact absurd h1 h0
  have CS:Hid (∀W:World,Calls Tryz.prog 62 #[.agg #[.int .i64 p,.int .i64 cI,.int .i64 hI,.int .i64 sI],.int .i64 k] W fun e w'=>e = .returned (.tuple #[.agg #[.int .i64 0,.int .i64 0,.int .i64 0,.int .i64 0,.int .i64 0,.slice none 0 0],.int .i64 (dbC p cI hI sI k)])∧Below W.heap.size W w'):=fun W=>(sBuildDatabase_any p cI hI sI k W).mono fun e w' hr=>by
   obtain⟨hb,⟨_,rfl⟩|⟨h1,_⟩⟩:=hr
   ·exact⟨rfl,hb⟩
   ·exact absurd h1 h0
  generalize dbC p cI hI sI k=cd at *
  have b1:(cd != 0)=true:=by simp[h0]
  have b2:(cd != cd)=false:=by simp
  have HH0:=Lib.hid h0;clear h0
  refine (CI.out _).mono ?_
  rintro e w2 ⟨rfl,hb⟩
  have hg1:g1<V1.heap.size:=HV1.out.lt;have hz2:V1.heap.size≤w2.heap.size:=hb.size;have HV2:=Lib.hid (HV1.out.below hb);have HB2:=Lib.hid (HB1.out.trans (hb.mono HB1.out.size));clear hb HV1 HB1;obtain⟨W3,hW3⟩:∃W3,W3=w2.alloc (.cells #[.int .i64 0,.int .i64 0,.int .i64 0,.int .i64 0,.int .i64 0,.slice none 0 0] 85):=⟨_,rfl⟩
  have HD3:Hid (Cel W3 w2.heap.size [.int .i64 0,.int .i64 0,.int .i64 0,.int .i64 0,.int .i64 0,.slice none 0 0]):=by rw[hW3];exact Cel.new w2 #[.int .i64 0,.int .i64 0,.int .i64 0,.int .i64 0,.int .i64 0,.slice none 0 0] _
  have hb:Below w2.heap.size w2 W3:=by rw[hW3];exact (Below.refl _ _).alloc (Nat.le_refl _) _
  have hz3:w2.heap.size<W3.heap.size:=HD3.out.lt;have HV3:=Lib.hid (HV2.out.below hb);have HB3:=Lib.hid (HB2.out.trans (hb.mono HB2.out.size));clear hb HV2 HB2;subst hW3;have c0:=HV3.out.cell 0 _ rfl;have c1:=HV3.out.cell 1 _ rfl;have c2:=HV3.out.cell 2 _ rfl;have c3:=HV3.out.cell 3 _ rfl;have cz:=HV3.out.lt
  go_wp2_with (fail)
  generalize w2.alloc (.cells #[.int .i64 0,.int .i64 0,.int .i64 0,.int .i64 0,.int .i64 0,.slice none 0 0] 85)=W3 at *;generalize hg2:w2.heap.size=g2 at *;clear hg2;clear c0 c1 c2 c3 cz
  refine (CS.out _).mono ?_
  rintro e w4 ⟨rfl,hb⟩
  have hz4:W3.heap.size≤w4.heap.size:=hb.size;have HV4:=Lib.hid (HV3.out.below hb);have HB4:=Lib.hid (HB3.out.trans (hb.mono HB3.out.size));have HD4:=Lib.hid (HD3.out.below hb);clear hb HV3 HB3 HD3;obtain⟨W5,hW5⟩:∃W5,W5=w4.alloc (.cells #[.int .i64 0,.int .i64 0,.int .i64 0,.int .i64 0,.int .i64 0,.slice none 0 0] 85):=⟨_,rfl⟩
  have HWW5:Hid (Cel W5 w4.heap.size [.int .i64 0,.int .i64 0,.int .i64 0,.int .i64 0,.int .i64 0,.slice none 0 0]):=by rw[hW5];exact Cel.new w4 #[.int .i64 0,.int .i64 0,.int .i64 0,.int .i64 0,.int .i64 0,.slice none 0 0] _
  have hb:Below w4.heap.size w4 W5:=by rw[hW5];exact (Below.refl _ _).alloc (Nat.le_refl _) _
  have hz5:w4.heap.size<W5.heap.size:=HWW5.out.lt;have HV5:=Lib.hid (HV4.out.below hb);have HB5:=Lib.hid (HB4.out.trans (hb.mono HB4.out.size));have HD5:=Lib.hid (HD4.out.below hb);clear hb HV4 HB4 HD4
  go_upto_region 6 with (fail)
  rw[← hW5];generalize hg3:w4.heap.size=g3 at *;clear hW5 hg3;have q0:=HD5.out.cell 0 _ rfl;have q1:=HD5.out.cell 1 _ rfl;have q2:=HD5.out.cell 2 _ rfl;have q3:=HD5.out.cell 3 _ rfl;have q4:=HD5.out.cell 4 _ rfl;have q5:=HD5.out.cell 5 _ rfl;have qz:=HD5.out.lt;have r0:=HWW5.out.cell 0 _ rfl;have r1:=HWW5.out.cell 1 _ rfl;have r2:=HWW5.out.cell 2 _ rfl;have r3:=HWW5.out.cell 3 _ rfl;have r4:=HWW5.out.cell 4 _ rfl;have r5:=HWW5.out.cell 5 _ rfl;have rz:=HWW5.out.lt
  go_wp2_with (fail)
  go_ret
  exact⟨rfl,HB5.out⟩
end Go.Proofs.YtkaiilmgemaljaaGreat

/- Contracts of what the laws do with lists of exact numbers: they are held against each other, marked, and looked at again. There are no conditions. -/
import Derived.Test.YtkaiilmgemaljaaGreatJZl
import Derived.Test.YtkaiilmgemaljaaGreatJZv
set_option linter.unusedVariables false
set_option linter.unusedSimpArgs false
namespace Go.Proofs.YtkaiilmgemaljaaGreat
open Go.RowKit Ps Ra Ex
def seqE (k n:Nat):List E:=(List.range n).map fun i=>⟨((k+i*2:Nat):Int),k+i*2+1⟩
theorem seqE_length (k n:Nat):(seqE k n).length=n:=by simp[seqE]
theorem seqE_getD (k n i:Nat) (h:i<n):(seqE k n).getD i ⟨0,0⟩=⟨((k+i*2:Nat):Int),k+i*2+1⟩:=by simp[seqE,List.getD,h]
theorem mixE_step (k:Nat) (xs:List E) (i:Nat) (h:i<xs.length):(seqE k i++xs.drop i).set i ⟨((k+i*2:Nat):Int),k+i*2+1⟩=seqE k (i+1)++xs.drop (i+1):=by
 rw[List.set_append_right _ _ (by rw[seqE_length];omega),seqE_length,Nat.sub_self,List.drop_eq_getElem_cons h,List.set_cons_zero]
 simp[seqE,List.range_succ]
theorem exC_set:∀(xs:List E) (i:Nat) (m:Int) (d:Nat),((exC xs).set (i*2) (.int .i64 m)).set (i*2+1) (.int .i64 (d:Int))=exC (xs.set i ⟨m,d⟩)
 | [],i,m,d=>by simp[exC]
 | x::xs,0,m,d=>by simp[exC]
 | x :: xs, i + 1, m, d => by
   have ih := exC_set xs i m d
   rw [show (i + 1) * 2 = i * 2 + 2 by omega]
   simp only [exC, List.flatMap_cons, List.cons_append, List.nil_append, List.set_cons_succ] at ih ⊢
   rw [ih]
theorem OwnE.below {w w':World} {base:Nat} {v:Value} {xs:List E} (h:OwnE w base v xs) (hb:Below w.heap.size w w'):OwnE w' base v xs:=own_below h hb
theorem OwnE.elv {w:World} {base:Nat} {A:Option Addr} {n c:Nat} {xs:List E} (h:OwnE w base (.slice A n c) xs):EL (fun _=>False) w A n xs∧n≤c:=by
 obtain⟨A',c',hv,hel,hc⟩:=h.el;injection hv with h1 h2 h3;subst h1 h2 h3
 exact⟨hel,hc⟩
theorem own_formE {w:World} {base:Nat} {A:Option Addr} {n c:Nat} {xs:List E} (h:OwnE w base (.slice A n c) xs) (hn:0<n):∃g,A=some ⟨g,0,none⟩∧base≤g∧g<w.heap.size∧
  (∀j,j<n→w.cell? ⟨g,j*2,none⟩=some (.int .i64 (xs.getD j ⟨0,0⟩).num)∧w.cell? ⟨g,j*2+1,none⟩=some (.int .i64 (xs.getD j ⟨0,0⟩).depth))∧(∀j,w.frozen? ⟨g,j,none⟩=false):=by
 have hs:=h.elv.1;obtain⟨h1,h2⟩:=h
 rcases h2 with⟨h2,h3⟩|⟨g,cap,cur,hv,hb,hh,r⟩
 ·have:=hs.1;omega
 ·injection hv with hv1 hv2 hv3
  subst hv1
  refine⟨g,rfl,hb,(Array.getElem?_eq_some_iff.1 hh).1,fun j hj=>?_,fun j=>frozen_of_row w g j cur _ hh⟩
  obtain⟨b,off,hA,_,hc1,hc2⟩:=hs.at hj;injection hA with hA;injection hA with hA1 hA2;subst hA1 hA2
  simp only[Nat.zero_add]at hc1 hc2
  exact⟨hc1,hc2⟩
theorem grown_set {w wr:World} {g i:Nat} {u:Value} (hg:w.grownBy wr (some g)):w.grownBy (wr.setCell ⟨g,i,none⟩ u) (some g):=grown_trans' hg ⟨rfl,rfl,rfl,by simp,fun k _ hne=>Below.heap_setCell _ _ _ _ (fun h=>hne (by rw[h]))⟩
theorem OwnE.stored {w:World} {base:Nat} {g n c:Nat} {xs:List E} (h:OwnE w base (.slice (some ⟨g,0,none⟩) n c) xs) (j:Nat) (m:Int) (d:Nat):
  OwnE ((w.setCell ⟨g,j*2,none⟩ (.int .i64 m)).setCell ⟨g,j*2+1,none⟩ (.int .i64 (d:Int))) base (.slice (some ⟨g,0,none⟩) n c) (xs.set j ⟨m,d⟩):=by
 have hn:=h.elv.1.1;unfold OwnE at h ⊢;rw[hn]at h;have h1:=(World.ownsRow.stored h (j*2) (.int .i64 m)).1;have h2:=(World.ownsRow.stored h1 (j*2+1) (.int .i64 (d:Int))).1;rw[exC_set]at h2
 rw[show (xs.set j ⟨m,d⟩).length=n by rw[List.length_set,hn]]
 exact h2
set_option maxRecDepth 100000 in
theorem eqExactS_yes (A1 A2:Option Addr) (n c1 c2:Nat) (xs:List E) (w:World) (h1:EL (fun _=>False) w A1 n xs) (h2:EL (fun _=>False) w A2 n xs) (hn:n≤2000000):
  Calls Tryz.prog 150 #[.slice A1 n c1,.slice A2 n c2] w fun e w'=>e = .returned (.bool true)∧Below w.heap.size w w':=by
 have H1:=Lib.hid h1;have H2:=Lib.hid h2;clear h1 h2
 have hne:((n:Int) != (n:Int))=false:=by simp
 go_enter Tryz.func150,Tryz.ntmps150
 go_wp2_with (fail)
 go_loopw [5] (fun i wr=>∃k:Nat,k≤n∧i = .int .i64 k∧Below w.heap.size w wr) (fun i _=>n-(intOf i).toNat)
 case atStart=>exact⟨0,by omega,rfl,Below.refl _ _⟩
 case round=>
  obtain⟨k,hk,rfl,hb⟩:=hrel
  by_cases hlt:k<n
  ·obtain⟨x1,o1,rfl,hb1,q1,q2⟩:=(H1.out.below hb).at hlt
   obtain⟨x2,o2,rfl,hb2,q3,q4⟩:=(H2.out.below hb).at hlt
   have hki:(k:Int)<(n:Int):=by omega
   have hk0:(0:Int)≤(k:Int):=by omega
   have HB:=Lib.hid hb;clear hb;generalize (xs.getD k ⟨0,0⟩).num=u1 at *;generalize ((xs.getD k ⟨0,0⟩).depth:Int)=u2 at *
   go_wp2_with (fail)
   refine wp_region_more (by kernel_rfl) (by kernel_rfl) ?_
   repeat (first|go_big_quiet_step ((go_at_call 60;exact more_call (eqExact_yes _ _ _)))|quiet_step ((go_at_call 60;exact more_call (eqExact_yes _ _ _))))
   refine wpQuiet_nil ?_
   intro _ hw'
   obtain⟨tq,hw''⟩:=hw';subst hw'';have hbm:=below_more wr tq
   go_wp2
   go_roundw
   case rel=>exact⟨k+1,by omega,by go_num,HB.out.trans (hbm.mono HB.out.size)⟩
   case measure=>simp[intOf];omega
  ·go_wp2
   go_ret
   exact⟨rfl,hb⟩
set_option maxRecDepth 100000 in
theorem markExactS_any (A:Option Addr) (n c base:Nat) (xs:List E) (k:Nat) (w:World) (hown:OwnE w base (.slice A n c) xs) (hn:n≤2000000) (hk:k≤100000000):
  Calls Tryz.prog 151 #[.slice A n c,.int .i64 k] w fun en w'=>en = .returned (.int .i64 ((k+n*2:Nat):Int))∧OwnE w' base (.slice A n c) (seqE k n)∧w.grownBy w' (Value.slice A n c).ownBlock:=by
 have hl:=hown.elv.1.1;have HL:=Lib.hid hl;have HO:=Lib.hid hown;clear hl hown
 go_enter Tryz.func151,Tryz.ntmps151
 go_wp2_with (fail)
 go_loopw [1,5] (fun q i wr=>∃j:Nat,j≤n∧i = .int .i64 j∧q = .int .i64 ((k+j*2:Nat):Int)∧OwnE wr base (.slice A n c) (seqE k j++xs.drop j)∧w.grownBy wr (Value.slice A n c).ownBlock) (fun _ i _=>n-(intOf i).toNat)
 case atStart=>exact⟨0,by omega,rfl,by simp,by simpa[seqE]using HO.out,World.grownBy.refl _ _⟩
 case round=>
  obtain⟨j,hj,rfl,rfl,ho,hg⟩:=hrel
  by_cases hlt:j<n
  ·obtain⟨g,rfl,hg1,hg2,hcl,hfr⟩:=own_formE ho (by omega)
   obtain⟨q1,q3⟩:=hcl j hlt;have q2:=hfr (j*2);have q4:=hfr (j*2+1)
   have hki:(j:Int)<(n:Int):=by omega
   have hk0:(0:Int)≤(j:Int):=by omega
   have HN:=Lib.hid (ho.stored j ((k+j*2:Nat):Int) (k+j*2+1));have HG:Hid (w.grownBy ((wr.setCell ⟨g,j*2,none⟩ (.int .i64 ((k+j*2:Nat):Int))).setCell ⟨g,j*2+1,none⟩ (.int .i64 ((k+j*2+1:Nat):Int))) (some g)):=grown_set (grown_set hg)
   have HM:=Lib.hid (mixE_step k xs j (by rw[HL.out];exact hlt))
   clear hcl hfr ho hg;generalize ((seqE k j++xs.drop j).getD j ⟨0,0⟩).num=u1 at *;generalize (((seqE k j++xs.drop j).getD j ⟨0,0⟩).depth:Int)=u2 at *
   have hs1:((k+j*2:Nat):Int)+1=((k+j*2+1:Nat):Int):=by omega
   have HS:=Lib.hid hs1
   have hs2:((k+j*2:Nat):Int)+1+1=((k+(j+1)*2:Nat):Int):=by omega
   have HS2:=Lib.hid hs2;clear hs1 hs2
   have hb0:0≤((k+j*2:Nat):Int):=by omega
   have hb1:((k+j*2:Nat):Int)≤200000000:=by omega
   rw[← HS.out]at HN HG;clear HS;generalize hkj:((k+j*2:Nat):Int)=K at *
   go_wp2
   go_roundw
   case rel=>exact⟨j+1,by omega,by go_num,by rw[← HS2.out]<;>first|rfl|go_num,by rw[← HM.out];exact HN.out,HG.out⟩
   case measure=>simp[intOf];omega
  ·obtain rfl:j=n:=by omega
   have HF:Hid (OwnE wr base (.slice A j c) (seqE k j)):=by
    have:=ho
    rw[List.drop_eq_nil_of_le (by rw[HL.out];exact Nat.le_refl _),List.append_nil]at this
    exact this
   have HG:=Lib.hid hg;clear ho hg;generalize hkj:((k+j*2:Nat):Int)=K at *;have HK:=Lib.hid hkj;clear hkj
   go_wp2
   go_ret
   exact⟨ret_int (by have:=HK.out;omega),HF.out,HG.out⟩
set_option maxRecDepth 100000 in
theorem heldExactS_yes (A:Option Addr) (n c k:Nat) (w:World) (hx:EL (fun _=>False) w A n (seqE k n)) (hn:n≤2000000) (hk:k≤100000000):
  Calls Tryz.prog 152 #[.slice A n c,.int .i64 k] w fun e w'=>e = .returned (.int .i64 ((k+n*2:Nat):Int))∧w=w':=by
 have HX:=Lib.hid hx;clear hx
 go_enter Tryz.func152,Tryz.ntmps152
 go_wp2_with (fail)
 go_loop [1,5] (fun q i=>∃j:Nat,j≤n∧i = .int .i64 j∧q = .int .i64 ((k+j*2:Nat):Int)) (fun _ i=>n-(intOf i).toNat)
 case atStart=>exact⟨0,by omega,rfl,by simp⟩
 case round=>
  obtain⟨j,hj,rfl,rfl⟩:=hrel
  by_cases hlt:j<n
  ·obtain⟨x1,o1,rfl,hb1,q1,q2⟩:=HX.out.at hlt
   rw[seqE_getD k n j hlt]at q1 q2
   simp only at q1 q2
   have hs2:((k+j*2:Nat):Int)+1+1=((k+(j+1)*2:Nat):Int):=by omega
   have HS2:=Lib.hid hs2;clear hs2
   have hb0:0≤((k+j*2:Nat):Int):=by omega
   have hb1:((k+j*2:Nat):Int)≤200000000:=by omega
   rw[show ((k+j*2+1:Nat):Int)=((k+j*2:Nat):Int)+1 by omega]at q2
   generalize hkj:((k+j*2:Nat):Int)=K at *
   have hne:(K != K)=false:=by simp
   have hne2:(K+1 != K+1)=false:=by simp
   go_wp2
   go_round
   case rel=>exact⟨j+1,by omega,by go_num,by rw[← HS2.out]<;>first|rfl|go_num⟩
   case measure=>simp[intOf];omega
  ·obtain rfl:j=n:=by omega
   generalize hkj:((k+j*2:Nat):Int)=K at *;have HK:=Lib.hid hkj;clear hkj
   go_wp2
   go_ret
   exact⟨ret_int (by have:=HK.out;omega),rfl⟩
theorem Frm.rowE {S:Nat→Prop} {w w':World} {base:Nat} {v:Value} {xs:List E} (h:Frm S w w') (ho:OwnE w base v xs) (hn:∀k,v.ownBlock=some k→¬S k):OwnE w' base v xs:=h.row ho hn
theorem Cel.frm {S:Nat→Prop} {W W':World} {g:Nat} {cs:List Value} (h:Cel W g cs) (hf:Frm S W W') (hn:¬S g):Cel W' g cs:=
 ⟨Nat.lt_of_lt_of_le h.lt hf.size,fun i x hx=>hf.cell' (h.cell i x hx) hn,fun i x hx=>(frm_froz hf h.lt hn).trans (h.froz i x hx)⟩
/-! ### what a drawn region's call hands back -/
end Go.Proofs.YtkaiilmgemaljaaGreat

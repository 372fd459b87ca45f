/- Plain facts: every number below the count is the number of a position. No program is in sight; there are no conditions beyond those that each states. -/
import Derived.Test.YtkaiilmgemaljaaGreatPZp
import Derived.Test.YtkaiilmgemaljaaGreatPZm
import Derived.Test.YtkaiilmgemaljaaGreatPZa
set_option linter.unusedVariables false
set_option linter.unusedSimpArgs false
namespace Go.Proofs.YtkaiilmgemaljaaGreat.Ps
theorem sumW_shift (i l:Nat):∀x,sumW i (l+1) (x+1)=wys i (l+1)+sumW i l x
 | 0=>by simp[sumW]
 | x + 1 => by
   rw [sumW_succ, sumW_shift i l x, sumW_succ, show l + 1 - (x + 1) = l - x by omega]
   omega
theorem numT_sur:∀(h left n:Nat),n<wys h left→∃l:List Int,l.length=h∧(∀x∈l,0≤x)∧l.sum≤left∧numT l left=n:=by
 intro h
 induction h with
 | zero =>
   intro left n hn
   rw [wys_zero] at hn
   exact ⟨[], rfl, (fun x hx => by cases hx), by simp, by simp [numT]; omega⟩
 | succ h ih =>
   have zero : ∀ left n, n < wys h left → ∃ l : List Int, l.length = h + 1 ∧ (∀ x ∈ l, 0 ≤ x) ∧ l.sum ≤ left ∧ numT l left = n := by
     intro left n hn
     obtain ⟨l, h1, h2, h3, h4⟩ := ih left n hn
     refine ⟨0 :: l, by simp [h1], fun x hx => ?_, by simpa using h3, ?_⟩
     · rcases List.mem_cons.1 hx with rfl | hx
       · omega
       · exact h2 x hx
     · rw [numT_cons]
       simpa [sumW] using h4
   intro left
   induction left with
   | zero => intro n hn; rw [wys_succ_zero] at hn; exact zero 0 n hn
   | succ left ih2 =>
     intro n hn
     rw [wys_succ] at hn
     by_cases hw : n < wys h (left + 1)
     · exact zero _ n hw
     · obtain ⟨l, h1, h2, h3, h4⟩ := ih2 (n - wys h (left + 1)) (by omega)
       cases l with
       | nil => simp at h1
       | cons x r =>
         have hx := h2 x (by simp)
         refine ⟨(x + 1) :: r, by simpa using h1, fun y hy => ?_, ?_, ?_⟩
         · rcases List.mem_cons.1 hy with rfl | hy
           · omega
           · exact h2 y (by simp [hy])
         · simp only [List.sum_cons] at h3 ⊢
           omega
         · rw [numT_cons] at h4 ⊢
           have hl : r.length = h := by simpa using h1
           rw [hl] at h4 ⊢
           rw [show (x + 1).toNat = x.toNat + 1 by omega, sumW_shift, show left + 1 - (x.toNat + 1) = left - x.toNat by omega]
           omega
theorem num_sur {h c n:Nat} (hn:n<wys h c):∃p,PosP h c p∧num c p=n:=by
 obtain⟨l,h1,h2,h3,h4⟩:=numT_sur h c n hn
 refine⟨l.reverse,⟨by simp[h1],fun x hx=>h2 x (by simpa using hx),by rw[List.sum_reverse];exact h3⟩,?_⟩
 unfold num;rw[List.reverse_reverse]
 exact h4
end Go.Proofs.YtkaiilmgemaljaaGreat.Ps
namespace Go.Proofs.YtkaiilmgemaljaaGreat
open Go.RowKit Ps
theorem getD_eq_of {xs ys:List Int} (hl:xs.length=ys.length) (h:∀j,xs.getD j 0=ys.getD j 0):xs=ys:=by
 refine List.ext_getElem hl fun i h1 h2=>?_
 have:=h i
 simpa[List.getD,h1,h2]using this
theorem getD_set_ne' (xs:List Int) (v:Int) {i j:Nat} (h:i≠j):(xs.set i v).getD j 0=xs.getD j 0:=by simp[List.getD,List.getElem?_set_ne h]
set_option maxRecDepth 100000 in
set_option maxHeartbeats 2000000 in
theorem l10At_any (p s:Int) (c h:Nat) (xs:List Int) (w:World) (hp:PosP h c xs) (hc:c≤15) (hh:h≤24) (hw6:wys h c≤1000000):
  Calls Tryz.prog 143 #[.agg #[.int .i64 p,.int .i64 c,.int .i64 h,.int .i64 s],.int .i64 (num c xs)] w (RetO w 2 xs):=by
 obtain⟨i0,hi,hz0,hz1,hz2⟩:=info_parts Tryz.infoI
 have HF0:Hid (Fr w (w.alloc (.cells #[.int .i64 p,.int .i64 c,.int .i64 h,.int .i64 s] 25)) [[.int .i64 p,.int .i64 c,.int .i64 h,.int .i64 s]]):=(Fr.start w).allocT (by simp) _ _
 have hlen:=hp.1;have hbd:num c xs<wys h c:=num_lt hp
 have HW:Hid (∀i m,i≤h→m≤c→wys i m≤wys h c):=fun i m hi hm=>wys_mono hi hm
 have HP:=Lib.hid hp
 have HN:Hid (numT (xs.take h).reverse c=num c xs):=by unfold Hid num;rw[List.take_of_length_le (by omega)]
 have HS:Hid ((xs.take h).sum≤c):=by unfold Hid;rw[List.take_of_length_le (by omega)];exact hp.2.2
 have HPN:Hid (∀k,0≤(xs.take k).sum):=fun k=>sum_take_nonneg xs k hp.2.1
 have HL:=Lib.hid hlen;clear hp hlen;obtain⟨N,hN⟩:∃N,N=num c xs:=⟨_,rfl⟩;rw[← hN]at hbd HN ⊢;clear hN
 go_enter Tryz.func143,Tryz.ntmps143
 obtain⟨z0,c00,f00,c01,f01,c02,f02,c03,f03⟩:=HF0.out.xf2
 go_wp2_with (at_make;refine wpList_make_full _ rfl _ _ 26 rfl w.heap.size 2 i0 (.int .i64 0) 1 Tryz.underlying26 hi hz0 hz1 _ _ _ _ h rfl rfl (by omega) (by omega) (by rw[hz2];omega) (by unfold maxLen;omega) (by simp) ?_;intro w1 hown hgrow;have HF1:=Lib.hid (HF0.out.below ((Below.refl _ _).grown hgrow (by simp) (by simp)));have y1:=HF1.out.c0 1 rfl;have yz:=HF1.out.l0 (by simp))
 have HO1:Hid (OwnS w1 w.heap.size 2 (.slice (some ⟨w.heap.size+1,0,none⟩) h h) (List.replicate h 0)):=by
  unfold Hid OwnS
  simp only[List.length_replicate,List.map_replicate]
  have e:(madeCells (Value.int .i64 0).cells (h*1)).toList=List.replicate h (Value.int .i64 0):=by rw[Nat.mul_one];exact toList_madeCells_one _ _
  rw[e]at hown
  simpa using hown
 clear z0 c00 f00 c01 f01 c02 f02 c03 f03;clear hown hgrow HF0 y1 yz;obtain⟨g,hg⟩:∃g,g=w.heap.size+1:=⟨_,rfl⟩;rw[← hg]at HO1 ⊢
 have HG:Hid (w.heap.size≤g):=by unfold Hid;omega
 clear hg;have HB1:=Lib.hid HF1.out.b;clear HF1
 go_loopw [1,6,7,8] (fun v1 v6 v7 v8 wr=>∃(k nn lf:Nat) (ys:List Int),k≤h∧lf≤c∧v7 = .int .i64 ((k:Int)-1)∧v6 = .int .i64 lf∧v1 = .int .i64 nn∧Hid (nn=numT (xs.take k).reverse lf)∧nn<wys h c∧Hid ((xs.take k).sum≤lf)∧Hid (ys.length=h∧(∀j,k≤j→ys.getD j 0=xs.getD j 0))∧Hid (OwnS wr w.heap.size 2 (.slice (some ⟨g,0,none⟩) h h) ys)∧Hid (Below w.heap.size w wr)) (fun _ _ v7 _ _=>(intOf v7+1).toNat)
 case atStart=>exact⟨h,N,c,List.replicate h 0,by omega,by omega,rfl,rfl,rfl,HN.out.symm,hbd,HS.out,⟨by simp,fun j hj=>by simp[List.getD,show ¬j<h by omega,HL.out]⟩,HO1.out,HB1.out⟩
 case round=>
  clear HO1 HB1;obtain⟨k,nn,lf,ys,hk,hlf,hi7,rfl,rfl,hnum,hnlt,hs,hys,HO,HB⟩:=hrel
  rcases k with _|j
  ·rw[show ((0:Nat):Int)-1 = -1 from rfl]at hi7
   subst hi7
   have HR:Hid (RetO w 2 xs (.returned (.slice (some ⟨g,0,none⟩) h h)) wr):=by
    have e:ys=xs:=getD_eq_of (by rw[hys.out.1,HL.out]) fun j=>hys.out.2 j (by omega)
    have h1:=HO.out;rw[e]at h1
    exact RetO.mk h1 HB.out
   clear HO HB hys
   go_wp2_with (fail)
   go_ret
   exact HR.out
  ·rw[show ((j+1:Nat):Int)-1=(j:Int) by omega]at hi7
   subst hi7
   have e1:=numT_take (p:=xs) (i:=j) (left:=lf) (by rw[HL.out];omega)
   have e2:=sumT_take (p:=xs) (i:=j) (by rw[HL.out];omega)
   have e3:=HPN.out j
   have e4:=HP.out.2.1 _ (getD_mem xs j (by rw[HL.out];omega))
   obtain⟨x,hx⟩:∃x:Nat,xs.getD j 0=(x:Int):=⟨(xs.getD j 0).toNat,by omega⟩
   rw[hx]at e1 e2 e4
   simp only[Int.toNat_natCast]at e1
   have e5:=hs.out;rw[e2]at e5
   have hxl:x≤lf:=by omega
   have hrest:numT (xs.take j).reverse (lf-x)<wys j (lf-x):=by
    have:=numT_lt (xs.take j).reverse (lf-x) (fun y hy=>HP.out.2.1 y (List.mem_of_mem_take (List.mem_reverse.1 hy))) (by rw[List.sum_reverse];omega)
    rwa [List.length_reverse,List.length_take,HL.out,show min j h=j by omega]at this
   obtain⟨R,hR⟩:∃R,R=numT (xs.take j).reverse (lf-x):=⟨_,rfl⟩
   have hnum':Hid (nn=sumW j lf x+R):=by have:=hnum.out;rw[e1,← hR]at this;exact this
   rw[← hR]at hrest;have HRR:=Lib.hid hR
   have hs':Hid ((xs.take j).sum≤((lf-x:Nat):Int)):=by unfold Hid;omega
   have HM:Hid (∀d,d≤x→sumW j lf d≤sumW j lf x):=fun d hd=>sumW_mono hd
   have HX:=Lib.hid hx;clear e1 e2 e3 e4 e5 hx hnum hs hR;obtain⟨wa,hwa⟩:∃wa:World,wa=wr:=⟨_,rfl⟩;rw[← hwa]at HO HB ⊢;clear hwa
   go_wp2_with (fail)
   go_loopw [1,8] (fun v1 v8 wb=>∃d n1:Nat,wb=wa∧d≤x∧v8 = .int .i64 d∧v1 = .int .i64 n1∧n1≤nn∧Hid (n1+sumW j lf d=nn)) (fun _ v8 _=>x-(intOf v8).toNat)
   case atStart=>exact⟨0,nn,rfl,by omega,rfl,rfl,by omega,by simp[Hid,sumW]⟩
   case round=>
    obtain⟨d,n1,rfl,hd,rfl,rfl,hn1,HD⟩:=hrel
    have hsub:((lf:Int)-(d:Int))=((lf-d:Nat):Int):=by omega
    have hm1:=HM.out d hd
    have CL:=Lib.hid fun (W:World)=>(show Calls Tryz.prog 167 #[.int .i64 ((lf-d:Nat):Int),.int .i64 j] W (fun e w'=>e = .returned (.int .i64 (wys j (lf-d)))∧W=w') from by have h1:=l10Ways_any j (lf-d) W (by omega) (by omega);rw[wysC_ok (Nat.le_trans (HW.out _ _ (by omega) (by omega)) hw6)]at h1;exact h1)
    have hwl:=HW.out j (lf-d) (by omega) (by omega)
    have E:=Lib.hid (sumW_succ j lf d)
    by_cases hdx:d<x
    ·have hm2:=HM.out (d+1) (by omega)
     have hge:wys j (lf-d)≤n1:=by
      have h1:=HD.out;have h2:=hnum'.out;rw[E.out]at hm2
      omega
     have HD2:Hid ((n1-wys j (lf-d))+sumW j lf (d+1)=nn):=by unfold Hid;rw[E.out];have:=HD.out;omega
     have hgi:((wys j (lf-d):Nat):Int)≤(n1:Int):=by omega
     clear hm1 hm2 E HD;generalize wys j (lf-d)=wj at *
     go_wp2_with (go_at_call 167;(try rw[hsub]);refine (CL.out _).mono ?_;rintro e w' ⟨rfl,rfl⟩)
     go_roundw
     case rel=>exact⟨d+1,n1-wj,trivial,by omega,by go_num,by go_num,by omega,HD2.out⟩
     case measure=>(simp[intOf])<;>omega
    ·have hdx2:d=x:=by omega
     subst hdx2
     have hn1R:n1=R:=by have h1:=HD.out;have h2:=hnum'.out;omega
     subst hn1R
     have hlt:¬((wys j (lf-d):Nat):Int)≤(n1:Int):=by omega
     obtain⟨ga,ea,_,_,hcl,hfr⟩:=own_form HO.out (by omega)
     cases ea
     have yc:=hcl j (by omega)
     have yf:=hfr j;have HO2:=Lib.hid (HO.out.stored j (d:Int));have HB2:Hid (Below w.heap.size w (wr.setCell ⟨g,j,none⟩ (.int .i64 d))):=HB.out.setCell HG.out _
     have hys2:Hid ((ys.set j (d:Int)).length=h∧∀i,j≤i→(ys.set j (d:Int)).getD i 0=xs.getD i 0):=by
      refine⟨by rw[List.length_set];exact hys.out.1,fun i hi=>?_⟩
      by_cases e:i=j
      ·subst e
       rw[HX.out]
       simp[List.getD,show i<ys.length by rw[hys.out.1];omega]
      ·rw[getD_set_ne' ys (d:Int) (Ne.symm e)]
       exact hys.out.2 i (by omega)
     clear hcl hfr E HD hm1 hnum' HO HB hys;generalize wys j (lf-d)=wj at *;generalize ys.getD j 0=yv at *
     go_wp2_with (go_at_call 167;(try rw[hsub]);refine (CL.out _).mono ?_;rintro e w' ⟨rfl,rfl⟩)
     go_roundw
     case rel=>exact⟨j,n1,lf-d,ys.set j (d:Int),by omega,by omega,by go_num,by go_num,rfl,HRR.out,by omega,hs'.out,hys2.out,HO2.out,HB2.out⟩
     case measure=>(simp[intOf])<;>omega
end Go.Proofs.YtkaiilmgemaljaaGreat

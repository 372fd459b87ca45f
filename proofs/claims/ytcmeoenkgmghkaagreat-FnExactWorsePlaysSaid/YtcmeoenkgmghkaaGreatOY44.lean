/- Part of one proof. There are no conditions. -/
import Derived.Test.YtcmeoenkgmghkaaGreatOY35
set_option maxHeartbeats 0
set_option linter.unusedVariables false
set_option linter.unusedSimpArgs false
set_option maxRecDepth 100000
open Go.Value renaming int->d,slice->l,agg->C
open Go.IntKind renaming i64->m
open Go.Obj renaming cells->z
open Go.Ending renaming returned->B
open Go renaming World->jz,Value->j0,Calls->j1
open Nat renaming le_refl->j2,lt_of_lt_of_le->qa
open Go.RowKit.Below renaming refl->qb
open Go.Proofs.Tryz renaming prog->qc
namespace Go.Proofs.YtcmeoenkgmghkaaGreat
open Go.RowKit Pl Ps Ra Ex
theorem kC(p c h s tu ra rb:Int)(A1 A2:Option Addr)(n1 c1 n2 c2:Nat)(own other:List Int)(w:jz)(h1:SL w A1 n1 own)(h2:SL w A2 n2 other)(hc1:n1<=c1)(hc2:n2<=c2)(hm1:n1<=2000000)(hm2:n2<=2000000):
  j1 qc 31 #[C #[d m p,d m c,d m h,d m s],C #[l A1 n1 c1,l A2 n2 c2],C #[d m ra,d m rb],d m tu] w (RetWP w (wpR p c h s own other tu ra rb)):=by
 obtain⟨i0,hi,hz0,hz1,hz2⟩:=info_parts Tryz.infoI;obtain⟨PR,hPR⟩:∃PR,PR=piR p c h s own other tu ra rb:=⟨_,rfl⟩;have HP0:=piR_ok p c h s own other tu ra rb;rw[<-hPR]at HP0
 have CP:Hid (∀W:jz,Below w.heap.size w W->j1 qc 16 #[C #[d m p,d m c,d m h,d m s],C #[l A1 n1 c1,l A2 n2 c2],C #[d m ra,d m rb],d m tu] W (RetPX W PR)):=fun W hw=>by rw[hPR];exact iS p c h s tu ra rb A1 A2 n1 c1 n2 c2 own other W (h1.below hw) (h2.below hw) hc1 hc2 hm1 hm2
 have HF:Hid (Fr w (((w.alloc (z #[d m p,d m c,d m h,d m s] 33)).alloc (z #[l A1 n1 c1,l A2 n2 c2] 35)).alloc (z #[d m ra,d m rb] 37)) [[d m p,d m c,d m h,d m s],[l A1 n1 c1,l A2 n2 c2],[d m ra,d m rb]]):=(((Fr.start w).allocT (by simp) _ _).allocT (by simp) _ _).allocT (by simp) _ _
 have HCR:Hid (wpR p c h s own other tu ra rb=wpP s.toNat PR):=by unfold Hid wpR;rw[hPR]
 generalize wpR p c h s own other tu ra rb=RR at *;clear hPR h1 h2
 go_enter Tryz.func31,Tryz.ntmps31
 go_wp2_with (fail)
 refine(CP.out _ HF.out.b).mono ?_
 rintro e w2 ⟨vL,rfl,hrow,hb⟩
 have HF2:=h_ (HF.out.below hb);have hrow2:=RowO.low hrow (lo':=w.heap.size) HF.out.b.size;clear hb HF CP hrow;obtain⟨Z,o⟩:=PR
 rcases HP0 with⟨s',L,hss,hZ,hs1,hs3,hne,hll,hv⟩|⟨hZ,ho⟩
 ·obtain⟨rfl,rfl⟩:Z=0/\o=some L:=by
   injection hZ with h1 h2
   exact⟨h1,h2⟩
  subst hss;rw[Int.toNat_natCast]at HCR
  have hs6:s'<=6:=by omega
  obtain⟨vx,hvx⟩:∃vx,vx=vL:=⟨_,rfl⟩
  obtain⟨Al,kl,rfl,hsl,hkl⟩:=aY (S:=fun _=>False) hrow2 (fun _ _ h=>h) (by omega)
  have hlpos:0<L.length:=List.length_pos_iff.2 hne
  obtain⟨bl,ol,rfl,hbl,hbs,hcell⟩:=hsl.2 (by omega)
  have HCL:=h_ hcell;have HVL:=h_ hv;obtain⟨nl,hnl⟩:∃nl,nl=L.length:=⟨_,rfl⟩;have HNL:=h_ hnl;rw[<-hnl]at hll hkl hlpos ⊢;clear hcell hsl hv hnl hZ hvx vx hrow2 hbl hbs hne;have HF2LE:Hid (w.heap.size<=w2.heap.size):=HF2.out.b.size;have HST:Hid (w2.ownsRow w2.heap.size 2 1 (l none 0 0) (filtF (aU (sq s') L) 0).length ((filtF (aU (sq s') L) 0).map (Value.int m))):=World.ownsRow_nil _ _ _ _
  go_wp2_with (fail)
  go_loopw [12,30] (fun v12 v30 wr=>∃q:Nat,q<=nl/\v30=d m (q:Int)/\(∃vx,vx=v12/\Hid (wr.ownsRow w2.heap.size 2 1 vx (filtF (aU (sq s') L) q).length ((filtF (aU (sq s') L) q).map (Value.int m))))/\Hid (Below w2.heap.size w2 wr)) (fun _ v30 _=>nl-(intOf v30).toNat)
  case atStart=>exact⟨0,by omega,rfl,⟨_,rfl,HST.out⟩,qb _ _⟩
  case round=>
   clear HST;obtain⟨q,hq,rfl,⟨vx,rfl,HOq⟩,HBq⟩:=hrel
   by_cases hlt:q<nl
   ·have hqi:(q:Int)<(nl:Int):=by omega
    have hzq:w2.heap.size<=wr.heap.size:=HBq.out.size
    obtain⟨i1,i2,i3,i4⟩:=cY L q (by have:=HNL.out;omega)
    have HFB:=Frm.of_below HBq.out
    have x0:=HFB.cell' (HCL.out (q*4) (by have:=HNL.out;omega)) id
    have x1:=HFB.cell' (HCL.out (q*4+1) (by have:=HNL.out;omega)) id
    have x2:=HFB.cell' (HCL.out (q*4+2) (by have:=HNL.out;omega)) id
    have x3:=HFB.cell' (HCL.out (q*4+3) (by have:=HNL.out;omega)) id
    rw[i1]at x0
    rw[i2,show ol+(q*4+1)=ol+q*4+1 by omega]at x1
    rw[i3,show ol+(q*4+2)=ol+q*4+2 by omega]at x2
    rw[i4,show ol+(q*4+3)=ol+q*4+3 by omega]at x3
    have hvx:=(HVL.out _ (ak L (aj,aj) (show q<L.length by have:=HNL.out;omega))).1
    obtain⟨⟨⟨xn,xd⟩,⟨xm,xe⟩⟩,hx⟩:∃y,y=L.getD q (aj,aj):=⟨_,rfl⟩;rw[<-hx]at x0 x1 x2 x3 hvx
    simp only at x0 x1 x2 x3
    have HXL:=h_ hx;have HVX:=h_ hvx;clear i1 i2 i3 i4 HFB hx hvx;obtain⟨wx,hwx⟩:∃wx,wx=wr.heap.size:=⟨_,rfl⟩;obtain⟨wo,hwo⟩:∃wo,wo=wr.alloc (z #[d m xn,d m (xd:Int),d m xm,d m (xe:Int)] 47):=⟨_,rfl⟩
    have HXo:Hid (Cel wo wx [d m xn,d m (xd:Int),d m xm,d m (xe:Int)]):=by rw[hwo,hwx];exact Cel.new wr #[d m xn,d m (xd:Int),d m xm,d m (xe:Int)] 47
    have HBo:Hid (Below w2.heap.size w2 wo):=by rw[hwo];exact HBq.out.alloc hzq _
    have HOo:Hid (wo.ownsRow w2.heap.size 2 1 vx (filtF (aU (sq s') L) q).length ((filtF (aU (sq s') L) q).map (Value.int m))):=by rw[hwo];exact row_alloc HOq.out _
    have HIN0:Hid (∀j,j<0->j≠q->0<=cmpE (sq s') (L.getD q (aj,aj)).2 (L.getD j (aj,aj)).1):=fun j hj=>absurd hj (by omega)
    go_wp2_with (fail)
    rw[<-hwo,<-hwx];clear hwo hwx HBq hzq x0 x1 x2 x3 HOq
    go_loopw [12,37] (fun v12 v37 wr=>∃k:Nat,k<=nl/\v12=vx/\v37=d m (k:Int)/\Hid (∀j,j<k->j≠q->0<=cmpE (sq s') (L.getD q (aj,aj)).2 (L.getD j (aj,aj)).1)/\Hid (Cel wr wx [d m xn,d m (xd:Int),d m xm,d m (xe:Int)])/\Hid (wr.ownsRow w2.heap.size 2 1 vx (filtF (aU (sq s') L) q).length ((filtF (aU (sq s') L) q).map (Value.int m)))/\Hid (Below w2.heap.size w2 wr)) (fun _ v37 _=>nl-(intOf v37).toNat)
    case atStart=>exact⟨0,by omega,rfl,rfl,HIN0.out,HXo.out,HOo.out,HBo.out⟩
    case round=>
     clear HIN0 HXo HBo HOo;obtain⟨k,hk,hv12,rfl,HIN,HXk,HOk,HBk⟩:=hrel;replace hv12:=hv12.symm;subst hv12
     by_cases hkl2:k<nl
     ·have hki:(k:Int)<(nl:Int):=by omega
      obtain⟨i1,i2,i3,i4⟩:=cY L k (by have:=HNL.out;omega)
      have HFB:=Frm.of_below HBk.out
      have y0:=HFB.cell' (HCL.out (k*4) (by have:=HNL.out;omega)) id
      have y1:=HFB.cell' (HCL.out (k*4+1) (by have:=HNL.out;omega)) id
      have y2:=HFB.cell' (HCL.out (k*4+2) (by have:=HNL.out;omega)) id
      have y3:=HFB.cell' (HCL.out (k*4+3) (by have:=HNL.out;omega)) id
      rw[i1]at y0
      rw[i2,show ol+(k*4+1)=ol+k*4+1 by omega]at y1
      rw[i3,show ol+(k*4+2)=ol+k*4+2 by omega]at y2
      rw[i4,show ol+(k*4+3)=ol+k*4+3 by omega]at y3
      have hvy:=(HVL.out _ (ak L (aj,aj) (show k<L.length by have:=HNL.out;omega))).1
      obtain⟨⟨⟨yn,yd⟩,⟨ym,ye⟩⟩,hy⟩:∃y,y=L.getD k (aj,aj):=⟨_,rfl⟩;rw[<-hy]at y0 y1 y2 y3 hvy
      simp only at y0 y1 y2 y3
      have HYL:=h_ hy;have HVY:=h_ hvy;clear i1 i2 i3 i4 HFB hy hvy
      have CC0:=fun(W:jz)=>cn p c h xm yn s' xe yd W hs1 hs6 HVX.out.2 HVY.out.1
      have HCM0:cmpE (sq s') (L.getD q (aj,aj)).2 (L.getD k (aj,aj)).1=cmpE (sq s') ⟨xm,xe⟩ ⟨yn,yd⟩:=by rw[<-HXL.out,<-HYL.out]
      obtain⟨cm,hcm⟩:∃cm,cm=cmpE (sq s') ⟨xm,xe⟩ ⟨yn,yd⟩:=⟨_,rfl⟩;rw[<-hcm]at CC0 HCM0;have CC:=h_ CC0;have HCM:=h_ HCM0;clear CC0 HCM0 hcm;have HFr:=h_ (HF2.out.below HBk.out);have hzk:w2.heap.size<=wr.heap.size:=HBk.out.size;have u2:=HXk.out.cell 2 _ rfl;have u3:=HXk.out.cell 3 _ rfl;have uz:=HXk.out.lt;have f0:=HFr.out.c0 0 rfl;have f1:=HFr.out.c0 1 rfl;have f2:=HFr.out.c0 2 rfl;have f3:=HFr.out.c0 3 rfl
      have fz:=HFr.out.l0 (by simp)
      have HX2:Hid (Cel (wr.alloc (z #[d m yn,d m (yd:Int),d m ym,d m (ye:Int)] 47)) wx [d m xn,d m (xd:Int),d m xm,d m (xe:Int)]):=HXk.out.below ((qb _ _).alloc (j2 _) _);have HB2:Hid (Below w2.heap.size w2 (wr.alloc (z #[d m yn,d m (yd:Int),d m ym,d m (ye:Int)] 47))):=HBk.out.alloc hzk _;have HO2:Hid ((wr.alloc (z #[d m yn,d m (yd:Int),d m ym,d m (ye:Int)] 47)).ownsRow w2.heap.size 2 1 vx (filtF (aU (sq s') L) q).length ((filtF (aU (sq s') L) q).map (Value.int m))):=row_alloc HOk.out _
      by_cases hkq:k=q
      ·have HIN2:Hid (∀j,j<k+1->j≠q->0<=cmpE (sq s') (L.getD q (aj,aj)).2 (L.getD j (aj,aj)).1):=fun j hj hjq=>HIN.out j (by omega) hjq
       have b1:((k:Int) !=(q:Int))=false:=by simp[hkq]
       clear HIN HXk HBk CC hkq HOk
       go_wp2_with (fail)
       exact⟨⟨k+1,by omega,rfl,by go_num,HIN2.out,HX2.out,HO2.out,HB2.out⟩,by simp[intOf];omega⟩
      ·have b1:((k:Int) !=(q:Int))=true:=by simp;omega
       have HKQ:=h_ hkq;clear hkq
       by_cases hcm:cm<0
       ·have HFL:Hid (filtF (aU (sq s') L) (q+1)=filtF (aU (sq s') L) q++[(q:Int)]):=j7 ⟨k,by have:=HNL.out;omega,HKQ.out,by rw[HCM.out];exact hcm⟩
        clear HIN HXk HBk HOk
        go_upto_region 12 with ((with_reducible refine(CC.out _).mono ?_);rintro e w5 ⟨rfl,hb5⟩)
        have HBW:=h_ (HB2.out.trans (hb5.mono HB2.out.size));have HOW:=h_ (own_below HO2.out hb5);clear hb5 HX2 HB2 HO2
        have HLP:Hid ((filtF (aU (sq s') L) q).length<=781250):=by have:=io (p:=aU (sq s') L) q;unfold Hid;omega
        generalize filtF (aU (sq s') L) q=ps at *;have hps:=HLP.out;have hzW:w2.heap.size<=w5.heap.size:=HBW.out.size;have HROW:Hid ((w5.alloc (z #[d m (q:Int)] 2)).ownsRow w2.heap.size 2 1 vx ps.length (ps.map (Value.int m))):=row_alloc HOW.out _
        have HVO:=h_ fun(j:Nat) (hj:vx.ownBlock=some j)=>World.ownsRow.lt HOW.out j hj
        have HTN:Hid (∀j u,[Value.int m (q:Int)][j]? =some u->(w5.alloc (z #[d m (q:Int)] 2)).cell? ((⟨w5.heap.size,0,none⟩:Addr).add j)=some u):=one_new w5 (d m (q:Int)) _;have HBA:Hid (Below w2.heap.size w2 (w5.alloc (z #[d m (q:Int)] 2))):=HBW.out.alloc hzW _;clear HOW HBW
        go_wp2_with (at_builtin;(refine wpList_append_own_at _ rfl _ _ 24 rfl w2.heap.size 2 i0 (d m 0) 1 8 Tryz.underlying24 hi hz0 hz1 hz2 rfl (by decide) _ _ _ rfl HROW.out ⟨w5.heap.size,0,none⟩ 1 1 [d m (q:Int)] rfl rfl HTN.out (ints_oneCell _ [(q:Int)]) (by unfold maxLen;omega) (by omega) (by simp;omega) ?_);intro v' w8 hown hgrow _ hat)
        have HB8:Hid (Below w2.heap.size w2 w8):=HBA.out.trans ((Frm.of_grown hgrow).below (by simp;omega) (fun k hk=>(HVO.out k hk.symm).1))
        have HO8:Hid (w8.ownsRow w2.heap.size 2 1 v' (ps++[(q:Int)]).length ((ps++[(q:Int)]).map (Value.int m))):=by unfold Hid;rw[List.length_append,List.map_append];exact hown
        clear hown hgrow hat HROW HBA HTN
        go_wp2_with (fail)
        exact⟨⟨q+1,by omega,by go_num,⟨_,rfl,by rw[HFL.out];exact HO8.out⟩,HB8.out⟩,by simp[intOf];omega⟩
       ·have HIN2:Hid (∀j,j<k+1->j≠q->0<=cmpE (sq s') (L.getD q (aj,aj)).2 (L.getD j (aj,aj)).1):=fun j hj hjq=>by
         by_cases e:j=k
         ·rw[e,HCM.out];omega
         ·exact HIN.out j (by omega) hjq
        clear HIN HXk HBk HOk
        go_wp2_with ((with_reducible refine(CC.out _).mono ?_);rintro e w5 ⟨rfl,hb5⟩)
        have HB5:=HB2.out.trans (hb5.mono HB2.out.size);have HX5:=HX2.out.below hb5;have HO5:=own_below HO2.out hb5
        exact⟨⟨k+1,by omega,rfl,by go_num,HIN2.out,HX5,HO5,HB5⟩,by simp[intOf];omega⟩
     ·have hki:¬(k:Int)<(nl:Int):=by omega
      have HFL:Hid (filtF (aU (sq s') L) (q+1)=filtF (aU (sq s') L) q):=mt fun⟨j,h1,h2,h3⟩=>by have:=HIN.out j (by have:=HNL.out;omega) h2;omega
      clear HIN HXk
      go_wp2_with (fail)
      exact⟨⟨q+1,by omega,by go_num,⟨_,rfl,by rw[HFL.out];exact HOk.out⟩,HBk.out⟩,by simp[intOf];omega⟩
   ·have hqi:¬(q:Int)<(nl:Int):=by omega
    have HRE:Hid (RetWP w RR (B (.tuple #[vx,d m 0])) wr):=by
     have hR:RR=(filtF (aU (sq s') L) q,0):=by
      rw[HCR.out,show q=L.length by have:=HNL.out;omega];rfl
     rw[hR]
     exact⟨_,rfl,aB HOq.out HF2LE.out,HF2.out.b.trans (HBq.out.mono HF2LE.out)⟩
    clear HBq HCR HOq
    go_wp2_with (fail)
    go_ret2
    exact HRE.out
 ·have ho:o=none:=ho
  subst ho;obtain rfl:vL=l none 0 0:=hrow2;have hZ1:Z≠0:=hZ.1
  have b0:(Z !=0)=true:=by simp[hZ1]
  have HRE:Hid (RetWP w RR (B (.tuple #[l none 0 0,d m Z])) w2):=by
   rw[HCR.out]
   exact RetWP.no _ HF2.out.b
  clear hZ hZ1 HCR
  go_wp2_with (fail)
  go_ret2
  exact HRE.out
theorem jK(p c h s tu ra rb:Int)(A1 A2:Option Addr)(n1 c1 n2 c2:Nat)(own other:List Int)(w:jz)(h1:SL w A1 n1 own)(h2:SL w A2 n2 other)(hc1:n1<=c1)(hc2:n2<=c2)(hm1:n1<=2000000)(hm2:n2<=2000000):
  j1 qc 30 #[C #[d m p,d m c,d m h,d m s],C #[l A1 n1 c1,l A2 n2 c2],C #[d m ra,d m rb],d m tu] w (RetWP w (wpR p c h s own other tu ra rb)):=by
 obtain⟨i0,hi,hz0,hz1,hz2⟩:=info_parts Tryz.infoI;obtain⟨PR,hPR⟩:∃PR,PR=piR p c h s own other tu ra rb:=⟨_,rfl⟩;have HP0:=piR_ok p c h s own other tu ra rb;rw[<-hPR]at HP0
 have CP:Hid (∀W:jz,Below w.heap.size w W->j1 qc 12 #[C #[d m p,d m c,d m h,d m s],C #[l A1 n1 c1,l A2 n2 c2],C #[d m ra,d m rb],d m tu] W (RetPX W PR)):=fun W hw=>by rw[hPR];exact gL p c h s tu ra rb A1 A2 n1 c1 n2 c2 own other W (h1.below hw) (h2.below hw) hc1 hc2 hm1 hm2
 have HF:Hid (Fr w (((w.alloc (z #[d m p,d m c,d m h,d m s] 33)).alloc (z #[l A1 n1 c1,l A2 n2 c2] 35)).alloc (z #[d m ra,d m rb] 37)) [[d m p,d m c,d m h,d m s],[l A1 n1 c1,l A2 n2 c2],[d m ra,d m rb]]):=(((Fr.start w).allocT (by simp) _ _).allocT (by simp) _ _).allocT (by simp) _ _
 have HCR:Hid (wpR p c h s own other tu ra rb=wpP s.toNat PR):=by unfold Hid wpR;rw[hPR]
 generalize wpR p c h s own other tu ra rb=RR at *;clear hPR h1 h2
 go_enter Tryz.func30,Tryz.ntmps30
 go_wp2_with (fail)
 refine(CP.out _ HF.out.b).mono ?_
 rintro e w2 ⟨vL,rfl,hrow,hb⟩
 have HF2:=h_ (HF.out.below hb);have hrow2:=RowO.low hrow (lo':=w.heap.size) HF.out.b.size;clear hb HF CP hrow;obtain⟨Z,o⟩:=PR
 rcases HP0 with⟨s',L,hss,hZ,hs1,hs3,hne,hll,hv⟩|⟨hZ,ho⟩
 ·obtain⟨rfl,rfl⟩:Z=0/\o=some L:=by
   injection hZ with h1 h2
   exact⟨h1,h2⟩
  subst hss;rw[Int.toNat_natCast]at HCR
  have hs6:s'<=6:=by omega
  obtain⟨vx,hvx⟩:∃vx,vx=vL:=⟨_,rfl⟩
  obtain⟨Al,kl,rfl,hsl,hkl⟩:=aY (S:=fun _=>False) hrow2 (fun _ _ h=>h) (by omega)
  have hlpos:0<L.length:=List.length_pos_iff.2 hne
  obtain⟨bl,ol,rfl,hbl,hbs,hcell⟩:=hsl.2 (by omega)
  have HBL:Hid (bl<w2.heap.size):=hbl;have HCL:=h_ hcell;have HVL:=h_ hv;obtain⟨nl,hnl⟩:∃nl,nl=L.length:=⟨_,rfl⟩;have HNL:=h_ hnl;rw[<-hnl]at hll hkl hlpos ⊢;clear hcell hsl hv hnl hZ hvx vx hrow2 hbl hbs hne;have HF2LE:Hid (w.heap.size<=w2.heap.size):=HF2.out.b.size
  go_wp2_with (fail)
  have HST:Hid ((w2.alloc (z #[] 2)).ownsRow w2.heap.size 2 1 (l (some ⟨w2.heap.size,0,none⟩) 0 0) (filtF (aU (sq s') L) 0).length ((filtF (aU (sq s') L) 0).map (Value.int m))):=World.ownsRow_lit w2 #[] 0 (e:=2) (size:=1) (j2 _) (by decide) (by simp)
  have HBS:Hid (Below w2.heap.size w2 (w2.alloc (z #[] 2))):=(qb _ _).alloc (j2 _) _
  go_loopw [12,13] (fun v12 v13 wr=>∃q:Nat,q<=nl/\v13=d m (q:Int)/\(∃vx,vx=v12/\Hid (wr.ownsRow w2.heap.size 2 1 vx (filtF (aU (sq s') L) q).length ((filtF (aU (sq s') L) q).map (Value.int m))))/\Hid (Below w2.heap.size w2 wr)) (fun _ v13 _=>nl-(intOf v13).toNat)
  case atStart=>exact⟨0,by omega,rfl,⟨_,rfl,HST.out⟩,HBS.out⟩
  case round=>
   clear HST HBS;obtain⟨q,hq,rfl,⟨vx,rfl,HOq⟩,HBq⟩:=hrel
   by_cases hlt:q<nl
   ·have hqi:(q:Int)<(nl:Int):=by omega
    obtain⟨wo,rfl⟩:∃wo:jz,wo=wr:=⟨_,rfl⟩
    go_wp2_with (fail)
    go_loopw [14,15] (fun v14 v15 wr=>∃(k:Nat) (b:Bool),k<=nl/\v14= .bool b/\v15=d m (k:Int)/\Hid (b=true↔(∃j,j<k/\j≠q/\cmpE (sq s') (L.getD q (aj,aj)).2 (L.getD j (aj,aj)).1<0))/\Hid (wr.ownsRow w2.heap.size 2 1 vx (filtF (aU (sq s') L) q).length ((filtF (aU (sq s') L) q).map (Value.int m)))/\Hid (Below w2.heap.size w2 wr)) (fun _ v15 _=>nl-(intOf v15).toNat)
    case atStart=>exact⟨0,false,by omega,rfl,rfl,h_ ⟨fun h=>(by cases h),fun⟨j,h1,_⟩=>absurd h1 (by omega)⟩,HOq.out,HBq.out⟩
    case round=>
     clear HBq HOq;obtain⟨k,b,hk,rfl,rfl,HIN,HOk,HBk⟩:=hrel
     by_cases hkl2:k<nl
     focus
      have hki:(k:Int)<(nl:Int):=by omega
      obtain⟨i1,i2,i3,i4⟩:=cY L q (by have:=HNL.out;omega)
      have HFB:=Frm.of_below HBk.out
      have x0:=HFB.cell' (HCL.out (q*4) (by have:=HNL.out;omega)) id
      have x1:=HFB.cell' (HCL.out (q*4+1) (by have:=HNL.out;omega)) id
      have x2:=HFB.cell' (HCL.out (q*4+2) (by have:=HNL.out;omega)) id
      have x3:=HFB.cell' (HCL.out (q*4+3) (by have:=HNL.out;omega)) id
      rw[i1]at x0
      rw[i2,show ol+(q*4+1)=ol+q*4+1 by omega]at x1
      rw[i3,show ol+(q*4+2)=ol+q*4+2 by omega]at x2
      rw[i4,show ol+(q*4+3)=ol+q*4+3 by omega]at x3
      have hvx:=(HVL.out _ (ak L (aj,aj) (show q<L.length by have:=HNL.out;omega))).1
      obtain⟨⟨⟨xn,xd⟩,⟨xm,xe⟩⟩,hx⟩:∃y,y=L.getD q (aj,aj):=⟨_,rfl⟩;rw[<-hx]at x0 x1 x2 x3 hvx
      simp only at x0 x1 x2 x3
      have HXL:=h_ hx;have HVX:=h_ hvx;clear i1 i2 i3 i4 HFB hx hvx
      obtain⟨i1,i2,i3,i4⟩:=cY L k (by have:=HNL.out;omega)
      have HFB:=Frm.of_below HBk.out
      have y0:=HFB.cell' (HCL.out (k*4) (by have:=HNL.out;omega)) id
      have y1:=HFB.cell' (HCL.out (k*4+1) (by have:=HNL.out;omega)) id
      have y2:=HFB.cell' (HCL.out (k*4+2) (by have:=HNL.out;omega)) id
      have y3:=HFB.cell' (HCL.out (k*4+3) (by have:=HNL.out;omega)) id
      rw[i1]at y0
      rw[i2,show ol+(k*4+1)=ol+k*4+1 by omega]at y1
      rw[i3,show ol+(k*4+2)=ol+k*4+2 by omega]at y2
      rw[i4,show ol+(k*4+3)=ol+k*4+3 by omega]at y3
      have hvy:=(HVL.out _ (ak L (aj,aj) (show k<L.length by have:=HNL.out;omega))).1
      obtain⟨⟨⟨yn,yd⟩,⟨ym,ye⟩⟩,hy⟩:∃y,y=L.getD k (aj,aj):=⟨_,rfl⟩;rw[<-hy]at y0 y1 y2 y3 hvy
      simp only at y0 y1 y2 y3
      have HYL:=h_ hy;have HVY:=h_ hvy;clear i1 i2 i3 i4 HFB hy hvy
      have CC0:=fun(W:jz)=>cQ p c h xm yn s' xe yd W hs1 hs6 HVX.out.2 HVY.out.1
      have HCM0:cmpE (sq s') (L.getD q (aj,aj)).2 (L.getD k (aj,aj)).1=cmpE (sq s') ⟨xm,xe⟩ ⟨yn,yd⟩:=by rw[<-HXL.out,<-HYL.out]
      obtain⟨cm,hcm⟩:∃cm,cm=cmpE (sq s') ⟨xm,xe⟩ ⟨yn,yd⟩:=⟨_,rfl⟩;rw[<-hcm]at CC0 HCM0;have CC:=h_ CC0;have HCM:=h_ HCM0;clear CC0 HCM0 hcm;have HFr:=h_ (HF2.out.below HBk.out);have hzk:w2.heap.size<=wr.heap.size:=HBk.out.size
      have hblr:bl<wr.heap.size:=by have:=HBL.out;omega
      have f0:=HFr.out.c0 0 rfl;have f1:=HFr.out.c0 1 rfl;have f2:=HFr.out.c0 2 rfl;have f3:=HFr.out.c0 3 rfl
      have fz:=HFr.out.l0 (by simp)
      go_upto_region 12 with (fail)
      by_cases hbb:b=true
      focus
       subst hbb
       have HIN2:Hid (true=true↔(∃j,j<(k+1)/\j≠q/\cmpE (sq s') (L.getD q (aj,aj)).2 (L.getD j (aj,aj)).1<0)):=⟨fun _=>(by obtain⟨j,h1,h2,h3⟩:=HIN.out.1 rfl;exact⟨j,by omega,h2,h3⟩),fun _=>rfl⟩
       refine ac (by kernel_rfl) (by kernel_rfl) ?_
       refine ?zb
      rotate_left
      focus
       obtain rfl:b=false:=by cases b<;>simp at hbb ⊢
       clear hbb
       by_cases hkq:k=q
       focus
        have b1:((k:Int) !=(q:Int))=false:=by simp[hkq]
        have HIN2:Hid (false=true↔(∃j,j<(k+1)/\j≠q/\cmpE (sq s') (L.getD q (aj,aj)).2 (L.getD j (aj,aj)).1<0)):=⟨fun h=>(by cases h),fun⟨j,h1,h2,h3⟩=>HIN.out.2 ⟨j,by omega,h2,h3⟩⟩
        clear hkq
        refine ac (by kernel_rfl) (by kernel_rfl) ?_
        refine ?za
       rotate_left
       focus
        have b1:((k:Int) !=(q:Int))=true:=by simp;omega
        have HKQ:=h_ hkq;clear hkq
        by_cases hcm:cm<0
        focus
         have hc2:¬0<=cm:=by omega
         have HIN2:Hid (true=true↔(∃j,j<(k+1)/\j≠q/\cmpE (sq s') (L.getD q (aj,aj)).2 (L.getD j (aj,aj)).1<0)):=⟨fun _=>⟨k,by omega,HKQ.out,by rw[HCM.out];exact hcm⟩,fun _=>rfl⟩
         refine ac (by kernel_rfl) (by kernel_rfl) ?_
         refine ?zd
        rotate_left
        focus
         have hc2:0<=cm:=by omega
         have HIN2:Hid (false=true↔(∃j,j<(k+1)/\j≠q/\cmpE (sq s') (L.getD q (aj,aj)).2 (L.getD j (aj,aj)).1<0)):=⟨fun h=>(by cases h),fun⟨j,h1,h2,h3⟩=>by
          by_cases e:j=k
          ·rw[e,HCM.out]at h3;omega
          ·exact HIN.out.2 ⟨j,by omega,h2,h3⟩⟩
         refine ac (by kernel_rfl) (by kernel_rfl) ?_
         refine ?zc
     rotate_left 4
     ·have hki:¬(k:Int)<(nl:Int):=by omega
      by_cases hbb:b=false
      ·subst hbb
       have HFL:Hid (filtF (aU (sq s') L) (q+1)=filtF (aU (sq s') L) q):=mt fun⟨j,h1,h2,h3⟩=>by
        have:=HIN.out.2 ⟨j,by have:=HNL.out;omega,h2,h3⟩
        cases this
       clear HIN
       go_wp2_with (fail)
       exact⟨⟨q+1,by omega,by go_num,⟨_,rfl,by rw[HFL.out];exact HOk.out⟩,HBk.out⟩,by simp[intOf];omega⟩
      ·obtain rfl:b=true:=by cases b<;>simp at hbb ⊢
       clear hbb
       have HFL:Hid (filtF (aU (sq s') L) (q+1)=filtF (aU (sq s') L) q++[(q:Int)]):=j7 (by
        obtain⟨j,h1,h2,h3⟩:=HIN.out.1 rfl
        exact⟨j,by have:=HNL.out;omega,h2,h3⟩)
       clear HIN
       go_upto_region 14 with (fail)
       have HBW:=HBk;have HOW:=HOk;clear HBk HOk
       have HLP:Hid ((filtF (aU (sq s') L) q).length<=781250):=by have:=io (p:=aU (sq s') L) q;unfold Hid;omega
       generalize filtF (aU (sq s') L) q=ps at *;have hps:=HLP.out;have hzW:w2.heap.size<=wr.heap.size:=HBW.out.size;have HROW:Hid ((wr.alloc (z #[d m (q:Int)] 2)).ownsRow w2.heap.size 2 1 vx ps.length (ps.map (Value.int m))):=row_alloc HOW.out _
       have HVO:=h_ fun(j:Nat) (hj:vx.ownBlock=some j)=>World.ownsRow.lt HOW.out j hj
       have HTN:Hid (∀j u,[Value.int m (q:Int)][j]? =some u->(wr.alloc (z #[d m (q:Int)] 2)).cell? ((⟨wr.heap.size,0,none⟩:Addr).add j)=some u):=one_new wr (d m (q:Int)) _;have HBA:Hid (Below w2.heap.size w2 (wr.alloc (z #[d m (q:Int)] 2))):=HBW.out.alloc hzW _;clear HOW HBW
       go_wp2_with (at_builtin;(refine wpList_append_own_at _ rfl _ _ 24 rfl w2.heap.size 2 i0 (d m 0) 1 8 Tryz.underlying24 hi hz0 hz1 hz2 rfl (by decide) _ _ _ rfl HROW.out ⟨wr.heap.size,0,none⟩ 1 1 [d m (q:Int)] rfl rfl HTN.out (ints_oneCell _ [(q:Int)]) (by unfold maxLen;omega) (by omega) (by simp;omega) ?_);intro v' w8 hown hgrow _ hat)
       have HB8:Hid (Below w2.heap.size w2 w8):=HBA.out.trans ((Frm.of_grown hgrow).below (by simp;omega) (fun k hk=>(HVO.out k hk.symm).1))
       have HO8:Hid (w8.ownsRow w2.heap.size 2 1 v' (ps++[(q:Int)]).length ((ps++[(q:Int)]).map (Value.int m))):=by unfold Hid;rw[List.length_append,List.map_append];exact hown
       clear hown hgrow hat HROW HBA HTN
       go_wp2_with (fail)
       exact⟨⟨q+1,by omega,by go_num,⟨_,rfl,by rw[HFL.out];exact HO8.out⟩,HB8.out⟩,by simp[intOf];omega⟩
     case' za|zb|zc|zd=>
      repeat (first|go_big_quiet_step ((go_at_call 77;exact more_call (CC.out _)))|quiet_step ((go_at_call 77;exact more_call (CC.out _))))
      refine wpQuiet_nil ?_
      intro _ hw'
      obtain⟨tq,hw''⟩:=hw';subst hw'';have HO2:=h_ (own_below HOk.out (aa wr tq));have HB2:Hid (Below w2.heap.size w2 (more wr tq)):=HBk.out.trans ((aa wr tq).mono HBk.out.size);clear f0 f1 f2 f3 fz hblr x0 x1 x2 x3 y0 y1 y2 y3
      go_wp2_with (fail)
     case za|zc=>
      exact⟨⟨k+1,false,by omega,rfl,by go_num,HIN2.out,HO2.out,HB2.out⟩,by simp[intOf];omega⟩
     case zb|zd=>
      exact⟨⟨k+1,true,by omega,rfl,by go_num,HIN2.out,HO2.out,HB2.out⟩,by simp[intOf];omega⟩
   ·have hqi:¬(q:Int)<(nl:Int):=by omega
    have HRE:Hid (RetWP w RR (B (.tuple #[vx,d m 0])) wr):=by
     have hR:RR=(filtF (aU (sq s') L) q,0):=by
      rw[HCR.out,show q=L.length by have:=HNL.out;omega];rfl
     rw[hR]
     exact⟨_,rfl,aB HOq.out HF2LE.out,HF2.out.b.trans (HBq.out.mono HF2LE.out)⟩
    clear HBq HCR HOq
    go_wp2_with (fail)
    go_ret2
    exact HRE.out
 ·have ho:o=none:=ho
  subst ho;obtain rfl:vL=l none 0 0:=hrow2;have hZ1:Z≠0:=hZ.1
  have b0:(Z !=0)=true:=by simp[hZ1]
  have HRE:Hid (RetWP w RR (B (.tuple #[l none 0 0,d m Z])) w2):=by
   rw[HCR.out]
   exact RetWP.no _ HF2.out.b
  clear hZ hZ1 HCR
  go_wp2_with (fail)
  go_ret2
  exact HRE.out
open Go.RowKit
theorem cT(A1 A2:Option Addr)(n c1 c2:Nat)(xs:List Int)(w:jz)(h1:SL w A1 n xs)(h2:SL w A2 n xs)(hn:n<=2000000):
  j1 qc 32 #[l A1 n c1,l A2 n c2] w fun e w'=>e=B (.bool true)/\Below w.heap.size w w':=by
 have H1:=h_ h1;have H2:=h_ h2;clear h1 h2
 go_enter Tryz.func32,Tryz.ntmps32
 go_wp2_with (fail)
 go_loopw [5] (fun i wr=>∃k:Nat,k<=n/\i=d m k/\Below w.heap.size w wr) (fun i _=>n-(intOf i).toNat)
 case atStart=>exact⟨0,by omega,rfl,qb _ _⟩
 case round=>
  obtain⟨k,hk,rfl,hb⟩:=hrel
  by_cases hlt:k<n
  ·obtain⟨x1,o1,rfl,hb1,hc1⟩:=(H1.out.keep (j2 _) hb).2 (by omega)
   obtain⟨x2,o2,rfl,hb2,hc2⟩:=(H2.out.keep (j2 _) hb).2 (by omega)
   have q1:=hc1 k hlt;have q2:=hc2 k hlt
   have hki:(k:Int)<(n:Int):=by omega
   have hk0:(0:Int)<=(k:Int):=by omega
   clear hc1 hc2;generalize xs.getD k 0=u at *
   go_wp2_with (fail)
   refine ac (by kernel_rfl) (by kernel_rfl) ?_
   repeat (first|go_big_quiet_step ((fail))|quiet_step ((fail)))
   refine wpQuiet_nil ?_
   intro _ hw'
   obtain⟨tq,hw''⟩:=hw';subst hw'';have hbm:=aa wr tq
   go_wp2
   go_roundw
   case rel=>exact⟨k+1,by omega,by go_num,hb.trans (hbm.mono hb.size)⟩
   case measure=>simp[intOf];omega
  ·go_wp2
   go_ret
   exact⟨rfl,hb⟩
theorem eqBoard_yes(A1 A2 B1 B2:Option Addr)(n1 c1 n2 c2 d1 d2:Nat)(xs ys:List Int)(w:jz)(h1:SL w A1 n1 xs)(h2:SL w A2 n2 ys)(k1:SL w B1 n1 xs)(k2:SL w B2 n2 ys)(hn1:n1<=2000000)(hn2:n2<=2000000):
  j1 qc 18 #[C #[l A1 n1 c1,l A2 n2 c2],C #[l B1 n1 d1,l B2 n2 d2]] w fun e w'=>e=B (.bool true)/\Below w.heap.size w w':=by
 have HB:Hid (Below w.heap.size w ((w.alloc (z #[l A1 n1 c1,l A2 n2 c2] 35)).alloc (z #[l B1 n1 d1,l B2 n2 d2] 35))):=((qb _ _).alloc (j2 _) _).alloc (by simp) _
 have C1:=h_ (cT A1 B1 n1 c1 d1 xs _ (h1.below HB.out) (k1.below HB.out) hn1)
 have C2:=h_ fun t=>cT A2 B2 n2 c2 d2 ys (more _ t) ((h2.below HB.out).more t) ((k2.below HB.out).more t) hn2
 clear h1 h2 k1 k2
 go_enter Tryz.func18,Tryz.ntmps18
 go_wp2_with (first|(go_at_call_of 32 A1;refine(more_first C1.out).mono ?_;rintro e w' ⟨rfl,t,rfl⟩)|(go_at_call_of 32 A2;refine(more_call (C2.out _)).mono ?_;rintro e w' ⟨rfl,t,rfl⟩))
 go_ret
 exact⟨rfl,HB.out.trans ((aa _ _).mono HB.out.size)⟩
def seqL(k n:Nat):List Int:=(List.range n).map fun i=>((k+i:Nat):Int)
theorem jI(k n:Nat):(seqL k n).length=n:=by simp[seqL]
theorem seqL_getD(k n i:Nat)(h:i<n):(seqL k n).getD i 0=((k+i:Nat):Int):=by simp[seqL,List.getD,h]
theorem mixL_step(k:Nat)(xs:List Int)(i:Nat)(h:i<xs.length):(seqL k i++xs.drop i).set i ((k+i:Nat):Int)=seqL k (i+1)++xs.drop (i+1):=by
 rw[List.set_append_right _ _ (by rw[jI];omega),jI,Nat.sub_self,List.drop_eq_getElem_cons h,List.set_cons_zero]
 simp[seqL,List.range_succ]
theorem grown_trans'{a b c:jz}{r:Option Nat}(h:a.grownBy b r)(k:b.grownBy c r):a.grownBy c r:=
 ⟨k.os.trans h.os,k.tape.trans h.tape,k.output.trans h.output,Nat.le_trans h.size k.size,fun i hi hne=>(k.block i (qa hi h.size) hne).trans (h.block i hi hne)⟩
theorem dM(A:Option Addr)(n c base:Nat)(e:TypeId)(xs:List Int)(k:Nat)(w:jz)(hown:OwnS w base e (l A n c) xs)(hn:n<=2000000)(hk:k<=100000000):
  j1 qc 33 #[l A n c,d m k] w fun en w'=>en=B (d m ((k+n:Nat):Int))/\OwnS w' base e (l A n c) (seqL k n)/\w.grownBy w' (Value.slice A n c).ownBlock:=by
 have hl:=(hown.sl rfl).1.1;have HL:=h_ hl;have HO:=h_ hown;clear hl hown
 go_enter Tryz.func33,Tryz.ntmps33
 go_wp2_with (fail)
 go_loopw [1,5] (fun q i wr=>∃j:Nat,j<=n/\i=d m j/\q=d m ((k+j:Nat):Int)/\OwnS wr base e (l A n c) (seqL k j++xs.drop j)/\w.grownBy wr (Value.slice A n c).ownBlock) (fun _ i _=>n-(intOf i).toNat)
 case atStart=>exact⟨0,by omega,rfl,by simp,by simpa[seqL]using HO.out,World.grownBy.refl _ _⟩
 case round=>
  obtain⟨j,hj,rfl,rfl,ho,hg⟩:=hrel
  by_cases hlt:j<n
  ·obtain⟨g,rfl,hg1,hg2,hcl,hfr⟩:=ao ho (by omega)
   have q1:=hcl j hlt;have q2:=hfr j
   have hki:(j:Int)<(n:Int):=by omega
   have hk0:(0:Int)<=(j:Int):=by omega
   have HN:=h_ (ho.stored j ((k+j:Nat):Int))
   have HG:Hid (w.grownBy (wr.setCell ⟨g,j,none⟩ (d m ((k+j:Nat):Int))) (some g)):=grown_trans' hg ⟨rfl,rfl,rfl,by simp,fun i _ hne=>Below.heap_setCell _ _ _ _ (fun h=>hne (by rw[h]))⟩
   have HM:=h_ (mixL_step k xs j (by rw[HL.out];exact hlt))
   clear hcl hfr ho hg;generalize (seqL k j++xs.drop j).getD j 0=u at *
   have hs1:((k+j:Nat):Int)+1=((k+(j+1):Nat):Int):=by omega
   have HS:=h_ hs1;clear hs1
   have hb0:0<=((k+j:Nat):Int):=by omega
   have hb1:((k+j:Nat):Int)<=200000000:=by omega
   generalize hkj:((k+j:Nat):Int)=K at *
   go_wp2
   go_roundw
   case rel=>exact⟨j+1,by omega,by go_num,by rw[HS.out],by rw[<-HM.out];exact HN.out,HG.out⟩
   case measure=>simp[intOf];omega
  ·obtain rfl:j=n:=by omega
   have HF:Hid (OwnS wr base e (l A j c) (seqL k j)):=by
    have:=ho
    rw[List.drop_eq_nil_of_le (by rw[HL.out];exact j2 _),List.append_nil]at this
    exact this
   have HG:=h_ hg;clear ho hg;generalize hkj:((k+j:Nat):Int)=K at *;have HK:=h_ hkj;clear hkj
   go_wp2
   go_ret
   exact⟨gf (by have:=HK.out;omega),HF.out,HG.out⟩
theorem fQ(A:Option Addr)(n c k:Nat)(w:jz)(hx:SL w A n (seqL k n))(hn:n<=2000000)(hk:k<=100000000):
  j1 qc 34 #[l A n c,d m k] w fun e w'=>e=B (d m ((k+n:Nat):Int))/\w=w':=by
 have HX:=h_ hx;clear hx
 go_enter Tryz.func34,Tryz.ntmps34
 go_wp2_with (fail)
 go_loop [1,5] (fun q i=>∃j:Nat,j<=n/\i=d m j/\q=d m ((k+j:Nat):Int)) (fun _ i=>n-(intOf i).toNat)
 case atStart=>exact⟨0,by omega,rfl,by simp⟩
 case round=>
  obtain⟨j,hj,rfl,rfl⟩:=hrel
  by_cases hlt:j<n
  ·obtain⟨x1,o1,rfl,hb1,hc1⟩:=HX.out.2 (by omega)
   have q1:=hc1 j hlt;rw[seqL_getD k n j hlt]at q1;clear hc1
   have hs1:((k+j:Nat):Int)+1=((k+(j+1):Nat):Int):=by omega
   have HS:=h_ hs1;clear hs1
   have hb0:0<=((k+j:Nat):Int):=by omega
   have hb1:((k+j:Nat):Int)<=200000000:=by omega
   generalize hkj:((k+j:Nat):Int)=K at *
   go_wp2
   go_round
   case rel=>exact⟨j+1,by omega,by go_num,by rw[HS.out]⟩
   case measure=>simp[intOf];omega
  ·obtain rfl:j=n:=by omega
   generalize hkj:((k+j:Nat):Int)=K at *;have HK:=h_ hkj;clear hkj
   go_wp2
   go_ret
   exact⟨gf (by have:=HK.out;omega),rfl⟩
def SBs(w:jz)(A:Option Addr)(n:Nat)(bs:List (List Int×List Int)):Prop:=
 bs.length=n/\(0<n->∃b off,A=some ⟨b,off,none⟩/\b<w.heap.size/\∀i,i<n->∃A1 n1 c1 A2 n2 c2,w.cell? ⟨b,off+i*2,none⟩=some (l A1 n1 c1)/\w.cell? ⟨b,off+i*2+1,none⟩=some (l A2 n2 c2)/\
  SL w A1 n1 (bs.getD i ([],[])).1/\SL w A2 n2 (bs.getD i ([],[])).2/\n1<=maxLen/\n2<=maxLen)
theorem SBs.below{w w':jz}{A:Option Addr}{n:Nat}{bs:List (List Int×List Int)}(h:SBs w A n bs)(hb:Below w.heap.size w w'):SBs w' A n bs:=by
 refine⟨h.1,fun hn=>?_⟩
 obtain⟨b,off,hA,hlt,hc⟩:=h.2 hn
 refine⟨b,off,hA,qa hlt hb.size,fun i hi=>?_⟩
 obtain⟨A1,n1,c1,A2,n2,c2,h1,h2,h3,h4,h5,h6⟩:=hc i hi
 exact⟨A1,n1,c1,A2,n2,c2,ae h1 hb,ae h2 hb,h3.below hb,h4.below hb,h5,h6⟩
theorem SBs.more{w:jz}{A:Option Addr}{n:Nat}{bs:List (List Int×List Int)}(h:SBs w A n bs)(t:jz):SBs (more w t) A n bs:=h.below (aa w t)
theorem SBs.alloc{w:jz}{A:Option Addr}{n:Nat}{bs:List (List Int×List Int)}(h:SBs w A n bs)(o:Obj):SBs (w.alloc o) A n bs:=h.below ((qb _ _).alloc (j2 _) o)
def RetZ(w:jz)(left:Int)(tot:Nat)(en:Ending)(w':jz):Prop:=∃r:Int,en=B (d m r)/\-1<=r/\r<=left/\(0<=r->(tot:Int)<=left-r)/\Below w.heap.size w w'
theorem iU(A:Option Addr)(n c:Nat)(left:Int)(w:jz)(hn:n<=9223372036854775807)(hl:0<=left)(hl2:left<=1048576):
  j1 qc 64 #[l A n c,d m left] w (RetZ w left n):=by
 by_cases h:left-n<0
 ·have HF:Hid (RetZ w left n (B (d m (-1))) w):=⟨-1,rfl,by omega,by omega,by omega,qb _ _⟩
  go_enter Tryz.func64,Tryz.ntmps64
  go_wp2
  go_ret
  exact HF.out
 ·have HF:Hid (RetZ w left n (B (d m (left-n))) w):=⟨left-n,rfl,by omega,by omega,by omega,qb _ _⟩
  go_enter Tryz.func64,Tryz.ntmps64
  go_wp2
  go_ret
  exact HF.out
theorem szBoard_any(A1 A2:Option Addr)(n1 c1 n2 c2:Nat)(left:Int)(w:jz)(hn1:n1<=9223372036854775807)(hn2:n2<=9223372036854775807)(hl:0<=left)(hl2:left<=1048576):
  j1 qc 11 #[C #[l A1 n1 c1,l A2 n2 c2],d m left] w (RetZ w left (n1+n2)):=by
 have hb:Below w.heap.size w (w.alloc (z #[l A1 n1 c1,l A2 n2 c2] 26)):=(qb _ _).alloc (j2 _) _;have HB:=h_ hb;clear hb
 go_enter Tryz.func11,Tryz.ntmps11
 go_wp2_with (fail)
 refine(iU A1 n1 c1 left _ hn1 hl hl2).mono ?_
 rintro e w1 ⟨r,rfl,hr1,hr2,hr3,hb1⟩
 have d1:w1.cell? ⟨w.heap.size,1,none⟩=some (l A2 n2 c2):=ae (by simp[go_sem]) hb1
 have HB1:=h_ (HB.out.trans (hb1.mono HB.out.size));have H3:=h_ hr3;clear hb1 hr3
 by_cases h0:r<0
 ·have HF:Hid (∀W,Below w.heap.size w W->RetZ w left (n1+n2) (B (d m (-1))) W):=fun W hW=>⟨-1,rfl,by omega,by omega,by omega,hW⟩
  go_wp2_with (fail)
  go_ret
  exact HF.out _ HB1.out
 ·go_wp2_with (fail)
  refine(iU A2 n2 c2 r _ hn2 (by omega) (by omega)).mono ?_
  rintro e w2 ⟨r2,rfl,hq1,hq2,hq3,hb2⟩
  have HB2:=h_ (HB1.out.trans (hb2.mono HB1.out.size))
  have HF:Hid (RetZ w left (n1+n2) (B (d m r2)) w2):=⟨r2,rfl,hq1,by omega,fun h=>by have:=hq3 h;have:=H3.out (by omega);omega,HB2.out⟩
  have HF':Hid (RetZ w left (n1+n2) (B (d m (-1))) w2):=⟨-1,rfl,by omega,by omega,by omega,HB2.out⟩
  clear hb2 hq3
  by_cases h2:r2<0
  ·go_wp2_with (fail)
   go_ret
   exact HF'.out
  ·go_wp2_with (fail)
   go_ret
   exact HF.out
theorem mixZ_step(xs:List Int)(n k:Nat)(hl:xs.length=n)(h:k<n):(xs.take k++List.replicate (n-k) (0:Int)).set k (xs.getD k 0)=xs.take (k+1)++List.replicate (n-(k+1)) 0:=by
 have hk:(xs.take k).length=k:=by rw[List.length_take];omega
 have e:n-k=(n-(k+1))+1:=by omega
 have h':k<xs.length:=by omega
 have g:xs.getD k 0=xs[k]:=by simp[List.getD,h']
 rw[List.set_append_right _ _ (by omega),hk,Nat.sub_self,e,List.replicate_succ,List.set_cons_zero,List.take_succ_eq_append_getElem h',List.append_assoc,g]
 rfl
theorem iT(A:Option Addr)(n c:Nat)(xs:List Int)(w:jz)(hx:SL w A n xs)(hn:n<=2000000):
  j1 qc 68 #[l A n c] w (RetO w 2 xs):=by
 obtain⟨i0,hi,hz0,hz1,hz2⟩:=info_parts Tryz.infoI;have HX:=h_ hx;clear hx
 go_enter Tryz.func68,Tryz.ntmps68
 go_wp2_with (at_make;refine wpList_make_full _ rfl _ _ 24 rfl w.heap.size 2 i0 (d m 0) 1 Tryz.underlying24 hi hz0 hz1 _ _ _ _ n rfl rfl rfl rfl (by rw[hz2];omega) (by unfold maxLen;omega) (j2 _) ?_;intro w1 hown hgrow)
 have hb:Below w.heap.size w w1:=(qb _ _).grown hgrow (j2 _) (by simp)
 have hO:OwnS w1 w.heap.size 2 (l (some ⟨w.heap.size,0,none⟩) n n) (xs.take 0++List.replicate (n-0) 0):=by
  unfold OwnS
  simp only[List.take_zero,List.nil_append,Nat.sub_zero,List.length_replicate,List.map_replicate]
  have e:(madeCells #[Value.int m 0] (n*1)).toList=List.replicate n (Value.int m 0):=by rw[Nat.mul_one];exact toList_madeCells_one _ _
  first|(rw[show(Value.int IntKind.i64 0).cells=#[Value.int m 0]from rfl,e]at hown;exact hown)|(rw[e]at hown;exact hown)|(rw[Nat.mul_one]at e;rw[e]at hown;exact hown)
 have HO:=h_ hO;have HB:=h_ hb;clear hown hgrow hb hO
 go_wp2_with (fail)
 go_loopw [4] (fun i wr=>∃k:Nat,k<=n/\i=d m k/\OwnS wr w.heap.size 2 (l (some ⟨w.heap.size,0,none⟩) n n) (xs.take k++List.replicate (n-k) 0)/\Below w.heap.size w wr) (fun i _=>n-(intOf i).toNat)
 case atStart=>exact⟨0,by omega,rfl,HO.out,HB.out⟩
 case round=>
  obtain⟨k,hk,rfl,ho,hb⟩:=hrel
  by_cases hlt:k<n
  ·obtain⟨b,off,rfl,hbl,hc⟩:=(HX.out.keep (j2 _) hb).2 (by omega)
   have q1:=hc k hlt
   obtain⟨b',off',hA',hbl',_⟩:=HX.out.2 (by omega)
   injection hA' with hA';injection hA' with hA1 hA2;subst hA1 hA2
   obtain⟨g,hg0,_,_,hcl,hfr⟩:=ao ho (by omega)
   injection hg0 with hg0;injection hg0 with hg0 _;subst hg0;have q2:=hcl k hlt;have q3:=hfr k
   have hki:(k:Int)<(n:Int):=by omega
   have hk0:(0:Int)<=(k:Int):=by omega
   have HN:=h_ (ho.stored k (xs.getD k 0));have HM:=h_ (mixZ_step xs n k HX.out.1 hlt);have HB2:=h_ (hb.setCell (p:=⟨w.heap.size,k,none⟩) (j2 _) (d m (xs.getD k 0)));clear hc hcl hfr ho hb;generalize (xs.take k++List.replicate (n-k) 0).getD k 0=u at *;generalize xs.getD k 0=x at *
   go_wp2_with (fail)
   go_roundw
   case rel=>exact⟨k+1,by omega,by go_num,by rw[<-HM.out];exact HN.out,HB2.out⟩
   case measure=>simp[intOf];omega
  ·obtain rfl:k=n:=by omega
   have HF:Hid (RetO w 2 xs (B (l (some ⟨w.heap.size,0,none⟩) k k)) wr):=by
    have h:=ho
    rw[List.take_of_length_le (by rw[HX.out.1];exact j2 _),Nat.sub_self,List.replicate_zero,List.append_nil]at h
    exact RetO.mk h hb
   clear ho hb
   go_wp2_with (fail)
   go_ret
   exact HF.out
def RetBd(w:jz)(own other:List Int)(en:Ending)(w':jz):Prop:=∃A1 c1 A2 c2,en=B (C #[l A1 own.length c1,l A2 other.length c2])/\
 OwnS w' w.heap.size 2 (l A1 own.length c1) own/\OwnS w' w.heap.size 2 (l A2 other.length c2) other/\
 ((Value.slice A1 own.length c1).ownBlock=none\/(Value.slice A1 own.length c1).ownBlock≠(Value.slice A2 other.length c2).ownBlock)/\Below w.heap.size w w'
theorem iD(a b:Int)(w:jz):
  j1 qc 15 #[C #[d m a,d m b]] w fun e w'=>e=B (C #[d m a,d m b])/\Below w.heap.size w w':=by
 go_enter Tryz.func15,Tryz.ntmps15
 go_wp2
 exact bodyPost_ret (v:=C #[d m a,d m b]) (by simp[results,Tryz.results15,go_sem]) rfl ⟨rfl,(((qb _ _).alloc (j2 _) _).alloc (by simp) _).alloc (by simp;omega) _⟩
theorem et(A1 A2:Option Addr)(n1 c1 n2 c2:Nat)(xs ys:List Int)(w:jz)(h1:SL w A1 n1 xs)(h2:SL w A2 n2 ys)(hn1:n1<=2000000)(hn2:n2<=2000000):
  j1 qc 14 #[C #[l A1 n1 c1,l A2 n2 c2]] w (RetBd w xs ys):=by
 have HB:Hid (Below w.heap.size w (((w.alloc (z #[l A1 n1 c1,l A2 n2 c2] 26)).alloc (z #[l none 0 0,l none 0 0] 35)).alloc (z #[l none 0 0,l none 0 0] 35))):=(((qb _ _).alloc (j2 _) _).alloc (by simp) _).alloc (by simp;omega) _
 have H1:=h_ (h1.below HB.out);have H2:=h_ h2;clear h1 h2
 go_enter Tryz.func14,Tryz.ntmps14
 go_wp2_with (fail)
 refine(iT A1 n1 c1 xs _ H1.out hn1).mono ?_
 rintro e w1 ⟨B1,k1,rfl,ho1,hb1⟩
 obtain⟨W0,hW0⟩:∃W,W=(((w.alloc (z #[l A1 n1 c1,l A2 n2 c2] 26)).alloc (z #[l none 0 0,l none 0 0] 35)).alloc (z #[l none 0 0,l none 0 0] 35)):=⟨_,rfl⟩;rw[<-hW0]at hb1 ho1
 have b1:w1.cell? ⟨w.heap.size,1,none⟩=some (l A2 n2 c2):=ae (by rw[hW0];simp[go_sem]) hb1
 have d0:w1.cell? ⟨w.heap.size+1+1,0,none⟩=some (l none 0 0):=ae (by rw[hW0];simp[go_sem]) hb1
 have d1:w1.cell? ⟨w.heap.size+1+1,1,none⟩=some (l none 0 0):=ae (by rw[hW0];simp[go_sem]) hb1
 have e0:w1.cell? ⟨w.heap.size+1,0,none⟩=some (l none 0 0):=ae (by rw[hW0];simp[go_sem]) hb1
 have e1:w1.cell? ⟨w.heap.size+1,1,none⟩=some (l none 0 0):=ae (by rw[hW0];simp[go_sem]) hb1
 have fd0:w1.frozen? ⟨w.heap.size+1+1,0,none⟩=false:=aS (w:=W0) (v:=l none 0 0) (by rw[hW0];simp[go_sem]) (by rw[hW0];simp[go_sem]) hb1
 have fd1:w1.frozen? ⟨w.heap.size+1+1,1,none⟩=false:=aS (w:=W0) (v:=l none 0 0) (by rw[hW0];simp[go_sem]) (by rw[hW0];simp[go_sem]) hb1
 have fe0:w1.frozen? ⟨w.heap.size+1,0,none⟩=false:=aS (w:=W0) (v:=l none 0 0) (by rw[hW0];simp[go_sem]) (by rw[hW0];simp[go_sem]) hb1
 have fe1:w1.frozen? ⟨w.heap.size+1,1,none⟩=false:=aS (w:=W0) (v:=l none 0 0) (by rw[hW0];simp[go_sem]) (by rw[hW0];simp[go_sem]) hb1
 have hz0:w.heap.size+2<W0.heap.size:=by rw[hW0];simp
 have HB1:=h_ ((by rw[hW0];exact HB.out:Below w.heap.size w W0).trans (hb1.mono (by omega)))
 have HO1:=h_ ho1;have hsz1:=hb1.size;clear hb1 ho1 hW0 H1 HB
 go_wp2_with (fail)
 have HBs:=h_ (HB1.out.setCell (p:=⟨w.heap.size+1+1,0,none⟩) (by simp;omega) (l B1 xs.length k1))
 have HOs:=h_ (HO1.out.setLow (a:=⟨w.heap.size+1+1,0,none⟩) (by exact hz0) (l B1 xs.length k1))
 refine(iT A2 n2 c2 ys _ (H2.out.keep (j2 _) HBs.out) hn2).mono ?_
 rintro e w2 ⟨B2,k2,rfl,ho2,hb2⟩
 have q0:w2.cell? ⟨w.heap.size+1+1,0,none⟩=some (l B1 xs.length k1):=ae (by simp[go_sem,d0]) hb2
 have q1:w2.cell? ⟨w.heap.size+1+1,1,none⟩=some (l none 0 0):=ae (by simp[go_sem,d1]) hb2
 have r0:w2.cell? ⟨w.heap.size+1,0,none⟩=some (l none 0 0):=ae (by simp[go_sem,e0]) hb2
 have r1:w2.cell? ⟨w.heap.size+1,1,none⟩=some (l none 0 0):=ae (by simp[go_sem,e1]) hb2
 have fq1:w2.frozen? ⟨w.heap.size+1+1,1,none⟩=false:=aS (v:=l none 0 0) (by simp[go_sem,fd1]) (by simp[go_sem,d1]) hb2
 have fr0:w2.frozen? ⟨w.heap.size+1,0,none⟩=false:=aS (v:=l none 0 0) (by simp[go_sem,fe0]) (by simp[go_sem,e0]) hb2
 have fr1:w2.frozen? ⟨w.heap.size+1,1,none⟩=false:=aS (v:=l none 0 0) (by simp[go_sem,fe1]) (by simp[go_sem,e1]) hb2
 have HF:Hid (RetBd w xs ys (B (C #[l B1 xs.length k1,l B2 ys.length k2])) (((w2.setCell ⟨w.heap.size+1+1,1,none⟩ (l B2 ys.length k2)).setCell ⟨w.heap.size+1,0,none⟩ (l B1 xs.length k1)).setCell ⟨w.heap.size+1,1,none⟩ (l B2 ys.length k2))):=by
  have hz1:w.heap.size+2<(w1.setCell ⟨w.heap.size+1+1,0,none⟩ (l B1 xs.length k1)).heap.size:=by simp;omega
  refine⟨B1,k1,B2,k2,rfl,?_,?_,?_,?_⟩
  ·exact((((HOs.out.below hb2).setLow (a:=⟨w.heap.size+1+1,1,none⟩) (by exact hz0) _).setLow (a:=⟨w.heap.size+1,0,none⟩) (by show w.heap.size+1<W0.heap.size;omega) _).setLow (a:=⟨w.heap.size+1,1,none⟩) (by show w.heap.size+1<W0.heap.size;omega) _).mono (by omega)
  ·exact(((ho2.setLow (a:=⟨w.heap.size+1+1,1,none⟩) (by exact hz1) _).setLow (a:=⟨w.heap.size+1,0,none⟩) (Nat.lt_trans (by show w.heap.size+1<w.heap.size+2;omega) hz1) _).setLow (a:=⟨w.heap.size+1,1,none⟩) (Nat.lt_trans (by show w.heap.size+1<w.heap.size+2;omega) hz1) _).mono (by omega)
  ·exact own_apart HOs.out ho2 (j2 _)
  ·exact((((HBs.out.trans (hb2.mono (by omega))).setCell (by simp;omega) _).setCell (by simp) _).setCell (by simp) _)
 clear hb2 ho2 hsz1
 go_wp2_with (fail)
 exact bodyPost_ret (v:=C #[l B1 xs.length k1,l B2 ys.length k2]) (by simp[results,Tryz.results14,go_sem,r0,r1]) rfl HF.out
open Go.RowKit Ps Ra Ex
theorem OwnE.below{w w':jz}{base:Nat}{v:j0}{xs:List E}(h:OwnE w base v xs)(hb:Below w.heap.size w w'):OwnE w' base v xs:=own_below h hb
theorem Cel.frm{S:Nat->Prop}{W W':jz}{g:Nat}{cs:List j0}(h:Cel W g cs)(hf:Frm S W W')(hn:¬S g):Cel W' g cs:=
 ⟨qa h.lt hf.size,fun i x hx=>hf.cell' (h.cell i x hx) hn,fun i x hx=>(cZ hf h.lt hn).trans (h.froz i x hx)⟩
def StbO(O:jz->Nat->j0->Prop):Prop:=∀W W' b v,O W b v->Bel W W'->O W' b v
def RowT(O:jz->Nat->j0->Prop)(lo:Nat)(rest:List j0):RP:=fun v W=>∃u b,v= .tuple (u::rest).toArray/\lo<=b/\O W b u
def RowE(O:jz->Nat->j0->Prop)(lo:Nat):RP:=fun v W=>∃b,lo<=b/\O W b v
theorem lI{O:jz->Nat->j0->Prop}{lo:Nat}{rest:List j0}(h:StbO O):Stb (RowT O lo rest):=fun _ _ _ ⟨u,b,h1,h2,h3⟩ hb=>⟨u,b,h1,h2,h _ _ _ _ h3 hb⟩
theorem lJ{O:jz->Nat->j0->Prop}{lo:Nat}(h:StbO O):Stb (RowE O lo):=fun _ _ _ ⟨b,h2,h3⟩ hb=>⟨b,h2,h _ _ _ _ h3 hb⟩
theorem stO_I{xs:List Int}{e:TypeId}:StbO (fun W b v=>OwnS W b e v xs):=fun _ _ _ _ h hb=>h.below hb
structure JI(V:jz)(TP:jz->j0->(Nat->Prop)->Prop)(ev:Nat->Option j0)(L:Nat->Bool)(vs:Nat->j0)(W:jz):Prop where
 b:Below V.heap.size V W
 eq:∀i y,i<9->L i=true->ev i=some y->vs i=y
 al:L 8=true->∃g,vs 8= .pointer (some ⟨g,0,none⟩)/\V.heap.size<=g/\Cel W g [d m 0,d m 0,d m 0,d m 0]
 ra:L 1=true->L 4=false->∃(S:Nat->Prop) (l1 hi:Nat),TP W (vs 1) S/\hi<=W.heap.size/\V.heap.size<=l1/\l1<=hi/\(∀k,S k->l1<=k/\k<hi)/\∀g,L 8=true->vs 8= .pointer (some ⟨g,0,none⟩)->g<l1\/hi<=g
section
variable {V W W':jz}{TP:jz->j0->(Nat->Prop)->Prop}{ev:Nat->Option j0}{L L':Nat->Bool}{vs vs':Nat->j0}{i:Nat}{v:j0}
theorem JI.alloc(H:JI V TP ev L vs W)(T:TypeId)(hu:Upd 9 8 (.pointer (some ⟨W.heap.size,0,none⟩)) L vs L' vs')(he:ev 8=none)(hst:∀W W' v S,TP W v S->Below W.heap.size W W'->TP W' v S):JI V TP ev L' vs' (W.alloc (z #[d m 0,d m 0,d m 0,d m 0] T)):=by
 obtain⟨-,u2,u3⟩:=hu;have hb:Below W.heap.size W (W.alloc (z #[d m 0,d m 0,d m 0,d m 0] T)):=Bel.alloc W _
 have e3:=u3 4 (by omega) (by omega)
 have e1:=u3 1 (by omega) (by omega)
 refine⟨H.b.trans (hb.mono H.b.size),fun k y hk hl he'=>?_,fun hl=>⟨_,u2,H.b.size,Cel.new W #[d m 0,d m 0,d m 0,d m 0] T⟩,fun hl hl3=>?_⟩
 ·by_cases ek:k=8
  ·subst ek;rw[he]at he';cases he'
  ·rw[(u3 k hk ek).2];exact H.eq k y hk (by rw[<-(u3 k hk ek).1];exact hl) he'
 ·obtain⟨S,l1,hi,a1,a7,a8,a8',a9,_⟩:=H.ra (by rw[<-e1.1];exact hl) (by rw[<-e3.1];exact hl3)
  refine⟨S,l1,hi,by rw[e1.2];exact hst _ _ _ _ a1 hb,Nat.le_trans a7 hb.size,a8,a8',a9,fun g _ hg2=>.inr ?_⟩
  rw[u2]at hg2;injection hg2 with hg2;injection hg2 with hg2;injection hg2 with hg2
  omega
end
open Go.RowKit Pl Ps Ra Ex
def CpB(xs ys:List Int):RP:=fun v W=>∃X1 k1 X2 k2,v=C #[l X1 xs.length k1,l X2 ys.length k2]/\SL W X1 xs.length xs/\xs.length<=k1/\SL W X2 ys.length ys/\ys.length<=k2
theorem stb_cpb(xs ys:List Int):Stb (CpB xs ys):=fun _ _ _ ⟨X1,k1,X2,k2,h1,h2,h3,h4,h5⟩ hb=>⟨X1,k1,X2,k2,h1,h2.below hb,h3,h4.below hb,h5⟩
def OwnV(W:jz)(base:Nat)(v:j0)(xs:List Iv):Prop:=W.ownsRow base 47 4 v xs.length (ivCs xs)
theorem OwnV.below{w w':jz}{base:Nat}{v:j0}{xs:List Iv}(h:OwnV w base v xs)(hb:Below w.heap.size w w'):OwnV w' base v xs:=own_below h hb
open Go.RowKit
def Apart(v1 v2:j0):Prop:=v1.ownBlock=none\/v1.ownBlock≠v2.ownBlock
theorem mc(A1 A2:Option Addr)(n1 c1 n2 c2 b:Nat)(e:TypeId)(xs ys:List Int)(k:Nat)(w:jz)(h1:OwnS w b e (l A1 n1 c1) xs)(h2:OwnS w b e (l A2 n2 c2) ys)
  (ha:Apart (l A1 n1 c1) (l A2 n2 c2)) (hn1:n1<=2000000) (hn2:n2<=2000000) (hk:k<=90000000):
  j1 qc 19 #[C #[l A1 n1 c1,l A2 n2 c2],d m k] w fun en w'=>en=B (d m ((k+n1+n2:Nat):Int))/\OwnS w' b e (l A1 n1 c1) (seqL k n1)/\OwnS w' b e (l A2 n2 c2) (seqL (k+n1) n2)/\
   Frm (fun j=>some j=(Value.slice A1 n1 c1).ownBlock\/some j=(Value.slice A2 n2 c2).ownBlock) w w':=by
 have l1:=h1.lt;have H1:=h_ (h1.alloc (z #[l A1 n1 c1,l A2 n2 c2] 35));have H2:=h_ (h2.alloc (z #[l A1 n1 c1,l A2 n2 c2] 35));have HA:=h_ ha;have L1:=h_ l1;clear h1 h2 ha l1
 go_enter Tryz.func19,Tryz.ntmps19
 go_wp2_with (fail)
 refine(dM A1 n1 c1 b e xs k _ H1.out hn1 (by omega)).mono ?_
 rintro en w1 ⟨rfl,ho1,hg1⟩
 have d1:w1.cell? ⟨w.heap.size,1,none⟩=some (l A2 n2 c2):=hg1.cell (v:=l A2 n2 c2) (by simp[go_sem]) (fun h=>by have:=(L1.out _ h.symm).2;simp at this)
 have O2:=h_ ((Frm.of_grown hg1).own H2.out fun j hj hs=>by
  rcases HA.out with h|h
  ·rw[h]at hs;cases hs
  ·exact h (hs.symm.trans hj.symm))
 have O1:=h_ ho1
 have F1:=h_ ((Frm.of_grown hg1).mono (T:=fun j=>some j=(Value.slice A1 n1 c1).ownBlock\/some j=(Value.slice A2 n2 c2).ownBlock) fun _ h=>.inl h)
 clear ho1 hg1
 go_wp2_with (fail)
 refine(dM A2 n2 c2 b e ys (k+n1) _ O2.out hn2 (by omega)).mono ?_
 rintro en w2 ⟨rfl,ho2,hg2⟩
 have P1:=h_ ((Frm.of_grown hg2).own O1.out fun j hj hs=>by
  rcases HA.out with h|h
  ·rw[h]at hj;cases hj
  ·exact h (hj.trans hs))
 have P2:=h_ ho2
 have F2:=h_ ((Frm.of_grown hg2).mono (T:=fun j=>some j=(Value.slice A1 n1 c1).ownBlock\/some j=(Value.slice A2 n2 c2).ownBlock) fun _ h=>.inr h)
 clear ho2 hg2
 go_wp2_with (fail)
 go_ret
 refine⟨gf (by simp),P1.out,P2.out,?_⟩
 exact((Frm.of_below ((qb _ _).alloc (j2 _) _)).mono (fun _ h=>h.elim)).trans (F1.out.trans F2.out)
theorem wpR_len(p c h s:Int)(own other:List Int)(tu ra rb:Int):(wpR p c h s own other tu ra rb).1.length<=1000000:=by
 unfold wpR wpP
 rcases piR_ok p c h s own other tu ra rb with⟨s',L,_,h1,_,_,_,h2,_⟩|⟨_,h2⟩
 ·rw[h1]
  have:=io (p:=aU (sq s.toNat) L) L.length
  simp only
  omega
 ·rw[h2];exact Nat.zero_le _
end Go.Proofs.YtcmeoenkgmghkaaGreat

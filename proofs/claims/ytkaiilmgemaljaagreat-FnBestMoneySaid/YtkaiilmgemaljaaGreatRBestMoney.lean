/- Part of one proof. There are no conditions. -/
import Derived.Test.YtkaiilmgemaljaaGreatRE11
import Derived.Test.YtkaiilmgemaljaaGreatRD20
import Derived.Test.YtkaiilmgemaljaaGreatRR1
import Derived.Test.YtkaiilmgemaljaaGreatRU6
import Derived.Test.YtkaiilmgemaljaaGreatRM37
import Derived.Deep.Cut
import Derived.Test.YtkaiilmgemaljaaGreatRows
import Derived.ProofKit
import Derived.OpenShut
import Derived.ShutString
import Derived.ChangeOld
import Derived.Below
import Derived.Lib.SmallJoins
set_option maxHeartbeats 0
set_option linter.unusedVariables false
set_option linter.unusedSimpArgs false
set_option maxRecDepth 100000
namespace Go.Proofs.YtkaiilmgemaljaaGreat
open Go.RowKit Mo Ps Ra Ex
theorem kR (C:Option Addr) (n c:Nat) (bs:List Int) (w:World) (hC:SBy w C n bs):
  Calls Tryz.prog 8 #[.slice C n c] w fun e w'=>e = .returned (.bool true)/\Below w.heap.size w w':=by
 have HC:=h_ hC;clear hC
 by_cases hn:4096<n
 ·have hd:decide (4096<n)=true:=by simp[hn]
  go_enter Tryz.func8,Tryz.ntmps8
  go_wp2_with (fail)
  refine (kQ C n c w).mono ?_
  rintro e w' ⟨rfl,rfl⟩
  rw[hd]
  go_wp2_with (fail)
  go_ret
  exact⟨rfl,Bel.rfl' _⟩
 have hd:decide (4096<n)=false:=by simp[hn]
 have HD:=h_ (ed C n c bs w HC.out (by omega))
 clear HC
 go_enter Tryz.func8,Tryz.ntmps8
 go_wp2_with (fail)
 refine (kQ C n c w).mono ?_
 rintro e w' ⟨rfl,rfl⟩
 rw[hd]
 go_wp2_with (fail)
 refine HD.out.mono ?_
 rintro e w1 ⟨p,cv,h,s,m,ba,bj,v1,xs,v2,ys,a,b,ra,rb,rfl,hdv,hdm,hdc,h1,h2,hx,hy,hb⟩
 obtain⟨A1,k1,rfl,s1,m1⟩:=h1.read;obtain⟨A2,k2,rfl,s2,m2⟩:=h2.read;have H1:=h_ s1;have H2:=h_ s2;have HB:=h_ hb;clear HD hb h1 h2 s1 s2 hdv hdm hdc hx hy;replace H1:=h_ (H1.out.alloc (.cells #[.int .i64 p,.int .i64 cv,.int .i64 h,.int .i64 s] 25));replace H2:=h_ (H2.out.alloc (.cells #[.int .i64 p,.int .i64 cv,.int .i64 h,.int .i64 s] 25));replace HB:=h_ (HB.out.alloc HB.out.size (.cells #[.int .i64 p,.int .i64 cv,.int .i64 h,.int .i64 s] 25));have HV:Hid (Cel (w1.alloc (.cells #[.int .i64 p,.int .i64 cv,.int .i64 h,.int .i64 s] 25)) (w1.heap.size) [.int .i64 p,.int .i64 cv,.int .i64 h,.int .i64 s]):=Cel.new w1 #[.int .i64 p,.int .i64 cv,.int .i64 h,.int .i64 s] _;replace H1:=h_ (H1.out.alloc (.cells #[.int .i64 m,.bool ba,.bool bj] 53));replace H2:=h_ (H2.out.alloc (.cells #[.int .i64 m,.bool ba,.bool bj] 53));replace HB:=h_ (HB.out.alloc HB.out.size (.cells #[.int .i64 m,.bool ba,.bool bj] 53));replace HV:=h_ (HV.out.alloc (.cells #[.int .i64 m,.bool ba,.bool bj] 53))
 have HR:Hid (Cel ((w1.alloc (.cells #[.int .i64 p,.int .i64 cv,.int .i64 h,.int .i64 s] 25)).alloc (.cells #[.int .i64 m,.bool ba,.bool bj] 53)) (w1.heap.size+1) [.int .i64 m,.bool ba,.bool bj]):=Cel.new' (w1.alloc (.cells #[.int .i64 p,.int .i64 cv,.int .i64 h,.int .i64 s] 25)) #[.int .i64 m,.bool ba,.bool bj] _ (by simp)
 replace H1:=h_ (H1.out.alloc (.cells #[.int .i64 a,.int .i64 b] 55));replace H2:=h_ (H2.out.alloc (.cells #[.int .i64 a,.int .i64 b] 55));replace HB:=h_ (HB.out.alloc HB.out.size (.cells #[.int .i64 a,.int .i64 b] 55));replace HV:=h_ (HV.out.alloc (.cells #[.int .i64 a,.int .i64 b] 55));replace HR:=h_ (HR.out.alloc (.cells #[.int .i64 a,.int .i64 b] 55))
 have HK:Hid (Cel (((w1.alloc (.cells #[.int .i64 p,.int .i64 cv,.int .i64 h,.int .i64 s] 25)).alloc (.cells #[.int .i64 m,.bool ba,.bool bj] 53)).alloc (.cells #[.int .i64 a,.int .i64 b] 55)) (w1.heap.size+1+1) [.int .i64 a,.int .i64 b]):=Cel.new' ((w1.alloc (.cells #[.int .i64 p,.int .i64 cv,.int .i64 h,.int .i64 s] 25)).alloc (.cells #[.int .i64 m,.bool ba,.bool bj] 53)) #[.int .i64 a,.int .i64 b] _ (by simp)
 replace H1:=h_ (H1.out.alloc (.cells #[.int .i64 ra,.int .i64 rb] 39));replace H2:=h_ (H2.out.alloc (.cells #[.int .i64 ra,.int .i64 rb] 39));replace HB:=h_ (HB.out.alloc HB.out.size (.cells #[.int .i64 ra,.int .i64 rb] 39));replace HV:=h_ (HV.out.alloc (.cells #[.int .i64 ra,.int .i64 rb] 39));replace HR:=h_ (HR.out.alloc (.cells #[.int .i64 ra,.int .i64 rb] 39));replace HK:=h_ (HK.out.alloc (.cells #[.int .i64 ra,.int .i64 rb] 39))
 have HG:Hid (Cel ((((w1.alloc (.cells #[.int .i64 p,.int .i64 cv,.int .i64 h,.int .i64 s] 25)).alloc (.cells #[.int .i64 m,.bool ba,.bool bj] 53)).alloc (.cells #[.int .i64 a,.int .i64 b] 55)).alloc (.cells #[.int .i64 ra,.int .i64 rb] 39)) (w1.heap.size+1+1+1) [.int .i64 ra,.int .i64 rb]):=Cel.new' (((w1.alloc (.cells #[.int .i64 p,.int .i64 cv,.int .i64 h,.int .i64 s] 25)).alloc (.cells #[.int .i64 m,.bool ba,.bool bj] 53)).alloc (.cells #[.int .i64 a,.int .i64 b] 55)) #[.int .i64 ra,.int .i64 rb] _ (by simp)
 go_wp2_with (fail)
 generalize ((((w1.alloc (.cells #[.int .i64 p,.int .i64 cv,.int .i64 h,.int .i64 s] 25)).alloc (.cells #[.int .i64 m,.bool ba,.bool bj] 53)).alloc (.cells #[.int .i64 a,.int .i64 b] 55)).alloc (.cells #[.int .i64 ra,.int .i64 rb] 39))=V1 at *;generalize w1.heap.size=g1 at *;obtain⟨r1,hr1⟩:∃r,r=bmR p cv h s m ba xs ys a b ra rb:=⟨_,rfl⟩;obtain⟨q,x1,d1,e1⟩:=r1;have E1:=h_ hr1;clear hr1
 have K:Calls Tryz.prog 36 #[.agg #[.int .i64 p,.int .i64 cv,.int .i64 h,.int .i64 s],.agg #[.int .i64 m,.bool ba,.bool bj],.slice A1 xs.length k1,.slice A2 ys.length k2,.agg #[.int .i64 a,.int .i64 b],.agg #[.int .i64 ra,.int .i64 rb]] V1 fun e w'=>∃v base,e = .returned (.tuple #[v,.agg #[.int .i64 x1,.int .i64 d1],.int .i64 e1])/\V1.heap.size<=base/\OwnS w' base 2 v q/\Below V1.heap.size V1 w':=by
  have:=db p cv h s m ba bj A1 A2 _ _ k1 k2 xs ys a b ra rb _ H1.out H2.out m1 m2;rw[<- E1.out]at this;exact this
 refine K.mono ?_
 rintro e w2 ⟨v3,bs3,rfl,hbs,ho,hb⟩
 obtain⟨A3,k3,rfl,s3,m3⟩:=ho.read;replace H1:=h_ (H1.out.below hb);replace H2:=h_ (H2.out.below hb);replace HB:=h_ (HB.out.trans (hb.mono HB.out.size));replace HV:=h_ (HV.out.below hb);replace HR:=h_ (HR.out.below hb);replace HK:=h_ (HK.out.below hb);replace HG:=h_ (HG.out.below hb);clear hb;have H3:=h_ s3;clear K ho hbs s3;have cHV_0:=HV.out.cell 0 _ rfl;have cHV_1:=HV.out.cell 1 _ rfl;have cHV_2:=HV.out.cell 2 _ rfl;have cHV_3:=HV.out.cell 3 _ rfl;have cHV_z:=HV.out.lt;have cHR_0:=HR.out.cell 0 _ rfl;have cHR_1:=HR.out.cell 1 _ rfl;have cHR_2:=HR.out.cell 2 _ rfl;have cHR_z:=HR.out.lt;have cHK_0:=HK.out.cell 0 _ rfl;have cHK_1:=HK.out.cell 1 _ rfl;have cHK_z:=HK.out.lt;have cHG_0:=HG.out.cell 0 _ rfl;have cHG_1:=HG.out.cell 1 _ rfl;have cHG_z:=HG.out.lt;replace H1:=h_ (H1.out.alloc (.cells #[.int .i64 x1,.int .i64 d1] 35));replace H2:=h_ (H2.out.alloc (.cells #[.int .i64 x1,.int .i64 d1] 35));replace HB:=h_ (HB.out.alloc HB.out.size (.cells #[.int .i64 x1,.int .i64 d1] 35));replace HV:=h_ (HV.out.alloc (.cells #[.int .i64 x1,.int .i64 d1] 35));replace HR:=h_ (HR.out.alloc (.cells #[.int .i64 x1,.int .i64 d1] 35));replace HK:=h_ (HK.out.alloc (.cells #[.int .i64 x1,.int .i64 d1] 35));replace HG:=h_ (HG.out.alloc (.cells #[.int .i64 x1,.int .i64 d1] 35));replace H3:=h_ (H3.out.alloc (.cells #[.int .i64 x1,.int .i64 d1] 35));have HX:Hid (Cel (w2.alloc (.cells #[.int .i64 x1,.int .i64 d1] 35)) (w2.heap.size) [.int .i64 x1,.int .i64 d1]):=Cel.new w2 #[.int .i64 x1,.int .i64 d1] _
 go_wp2_with (fail)
 clear cHV_0 cHV_1 cHV_2 cHV_3 cHV_z cHR_0 cHR_1 cHR_2 cHR_z cHK_0 cHK_1 cHK_z cHG_0 cHG_1 cHG_z;generalize (w2.alloc (.cells #[.int .i64 x1,.int .i64 d1] 35))=V2 at *;generalize w2.heap.size=g2 at *
 have K:Calls Tryz.prog 43 #[.agg #[.int .i64 p,.int .i64 cv,.int .i64 h,.int .i64 s],.agg #[.int .i64 m,.bool ba,.bool bj],.slice A1 xs.length k1,.slice A2 ys.length k2,.agg #[.int .i64 a,.int .i64 b],.agg #[.int .i64 ra,.int .i64 rb]] V2 fun e w'=>∃v base,e = .returned (.tuple #[v,.agg #[.int .i64 x1,.int .i64 d1],.int .i64 e1])/\V2.heap.size<=base/\OwnS w' base 2 v q/\Below V2.heap.size V2 w':=by
  have:=fi p cv h s m ba bj A1 A2 _ _ k1 k2 xs ys a b ra rb _ H1.out H2.out m1 m2;rw[<- E1.out]at this;exact this
 refine K.mono ?_
 rintro e w3 ⟨v4,bs4,rfl,hbs,ho,hb⟩
 obtain⟨A4,k4,rfl,s4,m4⟩:=ho.read;replace H1:=h_ (H1.out.below hb);replace H2:=h_ (H2.out.below hb);replace HB:=h_ (HB.out.trans (hb.mono HB.out.size));replace HV:=h_ (HV.out.below hb);replace HR:=h_ (HR.out.below hb);replace HK:=h_ (HK.out.below hb);replace HG:=h_ (HG.out.below hb);replace H3:=h_ (H3.out.below hb);replace HX:=h_ (HX.out.below hb);clear hb;clear K ho hbs s4 m4;have cHV_0:=HV.out.cell 0 _ rfl;have cHV_1:=HV.out.cell 1 _ rfl;have cHV_2:=HV.out.cell 2 _ rfl;have cHV_3:=HV.out.cell 3 _ rfl;have cHV_z:=HV.out.lt;have cHR_0:=HR.out.cell 0 _ rfl;have cHR_1:=HR.out.cell 1 _ rfl;have cHR_2:=HR.out.cell 2 _ rfl;have cHR_z:=HR.out.lt;have cHK_0:=HK.out.cell 0 _ rfl;have cHK_1:=HK.out.cell 1 _ rfl;have cHK_z:=HK.out.lt;have cHG_0:=HG.out.cell 0 _ rfl;have cHG_1:=HG.out.cell 1 _ rfl;have cHG_z:=HG.out.lt;have cHX_0:=HX.out.cell 0 _ rfl;have cHX_1:=HX.out.cell 1 _ rfl;have cHX_z:=HX.out.lt;replace H1:=h_ (H1.out.alloc (.cells #[.int .i64 x1,.int .i64 d1] 35));replace H2:=h_ (H2.out.alloc (.cells #[.int .i64 x1,.int .i64 d1] 35));replace HB:=h_ (HB.out.alloc HB.out.size (.cells #[.int .i64 x1,.int .i64 d1] 35));replace HV:=h_ (HV.out.alloc (.cells #[.int .i64 x1,.int .i64 d1] 35));replace HR:=h_ (HR.out.alloc (.cells #[.int .i64 x1,.int .i64 d1] 35));replace HK:=h_ (HK.out.alloc (.cells #[.int .i64 x1,.int .i64 d1] 35));replace HG:=h_ (HG.out.alloc (.cells #[.int .i64 x1,.int .i64 d1] 35));replace H3:=h_ (H3.out.alloc (.cells #[.int .i64 x1,.int .i64 d1] 35));replace HX:=h_ (HX.out.alloc (.cells #[.int .i64 x1,.int .i64 d1] 35));have HZ:Hid (Cel (w3.alloc (.cells #[.int .i64 x1,.int .i64 d1] 35)) (w3.heap.size) [.int .i64 x1,.int .i64 d1]):=Cel.new w3 #[.int .i64 x1,.int .i64 d1] _
 have b0:(e1 != e1)=false:=by simp
 by_cases h1:e1=0
 ·subst h1
  obtain⟨cN,hN,sN,ka,kb,i,zs,e,rfl,rfl,rfl,rfl,rfl,hv,hro,hpo,hka,hkb,hh24,rfl,rfl,hev,hql,hil,hiq,hzl,hv1,hv2,ho1,ho2,hlk⟩:=jd E1.out
  have CSW:=h_ fun (W:World)=>eJ a b W
  have CW5:=h_ fun (yn:Int) (yd:Nat) (W:World) (hy:Val (sq sN) ⟨yn,yd⟩)=>w5_any p cN hN yn e.num sN yd e.depth W hv hy hev
  have CBR:=h_ fun (W:World) (hx:SL W A1 xs.length xs)=>fy (fun _=>False) p sN cN hN ka kb A1 _ k1 xs W hx m1 hv hro hpo (fun _ _ h=>h)
  have hlen:(resultsL xs ka kb).length<=1000000:=Nat.le_trans (fA hka hkb hpo hh24) (by omega)
  generalize hsw:swp (a,b)=sw at *;obtain⟨sa,sb⟩:=sw;unfold cbV at CSW
  simp only at CSW hlk
  obtain⟨L,hL⟩:∃L,L=resultsL xs ka kb:=⟨_,rfl⟩;rw[<- hL]at hil hiq hzl hlk hlen CBR;have HLK:=h_ hlk;have HLEN:=h_ hlen
  have HIQ:Hid (q∈L):=by unfold Hid;rw[<- hiq];exact ao L [] hil
  have HQL:=h_ hql;clear hlk hlen hL hzl hil hiq hql hv hro hpo hka hkb hev E1 hsw
  go_wp2_with (fail)
  clear cHV_0 cHV_1 cHV_2 cHV_3 cHV_z cHR_0 cHR_1 cHR_2 cHR_z cHK_0 cHK_1 cHK_z cHG_0 cHG_1 cHG_z cHX_0 cHX_1 cHX_z;generalize (w3.alloc (.cells #[.int .i64 e.num,.int .i64 (e.depth:Int)] 35))=V3 at *;generalize w3.heap.size=g3 at *;clear HZ
  refine (CBR.out _ H1.out).mono ?_
  rintro e' w7 ⟨b7,o7,n7,c7,rfl,hpl,hc7,hb⟩
  replace H1:=h_ (H1.out.below hb);replace H2:=h_ (H2.out.below hb);replace HB:=h_ (HB.out.trans (hb.mono HB.out.size));replace HV:=h_ (HV.out.below hb);replace HR:=h_ (HR.out.below hb);replace HK:=h_ (HK.out.below hb);replace HG:=h_ (HG.out.below hb);replace H3:=h_ (H3.out.below hb);replace HX:=h_ (HX.out.below hb);clear hb;have HPL:=h_ hpl;have hnl:L.length=n7:=hpl.len;have HNL:=h_ hnl
  have hn7:n7<=1000000:=by rw[<- hnl];exact HLEN.out
  clear hpl hnl CBR HG
  go_wp2_with (fail)
  go_loopw [17,18] (fun v17 v18 wr=>∃k:Nat,k<=n7/\v18 = .int .i64 k/\v17 = .bool (decide (q∈L.take k))/\Hid (Below w7.heap.size w7 wr)) (fun _ v18 _=>n7-(intOf v18).toNat)
  case atStart=>exact⟨0,by omega,rfl,by simp,Below.refl _ _⟩
  case round=>
   obtain⟨k,hk,rfl,rfl,HF⟩:=hrel;replace HV:=h_ (HV.out.below HF.out);replace HR:=h_ (HR.out.below HF.out);replace HK:=h_ (HK.out.below HF.out);replace HX:=h_ (HX.out.below HF.out);replace H2:=h_ (H2.out.below HF.out);replace H3:=h_ (H3.out.below HF.out);replace HB:=h_ (HB.out.trans (HF.out.mono HB.out.size))
   by_cases hlt:k<n7
   ·have hki:(k:Int)<(n7:Int):=by omega
    obtain⟨hlq,heq,hyv,hcm⟩:=HLK.out k (by rw[HNL.out];exact hlt)
    obtain⟨bl,ol,Bq,mq,cq,hA,_,q1,hsq,hmq⟩:=(HPL.out.below HF.out).at hlt;injection hA with hA;injection hA with hA1 hA2;subst hA1 hA2;have hmq':(L.getD k []).length=mq:=hsq.1.1
    have HTS:Hid (L.take (k+1)=L.take k++[L.getD k []]):=by unfold Hid;exact kx L [] (by rw[HNL.out];exact hlt)
    obtain⟨yn,hyn⟩:∃y,y=(zs.getD k aY).num:=⟨_,rfl⟩;obtain⟨yd,hyd⟩:∃y,y=(zs.getD k aY).depth:=⟨_,rfl⟩
    have hyv':Val (sq sN) ⟨yn,yd⟩:=by rw[hyn,hyd];exact hyv
    have hcm':cmpE (sq sN) ⟨yn,yd⟩ e<=0:=by rw[hyn,hyd];exact hcm
    rw[<- hyn,<- hyd]at heq;generalize L.getD k []=pk at *;subst hmq'
    have CE:Hid (∀W:World,SL W A2 ys.length ys->SL W Bq pk.length pk->Calls Tryz.prog 30 #[.agg #[.int .i64 p,.int .i64 cN,.int .i64 hN,.int .i64 sN],.agg #[.int .i64 m,.bool ba,.bool bj],.slice A2 ys.length k2,.slice Bq pk.length cq,.agg #[.int .i64 sa,.int .i64 sb]] W fun e w'=>e = .returned (.tuple #[.agg #[.int .i64 (-yn),.int .i64 (yd:Int)],.int .i64 0])/\Below W.heap.size W w'):=fun W h1 h2=>by
     have:=eK p cN hN sN m ba bj A2 Bq _ _ k2 cq ys pk sa sb W h1 h2 m2 hmq;rw[heq]at this;exact this
    have HSQ:=h_ hsq.1
    have C5:=h_ fun (W:World)=>CW5.out yn yd W hyv'
    have hyb:=hyv'.1;have hyc:=hyv'.2.1;unfold aA at hyb hyc
    simp only at hyb hyc
    have hn1:IntKind.i64.wrap (-yn) = -yn:=IntWalk.i64_in _ (by omega)
    have hn2:IntKind.i64.wrap yn=yn:=IntWalk.i64_in _ (by omega)
    have HN1:=h_ hn1;have HN2:=h_ hn2
    have hpl24:pk.length<=1000:=by rw[hlq];omega
    have CLI:=h_ fun (W:World) (hx:SL W Bq pk.length pk) (hy:SL W A3 q.length q)=>likeInts_any Bq A3 _ _ cq k3 pk q W hx hy hpl24 (by rw[HQL.out];omega)
    obtain⟨cm,hcmE⟩:∃c,c=cmpE (sq sN) ⟨yn,yd⟩ e:=⟨_,rfl⟩;have he2:(⟨e.num,e.depth⟩:E)=e:=rfl;rw[he2,<- hcmE]at C5;rw[<- hcmE]at hcm';clear hlq heq hyv hcm hsq hyn hyd hyv' hyb hyc hn1 hn2 hcmE he2;have Q1:=h_ q1;clear q1
    go_wp2_with (fail)
    refine aH 13 12 19 _ _ (.cells #[.int .i64 0,.int .i64 0] 35) (by kernel_rfl) (by kernel_rfl) rfl rfl rfl (fun _ _=>by kernel_rfl) rfl (aK _ _ _ _ rfl rfl) (fun _ _ _ _ h=>h) (by kernel_rfl) ?_
    apply Exists.intro
    refine⟨fun X hX=>?_,fun t1 t2=>?_⟩
    ·
     have hXb:Below wr.heap.size wr X:=by obtain⟨t0,rfl⟩:=hX;exact aa wr t0
     have XHV:=h_ (HV.out.below hXb);have XHR:=h_ (HR.out.below hXb);have XHK:=h_ (HK.out.below hXb);have XH2:=h_ (H2.out.below hXb);have XQS:=h_ (HSQ.out.below hXb);have y1:=keep_cell Q1.out hXb;have y2:=World.block_lt_of_cell? X _ y1;clear hX hXb;have c0:=XHV.out.cell 0 _ rfl;have c1:=XHV.out.cell 1 _ rfl;have c2:=XHV.out.cell 2 _ rfl;have c3:=XHV.out.cell 3 _ rfl;have cz:=XHV.out.lt;have d0:=XHR.out.cell 0 _ rfl;have d1:=XHR.out.cell 1 _ rfl;have d2:=XHR.out.cell 2 _ rfl;have dz:=XHR.out.lt;have f0:=XHK.out.cell 0 _ rfl;have f1:=XHK.out.cell 1 _ rfl;have fz:=XHK.out.lt
     simp only[List.take_succ_cons,List.take_zero]
     repeat (first|go_big_quiet_step ((first|(go_at_call 38;exact more_call (CSW.out _))|(go_at_call 30;exact more_call (CE.out _ (XH2.out.more _) (XQS.out.more _)))))|quiet_step ((first|(go_at_call 38;exact more_call (CSW.out _))|(go_at_call 30;exact more_call (CE.out _ (XH2.out.more _) (XQS.out.more _))))))
     exact wpQuiet_nil rfl
    simp only[List.drop_succ_cons,List.drop_zero,Act.put]
    have HBU:=h_ (cF wr t1 t2 (.cells #[.int .i64 0,.int .i64 0] 35));have HXU:Hid (Cel (more ((more wr t1).alloc (.cells #[.int .i64 0,.int .i64 0] 35)) t2) (more wr t1).heap.size [.int .i64 0,.int .i64 0]):=(Cel.new (more wr t1) #[.int .i64 0,.int .i64 0] 35).below (aa _ t2);have hbb:=ae wr t1;generalize more ((more wr t1).alloc (.cells #[.int .i64 0,.int .i64 0] 35)) t2=U at *;generalize (more wr t1).heap.size=bb at *;have c0:=HXU.out.cell 0 _ rfl;have c1:=HXU.out.cell 1 _ rfl;have f0:=HXU.out.froz 0 _ rfl;have f1:=HXU.out.froz 1 _ rfl;have cz:=HXU.out.lt
    go_upto_region 16 with (fail)
    clear c0 c1 f0 f1 cz
    have HXU2:Hid (Cel ((U.setCell ⟨bb,0,none⟩ (.int .i64 (-yn))).setCell ⟨bb,1,none⟩ (.int .i64 (yd:Int))) bb [.int .i64 (-yn),.int .i64 (yd:Int)]):=(HXU.out.st (i:=0) (v:=.int .i64 (-yn)) (by simp)).st (i:=1) (v:=.int .i64 (yd:Int)) (by simp)
    have HBU2:=h_ (fe (fe HBU.out hbb (.int .i64 (-yn)) (i:=0)) hbb (.int .i64 (yd:Int)) (i:=1));clear HXU HBU;generalize (U.setCell ⟨bb,0,none⟩ (.int .i64 (-yn))).setCell ⟨bb,1,none⟩ (.int .i64 (yd:Int))=U2 at *;replace HV:=h_ (HV.out.below HBU2.out);replace HR:=h_ (HR.out.below HBU2.out);replace HK:=h_ (HK.out.below HBU2.out);replace HX:=h_ (HX.out.below HBU2.out);replace H2:=h_ (H2.out.below HBU2.out);replace H3:=h_ (H3.out.below HBU2.out);replace HSQ:=h_ (HSQ.out.below HBU2.out);replace Q1:=h_ (keep_cell Q1.out HBU2.out);replace HF:=h_ (HF.out.trans (HBU2.out.mono HF.out.size));clear HBU2;have hn1:=HN1.out;have hn2:=HN2.out;have hn3 : - -yn=yn:=Int.neg_neg yn;have c0:=HXU2.out.cell 0 _ rfl;have c1:=HXU2.out.cell 1 _ rfl;have cz:=HXU2.out.lt;have d0:=HV.out.cell 0 _ rfl;have d1:=HV.out.cell 1 _ rfl;have d2:=HV.out.cell 2 _ rfl;have d3:=HV.out.cell 3 _ rfl;have dz:=HV.out.lt;have f0:=HX.out.cell 0 _ rfl;have f1:=HX.out.cell 1 _ rfl;have fz:=HX.out.lt
    go_wp2_with (fail)
    clear c0 c1 cz d0 d1 d2 d3 dz f0 f1 fz hn1 hn2 hn3
    refine (C5.out _).mono ?_
    rintro e' w8 ⟨rfl,hb⟩
    replace HV:=h_ (HV.out.below hb);replace HR:=h_ (HR.out.below hb);replace HK:=h_ (HK.out.below hb);replace HX:=h_ (HX.out.below hb);replace H2:=h_ (H2.out.below hb);replace H3:=h_ (H3.out.below hb);replace HSQ:=h_ (HSQ.out.below hb);replace Q1:=h_ (keep_cell Q1.out hb);replace HF:=h_ (HF.out.trans (hb.mono HF.out.size))
    have hcm2:¬0<cm:=by omega
    clear hb;have y1:=Q1.out;have y2:=World.block_lt_of_cell? w8 _ y1
    by_cases hs0:q∈L.take k
    ·have hd0:decide (q∈L.take k)=true:=decide_eq_true hs0
     have HS1:Hid (decide (q∈L.take (k+1))=true):=by unfold Hid;rw[HTS.out];exact decide_eq_true (List.mem_append.2 (.inl hs0))
     clear hs0
     go_wp2_with (fail)
     go_roundw
     case rel=>exact⟨k+1,by omega,by go_num,by rw[HS1.out],HF.out⟩
     case measure=>(simp[intOf])<;>omega
    ·have hd0:decide (q∈L.take k)=false:=decide_eq_false hs0
     have HS1:Hid (decide (q∈L.take (k+1))=decide (pk=q)):=by
      unfold Hid;rw[HTS.out,decide_eq_decide,List.mem_append,List.mem_singleton]
      exact⟨fun h=>h.elim (fun h=>absurd h hs0) fun h=>h.symm,fun h=>.inr h.symm⟩
     clear hs0
     go_wp2_with (fail)
     refine (CLI.out _ HSQ.out H3.out).mono ?_
     rintro e' w9 ⟨rfl,tq,rfl⟩
     replace HF:=h_ (below_drewN' HF.out tq);clear y1 y2
     go_wp2_with (fail)
     go_roundw
     case rel=>exact⟨k+1,by omega,by go_num,by rw[HS1.out],HF.out⟩
     case measure=>(simp[intOf])<;>omega
   ·have hke:k=n7:=by omega
    have HE:Hid (decide (q∈L.take k)=true):=by unfold Hid;rw[List.take_of_length_le (by rw[HNL.out];omega)];exact decide_eq_true HIQ.out
    rw[HE.out]
    go_wp2_with (fail)
    go_ret
    exact⟨rfl,HB.out⟩
 ·have b1:(e1 != 0)=true:=by simp[h1]
  have hq:=bmR_no E1.out h1
  have bq:((q.length:Int) == 0)=true:=by rw[hq];rfl
  clear E1 h1 hq
  go_wp2_with (fail)
  go_ret
  exact⟨rfl,HB.out⟩
end Go.Proofs.YtkaiilmgemaljaaGreat
namespace Go.Proofs.YtkaiilmgemaljaaGreat.bestmoney
open Go.ChangeShapes Go.WideShapes Go.ChangeAt Go.RowKit Go.Joins
theorem own : ownKnob Tryz.prog.godebug = none := by kernel_rfl
theorem laidOut : laidOutB Tryz.prog = true := by kernel_rfl
theorem andI {a b : Bool} (h1 : a = true) (h2 : b = true) : (a && b) = true := by rw [h1, h2]; rfl
theorem lifted (os:Os) (started:os.Started) (H:Type) (enc:TypeId×Value->H):
  ReturnsInHanded {} Tryz.checked os 8 .any (Rows.fnBestMoneySpec.pre6 enc Tryz.prog Tryz.f8 Rows.fnBestMoneyRow.domain false) (Rows.fnBestMoneySpec.post enc Tryz.prog Tryz.f8 false true false false):=by
 refine returnsInHanded_of_change (C:=Tryz.checked) own started (by kernel_rfl) Tryz.func8
  (ChangeSpec.witness6 (enc:=enc) (C:=Tryz.checked) false ⟨#[],#[.slice none 0 0],[]⟩ 8 (by kernel_rfl) (by kernel_rfl) (by kernel_rfl) (by kernel_rfl)) ?_
 intro W base args ds gs before hval0 hW hcnd _
 have hval:∀(j:Nat) t v,Tryz.f8.params[j]? = some t->args[j]? = some v->Value.okWide Tryz.prog W .any base t v:=hval0;have hW':=hW;obtain⟨p,q,hA0,hV,rfl,hfz,hnd⟩:=hW
 have hA:DataW.TrodAll enc Tryz.prog W 0 (fun _=>true) true Tryz.f8.params.toList args.toList ds p:=hA0
 rw[Tryz.params8]at hA hval;obtain⟨v0,vs0,d0,ds0,p0,q0,hargs,rfl,rfl,h0,r0⟩:=trodAll_cons hA;obtain⟨rfl,rfl,rfl⟩:=trodAll_nil r0
 obtain rfl:args=#[v0]:=by cases args;simp_all
 obtain⟨rfl,rfl⟩:=trodVars_none hV;have k0:=h0
 have lt0:∀x∈p0,x.block<W.heap.size:=by obtain⟨m,hm⟩:=k0;exact DataW.trod_lt m _ _ _ hm
 obtain⟨fuel0,hf0⟩:=h0;obtain⟨A,n,ca,own,he0,sA,mA⟩:=openSBy hf0;obtain⟨a1,l1,q1,rfl⟩:=okWide_slice Tryz.underlying22 (hval 0 22 _ rfl rfl)
 simp[Value.cells]at he0
 obtain⟨rfl,rfl,rfl⟩:=he0;clear hA0 hval0
 refine (kR a1 l1 q1 own W sA).mono fun e W' ⟨he,bel⟩=>?_
 subst he
 exact⟨_,rfl,_,_,_,[],_,[],hW',trodAll_mk1 (shut_bool Tryz.underlying4 _),(trodAll_cons_mk (Below.trod laidOut (by kernel_rfl) (of_decide_eq_true (by kernel_rfl)) k0 bel lt0) trodAll_mk0),rfl,bel.frame _,fun h=>by cases h⟩
theorem facts:joinedFacts Tryz.pinned.checked.prog 8 Tryz.f8 Rows.fnBestMoneySpec Rows.fnBestMoneyRow=true:=by
 unfold joinedFacts
 repeat' (with_reducible refine andI ?_ ?_)
 all_goals (as_aux_lemma=>kernel_rfl)
theorem over:Rows.fnBestMoneyRow.holds Tryz.pinned (OpenSpec.ofChange Rows.fnBestMoneySpec):=
 OpenClaim.holds_of_wide 8 Tryz.f8 rfl rfl rfl rfl rfl rfl rfl ⟨rfl,rfl,rfl,rfl,rfl⟩ rfl rfl rfl rfl rfl (by as_aux_lemma=>kernel_rfl) Tryz.func8 facts
  (of_decide_eq_true (by kernel_rfl)) (by unfold Func.isWrapper;first|(rw[if_pos (by decide +kernel)];kernel_rfl)|(rw[if_neg (by decide +kernel)];exact⟨rfl,rfl⟩))
  (fun os started H enc _=>lifted os started H enc)
theorem proved:Rows.FnBestMoneySaid:=over
#print axioms proved
end Go.Proofs.YtkaiilmgemaljaaGreat.bestmoney

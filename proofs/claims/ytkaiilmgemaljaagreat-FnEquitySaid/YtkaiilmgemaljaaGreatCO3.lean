/- Part of one proof. There are no conditions. -/
import Derived.Test.YtkaiilmgemaljaaGreatCE7
import Derived.Test.YtkaiilmgemaljaaGreatCM24
set_option maxHeartbeats 0
set_option linter.unusedVariables false
set_option linter.unusedSimpArgs false
set_option maxRecDepth 100000
namespace Go.Proofs.YtkaiilmgemaljaaGreat
open Go.RowKit Mo Ps Ra Ex
theorem equity_law (C:Option Addr) (n c:Nat) (bs:List Int) (w:World) (hC:SBy w C n bs):
  Calls Tryz.prog 7 #[.slice C n c] w fun e w'=>e = .returned (.bool true)∧Below w.heap.size w w':=by
 have HC:=h_ hC;clear hC
 by_cases hn:4096<n
 ·have hd:decide (4096<n)=true:=by simp[hn]
  go_enter Tryz.func7,Tryz.ntmps7
  go_wp2_with (fail)
  refine (big_any C n c w).mono ?_
  rintro e w' ⟨rfl,rfl⟩
  rw[hd]
  go_wp2_with (fail)
  go_ret
  exact⟨rfl,Bel.rfl' _⟩
 have hd:decide (4096<n)=false:=by simp[hn]
 have HD:=h_ (zey C n c bs w HC.out (by omega))
 clear HC
 go_enter Tryz.func7,Tryz.ntmps7
 go_wp2_with (fail)
 refine (big_any C n c w).mono ?_
 rintro e w' ⟨rfl,rfl⟩
 rw[hd]
 go_wp2_with (fail)
 refine HD.out.mono ?_
 rintro e w1 ⟨p,cv,h,s,m,ba,bj,v1,xs,v2,ys,a,b,rfl,hdv,hdm,hdc,h1,h2,hx,hy,hb⟩
 obtain⟨A1,k1,rfl,s1,m1⟩:=h1.read;obtain⟨A2,k2,rfl,s2,m2⟩:=h2.read;have H1:=h_ s1;have H2:=h_ s2;have HB:=h_ hb;have HDV:=h_ hdv;have HDM:=h_ hdm;have HDC:=h_ hdc;clear HD hb h1 h2 s1 s2 hdv hdm hdc hx hy;replace H1:=h_ (H1.out.alloc (.cells #[.int .i64 p,.int .i64 cv,.int .i64 h,.int .i64 s] 25));replace H2:=h_ (H2.out.alloc (.cells #[.int .i64 p,.int .i64 cv,.int .i64 h,.int .i64 s] 25));replace HB:=h_ (HB.out.alloc HB.out.size (.cells #[.int .i64 p,.int .i64 cv,.int .i64 h,.int .i64 s] 25));have HV:Hid (Cel (w1.alloc (.cells #[.int .i64 p,.int .i64 cv,.int .i64 h,.int .i64 s] 25)) (w1.heap.size) [.int .i64 p,.int .i64 cv,.int .i64 h,.int .i64 s]):=Cel.new w1 #[.int .i64 p,.int .i64 cv,.int .i64 h,.int .i64 s] _;replace H1:=h_ (H1.out.alloc (.cells #[.int .i64 m,.bool ba,.bool bj] 53));replace H2:=h_ (H2.out.alloc (.cells #[.int .i64 m,.bool ba,.bool bj] 53));replace HB:=h_ (HB.out.alloc HB.out.size (.cells #[.int .i64 m,.bool ba,.bool bj] 53));replace HV:=h_ (HV.out.alloc (.cells #[.int .i64 m,.bool ba,.bool bj] 53))
 have HR:Hid (Cel ((w1.alloc (.cells #[.int .i64 p,.int .i64 cv,.int .i64 h,.int .i64 s] 25)).alloc (.cells #[.int .i64 m,.bool ba,.bool bj] 53)) (w1.heap.size+1) [.int .i64 m,.bool ba,.bool bj]):=Cel.new' (w1.alloc (.cells #[.int .i64 p,.int .i64 cv,.int .i64 h,.int .i64 s] 25)) #[.int .i64 m,.bool ba,.bool bj] _ (by simp)
 replace H1:=h_ (H1.out.alloc (.cells #[.int .i64 a,.int .i64 b] 55));replace H2:=h_ (H2.out.alloc (.cells #[.int .i64 a,.int .i64 b] 55));replace HB:=h_ (HB.out.alloc HB.out.size (.cells #[.int .i64 a,.int .i64 b] 55));replace HV:=h_ (HV.out.alloc (.cells #[.int .i64 a,.int .i64 b] 55));replace HR:=h_ (HR.out.alloc (.cells #[.int .i64 a,.int .i64 b] 55))
 have HK:Hid (Cel (((w1.alloc (.cells #[.int .i64 p,.int .i64 cv,.int .i64 h,.int .i64 s] 25)).alloc (.cells #[.int .i64 m,.bool ba,.bool bj] 53)).alloc (.cells #[.int .i64 a,.int .i64 b] 55)) (w1.heap.size+1+1) [.int .i64 a,.int .i64 b]):=Cel.new' ((w1.alloc (.cells #[.int .i64 p,.int .i64 cv,.int .i64 h,.int .i64 s] 25)).alloc (.cells #[.int .i64 m,.bool ba,.bool bj] 53)) #[.int .i64 a,.int .i64 b] _ (by simp)
 go_wp2_with (fail)
 generalize (((w1.alloc (.cells #[.int .i64 p,.int .i64 cv,.int .i64 h,.int .i64 s] 25)).alloc (.cells #[.int .i64 m,.bool ba,.bool bj] 53)).alloc (.cells #[.int .i64 a,.int .i64 b] 55))=V1 at *;generalize w1.heap.size=g1 at *;obtain⟨r1,hr1⟩:∃r,r=eqR p cv h s m ba xs ys a b:=⟨_,rfl⟩;obtain⟨r2,hr2⟩:∃r,r=rlR p cv h s m ba xs ys a b:=⟨_,rfl⟩;obtain⟨x1,d1,e1⟩:=r1;obtain⟨x2,d2,e2⟩:=r2;have E1:=h_ hr1;have E2:=h_ hr2;clear hr1 hr2;have K:=zgd p cv h s m ba bj A1 A2 _ _ k1 k2 xs ys a b _ H1.out H2.out m1 m2;rw[← E1.out]at K
 refine (K).mono ?_
 rintro e w2 ⟨rfl,hb⟩
 replace H1:=h_ (H1.out.below hb);replace H2:=h_ (H2.out.below hb);replace HB:=h_ (HB.out.trans (hb.mono HB.out.size));replace HV:=h_ (HV.out.below hb);replace HR:=h_ (HR.out.below hb);replace HK:=h_ (HK.out.below hb);clear hb;clear K;have cHV_0:=HV.out.cell 0 _ rfl;have cHV_1:=HV.out.cell 1 _ rfl;have cHV_2:=HV.out.cell 2 _ rfl;have cHV_3:=HV.out.cell 3 _ rfl;have cHV_z:=HV.out.lt;have cHR_0:=HR.out.cell 0 _ rfl;have cHR_1:=HR.out.cell 1 _ rfl;have cHR_2:=HR.out.cell 2 _ rfl;have cHR_z:=HR.out.lt;have cHK_0:=HK.out.cell 0 _ rfl;have cHK_1:=HK.out.cell 1 _ rfl;have cHK_z:=HK.out.lt;replace H1:=h_ (H1.out.alloc (.cells #[.int .i64 x1,.int .i64 d1] 35));replace H2:=h_ (H2.out.alloc (.cells #[.int .i64 x1,.int .i64 d1] 35));replace HB:=h_ (HB.out.alloc HB.out.size (.cells #[.int .i64 x1,.int .i64 d1] 35));replace HV:=h_ (HV.out.alloc (.cells #[.int .i64 x1,.int .i64 d1] 35));replace HR:=h_ (HR.out.alloc (.cells #[.int .i64 x1,.int .i64 d1] 35));replace HK:=h_ (HK.out.alloc (.cells #[.int .i64 x1,.int .i64 d1] 35));have HX:Hid (Cel (w2.alloc (.cells #[.int .i64 x1,.int .i64 d1] 35)) (w2.heap.size) [.int .i64 x1,.int .i64 d1]):=Cel.new w2 #[.int .i64 x1,.int .i64 d1] _
 go_wp2_with (fail)
 clear cHV_0 cHV_1 cHV_2 cHV_3 cHV_z cHR_0 cHR_1 cHR_2 cHR_z cHK_0 cHK_1 cHK_z;generalize (w2.alloc (.cells #[.int .i64 x1,.int .i64 d1] 35))=V2 at *;generalize w2.heap.size=g2 at *;have K:=zgm p cv h s m ba bj A1 A2 _ _ k1 k2 xs ys a b _ H1.out H2.out m1 m2;rw[← E2.out]at K
 refine (K).mono ?_
 rintro e w3 ⟨rfl,hb⟩
 replace H1:=h_ (H1.out.below hb);replace H2:=h_ (H2.out.below hb);replace HB:=h_ (HB.out.trans (hb.mono HB.out.size));replace HV:=h_ (HV.out.below hb);replace HR:=h_ (HR.out.below hb);replace HK:=h_ (HK.out.below hb);replace HX:=h_ (HX.out.below hb);clear hb;clear K;have cHV_0:=HV.out.cell 0 _ rfl;have cHV_1:=HV.out.cell 1 _ rfl;have cHV_2:=HV.out.cell 2 _ rfl;have cHV_3:=HV.out.cell 3 _ rfl;have cHV_z:=HV.out.lt;have cHR_0:=HR.out.cell 0 _ rfl;have cHR_1:=HR.out.cell 1 _ rfl;have cHR_2:=HR.out.cell 2 _ rfl;have cHR_z:=HR.out.lt;have cHK_0:=HK.out.cell 0 _ rfl;have cHK_1:=HK.out.cell 1 _ rfl;have cHK_z:=HK.out.lt;replace H1:=h_ (H1.out.alloc (.cells #[.int .i64 x2,.int .i64 d2] 35));replace H2:=h_ (H2.out.alloc (.cells #[.int .i64 x2,.int .i64 d2] 35));replace HB:=h_ (HB.out.alloc HB.out.size (.cells #[.int .i64 x2,.int .i64 d2] 35));replace HV:=h_ (HV.out.alloc (.cells #[.int .i64 x2,.int .i64 d2] 35));replace HR:=h_ (HR.out.alloc (.cells #[.int .i64 x2,.int .i64 d2] 35));replace HK:=h_ (HK.out.alloc (.cells #[.int .i64 x2,.int .i64 d2] 35));replace HX:=h_ (HX.out.alloc (.cells #[.int .i64 x2,.int .i64 d2] 35));have HY:Hid (Cel (w3.alloc (.cells #[.int .i64 x2,.int .i64 d2] 35)) (w3.heap.size) [.int .i64 x2,.int .i64 d2]):=Cel.new w3 #[.int .i64 x2,.int .i64 d2] _
 go_wp2_with (fail)
 clear cHV_0 cHV_1 cHV_2 cHV_3 cHV_z cHR_0 cHR_1 cHR_2 cHR_z cHK_0 cHK_1 cHK_z;generalize (w3.alloc (.cells #[.int .i64 x2,.int .i64 d2] 35))=V3 at *;generalize w3.heap.size=g3 at *;have K:=zfb p cv h s m ba bj A1 A2 _ _ k1 k2 xs ys a b _ H1.out H2.out m1 m2;rw[← E1.out]at K
 refine (K).mono ?_
 rintro e w4 ⟨rfl,hb⟩
 replace H1:=h_ (H1.out.below hb);replace H2:=h_ (H2.out.below hb);replace HB:=h_ (HB.out.trans (hb.mono HB.out.size));replace HV:=h_ (HV.out.below hb);replace HR:=h_ (HR.out.below hb);replace HK:=h_ (HK.out.below hb);replace HX:=h_ (HX.out.below hb);replace HY:=h_ (HY.out.below hb);clear hb;clear K;have cHV_0:=HV.out.cell 0 _ rfl;have cHV_1:=HV.out.cell 1 _ rfl;have cHV_2:=HV.out.cell 2 _ rfl;have cHV_3:=HV.out.cell 3 _ rfl;have cHV_z:=HV.out.lt;have cHR_0:=HR.out.cell 0 _ rfl;have cHR_1:=HR.out.cell 1 _ rfl;have cHR_2:=HR.out.cell 2 _ rfl;have cHR_z:=HR.out.lt;have cHK_0:=HK.out.cell 0 _ rfl;have cHK_1:=HK.out.cell 1 _ rfl;have cHK_z:=HK.out.lt;replace H1:=h_ (H1.out.alloc (.cells #[.int .i64 x1,.int .i64 d1] 35));replace H2:=h_ (H2.out.alloc (.cells #[.int .i64 x1,.int .i64 d1] 35));replace HB:=h_ (HB.out.alloc HB.out.size (.cells #[.int .i64 x1,.int .i64 d1] 35));replace HV:=h_ (HV.out.alloc (.cells #[.int .i64 x1,.int .i64 d1] 35));replace HR:=h_ (HR.out.alloc (.cells #[.int .i64 x1,.int .i64 d1] 35));replace HK:=h_ (HK.out.alloc (.cells #[.int .i64 x1,.int .i64 d1] 35));replace HX:=h_ (HX.out.alloc (.cells #[.int .i64 x1,.int .i64 d1] 35));replace HY:=h_ (HY.out.alloc (.cells #[.int .i64 x1,.int .i64 d1] 35));have HZ1:Hid (Cel (w4.alloc (.cells #[.int .i64 x1,.int .i64 d1] 35)) (w4.heap.size) [.int .i64 x1,.int .i64 d1]):=Cel.new w4 #[.int .i64 x1,.int .i64 d1] _
 go_wp2_with (fail)
 clear cHV_0 cHV_1 cHV_2 cHV_3 cHV_z cHR_0 cHR_1 cHR_2 cHR_z cHK_0 cHK_1 cHK_z;generalize (w4.alloc (.cells #[.int .i64 x1,.int .i64 d1] 35))=V4 at *;generalize w4.heap.size=g4 at *;clear HZ1;have K:=zfE p cv h s m ba bj A1 A2 _ _ k1 k2 xs ys a b _ H1.out H2.out m1 m2;rw[← E2.out]at K
 refine (K).mono ?_
 rintro e w5 ⟨rfl,hb⟩
 replace H1:=h_ (H1.out.below hb);replace H2:=h_ (H2.out.below hb);replace HB:=h_ (HB.out.trans (hb.mono HB.out.size));replace HV:=h_ (HV.out.below hb);replace HR:=h_ (HR.out.below hb);replace HK:=h_ (HK.out.below hb);replace HX:=h_ (HX.out.below hb);replace HY:=h_ (HY.out.below hb);clear hb;clear K;have cHV_0:=HV.out.cell 0 _ rfl;have cHV_1:=HV.out.cell 1 _ rfl;have cHV_2:=HV.out.cell 2 _ rfl;have cHV_3:=HV.out.cell 3 _ rfl;have cHV_z:=HV.out.lt;have cHR_0:=HR.out.cell 0 _ rfl;have cHR_1:=HR.out.cell 1 _ rfl;have cHR_2:=HR.out.cell 2 _ rfl;have cHR_z:=HR.out.lt;have cHK_0:=HK.out.cell 0 _ rfl;have cHK_1:=HK.out.cell 1 _ rfl;have cHK_z:=HK.out.lt;have cHX_0:=HX.out.cell 0 _ rfl;have cHX_1:=HX.out.cell 1 _ rfl;have cHX_z:=HX.out.lt;have cHY_0:=HY.out.cell 0 _ rfl;have cHY_1:=HY.out.cell 1 _ rfl;have cHY_z:=HY.out.lt;replace H1:=h_ (H1.out.alloc (.cells #[.int .i64 x2,.int .i64 d2] 35));replace H2:=h_ (H2.out.alloc (.cells #[.int .i64 x2,.int .i64 d2] 35));replace HB:=h_ (HB.out.alloc HB.out.size (.cells #[.int .i64 x2,.int .i64 d2] 35));replace HV:=h_ (HV.out.alloc (.cells #[.int .i64 x2,.int .i64 d2] 35));replace HR:=h_ (HR.out.alloc (.cells #[.int .i64 x2,.int .i64 d2] 35));replace HK:=h_ (HK.out.alloc (.cells #[.int .i64 x2,.int .i64 d2] 35));replace HX:=h_ (HX.out.alloc (.cells #[.int .i64 x2,.int .i64 d2] 35));replace HY:=h_ (HY.out.alloc (.cells #[.int .i64 x2,.int .i64 d2] 35));have HZ2:Hid (Cel (w5.alloc (.cells #[.int .i64 x2,.int .i64 d2] 35)) (w5.heap.size) [.int .i64 x2,.int .i64 d2]):=Cel.new w5 #[.int .i64 x2,.int .i64 d2] _
 have b0:(e1 != e1)=false:=by simp
 have b00:(e2 != e2)=false:=by simp
 by_cases h1:e1=0
 ·have b1:(e1 != 0)=false:=by simp[h1]
  have hbad:=HDC.out;obtain⟨s',u,rfl,hv,hs1,hs6,rfl,rfl,hvu,hv1,hv2,hcu,hlo,hc⟩:=equity_facts E1.out h1 E2.out;have hB:=(sq_bd hs1 hs6).1
  have vlo:Val (sq s') ⟨-a,(0:Nat)⟩:=zbK (by omega) (by omega)
  have vu:Val (sq s') ⟨u.num,u.depth⟩:=hvu
  have C1:=h_ fun (W:World)=>w5_any p cv h u.num (-a) s' u.depth 0 W hv vu vlo
  have q1:0≤cmpE (sq s') ⟨u.num,u.depth⟩ ⟨-a,0⟩:=cmp_ge.2 hlo;generalize cmpE (sq s') ⟨u.num,u.depth⟩ ⟨-a,0⟩=n1 at *
  have hva : -4000≤a∧a≤4000:=by omega
  clear hlo vlo hbad
  have b1':(e1 != 0)=false:=by simp[h1]
  rcases hc with⟨hk2,hnum⟩|⟨hk2,y,hvy,rfl,rfl,hc⟩
  ·have b2:(e2 != 0)=true:=by simp[hk2]
   clear hk2 E1 E2 hvu vu hcu hs1 hs6 hB
   go_wp2_with (fail)
   clear cHV_0 cHV_1 cHV_2 cHV_3 cHV_z cHR_0 cHR_1 cHR_2 cHR_z cHK_0 cHK_1 cHK_z cHX_0 cHX_1 cHX_z cHY_0 cHY_1 cHY_z;generalize (w5.alloc (.cells #[.int .i64 x2,.int .i64 d2] 35))=V5 at *;generalize w5.heap.size=g5 at *;clear H1 H2 HV HR HY HZ2
   refine (C1.out _).mono ?_
   rintro e w6 ⟨rfl,hb⟩
   replace HB:=h_ (HB.out.trans (hb.mono HB.out.size));replace HK:=h_ (HK.out.below hb);replace HX:=h_ (HX.out.below hb);clear hb;have cHK_0:=HK.out.cell 0 _ rfl;have cHK_1:=HK.out.cell 1 _ rfl;have cHK_z:=HK.out.lt;have cHX_0:=HX.out.cell 0 _ rfl;have cHX_1:=HX.out.cell 1 _ rfl;have cHX_z:=HX.out.lt
   by_cases h5:u.num=a
   ·have b5:(u.num == a)=true:=by simp[h5]
    go_wp2_with (fail)
    go_ret
    exact⟨rfl,HB.out⟩
   ·have b5:(u.num == a)=false:=by simp[h5]
    have b6:(u.num == -a)=true:=by rcases hnum with h|h;exact absurd h h5;simp[h]
    clear hnum h5
    go_wp2_with (fail)
    go_ret
    exact⟨rfl,HB.out⟩
  ·have b2:(e2 != 0)=false:=by simp[hk2]
   have CE:=h_ fun (W:World)=>sIsExact_yes p cv h u.num s' u.depth W hv vu
   have CD:=h_ fun (W:World)=>zhC m ba bj a b W hcu (by omega) (by omega)
   have hBT:w.heap.size≤w5.heap.size+1:=by have:=HB.out.size;simp at this;omega
   have oHV:g1<w5.heap.size+1:=by have:=HV.out.lt;simpa using this
   have oHR:g1+1<w5.heap.size+1:=by have:=HR.out.lt;simpa using this
   have oHK:g1+1+1<w5.heap.size+1:=by have:=HK.out.lt;simpa using this
   have oHX:g2<w5.heap.size+1:=by have:=HX.out.lt;simpa using this
   replace H1:=h_ (H1.out.alloc (.cells #[.int .i64 (y.num),.int .i64 ((y.depth:Int))] 35));replace H2:=h_ (H2.out.alloc (.cells #[.int .i64 (y.num),.int .i64 ((y.depth:Int))] 35));replace HB:=h_ (HB.out.alloc HB.out.size (.cells #[.int .i64 (y.num),.int .i64 ((y.depth:Int))] 35));replace HV:=h_ (HV.out.alloc (.cells #[.int .i64 (y.num),.int .i64 ((y.depth:Int))] 35));replace HR:=h_ (HR.out.alloc (.cells #[.int .i64 (y.num),.int .i64 ((y.depth:Int))] 35));replace HK:=h_ (HK.out.alloc (.cells #[.int .i64 (y.num),.int .i64 ((y.depth:Int))] 35));replace HX:=h_ (HX.out.alloc (.cells #[.int .i64 (y.num),.int .i64 ((y.depth:Int))] 35));replace HY:=h_ (HY.out.alloc (.cells #[.int .i64 (y.num),.int .i64 ((y.depth:Int))] 35));replace HZ2:=h_ (HZ2.out.alloc (.cells #[.int .i64 (y.num),.int .i64 ((y.depth:Int))] 35))
   have HT:Hid (Cel ((w5.alloc (.cells #[.int .i64 y.num,.int .i64 (y.depth:Int)] 35)).alloc (.cells #[.int .i64 (y.num),.int .i64 ((y.depth:Int))] 35)) (w5.heap.size+1) [.int .i64 (y.num),.int .i64 ((y.depth:Int))]):=Cel.new' (w5.alloc (.cells #[.int .i64 y.num,.int .i64 (y.depth:Int)] 35)) #[.int .i64 (y.num),.int .i64 ((y.depth:Int))] _ (by simp)
   clear hk2 E1 E2 hcu
   go_wp2_with (fail)
   clear cHV_0 cHV_1 cHV_2 cHV_3 cHV_z cHR_0 cHR_1 cHR_2 cHR_z cHK_0 cHK_1 cHK_z cHX_0 cHX_1 cHX_z cHY_0 cHY_1 cHY_z;generalize ((w5.alloc (.cells #[.int .i64 y.num,.int .i64 (y.depth:Int)] 35)).alloc (.cells #[.int .i64 (y.num),.int .i64 ((y.depth:Int))] 35))=V5 at *;generalize w5.heap.size=g5 at *;clear HZ2
   rcases hc with⟨hm,rfl,hdb⟩|⟨hm,z,hvz,hdb,he⟩
   ·
    rw[hm]at CD;have HDB:=h_ hdb;clear hdb hm;have K:=zcE p cv h s' m ba bj A1 A2 _ _ k1 k2 xs ys a b _ H1.out H2.out m1 m2;rw[HDB.out]at K
    refine (K).mono ?_
    rintro e w6 ⟨rfl,hb⟩
    replace H1:=h_ (H1.out.below hb);replace H2:=h_ (H2.out.below hb);replace HB:=h_ (HB.out.trans (hb.mono HB.out.size));replace HV:=h_ (HV.out.below hb);replace HR:=h_ (HR.out.below hb);replace HK:=h_ (HK.out.below hb);replace HX:=h_ (HX.out.below hb);replace HY:=h_ (HY.out.below hb);replace HT:=h_ (HT.out.below hb);clear hb;clear K;have cHV_0:=HV.out.cell 0 _ rfl;have cHV_1:=HV.out.cell 1 _ rfl;have cHV_2:=HV.out.cell 2 _ rfl;have cHV_3:=HV.out.cell 3 _ rfl;have cHV_z:=HV.out.lt;have cHR_0:=HR.out.cell 0 _ rfl;have cHR_1:=HR.out.cell 1 _ rfl;have cHR_2:=HR.out.cell 2 _ rfl;have cHR_z:=HR.out.lt;have cHK_0:=HK.out.cell 0 _ rfl;have cHK_1:=HK.out.cell 1 _ rfl;have cHK_z:=HK.out.lt;have cHX_0:=HX.out.cell 0 _ rfl;have cHX_1:=HX.out.cell 1 _ rfl;have cHX_z:=HX.out.lt;have cHT_0:=HT.out.cell 0 _ rfl;have cHT_1:=HT.out.cell 1 _ rfl;have cHT_z:=HT.out.lt;replace H1:=h_ (H1.out.alloc (.cells #[.int .i64 0,.int .i64 0] 35));replace H2:=h_ (H2.out.alloc (.cells #[.int .i64 0,.int .i64 0] 35));replace HB:=h_ (HB.out.alloc HB.out.size (.cells #[.int .i64 0,.int .i64 0] 35));replace HV:=h_ (HV.out.alloc (.cells #[.int .i64 0,.int .i64 0] 35));replace HR:=h_ (HR.out.alloc (.cells #[.int .i64 0,.int .i64 0] 35));replace HK:=h_ (HK.out.alloc (.cells #[.int .i64 0,.int .i64 0] 35));replace HX:=h_ (HX.out.alloc (.cells #[.int .i64 0,.int .i64 0] 35));replace HY:=h_ (HY.out.alloc (.cells #[.int .i64 0,.int .i64 0] 35));replace HT:=h_ (HT.out.alloc (.cells #[.int .i64 0,.int .i64 0] 35));have HZ:Hid (Cel (w6.alloc (.cells #[.int .i64 0,.int .i64 0] 35)) (w6.heap.size) [.int .i64 0,.int .i64 0]):=Cel.new w6 #[.int .i64 0,.int .i64 0] _
    have ee:∀W:World,(binOp .eql 35 (.agg #[.int .i64 u.num,.int .i64 (u.depth:Int)]) (.agg #[.int .i64 u.num,.int .i64 (u.depth:Int)])).run Tryz.prog W = .ok (.bool true) W:=fun W=>by rw[eql_exact];simp
    go_wp2_with (fail)
    clear cHV_0 cHV_1 cHV_2 cHV_3 cHV_z cHR_0 cHR_1 cHR_2 cHR_z cHK_0 cHK_1 cHK_z cHX_0 cHX_1 cHX_z cHT_0 cHT_1 cHT_z;generalize (w6.alloc (.cells #[.int .i64 0,.int .i64 0] 35))=V6 at *;generalize w6.heap.size=g6 at *;clear H1 H2 HY HZ
    refine (CD.out _).mono ?_
    rintro e w7 ⟨rfl,hb⟩
    replace HB:=h_ (HB.out.trans (hb.mono HB.out.size));replace HV:=h_ (HV.out.below hb);replace HR:=h_ (HR.out.below hb);replace HK:=h_ (HK.out.below hb);replace HX:=h_ (HX.out.below hb);replace HT:=h_ (HT.out.below hb);clear hb;have cHV_0:=HV.out.cell 0 _ rfl;have cHV_1:=HV.out.cell 1 _ rfl;have cHV_2:=HV.out.cell 2 _ rfl;have cHV_3:=HV.out.cell 3 _ rfl;have cHV_z:=HV.out.lt;have cHR_0:=HR.out.cell 0 _ rfl;have cHR_1:=HR.out.cell 1 _ rfl;have cHR_2:=HR.out.cell 2 _ rfl;have cHR_z:=HR.out.lt;have cHK_0:=HK.out.cell 0 _ rfl;have cHK_1:=HK.out.cell 1 _ rfl;have cHK_z:=HK.out.lt;have cHX_0:=HX.out.cell 0 _ rfl;have cHX_1:=HX.out.cell 1 _ rfl;have cHX_z:=HX.out.lt;have cHT_0:=HT.out.cell 0 _ rfl;have cHT_1:=HT.out.cell 1 _ rfl;have cHT_z:=HT.out.lt
    go_wp2_with (fail)
    clear cHV_0 cHV_1 cHV_2 cHV_3 cHV_z cHR_0 cHR_1 cHR_2 cHR_z cHK_0 cHK_1 cHK_z cHX_0 cHX_1 cHX_z cHT_0 cHT_1 cHT_z;clear HR HK HT
    refine (C1.out _).mono ?_
    rintro e w8 ⟨rfl,hb⟩
    replace HB:=h_ (HB.out.trans (hb.mono HB.out.size));replace HV:=h_ (HV.out.below hb);replace HX:=h_ (HX.out.below hb);clear hb;have cHV_0:=HV.out.cell 0 _ rfl;have cHV_1:=HV.out.cell 1 _ rfl;have cHV_2:=HV.out.cell 2 _ rfl;have cHV_3:=HV.out.cell 3 _ rfl;have cHV_z:=HV.out.lt;have cHX_0:=HX.out.cell 0 _ rfl;have cHX_1:=HX.out.cell 1 _ rfl;have cHX_z:=HX.out.lt
    go_wp2_with (fail)
    clear cHV_0 cHV_1 cHV_2 cHV_3 cHV_z cHX_0 cHX_1 cHX_z;clear HV HX
    refine (CE.out _).mono ?_
    rintro e w9 ⟨rfl,hb⟩
    replace HB:=h_ (HB.out.trans (hb.mono HB.out.size));clear hb
    go_wp2_with (fail)
    go_ret
    exact⟨rfl,HB.out⟩
   ·
    rw[hm]at CD;have HE:=h_ he;clear he;have HDB:=h_ hdb;clear hdb hm;have K:=zcE p cv h s' m ba bj A1 A2 _ _ k1 k2 xs ys a b _ H1.out H2.out m1 m2;rw[HDB.out]at K
    refine (K).mono ?_
    rintro e w6 ⟨rfl,hb⟩
    replace H1:=h_ (H1.out.below hb);replace H2:=h_ (H2.out.below hb);replace HB:=h_ (HB.out.trans (hb.mono HB.out.size));replace HV:=h_ (HV.out.below hb);replace HR:=h_ (HR.out.below hb);replace HK:=h_ (HK.out.below hb);replace HX:=h_ (HX.out.below hb);replace HY:=h_ (HY.out.below hb);replace HT:=h_ (HT.out.below hb);clear hb;clear K;have cHV_0:=HV.out.cell 0 _ rfl;have cHV_1:=HV.out.cell 1 _ rfl;have cHV_2:=HV.out.cell 2 _ rfl;have cHV_3:=HV.out.cell 3 _ rfl;have cHV_z:=HV.out.lt;have cHR_0:=HR.out.cell 0 _ rfl;have cHR_1:=HR.out.cell 1 _ rfl;have cHR_2:=HR.out.cell 2 _ rfl;have cHR_z:=HR.out.lt;have cHK_0:=HK.out.cell 0 _ rfl;have cHK_1:=HK.out.cell 1 _ rfl;have cHK_z:=HK.out.lt;have cHX_0:=HX.out.cell 0 _ rfl;have cHX_1:=HX.out.cell 1 _ rfl;have cHX_z:=HX.out.lt;have cHY_0:=HY.out.cell 0 _ rfl;have cHY_1:=HY.out.cell 1 _ rfl;have cHY_z:=HY.out.lt;have cHT_0:=HT.out.cell 0 _ rfl;have cHT_1:=HT.out.cell 1 _ rfl;have cHT_z:=HT.out.lt;replace H1:=h_ (H1.out.alloc (.cells #[.int .i64 (z.num),.int .i64 ((z.depth:Int))] 35));replace H2:=h_ (H2.out.alloc (.cells #[.int .i64 (z.num),.int .i64 ((z.depth:Int))] 35));replace HB:=h_ (HB.out.alloc HB.out.size (.cells #[.int .i64 (z.num),.int .i64 ((z.depth:Int))] 35));replace HV:=h_ (HV.out.alloc (.cells #[.int .i64 (z.num),.int .i64 ((z.depth:Int))] 35));replace HR:=h_ (HR.out.alloc (.cells #[.int .i64 (z.num),.int .i64 ((z.depth:Int))] 35));replace HK:=h_ (HK.out.alloc (.cells #[.int .i64 (z.num),.int .i64 ((z.depth:Int))] 35));replace HX:=h_ (HX.out.alloc (.cells #[.int .i64 (z.num),.int .i64 ((z.depth:Int))] 35));replace HY:=h_ (HY.out.alloc (.cells #[.int .i64 (z.num),.int .i64 ((z.depth:Int))] 35));replace HT:=h_ (HT.out.alloc (.cells #[.int .i64 (z.num),.int .i64 ((z.depth:Int))] 35));have HZ:Hid (Cel (w6.alloc (.cells #[.int .i64 (z.num),.int .i64 ((z.depth:Int))] 35)) (w6.heap.size) [.int .i64 (z.num),.int .i64 ((z.depth:Int))]):=Cel.new w6 #[.int .i64 (z.num),.int .i64 ((z.depth:Int))] _
    have C2:=h_ fun (W:World)=>w5_any p cv h z.num y.num s' z.depth y.depth W hv hvz hvy
    have ee:∀W:World,(binOp .eql 35 (.agg #[.int .i64 u.num,.int .i64 (u.depth:Int)]) (.agg #[.int .i64 u.num,.int .i64 (u.depth:Int)])).run Tryz.prog W = .ok (.bool true) W:=fun W=>by rw[eql_exact];simp
    go_wp2_with (fail)
    clear cHV_0 cHV_1 cHV_2 cHV_3 cHV_z cHR_0 cHR_1 cHR_2 cHR_z cHK_0 cHK_1 cHK_z cHX_0 cHX_1 cHX_z cHY_0 cHY_1 cHY_z cHT_0 cHT_1 cHT_z;generalize (w6.alloc (.cells #[.int .i64 (z.num),.int .i64 ((z.depth:Int))] 35))=V6 at *;generalize w6.heap.size=g6 at *;clear H1 H2 HY
    refine (C2.out _).mono ?_
    rintro e w7 ⟨rfl,hb⟩
    replace HB:=h_ (HB.out.trans (hb.mono HB.out.size));replace HV:=h_ (HV.out.below hb);replace HR:=h_ (HR.out.below hb);replace HK:=h_ (HK.out.below hb);replace HX:=h_ (HX.out.below hb);replace HT:=h_ (HT.out.below hb);replace HZ:=h_ (HZ.out.below hb);clear hb
    by_cases hlt:ltE (sq s') y z=true
    ·have b7:(cmpE (sq s') ⟨z.num,z.depth⟩ ⟨y.num,y.depth⟩ == 1)=true:=by simp[cmp_one.2 hlt]
     have he:=HE.out;clear HE;rw[if_pos hlt]at he;subst he;generalize cmpE (sq s') ⟨u.num,u.depth⟩ ⟨y.num,y.depth⟩=n2 at *;have HZ2':=h_ (HT.out.st2 (.int .i64 u.num) (.int .i64 (u.depth:Int)));have cHV_0:=HV.out.cell 0 _ rfl;have cHV_1:=HV.out.cell 1 _ rfl;have cHV_2:=HV.out.cell 2 _ rfl;have cHV_3:=HV.out.cell 3 _ rfl;have cHV_z:=HV.out.lt;have cHR_0:=HR.out.cell 0 _ rfl;have cHR_1:=HR.out.cell 1 _ rfl;have cHR_2:=HR.out.cell 2 _ rfl;have cHR_z:=HR.out.lt;have cHK_0:=HK.out.cell 0 _ rfl;have cHK_1:=HK.out.cell 1 _ rfl;have cHK_z:=HK.out.lt;have cHX_0:=HX.out.cell 0 _ rfl;have cHX_1:=HX.out.cell 1 _ rfl;have cHX_z:=HX.out.lt;have cHT_0:=HT.out.cell 0 _ rfl;have cHT_1:=HT.out.cell 1 _ rfl;have cHT_z:=HT.out.lt;have cHZ_0:=HZ.out.cell 0 _ rfl;have cHZ_1:=HZ.out.cell 1 _ rfl;have cHZ_z:=HZ.out.lt;have fHT_0:=HT.out.froz 0 _ rfl;have fHT_1:=HT.out.froz 1 _ rfl
     have nHV:¬(g1)=(g5+1):=by omega
     have nHV':¬(g5+1)=(g1):=by omega
     have nHR:¬(g1+1)=(g5+1):=by omega
     have nHR':¬(g5+1)=(g1+1):=by omega
     have nHK:¬(g1+1+1)=(g5+1):=by omega
     have nHK':¬(g5+1)=(g1+1+1):=by omega
     have nHX:¬(g2)=(g5+1):=by omega
     have nHX':¬(g5+1)=(g2):=by omega
     go_wp2_with (fail)
     clear cHV_0 cHV_1 cHV_2 cHV_3 cHV_z cHR_0 cHR_1 cHR_2 cHR_z cHK_0 cHK_1 cHK_z cHX_0 cHX_1 cHX_z cHT_0 cHT_1 cHT_z fHT_0 fHT_1 cHZ_0 cHZ_1 cHZ_z;replace HV:=h_ (HV.out.frmN (zdO w7 (g5+1) (.int .i64 u.num) (.int .i64 (u.depth:Int))) nHV);replace HR:=h_ (HR.out.frmN (zdO w7 (g5+1) (.int .i64 u.num) (.int .i64 (u.depth:Int))) nHR);replace HK:=h_ (HK.out.frmN (zdO w7 (g5+1) (.int .i64 u.num) (.int .i64 (u.depth:Int))) nHK);replace HX:=h_ (HX.out.frmN (zdO w7 (g5+1) (.int .i64 u.num) (.int .i64 (u.depth:Int))) nHX);replace HT:=HZ2';clear HZ2' HZ;replace HB:=h_ (zhz (zhz HB.out hBT (.int .i64 u.num) (i:=0)) hBT (.int .i64 (u.depth:Int)) (i:=1));generalize ((w7.setCell ⟨g5+1,0,none⟩ (.int .i64 u.num)).setCell ⟨g5+1,1,none⟩ (.int .i64 (u.depth:Int)))=X7 at *
     refine (CD.out _).mono ?_
     rintro e w8 ⟨rfl,hb⟩
     replace HB:=h_ (HB.out.trans (hb.mono HB.out.size));replace HV:=h_ (HV.out.below hb);replace HR:=h_ (HR.out.below hb);replace HK:=h_ (HK.out.below hb);replace HX:=h_ (HX.out.below hb);replace HT:=h_ (HT.out.below hb);clear hb;have cHV_0:=HV.out.cell 0 _ rfl;have cHV_1:=HV.out.cell 1 _ rfl;have cHV_2:=HV.out.cell 2 _ rfl;have cHV_3:=HV.out.cell 3 _ rfl;have cHV_z:=HV.out.lt;have cHR_0:=HR.out.cell 0 _ rfl;have cHR_1:=HR.out.cell 1 _ rfl;have cHR_2:=HR.out.cell 2 _ rfl;have cHR_z:=HR.out.lt;have cHK_0:=HK.out.cell 0 _ rfl;have cHK_1:=HK.out.cell 1 _ rfl;have cHK_z:=HK.out.lt;have cHX_0:=HX.out.cell 0 _ rfl;have cHX_1:=HX.out.cell 1 _ rfl;have cHX_z:=HX.out.lt;have cHT_0:=HT.out.cell 0 _ rfl;have cHT_1:=HT.out.cell 1 _ rfl;have cHT_z:=HT.out.lt
     go_wp2_with (fail)
     clear cHV_0 cHV_1 cHV_2 cHV_3 cHV_z cHR_0 cHR_1 cHR_2 cHR_z cHK_0 cHK_1 cHK_z cHX_0 cHX_1 cHX_z cHT_0 cHT_1 cHT_z;clear HR HK HT
     refine (C1.out _).mono ?_
     rintro e w9 ⟨rfl,hb⟩
     replace HB:=h_ (HB.out.trans (hb.mono HB.out.size));replace HV:=h_ (HV.out.below hb);replace HX:=h_ (HX.out.below hb);clear hb;have cHV_0:=HV.out.cell 0 _ rfl;have cHV_1:=HV.out.cell 1 _ rfl;have cHV_2:=HV.out.cell 2 _ rfl;have cHV_3:=HV.out.cell 3 _ rfl;have cHV_z:=HV.out.lt;have cHX_0:=HX.out.cell 0 _ rfl;have cHX_1:=HX.out.cell 1 _ rfl;have cHX_z:=HX.out.lt
     go_wp2_with (fail)
     clear cHV_0 cHV_1 cHV_2 cHV_3 cHV_z cHX_0 cHX_1 cHX_z;clear HV HX
     refine (CE.out _).mono ?_
     rintro e w10 ⟨rfl,hb⟩
     replace HB:=h_ (HB.out.trans (hb.mono HB.out.size));clear hb
     go_wp2_with (fail)
     go_ret
     exact⟨rfl,HB.out⟩
    ·have b7:(cmpE (sq s') ⟨z.num,z.depth⟩ ⟨y.num,y.depth⟩ == 1)=false:=beq_eq_false_iff_ne.2 fun hh=>hlt (cmp_one.1 hh)
     have he:=HE.out;clear HE;rw[if_neg hlt]at he;subst he;generalize cmpE (sq s') ⟨z.num,z.depth⟩ ⟨u.num,u.depth⟩=n2 at *;have cHV_0:=HV.out.cell 0 _ rfl;have cHV_1:=HV.out.cell 1 _ rfl;have cHV_2:=HV.out.cell 2 _ rfl;have cHV_3:=HV.out.cell 3 _ rfl;have cHV_z:=HV.out.lt;have cHR_0:=HR.out.cell 0 _ rfl;have cHR_1:=HR.out.cell 1 _ rfl;have cHR_2:=HR.out.cell 2 _ rfl;have cHR_z:=HR.out.lt;have cHK_0:=HK.out.cell 0 _ rfl;have cHK_1:=HK.out.cell 1 _ rfl;have cHK_z:=HK.out.lt;have cHX_0:=HX.out.cell 0 _ rfl;have cHX_1:=HX.out.cell 1 _ rfl;have cHX_z:=HX.out.lt;have cHT_0:=HT.out.cell 0 _ rfl;have cHT_1:=HT.out.cell 1 _ rfl;have cHT_z:=HT.out.lt
     go_wp2_with (fail)
     clear cHV_0 cHV_1 cHV_2 cHV_3 cHV_z cHR_0 cHR_1 cHR_2 cHR_z cHK_0 cHK_1 cHK_z cHX_0 cHX_1 cHX_z cHT_0 cHT_1 cHT_z
     refine (CD.out _).mono ?_
     rintro e w8 ⟨rfl,hb⟩
     replace HB:=h_ (HB.out.trans (hb.mono HB.out.size));replace HV:=h_ (HV.out.below hb);replace HR:=h_ (HR.out.below hb);replace HK:=h_ (HK.out.below hb);replace HX:=h_ (HX.out.below hb);replace HT:=h_ (HT.out.below hb);replace HZ:=h_ (HZ.out.below hb);clear hb;have cHV_0:=HV.out.cell 0 _ rfl;have cHV_1:=HV.out.cell 1 _ rfl;have cHV_2:=HV.out.cell 2 _ rfl;have cHV_3:=HV.out.cell 3 _ rfl;have cHV_z:=HV.out.lt;have cHR_0:=HR.out.cell 0 _ rfl;have cHR_1:=HR.out.cell 1 _ rfl;have cHR_2:=HR.out.cell 2 _ rfl;have cHR_z:=HR.out.lt;have cHK_0:=HK.out.cell 0 _ rfl;have cHK_1:=HK.out.cell 1 _ rfl;have cHK_z:=HK.out.lt;have cHX_0:=HX.out.cell 0 _ rfl;have cHX_1:=HX.out.cell 1 _ rfl;have cHX_z:=HX.out.lt;have cHT_0:=HT.out.cell 0 _ rfl;have cHT_1:=HT.out.cell 1 _ rfl;have cHT_z:=HT.out.lt
     go_wp2_with (fail)
     clear cHV_0 cHV_1 cHV_2 cHV_3 cHV_z cHR_0 cHR_1 cHR_2 cHR_z cHK_0 cHK_1 cHK_z cHX_0 cHX_1 cHX_z cHT_0 cHT_1 cHT_z;clear HR HK HT
     refine (C1.out _).mono ?_
     rintro e w9 ⟨rfl,hb⟩
     replace HB:=h_ (HB.out.trans (hb.mono HB.out.size));replace HV:=h_ (HV.out.below hb);replace HX:=h_ (HX.out.below hb);replace HZ:=h_ (HZ.out.below hb);clear hb;have cHV_0:=HV.out.cell 0 _ rfl;have cHV_1:=HV.out.cell 1 _ rfl;have cHV_2:=HV.out.cell 2 _ rfl;have cHV_3:=HV.out.cell 3 _ rfl;have cHV_z:=HV.out.lt;have cHX_0:=HX.out.cell 0 _ rfl;have cHX_1:=HX.out.cell 1 _ rfl;have cHX_z:=HX.out.lt
     go_wp2_with (fail)
     clear cHV_0 cHV_1 cHV_2 cHV_3 cHV_z cHX_0 cHX_1 cHX_z;clear HV HX
     refine (CE.out _).mono ?_
     rintro e w10 ⟨rfl,hb⟩
     replace HB:=h_ (HB.out.trans (hb.mono HB.out.size));replace HZ:=h_ (HZ.out.below hb);clear hb
     go_wp2_with (fail)
     go_ret
     exact⟨rfl,HB.out⟩
 ·have b1:(e1 != 0)=true:=by simp[h1]
  go_wp2_with (fail)
  go_ret
  exact⟨rfl,HB.out⟩
end Go.Proofs.YtkaiilmgemaljaaGreat

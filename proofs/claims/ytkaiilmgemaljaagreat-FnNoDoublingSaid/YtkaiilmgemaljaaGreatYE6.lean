/- Part of one proof. There are no conditions. -/
import Derived.Test.YtkaiilmgemaljaaGreatYZv
import Derived.Test.YtkaiilmgemaljaaGreatYD2
import Derived.Test.YtkaiilmgemaljaaGreatYO0
import Derived.Test.YtkaiilmgemaljaaGreatYE3
set_option maxHeartbeats 0
set_option linter.unusedVariables false
set_option linter.unusedSimpArgs false
set_option maxRecDepth 100000
namespace Go.Proofs.YtkaiilmgemaljaaGreat
open Go.RowKit Ps Ra Ex
def cubE (B:Int) (x:E):Option E:=(sclE B x ((2:Nat):Int)).bind fun y=>addE B y ⟨-1,0⟩
noncomputable def cubR (p c h s:Int) (own other:List Int):Int×Int×Int:=if codeW p c h s own other false=0 then numR ((win s.toNat own other).bind (cubE (sq s.toNat))) else (0,0,codeW p c h s own other false)
theorem gD (p c h s:Int) (A B:Option Addr) (n m ca cb:Nat) (own other:List Int) (w:World) (hA:SL w A n own) (hB:SL w B m other) (hca:n<=ca) (hcb:m<=cb):
  Calls Tryz.prog 50 #[.agg #[.int .i64 p,.int .i64 c,.int .i64 h,.int .i64 s],.slice A n ca,.slice B m cb] w (RetN w (cubR p c h s own other)):=by
 have SA:=h_ hA;have SB:=h_ hB;have HB:=h_ (Bel.rfl' w)
 have CW:=h_ fun (W:World) (a:SL W A n own) (b:SL W B m other)=>gC p c h s A B n m ca cb own other W a b hca hcb
 clear hA hB;obtain⟨r,hr⟩:∃r,r=winR p c h s own other:=⟨_,rfl⟩;rw[<- hr]at CW
 by_cases hct:codeW p c h s own other false=0
 focus
  obtain⟨hv,hp1,hp2,hN⟩:=gw (codeW_T hct)
  have hvv:=ak hv
  obtain⟨s',rfl⟩:∃s':Nat,s=s':=⟨s.toNat,by omega⟩
  have hs1:1<=s':=by omega
  have hs6:s'<=6:=by omega
  obtain⟨hq1,hq36,_⟩:=sq_bd hs1 hs6
  have hWR:cubR p c h s' own other=numR ((win s' own other).bind (cubE (sq s'))):=by
   unfold cubR;rw[if_pos hct,Int.toNat_natCast]
  have hrr:r=numR (win s' own other):=by
   rw[hr];unfold winR;rw[if_pos hct,Int.toNat_natCast]
  have HV:=h_ hv;clear hr hv hp1 hp2 hN hvv hct
  rcases hwo:win s' own other with _|⟨m1,d1⟩
  focus
   rw[hwo]at hrr hWR
   have HWR:Hid (cubR p c h s' own other=(0,0,3)):=hWR;replace hrr:r=(0,0,3):=hrr;subst hrr;clear hwo hWR
   refine ?zg
  rotate_left
  focus
   have hval:=iL hq1 hwo
   rw[hwo]at hrr hWR;replace hrr:r=(m1,(d1:Int),0):=hrr;replace hWR:cubR p c h s' own other=numR (cubE (sq s') ⟨m1,d1⟩):=hWR;subst hrr;clear hwo
   have SC:=h_ fun (W:World)=>fo p c h m1 s' d1 2 W hs1 hs6 hval (by omega) (by omega)
   unfold cubE at hWR
   rcases hm:sclE (sq s') ⟨m1,d1⟩ ((2:Nat):Int) with _|⟨m2,d2⟩
   focus
    rw[hm]at hWR SC
    have HWR:Hid (cubR p c h s' own other=(0,0,3)):=hWR;clear hm hval hWR
    refine ?za
   rotate_left
   focus
    have hv2:=eV hq1 hm
    rw[hm]at hWR SC;replace hWR:cubR p c h s' own other=numR (addE (sq s') ⟨m2,d2⟩ ⟨-1,0⟩):=hWR
    have AD:=h_ fun (W:World)=>cJ p c h m2 (-1) s' d2 0 W hs1 hs6 hv2 mone_val
    clear hm hval hv2
    rcases ha:addE (sq s') ⟨m2,d2⟩ ⟨-1,0⟩with _|⟨m3,d3⟩
    focus
     rw[ha]at hWR AD
     have HWR:Hid (cubR p c h s' own other=(0,0,3)):=hWR;clear ha hWR
     refine ?zb
    rotate_left
    focus
     rw[ha]at hWR AD
     have HWR:Hid (cubR p c h s' own other=(m3,(d3:Int),0)):=hWR;clear ha hWR
     refine ?zc
 rotate_left 4
 focus
  have hrr:r=(0,0,codeW p c h s own other false):=by
   rw[hr];unfold winR;rw[if_neg hct]
  have HWR:Hid (cubR p c h s own other=(0,0,codeW p c h s own other false)):=by
   unfold Hid cubR;rw[if_neg hct]
  subst hrr;clear hr;generalize codeW p c h s own other false=k at *
  have b0:(k != 0)=true:=by simp[hct]
  clear hct
  refine ?zf
 rotate_left
 case' zf|zg|za|zb|zc=>
  go_enter Tryz.func50,Tryz.ntmps50
  go_wp2_with (fail)
  refine (CW.out _ ((SA.out.alloc _).alloc _) ((SB.out.alloc _).alloc _)).mono ?_
  rintro e w1 ⟨rfl,hb⟩
 case' zf=>
  have K1:=h_ (((Cel.new' _ #[.int .i64 p,.int .i64 c,.int .i64 h,.int .i64 s] _ (g:=w.heap.size) (by simp)).alloc _).below hb)
 case' zg|za|zb|zc=>
  have K1:=h_ (((Cel.new' _ #[.int .i64 p,.int .i64 c,.int .i64 h,.int .i64 s'] _ (g:=w.heap.size) (by simp)).alloc _).below hb)
 case' zf|zg|za|zb|zc=>
  have K2:=h_ ((Cel.new' _ #[.int .i64 0,.int .i64 0] _ (g:=w.heap.size+1) (by simp)).below hb)
  replace SA:=h_ (((SA.out.alloc _).alloc _).below hb);replace SB:=h_ (((SB.out.alloc _).alloc _).below hb);replace HB:=h_ (Bel.trans (Bel.trans (Bel.trans HB.out (Bel.alloc _ _)) (Bel.alloc _ _)) hb);clear hb;have hz:=Below.size HB.out;have cK1_0:=K1.out.cell 0 _ rfl;have fK1_0:=K1.out.froz 0 _ rfl;have cK1_1:=K1.out.cell 1 _ rfl;have fK1_1:=K1.out.froz 1 _ rfl;have cK1_2:=K1.out.cell 2 _ rfl;have fK1_2:=K1.out.froz 2 _ rfl;have cK1_3:=K1.out.cell 3 _ rfl;have fK1_3:=K1.out.froz 3 _ rfl;have zK1:=K1.out.lt;have cK2_0:=K2.out.cell 0 _ rfl;have fK2_0:=K2.out.froz 0 _ rfl;have cK2_1:=K2.out.cell 1 _ rfl;have fK2_1:=K2.out.froz 1 _ rfl;have zK2:=K2.out.lt
  go_wp2_with (fail)
 case' za|zb|zc=>
  refine (SC.out _).mono ?_
  rintro e w2 ⟨rfl,hb⟩
  clear cK1_0 fK1_0 cK1_1 fK1_1 cK1_2 fK1_2 cK1_3 fK1_3 zK1 cK2_0 fK2_0 cK2_1 fK2_1 zK2 hz;replace K1:=h_ ((K1.out.alloc _).below hb);replace K2:=h_ ((K2.out.alloc _).below hb)
  have K3:=h_ ((Cel.new' _ #[.int .i64 m1,.int .i64 (d1:Int)] _ (g:=w1.heap.size) (by simp)).below hb)
  replace SA:=h_ ((SA.out.alloc _).below hb);replace SB:=h_ ((SB.out.alloc _).below hb);replace HB:=h_ (Bel.trans (Bel.trans HB.out (Bel.alloc _ _)) hb);clear hb;have hz:=Below.size HB.out;have cK1_0:=K1.out.cell 0 _ rfl;have fK1_0:=K1.out.froz 0 _ rfl;have cK1_1:=K1.out.cell 1 _ rfl;have fK1_1:=K1.out.froz 1 _ rfl;have cK1_2:=K1.out.cell 2 _ rfl;have fK1_2:=K1.out.froz 2 _ rfl;have cK1_3:=K1.out.cell 3 _ rfl;have fK1_3:=K1.out.froz 3 _ rfl;have zK1:=K1.out.lt;have cK2_0:=K2.out.cell 0 _ rfl;have fK2_0:=K2.out.froz 0 _ rfl;have cK2_1:=K2.out.cell 1 _ rfl;have fK2_1:=K2.out.froz 1 _ rfl;have zK2:=K2.out.lt;have cK3_0:=K3.out.cell 0 _ rfl;have fK3_0:=K3.out.froz 0 _ rfl;have cK3_1:=K3.out.cell 1 _ rfl;have fK3_1:=K3.out.froz 1 _ rfl;have zK3:=K3.out.lt
  go_wp2_with (fail)
 case' zb|zc=>
  refine (AD.out _).mono ?_
  rintro e w3 ⟨rfl,hb⟩
  clear cK1_0 fK1_0 cK1_1 fK1_1 cK1_2 fK1_2 cK1_3 fK1_3 zK1 cK2_0 fK2_0 cK2_1 fK2_1 zK2 cK3_0 fK3_0 cK3_1 fK3_1 zK3 hz;replace K1:=h_ ((K1.out.alloc _).below hb);replace K2:=h_ ((K2.out.alloc _).below hb);replace K3:=h_ ((K3.out.alloc _).below hb)
  have K4:=h_ ((Cel.new' _ #[.int .i64 m2,.int .i64 (d2:Int)] _ (g:=w2.heap.size) (by simp)).below hb)
  replace SA:=h_ ((SA.out.alloc _).below hb);replace SB:=h_ ((SB.out.alloc _).below hb);replace HB:=h_ (Bel.trans (Bel.trans HB.out (Bel.alloc _ _)) hb);clear hb;have hz:=Below.size HB.out;have cK1_0:=K1.out.cell 0 _ rfl;have fK1_0:=K1.out.froz 0 _ rfl;have cK1_1:=K1.out.cell 1 _ rfl;have fK1_1:=K1.out.froz 1 _ rfl;have cK1_2:=K1.out.cell 2 _ rfl;have fK1_2:=K1.out.froz 2 _ rfl;have cK1_3:=K1.out.cell 3 _ rfl;have fK1_3:=K1.out.froz 3 _ rfl;have zK1:=K1.out.lt;have cK2_0:=K2.out.cell 0 _ rfl;have fK2_0:=K2.out.froz 0 _ rfl;have cK2_1:=K2.out.cell 1 _ rfl;have fK2_1:=K2.out.froz 1 _ rfl;have zK2:=K2.out.lt;have cK3_0:=K3.out.cell 0 _ rfl;have fK3_0:=K3.out.froz 0 _ rfl;have cK3_1:=K3.out.cell 1 _ rfl;have fK3_1:=K3.out.froz 1 _ rfl;have zK3:=K3.out.lt;have cK4_0:=K4.out.cell 0 _ rfl;have fK4_0:=K4.out.froz 0 _ rfl;have cK4_1:=K4.out.cell 1 _ rfl;have fK4_1:=K4.out.froz 1 _ rfl;have zK4:=K4.out.lt
  go_wp2_with (fail)
 case' za=>
  refine bodyPost_ret (v:=.tuple #[.agg #[.int .i64 0,.int .i64 0],.int .i64 3]) (by simp[results,Tryz.results50,go_sem,cK1_0,fK1_0,cK1_1,fK1_1,cK1_2,fK1_2,cK1_3,fK1_3,zK1,cK2_0,fK2_0,cK2_1,fK2_1,zK2,cK3_0,fK3_0,cK3_1,fK3_1,zK3]) rfl (RetN.mk' HWR.out ?_)
 case' zf=>
  refine bodyPost_ret (v:=.tuple #[.agg #[.int .i64 0,.int .i64 0],.int .i64 k]) (by simp[results,Tryz.results50,go_sem,cK1_0,fK1_0,cK1_1,fK1_1,cK1_2,fK1_2,cK1_3,fK1_3,zK1,cK2_0,fK2_0,cK2_1,fK2_1,zK2]) rfl (RetN.mk' HWR.out ?_)
 case' zg=>
  refine bodyPost_ret (v:=.tuple #[.agg #[.int .i64 0,.int .i64 0],.int .i64 3]) (by simp[results,Tryz.results50,go_sem,cK1_0,fK1_0,cK1_1,fK1_1,cK1_2,fK1_2,cK1_3,fK1_3,zK1,cK2_0,fK2_0,cK2_1,fK2_1,zK2]) rfl (RetN.mk' HWR.out ?_)
 case' zb=>
  refine bodyPost_ret (v:=.tuple #[.agg #[.int .i64 0,.int .i64 0],.int .i64 3]) (by simp[results,Tryz.results50,go_sem,cK1_0,fK1_0,cK1_1,fK1_1,cK1_2,fK1_2,cK1_3,fK1_3,zK1,cK2_0,fK2_0,cK2_1,fK2_1,zK2,cK3_0,fK3_0,cK3_1,fK3_1,zK3,cK4_0,fK4_0,cK4_1,fK4_1,zK4]) rfl (RetN.mk' HWR.out ?_)
 case' zc=>
  refine bodyPost_ret (v:=.tuple #[.agg #[.int .i64 m3,.int .i64 (d3:Int)],.int .i64 0]) (by simp[results,Tryz.results50,go_sem,cK1_0,fK1_0,cK1_1,fK1_1,cK1_2,fK1_2,cK1_3,fK1_3,zK1,cK2_0,fK2_0,cK2_1,fK2_1,zK2,cK3_0,fK3_0,cK3_1,fK3_1,zK3,cK4_0,fK4_0,cK4_1,fK4_1,zK4]) rfl (RetN.mk' HWR.out ?_)
 case za|zf|zg|zb|zc=>
  repeat (first|exact HB.out|refine stw ?_ (by omega)|refine alw ?_ (by omega))
theorem da (p c h s:Int) (A B:Option Addr) (n m ca cb:Nat) (own other:List Int) (w:World) (hA:SL w A n own) (hB:SL w B m other) (hca:n<=ca) (hcb:m<=cb):
  Calls Tryz.prog 51 #[.agg #[.int .i64 p,.int .i64 c,.int .i64 h,.int .i64 s],.slice A n ca,.slice B m cb] w (RetN w (cubR p c h s own other)):=by
 have SA:=h_ hA;have SB:=h_ hB;have HB:=h_ (Bel.rfl' w)
 have CW:=h_ fun (W:World) (a:SL W A n own) (b:SL W B m other)=>js p c h s A B n m ca cb own other W a b hca hcb
 clear hA hB;obtain⟨r,hr⟩:∃r,r=winR p c h s own other:=⟨_,rfl⟩;rw[<- hr]at CW
 by_cases hct:codeW p c h s own other false=0
 focus
  obtain⟨hv,hp1,hp2,hN⟩:=gw (codeW_T hct)
  have hvv:=ak hv
  obtain⟨s',rfl⟩:∃s':Nat,s=s':=⟨s.toNat,by omega⟩
  have hs1:1<=s':=by omega
  have hs6:s'<=6:=by omega
  obtain⟨hq1,hq36,_⟩:=sq_bd hs1 hs6
  have hWR:cubR p c h s' own other=numR ((win s' own other).bind (cubE (sq s'))):=by
   unfold cubR;rw[if_pos hct,Int.toNat_natCast]
  have hrr:r=numR (win s' own other):=by
   rw[hr];unfold winR;rw[if_pos hct,Int.toNat_natCast]
  have HV:=h_ hv;clear hr hv hp1 hp2 hN hvv hct
  rcases hwo:win s' own other with _|⟨m1,d1⟩
  focus
   rw[hwo]at hrr hWR
   have HWR:Hid (cubR p c h s' own other=(0,0,3)):=hWR;replace hrr:r=(0,0,3):=hrr;subst hrr;clear hwo hWR
   refine ?zd
  rotate_left
  focus
   have hval:=iL hq1 hwo
   rw[hwo]at hrr hWR;replace hrr:r=(m1,(d1:Int),0):=hrr;replace hWR:cubR p c h s' own other=numR (cubE (sq s') ⟨m1,d1⟩):=hWR;subst hrr;clear hwo
   have SC:=h_ fun (W:World)=>fu p c h m1 s' d1 2 W HV.out hval (by omega) (by omega)
   unfold cubE at hWR
   rcases hm:sclE (sq s') ⟨m1,d1⟩ ((2:Nat):Int) with _|⟨m2,d2⟩
   focus
    rw[hm]at hWR SC
    have HWR:Hid (cubR p c h s' own other=(0,0,3)):=hWR;clear hm hval hWR
    refine ?ze
   rotate_left
   focus
    have hv2:=eV hq1 hm
    rw[hm]at hWR SC;replace hWR:cubR p c h s' own other=numR (addE (sq s') ⟨m2,d2⟩ ⟨-1,0⟩):=hWR
    have AD:=h_ fun (W:World)=>ii p c h m2 (-1) s' d2 0 W HV.out hv2 mone_val
    clear hm hval hv2
    rcases ha:addE (sq s') ⟨m2,d2⟩ ⟨-1,0⟩with _|⟨m3,d3⟩
    focus
     rw[ha]at hWR AD
     have HWR:Hid (cubR p c h s' own other=(0,0,3)):=hWR;clear ha hWR
     refine ?za
    rotate_left
    focus
     rw[ha]at hWR AD
     have HWR:Hid (cubR p c h s' own other=(m3,(d3:Int),0)):=hWR;clear ha hWR
     refine ?zb
 rotate_left 4
 focus
  have hrr:r=(0,0,codeW p c h s own other false):=by
   rw[hr];unfold winR;rw[if_neg hct]
  have HWR:Hid (cubR p c h s own other=(0,0,codeW p c h s own other false)):=by
   unfold Hid cubR;rw[if_neg hct]
  subst hrr;clear hr;generalize codeW p c h s own other false=k at *
  have b0:(k != 0)=true:=by simp[hct]
  clear hct
  refine ?zf
 rotate_left
 case' zf|zd|ze|za|zb=>
  go_enter Tryz.func51,Tryz.ntmps51
  go_wp2_with (fail)
  refine (CW.out _ ((SA.out.alloc _).alloc _) ((SB.out.alloc _).alloc _)).mono ?_
  rintro e w1 ⟨rfl,hb⟩
 case' zf=>
  have K1:=h_ (((Cel.new' _ #[.int .i64 p,.int .i64 c,.int .i64 h,.int .i64 s] _ (g:=w.heap.size) (by simp)).alloc _).below hb)
 case' zd|ze|za|zb=>
  have K1:=h_ (((Cel.new' _ #[.int .i64 p,.int .i64 c,.int .i64 h,.int .i64 s'] _ (g:=w.heap.size) (by simp)).alloc _).below hb)
 case' zf|zd|ze|za|zb=>
  have K2:=h_ ((Cel.new' _ #[.int .i64 0,.int .i64 0] _ (g:=w.heap.size+1) (by simp)).below hb)
  replace SA:=h_ (((SA.out.alloc _).alloc _).below hb);replace SB:=h_ (((SB.out.alloc _).alloc _).below hb);replace HB:=h_ (Bel.trans (Bel.trans (Bel.trans HB.out (Bel.alloc _ _)) (Bel.alloc _ _)) hb);clear hb;have hz:=Below.size HB.out;have cK1_0:=K1.out.cell 0 _ rfl;have fK1_0:=K1.out.froz 0 _ rfl;have cK1_1:=K1.out.cell 1 _ rfl;have fK1_1:=K1.out.froz 1 _ rfl;have cK1_2:=K1.out.cell 2 _ rfl;have fK1_2:=K1.out.froz 2 _ rfl;have cK1_3:=K1.out.cell 3 _ rfl;have fK1_3:=K1.out.froz 3 _ rfl;have zK1:=K1.out.lt;have cK2_0:=K2.out.cell 0 _ rfl;have fK2_0:=K2.out.froz 0 _ rfl;have cK2_1:=K2.out.cell 1 _ rfl;have fK2_1:=K2.out.froz 1 _ rfl;have zK2:=K2.out.lt
  go_wp2_with (fail)
 case' ze|za|zb=>
  refine (SC.out _).mono ?_
  rintro e w2 ⟨rfl,hb⟩
  clear cK1_0 fK1_0 cK1_1 fK1_1 cK1_2 fK1_2 cK1_3 fK1_3 zK1 cK2_0 fK2_0 cK2_1 fK2_1 zK2 hz;replace K1:=h_ ((K1.out.alloc _).below hb);replace K2:=h_ ((K2.out.alloc _).below hb)
  have K3:=h_ ((Cel.new' _ #[.int .i64 m1,.int .i64 (d1:Int)] _ (g:=w1.heap.size) (by simp)).below hb)
  replace SA:=h_ ((SA.out.alloc _).below hb);replace SB:=h_ ((SB.out.alloc _).below hb);replace HB:=h_ (Bel.trans (Bel.trans HB.out (Bel.alloc _ _)) hb);clear hb;have hz:=Below.size HB.out;have cK1_0:=K1.out.cell 0 _ rfl;have fK1_0:=K1.out.froz 0 _ rfl;have cK1_1:=K1.out.cell 1 _ rfl;have fK1_1:=K1.out.froz 1 _ rfl;have cK1_2:=K1.out.cell 2 _ rfl;have fK1_2:=K1.out.froz 2 _ rfl;have cK1_3:=K1.out.cell 3 _ rfl;have fK1_3:=K1.out.froz 3 _ rfl;have zK1:=K1.out.lt;have cK2_0:=K2.out.cell 0 _ rfl;have fK2_0:=K2.out.froz 0 _ rfl;have cK2_1:=K2.out.cell 1 _ rfl;have fK2_1:=K2.out.froz 1 _ rfl;have zK2:=K2.out.lt;have cK3_0:=K3.out.cell 0 _ rfl;have fK3_0:=K3.out.froz 0 _ rfl;have cK3_1:=K3.out.cell 1 _ rfl;have fK3_1:=K3.out.froz 1 _ rfl;have zK3:=K3.out.lt
  go_wp2_with (fail)
 case' za|zb=>
  clear cK1_0 fK1_0 cK1_1 fK1_1 cK1_2 fK1_2 cK1_3 fK1_3 zK1 cK2_0 fK2_0 cK2_1 fK2_1 zK2 cK3_0 fK3_0 cK3_1 fK3_1 zK3 hz;replace K1:=h_ (K1.out.alloc (.cells #[.int .i64 m2,.int .i64 (d2:Int)] 35));replace K2:=h_ (K2.out.alloc (.cells #[.int .i64 m2,.int .i64 (d2:Int)] 35));replace K3:=h_ (K3.out.alloc (.cells #[.int .i64 m2,.int .i64 (d2:Int)] 35))
  have K4:=h_ (Cel.new' w2 #[.int .i64 m2,.int .i64 (d2:Int)] 35 (g:=w2.heap.size) (by simp))
  replace SA:=h_ (SA.out.alloc (.cells #[.int .i64 m2,.int .i64 (d2:Int)] 35));replace SB:=h_ (SB.out.alloc (.cells #[.int .i64 m2,.int .i64 (d2:Int)] 35));replace HB:=h_ (Bel.trans HB.out (Bel.alloc w2 (.cells #[.int .i64 m2,.int .i64 (d2:Int)] 35)));generalize (w2.alloc (.cells #[.int .i64 m2,.int .i64 (d2:Int)] 35))=w3 at *;have hz:=Below.size HB.out;have cK1_0:=K1.out.cell 0 _ rfl;have fK1_0:=K1.out.froz 0 _ rfl;have cK1_1:=K1.out.cell 1 _ rfl;have fK1_1:=K1.out.froz 1 _ rfl;have cK1_2:=K1.out.cell 2 _ rfl;have fK1_2:=K1.out.froz 2 _ rfl;have cK1_3:=K1.out.cell 3 _ rfl;have fK1_3:=K1.out.froz 3 _ rfl;have zK1:=K1.out.lt;have cK2_0:=K2.out.cell 0 _ rfl;have fK2_0:=K2.out.froz 0 _ rfl;have cK2_1:=K2.out.cell 1 _ rfl;have fK2_1:=K2.out.froz 1 _ rfl;have zK2:=K2.out.lt;have cK3_0:=K3.out.cell 0 _ rfl;have fK3_0:=K3.out.froz 0 _ rfl;have cK3_1:=K3.out.cell 1 _ rfl;have fK3_1:=K3.out.froz 1 _ rfl;have zK3:=K3.out.lt;have cK4_0:=K4.out.cell 0 _ rfl;have fK4_0:=K4.out.froz 0 _ rfl;have cK4_1:=K4.out.cell 1 _ rfl;have fK4_1:=K4.out.froz 1 _ rfl;have zK4:=K4.out.lt
  refine ag 6 (by kernel_rfl) (by kernel_rfl) ?_
  simp only[List.take_succ_cons,List.take_zero,List.drop_succ_cons,List.drop_zero]
  repeat (first|go_big_quiet_step (first|(go_at_call 132;exact more_first (bH _ _))|(go_at_call 132;exact more_call (bH _ _))|(go_at_call 53;exact more_call (AD.out _))|(go_at_call 53;exact more_first (AD.out _)))|quiet_step (first|(go_at_call 132;exact more_first (bH _ _))|(go_at_call 132;exact more_call (bH _ _))|(go_at_call 53;exact more_call (AD.out _))|(go_at_call 53;exact more_first (AD.out _))))
  refine wpQuiet_nil ?_
  intro w4 hw'
  have hb:=more_bel hw';clear hw';clear cK1_0 fK1_0 cK1_1 fK1_1 cK1_2 fK1_2 cK1_3 fK1_3 zK1 cK2_0 fK2_0 cK2_1 fK2_1 zK2 cK3_0 fK3_0 cK3_1 fK3_1 zK3 cK4_0 fK4_0 cK4_1 fK4_1 zK4 hz;replace K1:=h_ (K1.out.below hb);replace K2:=h_ (K2.out.below hb);replace K3:=h_ (K3.out.below hb);replace K4:=h_ (K4.out.below hb);replace SA:=h_ (SA.out.below hb);replace SB:=h_ (SB.out.below hb);replace HB:=h_ (Bel.trans HB.out hb);clear hb;have hz:=Below.size HB.out;have cK1_0:=K1.out.cell 0 _ rfl;have fK1_0:=K1.out.froz 0 _ rfl;have cK1_1:=K1.out.cell 1 _ rfl;have fK1_1:=K1.out.froz 1 _ rfl;have cK1_2:=K1.out.cell 2 _ rfl;have fK1_2:=K1.out.froz 2 _ rfl;have cK1_3:=K1.out.cell 3 _ rfl;have fK1_3:=K1.out.froz 3 _ rfl;have zK1:=K1.out.lt;have cK2_0:=K2.out.cell 0 _ rfl;have fK2_0:=K2.out.froz 0 _ rfl;have cK2_1:=K2.out.cell 1 _ rfl;have fK2_1:=K2.out.froz 1 _ rfl;have zK2:=K2.out.lt;have cK3_0:=K3.out.cell 0 _ rfl;have fK3_0:=K3.out.froz 0 _ rfl;have cK3_1:=K3.out.cell 1 _ rfl;have fK3_1:=K3.out.froz 1 _ rfl;have zK3:=K3.out.lt;have cK4_0:=K4.out.cell 0 _ rfl;have fK4_0:=K4.out.froz 0 _ rfl;have cK4_1:=K4.out.cell 1 _ rfl;have fK4_1:=K4.out.froz 1 _ rfl;have zK4:=K4.out.lt
  go_wp2_with (fail)
 case' za=>
  refine bodyPost_ret (v:=.tuple #[.agg #[.int .i64 0,.int .i64 0],.int .i64 3]) (by simp[results,Tryz.results51,go_sem,cK1_0,fK1_0,cK1_1,fK1_1,cK1_2,fK1_2,cK1_3,fK1_3,zK1,cK2_0,fK2_0,cK2_1,fK2_1,zK2,cK3_0,fK3_0,cK3_1,fK3_1,zK3,cK4_0,fK4_0,cK4_1,fK4_1,zK4]) rfl (RetN.mk' HWR.out ?_)
 case' zb=>
  refine bodyPost_ret (v:=.tuple #[.agg #[.int .i64 m3,.int .i64 (d3:Int)],.int .i64 0]) (by simp[results,Tryz.results51,go_sem,cK1_0,fK1_0,cK1_1,fK1_1,cK1_2,fK1_2,cK1_3,fK1_3,zK1,cK2_0,fK2_0,cK2_1,fK2_1,zK2,cK3_0,fK3_0,cK3_1,fK3_1,zK3,cK4_0,fK4_0,cK4_1,fK4_1,zK4]) rfl (RetN.mk' HWR.out ?_)
 case' zf=>
  refine bodyPost_ret (v:=.tuple #[.agg #[.int .i64 0,.int .i64 0],.int .i64 k]) (by simp[results,Tryz.results51,go_sem,cK1_0,fK1_0,cK1_1,fK1_1,cK1_2,fK1_2,cK1_3,fK1_3,zK1,cK2_0,fK2_0,cK2_1,fK2_1,zK2]) rfl (RetN.mk' HWR.out ?_)
 case' zd=>
  refine bodyPost_ret (v:=.tuple #[.agg #[.int .i64 0,.int .i64 0],.int .i64 3]) (by simp[results,Tryz.results51,go_sem,cK1_0,fK1_0,cK1_1,fK1_1,cK1_2,fK1_2,cK1_3,fK1_3,zK1,cK2_0,fK2_0,cK2_1,fK2_1,zK2]) rfl (RetN.mk' HWR.out ?_)
 case' ze=>
  refine bodyPost_ret (v:=.tuple #[.agg #[.int .i64 0,.int .i64 0],.int .i64 3]) (by simp[results,Tryz.results51,go_sem,cK1_0,fK1_0,cK1_1,fK1_1,cK1_2,fK1_2,cK1_3,fK1_3,zK1,cK2_0,fK2_0,cK2_1,fK2_1,zK2,cK3_0,fK3_0,cK3_1,fK3_1,zK3]) rfl (RetN.mk' HWR.out ?_)
 case za|zb|zf|zd|ze=>
  repeat (first|exact HB.out|refine stw ?_ (by omega)|refine alw ?_ (by omega))
open Go.RowKit Mo Ps Ra Ex
theorem winR_of_cub {p c h s:Int} {own other:List Int} {x d k:Int} (H:(x,d,k)=cubR p c h s own other) (hk:k=0):
  ∃(s':Nat) (w t y:E),s=s'/\isVar p c h s'=true/\win s' own other=some w/\winR p c h s' own other=(w.num,(w.depth:Int),0)/\sclE (sq s') w ((2:Nat):Int)=some t/\addE (sq s') t ⟨-1,0⟩=some y/\x=y.num/\d=(y.depth:Int):=by
 subst hk;unfold cubR at H
 split at H
 ·rename_i hc
  obtain⟨y,hy,hx,hd⟩:=numR_ok H;have hv:isVar p c h s=true:=(gw (codeW_T hc)).1;have hvv:=ak hv
  obtain⟨s',rfl⟩:∃s':Nat,s=s':=⟨s.toNat,by omega⟩
  rw[Int.toNat_natCast]at hy;obtain⟨w,hw,hy⟩:=bU hy;obtain⟨t,ht,hy⟩:=bU hy
  refine⟨s',w,t,y,rfl,hv,hw,?_,ht,hy,hx,hd⟩
  unfold winR;rw[if_pos hc,Int.toNat_natCast,hw]
  rfl
 ·rename_i hc
  injection H with _ H;injection H with _ H
  exact absurd H.symm hc
theorem nd_facts {h c s:Nat} (hB:1<=sq s) {own other:List Int} {a w t y:E} (ho:PosP h c own) (ht:PosP h c other) (ha:eqv s ⟨1,false⟩ own other (1,0)=some a) (hw:win s own other=some w) (h1:sclE (sq s) w ((2:Nat):Int)=some t) (h2:addE (sq s) t ⟨-1,0⟩=some y):
  a=y/\addE (sq s) y ⟨1,0⟩=some t:=by
 have htw:=nd_eqv hB ho ht ha hw
 have va:Val (sq s) a:=eqv_val hB (by decide) (by decide) ha
 have vt:=eV hB h1;have vy:=iH hB h2;obtain⟨M,hM⟩:∃M,M=max (max a.depth w.depth) (max t.depth y.depth):=⟨_,rfl⟩
 obtain⟨_,e1⟩:=scl_av (M:=M) hB h1 (by omega)
 obtain⟨_,e2⟩:=add_av (M:=M) hB h2 (by omega) (show (0:Nat)<=M by omega)
 have e3:=htw M (by omega) (by omega)
 have e4:av (sq s) M ⟨-1,0⟩ = -pw (sq s) M:=by show (-1:Int)*pw (sq s) (M-0)=_;rw[Nat.sub_zero];omega
 have e5:av (sq s) M ⟨1,0⟩=pw (sq s) M:=by show (1:Int)*pw (sq s) (M-0)=_;rw[Nat.sub_zero];omega
 rw[e4]at e2
 constructor
 ·refine av_inj hB va vy (M:=M) (by omega) (by omega) ?_
  rw[e3,e2,e1]
  omega
 ·unfold addE
  refine mk_some hB vt ?_
  obtain⟨D,hD⟩:∃D,D=max y.depth (⟨1,0⟩:E).depth:=⟨_,rfl⟩
  have hD':D=y.depth:=by rw[hD];show max y.depth 0=y.depth;omega
  rw[<- hD]
  refine (same_av hB (M:=M) (by omega) (show D<=M by omega)).2 ?_
  have e6:av (sq s) M y=y.num*pw (sq s) (M-y.depth):=rfl
  have e7:=iZ (sq s) (show D<=M by omega)
  show _=(y.num*pw (sq s) (D-y.depth)+1*pw (sq s) (D-0))*pw (sq s) (M-D)
  rw[hD',Nat.sub_self,bf,Int.mul_one,Nat.sub_zero,Int.one_mul,Int.add_mul,<- e6,e2,e1];rw[hD']at e7;rw[Int.mul_comm (pw (sq s) y.depth),<- e7]
  omega
end Go.Proofs.YtkaiilmgemaljaaGreat

/- Contract of the reference's mean. There are no conditions. -/
import Derived.Test.YtkaiilmgemaljaaGreatPZk
import Derived.Test.YtkaiilmgemaljaaGreatPN13
set_option linter.unusedVariables false
set_option linter.unusedSimpArgs false
namespace Go.Proofs.YtkaiilmgemaljaaGreat
open Go.RowKit Ps Ra Ex
set_option maxHeartbeats 4000000 in
set_option maxRecDepth 10000 in
theorem l09Mean_any (p c h:Int) (s n c0:Nat) (A:Option Addr) (xs:List E) (w:World) (hs1:1≤s) (hs6:s≤6) (hx:EL (fun _=>False) w A n xs) (hn:(rollsN s).length=n) (hval:∀x∈xs,Val (sq s) x):
  Calls Tryz.prog 88 #[.agg #[.int .i64 p,.int .i64 c,.int .i64 h,.int .i64 s],.slice A n c0] w (RetE w (meanE (sq s) (rollsN s) xs)):=by
 obtain⟨hq1,hq36,_⟩:=sq_bd hs1 hs6
 have hn21:n≤21:=by rw[← hn];exact rolls_le hs6
 have CB:=Lib.hid fun (W:World)=>l09Base_any p c h s W hs6
 have HF0:Hid (Fr w ((w.alloc (.cells #[.int .i64 p,.int .i64 c,.int .i64 h,.int .i64 s] 25)).alloc (.cells #[.int .i64 0,.int .i64 0] 35)) [[.int .i64 p,.int .i64 c,.int .i64 h,.int .i64 s],[.int .i64 0,.int .i64 0]]):=
  ((Fr.start w).allocT (by simp) _ _).allocT (by simp) _ _
 have HX0:=Lib.hid hx;have hxl:xs.length=n:=hx.1;have HV:=Lib.hid hval;have HXL:=Lib.hid hxl;clear hx hval hxl
 go_enter Tryz.func88,Tryz.ntmps88
 go_wp2_with (fail)
 refine (l09Rolls_any p c h s _ hs6).mono ?_
 rintro e w1 ⟨v1,rfl,ho,hb⟩
 have HF1:=Lib.hid (HF0.out.below hb)
 have hw1:w.heap.size+2≤w1.heap.size:=by have:=HF1.out.z;simpa using this
 obtain⟨S,hS⟩:∃S:Nat→Prop,S=fun b=>b=w.heap.size∨b=w.heap.size+1∨b=w1.heap.size:=⟨_,rfl⟩
 have HE1:Hid (EL S w1 A n xs):=(HX0.out.spare (S:=S) fun b hb=>by rw[hS];show ¬(_∨_);omega).below HF1.out.b
 obtain⟨A1,c1,rfl,hR,_⟩:=ho.read (S:=fun k=>k<w.heap.size+2) (fun k hk=>by simp at hk;omega)
 have HR1:Hid (RL S w1 A1 n (rollsN s)):=by
  rw[hn]at hR
  refine⟨hR.1,hR.2.1,fun hpos=>?_⟩
  obtain⟨b,off,hA,hlt,hs,hc⟩:=hR.2.2 hpos
  exact⟨b,off,hA,hlt,by rw[hS];show ¬(_∨_);simp at hs;omega,hc⟩
 have HSS:=Lib.hid hS;clear ho hb hR hS;obtain⟨z0,c00,f00,c01,f01,c02,f02,c03,f03,z1,c10,f10,c11,f11⟩:=HF1.out.xf0
 go_wp2_with (fail)
 clear z0 c00 f00 c01 f01 c02 f02 c03 f03 z1 c10 f10 c11 f11;have HF2:Hid (Fr w (w1.alloc (.cells #[.int .i64 0,.int .i64 0] 35)) [[.int .i64 p,.int .i64 c,.int .i64 h,.int .i64 s],[.int .i64 0,.int .i64 0]]):=HF1.out.alloc _
 have HG2:Hid (Fr w1 (w1.alloc (.cells #[.int .i64 0,.int .i64 0] 35)) [[.int .i64 0,.int .i64 0]]):=(Fr.start w1).allocT (by simp) _ _
 have HRE2:Hid (RL S (w1.alloc (.cells #[.int .i64 0,.int .i64 0] 35)) A1 n (rollsN s)∧EL S (w1.alloc (.cells #[.int .i64 0,.int .i64 0] 35)) A n xs):=⟨HR1.out.frm ((Frm.refl S _).alloc _),HE1.out.frm ((Frm.refl S _).alloc _)⟩
 go_loopw [8] (fun vi wr=>∃(k:Nat) (tn:Int) (td:Nat),k≤n∧vi = .int .i64 k∧Hid (sumE (sq s) (((rollsN s).zip xs).take k)=some ⟨tn,td⟩)∧Fr w wr [[.int .i64 p,.int .i64 c,.int .i64 h,.int .i64 s],[.int .i64 0,.int .i64 0]]∧Fr w1 wr [[.int .i64 tn,.int .i64 td]]∧Hid (RL S wr A1 n (rollsN s)∧EL S wr A n xs)) (fun vi _=>n-(intOf vi).toNat)
 case atStart=>exact⟨0,0,0,Nat.zero_le _,rfl,rfl,HF2.out,HG2.out,HRE2.out⟩
 case round=>
  obtain⟨k,tn,td,hk,rfl,hsum,hF,hG,hRE⟩:=hrel;have HFr:=Lib.hid hF;have HGr:=Lib.hid hG;clear hF hG;have ht:Val (sq s) ⟨tn,td⟩:=sumE_val hq1 hsum.out;have htd:td<50:=depth_lt hq1 ht;have HT:=Lib.hid ht;have ht1 : -1000000000000000000≤tn:=ht.1;have ht2:tn≤1000000000000000000:=ht.2.1;clear ht;obtain⟨z0,c00,f00,c01,f01,c02,f02,c03,f03,z1,c10,f10,c11,f11⟩:=HFr.out.xf0;obtain⟨gz0,gc00,gf00,gc01,gf01⟩:=HGr.out.xf3
  by_cases hlt:k<n
  ·have hki:(k:Int)<(n:Int):=by omega
   obtain⟨b1,off1,rfl,_,q1,q2⟩:=hRE.out.1.at hlt;obtain⟨b2,off2,rfl,_,q3,q4⟩:=hRE.out.2.at hlt
   have hst:=Lib.hid (sum_step (k:=k) (by rw[hn];exact hlt) (by rw[hn];exact HXL.out) hsum.out)
   have hxv:Hid (Val (sq s) (xs.getD k ⟨0,0⟩)):=HV.out _ (getD_mem' xs _ (by rw[HXL.out];exact hlt))
   have hrr:Hid (1≤((rollsN s).getD k (0,0)).2∧((rollsN s).getD k (0,0)).2≤((rollsN s).getD k (0,0)).1∧((rollsN s).getD k (0,0)).1≤s):=mem_rollsN.1 (getD_mem' _ _ (by rw[hn];exact hlt))
   generalize (rollsN s).getD k (0,0)=r at *;generalize xs.getD k ⟨0,0⟩=x at *;obtain⟨a,b⟩:=r;obtain⟨xn,xd⟩:=x
   simp only at q1 q2 q3 q4
   by_cases hab:a=b
   ·have hb0:((a:Int) == (b:Int))=true:=by simp[hab]
    have hwt:weight (a,b)=1:=by unfold weight;simp[hab]
    have SC0:∀W:World,Calls Tryz.prog 135 #[.agg #[.int .i64 p,.int .i64 c,.int .i64 h,.int .i64 s],.agg #[.int .i64 xn,.int .i64 xd],.int .i64 1] W (RetE W (sclE (sq s) ⟨xn,xd⟩ (weight (a,b)))):=fun W=>by
     rw[hwt];exact l09Mul_any p c h xn s xd 1 W hs1 hs6 hxv.out (by omega) (by omega)
    rcases hsc:sclE (sq s) ⟨xn,xd⟩ (weight (a,b)) with _|⟨yn,yd⟩
    ·have HR:Hid (meanE (sq s) (rollsN s) xs=none):=sum_stop (k:=k+1) (by rw[hst.out,hsc];rfl)
     have SC:Hid (∀W:World,Calls Tryz.prog 135 #[.agg #[.int .i64 p,.int .i64 c,.int .i64 h,.int .i64 s],.agg #[.int .i64 xn,.int .i64 xd],.int .i64 1] W fun e w'=>e = .returned (.tuple #[.agg #[.int .i64 0,.int .i64 0],.bool false])∧Below W.heap.size W w'):=fun W=>by
      have:=SC0 W;rw[hsc]at this;exact this
     clear SC0 hsc hst
     go_wp2_with (fail)
     go_quiet (fail)
     go_wp2_with (fail)
     have HFd:Hid (Fr w (wr.drewN nq) [[.int .i64 p,.int .i64 c,.int .i64 h,.int .i64 s],[.int .i64 0,.int .i64 0]]):=HFr.out.drewN _;have HGd:Hid (Fr w1 (wr.drewN nq) [[.int .i64 tn,.int .i64 td]]):=HGr.out.drewN _;have HdW:Hid (Frm S wr (wr.drewN nq)):=(Frm.refl S wr).drewN _;replace q3:(wr.drewN nq).cell? ⟨b2,off2+k*2,none⟩=some (.int .i64 xn):=q3;replace q4:(wr.drewN nq).cell? ⟨b2,off2+k*2+1,none⟩=some (.int .i64 xd):=q4;generalize (wr.drewN nq)=W at *
     refine wp_region_blk 10 9 10 _ _ (.cells #[.int .i64 0,.int .i64 0] 35) (by kernel_rfl) (by kernel_rfl) rfl rfl rfl (fun _ _=>by kernel_rfl) rfl (pure_extract _ _ _ _ rfl rfl) (fun _ _ _ _ h=>h) (by kernel_rfl) ?_
     apply Exists.intro
     refine⟨fun X hX=>?_,fun t1 t2=>?_⟩
     ·
      have hXb:Below W.heap.size W X:=by obtain⟨t0,rfl⟩:=hX;exact below_more W t0
      have HX:Hid (Fr w X [[.int .i64 p,.int .i64 c,.int .i64 h,.int .i64 s],[.int .i64 0,.int .i64 0]]):=HFd.out.below hXb;have y3:X.cell? ⟨b2,off2+k*2,none⟩=some (.int .i64 xn):=keep_cell q3 hXb;have y4:X.cell? ⟨b2,off2+k*2+1,none⟩=some (.int .i64 xd):=keep_cell q4 hXb;have y5:b2<X.heap.size:=World.block_lt_of_cell? X _ y3;clear hX hXb;obtain⟨z0,c00,f00,c01,f01,c02,f02,c03,f03,z1,c10,f10,c11,f11⟩:=HX.out.xf0
      simp only[List.take_succ_cons,List.take_zero]
      repeat (first|go_big_quiet_step (first|(go_at_call 135;exact more_call (SC.out _))|fail)|quiet_step (first|(go_at_call 135;exact more_call (SC.out _))|fail))
      exact wpQuiet_nil rfl
     simp only[List.drop_succ_cons,List.drop_zero,Act.put]
     have HU:Hid (Fr w (more ((more W t1).alloc (.cells #[.int .i64 0,.int .i64 0] 35)) t2) [[.int .i64 p,.int .i64 c,.int .i64 h,.int .i64 s],[.int .i64 0,.int .i64 0]]):=((HFd.out.more t1).alloc _).more t2;have HG:Hid (Fr w1 (more ((more W t1).alloc (.cells #[.int .i64 0,.int .i64 0] 35)) t2) [[.int .i64 tn,.int .i64 td]]):=((HGd.out.more t1).alloc _).more t2;have x0:=blk_cell W t1 t2 #[.int .i64 0,.int .i64 0] 35 0 rfl;have x1:=blk_cell W t1 t2 #[.int .i64 0,.int .i64 0] 35 1 rfl;have x0':=blk_froz W t1 t2 #[.int .i64 0,.int .i64 0] 35 0;have x1':=blk_froz W t1 t2 #[.int .i64 0,.int .i64 0] 35 1;have xz:=blk_lt W t1 t2 (.cells #[.int .i64 0,.int .i64 0] 35);have xb:=(HGd.out.more t1).z;have xw:=Lib.hid (blk_below W t1 t2 (.cells #[.int .i64 0,.int .i64 0] 35));have xbw:=size_more W t1
     simp only[List.length_cons,List.length_nil]at xb
     clear z0 c00 f00 c01 f01 c02 f02 c03 f03 z1 c10 f10 c11 f11;clear gz0 gc00 gf00 gc01 gf01;generalize more ((more W t1).alloc (.cells #[.int .i64 0,.int .i64 0] 35)) t2=U at *;generalize (more W t1).heap.size=bb at *;obtain⟨z0,c00,f00,c01,f01,c02,f02,c03,f03,z1,c10,f10,c11,f11⟩:=HU.out.xf0;obtain⟨gz0,gc00,gf00,gc01,gf01⟩:=HG.out.xf3
     go_wp2_with (fail)
     refine bodyPost_ret (v:=.tuple #[.agg #[.int .i64 0,.int .i64 0],.bool false]) (by simp[results,Tryz.results88,go_sem,c10,c11,z1,f10,f11,x0,x1,x0',x1',xz]) rfl (RetE.mkN HR.out ?_)
     repeat (first|exact HU.out.b|refine stw ?_ (by omega))
    ·have SC:Hid (∀W:World,Calls Tryz.prog 135 #[.agg #[.int .i64 p,.int .i64 c,.int .i64 h,.int .i64 s],.agg #[.int .i64 xn,.int .i64 xd],.int .i64 1] W fun e w'=>e = .returned (.tuple #[.agg #[.int .i64 yn,.int .i64 yd],.bool true])∧Below W.heap.size W w'):=fun W=>by
      have:=SC0 W;rw[hsc]at this;exact this
     have hyv:Val (sq s) ⟨yn,yd⟩:=sclE_val hq1 hsc;clear SC0;rw[hsc]at hst
     go_wp2_with (fail)
     go_quiet (fail)
     go_wp2_with (fail)
     have HFd:Hid (Fr w (wr.drewN nq) [[.int .i64 p,.int .i64 c,.int .i64 h,.int .i64 s],[.int .i64 0,.int .i64 0]]):=HFr.out.drewN _;have HGd:Hid (Fr w1 (wr.drewN nq) [[.int .i64 tn,.int .i64 td]]):=HGr.out.drewN _;have HdW:Hid (Frm S wr (wr.drewN nq)):=(Frm.refl S wr).drewN _;replace q3:(wr.drewN nq).cell? ⟨b2,off2+k*2,none⟩=some (.int .i64 xn):=q3;replace q4:(wr.drewN nq).cell? ⟨b2,off2+k*2+1,none⟩=some (.int .i64 xd):=q4;generalize (wr.drewN nq)=W at *
     refine wp_region_blk 10 9 10 _ _ (.cells #[.int .i64 0,.int .i64 0] 35) (by kernel_rfl) (by kernel_rfl) rfl rfl rfl (fun _ _=>by kernel_rfl) rfl (pure_extract _ _ _ _ rfl rfl) (fun _ _ _ _ h=>h) (by kernel_rfl) ?_
     apply Exists.intro
     refine⟨fun X hX=>?_,fun t1 t2=>?_⟩
     ·
      have hXb:Below W.heap.size W X:=by obtain⟨t0,rfl⟩:=hX;exact below_more W t0
      have HX:Hid (Fr w X [[.int .i64 p,.int .i64 c,.int .i64 h,.int .i64 s],[.int .i64 0,.int .i64 0]]):=HFd.out.below hXb;have y3:X.cell? ⟨b2,off2+k*2,none⟩=some (.int .i64 xn):=keep_cell q3 hXb;have y4:X.cell? ⟨b2,off2+k*2+1,none⟩=some (.int .i64 xd):=keep_cell q4 hXb;have y5:b2<X.heap.size:=World.block_lt_of_cell? X _ y3;clear hX hXb;obtain⟨z0,c00,f00,c01,f01,c02,f02,c03,f03,z1,c10,f10,c11,f11⟩:=HX.out.xf0
      simp only[List.take_succ_cons,List.take_zero]
      repeat (first|go_big_quiet_step (first|(go_at_call 135;exact more_call (SC.out _))|fail)|quiet_step (first|(go_at_call 135;exact more_call (SC.out _))|fail))
      exact wpQuiet_nil rfl
     simp only[List.drop_succ_cons,List.drop_zero,Act.put]
     have HU:Hid (Fr w (more ((more W t1).alloc (.cells #[.int .i64 0,.int .i64 0] 35)) t2) [[.int .i64 p,.int .i64 c,.int .i64 h,.int .i64 s],[.int .i64 0,.int .i64 0]]):=((HFd.out.more t1).alloc _).more t2;have HG:Hid (Fr w1 (more ((more W t1).alloc (.cells #[.int .i64 0,.int .i64 0] 35)) t2) [[.int .i64 tn,.int .i64 td]]):=((HGd.out.more t1).alloc _).more t2;have x0:=blk_cell W t1 t2 #[.int .i64 0,.int .i64 0] 35 0 rfl;have x1:=blk_cell W t1 t2 #[.int .i64 0,.int .i64 0] 35 1 rfl;have x0':=blk_froz W t1 t2 #[.int .i64 0,.int .i64 0] 35 0;have x1':=blk_froz W t1 t2 #[.int .i64 0,.int .i64 0] 35 1;have xz:=blk_lt W t1 t2 (.cells #[.int .i64 0,.int .i64 0] 35);have xb:=(HGd.out.more t1).z;have xw:=Lib.hid (blk_below W t1 t2 (.cells #[.int .i64 0,.int .i64 0] 35));have xbw:=size_more W t1
     simp only[List.length_cons,List.length_nil]at xb
     clear z0 c00 f00 c01 f01 c02 f02 c03 f03 z1 c10 f10 c11 f11;clear gz0 gc00 gf00 gc01 gf01;generalize more ((more W t1).alloc (.cells #[.int .i64 0,.int .i64 0] 35)) t2=U at *;generalize (more W t1).heap.size=bb at *;obtain⟨z0,c00,f00,c01,f01,c02,f02,c03,f03,z1,c10,f10,c11,f11⟩:=HU.out.xf0;obtain⟨gz0,gc00,gf00,gc01,gf01⟩:=HG.out.xf3
     rcases hadd:addE (sq s) ⟨tn,td⟩ ⟨yn,yd⟩with _|⟨un,ud⟩
     ·have HR:Hid (meanE (sq s) (rollsN s) xs=none):=sum_stop (k:=k+1) (by rw[hst.out];exact hadd)
      have AD:Hid (∀W:World,Calls Tryz.prog 136 #[.agg #[.int .i64 p,.int .i64 c,.int .i64 h,.int .i64 s],.agg #[.int .i64 tn,.int .i64 td],.agg #[.int .i64 yn,.int .i64 yd]] W fun e w'=>e = .returned (.tuple #[.agg #[.int .i64 0,.int .i64 0],.bool false])∧Below W.heap.size W w'):=fun W=>by
       have:=l09Add_any p c h tn yn s td yd W hs1 hs6 HT.out hyv;rw[hadd]at this;exact this
      go_wp2_with (fail)
      have HU2:Hid (Fr w ((U.setCell ⟨bb,0,none⟩ (.int .i64 yn)).setCell ⟨bb,1,none⟩ (.int .i64 yd)) [[.int .i64 p,.int .i64 c,.int .i64 h,.int .i64 s],[.int .i64 0,.int .i64 0]]):=(HU.out.setOut (by simp only[List.length_cons,List.length_nil];omega)).setOut (by simp only[List.length_cons,List.length_nil];omega)
      have HG2:Hid (Fr w1 ((U.setCell ⟨bb,0,none⟩ (.int .i64 yn)).setCell ⟨bb,1,none⟩ (.int .i64 yd)) [[.int .i64 tn,.int .i64 td]]):=(HG.out.setOut (by simp only[List.length_cons,List.length_nil];omega)).setOut (by simp only[List.length_cons,List.length_nil];omega)
      have xw2:=Lib.hid (stw (v:=.int .i64 yd) (i:=1) (stw (v:=.int .i64 yn) (i:=0) xw.out xbw) xbw);clear HU HG x0 x1 x0' x1' xz xw;clear z0 c00 f00 c01 f01 c02 f02 c03 f03 z1 c10 f10 c11 f11;clear gz0 gc00 gf00 gc01 gf01;generalize (U.setCell ⟨bb,0,none⟩ (.int .i64 yn)).setCell ⟨bb,1,none⟩ (.int .i64 yd)=U2 at *
      refine (more_first (AD.out _)).mono ?_
      rintro e w' ⟨rfl,t,rfl⟩
      have HZ:=Lib.hid (HU2.out.more t);have HY:=Lib.hid (HG2.out.more t);have xw3:=Lib.hid (blw (t:=t) xw2.out (Nat.le_refl _));clear HU2 HG2 xw2;generalize more U2 t=Z at *;obtain⟨z0,c00,f00,c01,f01,c02,f02,c03,f03,z1,c10,f10,c11,f11⟩:=HZ.out.xf0;obtain⟨gz0,gc00,gf00,gc01,gf01⟩:=HY.out.xf3
      go_wp2_with (fail)
      refine bodyPost_ret (v:=.tuple #[.agg #[.int .i64 0,.int .i64 0],.bool false]) (by simp[results,Tryz.results88,go_sem,c10,c11,z1,f10,f11]) rfl (RetE.mkN HR.out ?_)
      repeat (first|exact HZ.out.b|refine stw ?_ (by omega)|refine alw ?_ (by omega))
     ·have HR:Hid (sumE (sq s) (((rollsN s).zip xs).take (k+1))=some ⟨un,ud⟩):=by rw[hst.out];exact hadd
      have AD:Hid (∀W:World,Calls Tryz.prog 136 #[.agg #[.int .i64 p,.int .i64 c,.int .i64 h,.int .i64 s],.agg #[.int .i64 tn,.int .i64 td],.agg #[.int .i64 yn,.int .i64 yd]] W fun e w'=>e = .returned (.tuple #[.agg #[.int .i64 un,.int .i64 ud],.bool true])∧Below W.heap.size W w'):=fun W=>by
       have:=l09Add_any p c h tn yn s td yd W hs1 hs6 HT.out hyv;rw[hadd]at this;exact this
      go_wp2_with (fail)
      have HU2:Hid (Fr w ((U.setCell ⟨bb,0,none⟩ (.int .i64 yn)).setCell ⟨bb,1,none⟩ (.int .i64 yd)) [[.int .i64 p,.int .i64 c,.int .i64 h,.int .i64 s],[.int .i64 0,.int .i64 0]]):=(HU.out.setOut (by simp only[List.length_cons,List.length_nil];omega)).setOut (by simp only[List.length_cons,List.length_nil];omega)
      have HG2:Hid (Fr w1 ((U.setCell ⟨bb,0,none⟩ (.int .i64 yn)).setCell ⟨bb,1,none⟩ (.int .i64 yd)) [[.int .i64 tn,.int .i64 td]]):=(HG.out.setOut (by simp only[List.length_cons,List.length_nil];omega)).setOut (by simp only[List.length_cons,List.length_nil];omega)
      have xw2:=Lib.hid (stw (v:=.int .i64 yd) (i:=1) (stw (v:=.int .i64 yn) (i:=0) xw.out xbw) xbw);clear HU HG x0 x1 x0' x1' xz xw;clear z0 c00 f00 c01 f01 c02 f02 c03 f03 z1 c10 f10 c11 f11;clear gz0 gc00 gf00 gc01 gf01;generalize (U.setCell ⟨bb,0,none⟩ (.int .i64 yn)).setCell ⟨bb,1,none⟩ (.int .i64 yd)=U2 at *
      refine (more_first (AD.out _)).mono ?_
      rintro e w' ⟨rfl,t,rfl⟩
      have HZ:=Lib.hid (HU2.out.more t);have HY:=Lib.hid (HG2.out.more t);have xw3:=Lib.hid (blw (t:=t) xw2.out (Nat.le_refl _));clear HU2 HG2 xw2;generalize more U2 t=Z at *;obtain⟨z0,c00,f00,c01,f01,c02,f02,c03,f03,z1,c10,f10,c11,f11⟩:=HZ.out.xf0;obtain⟨gz0,gc00,gf00,gc01,gf01⟩:=HY.out.xf3
      go_wp2_with (fail)
      have hF0:Frm S wr Z:=HdW.out.trans (Frm.of_below' S xw3.out)
      have hF1:Frm S wr ((Z.setCell ⟨w1.heap.size,0,none⟩ (.int .i64 un)).setCell ⟨w1.heap.size,1,none⟩ (.int .i64 ud)):=
       (hF0.trans ((Frm.set _ _ _ _).mono (fun q hq=>by rw[HSS.out];subst hq;show _∨_;omega))).trans ((Frm.set _ _ _ _).mono (fun q hq=>by rw[HSS.out];subst hq;show _∨_;omega))
      have hF2:=hF1.alloc (.cells #[.int .i64 un,.int .i64 ud] 35)
      refine⟨⟨k+1,un,ud,by omega,by simp,HR,?_,?_,⟨hRE.out.1.frm hF2,hRE.out.2.frm hF2⟩⟩,by simp[intOf];omega⟩
      ·exact ((HZ.out.setOut (by simpa using hw1)).setOut (by simpa using hw1)).alloc _
      ·exact ((HY.out.set 0 0 rfl rfl _).set 0 1 rfl rfl _).alloc _
   ·have hb0:((a:Int) == (b:Int))=false:=by simp;omega
    have hwt:weight (a,b)=2:=by unfold weight;simp[hab]
    have SC0:∀W:World,Calls Tryz.prog 135 #[.agg #[.int .i64 p,.int .i64 c,.int .i64 h,.int .i64 s],.agg #[.int .i64 xn,.int .i64 xd],.int .i64 2] W (RetE W (sclE (sq s) ⟨xn,xd⟩ (weight (a,b)))):=fun W=>by
     rw[hwt];exact l09Mul_any p c h xn s xd 2 W hs1 hs6 hxv.out (by omega) (by omega)
    rcases hsc:sclE (sq s) ⟨xn,xd⟩ (weight (a,b)) with _|⟨yn,yd⟩
    ·have HR:Hid (meanE (sq s) (rollsN s) xs=none):=sum_stop (k:=k+1) (by rw[hst.out,hsc];rfl)
     have SC:Hid (∀W:World,Calls Tryz.prog 135 #[.agg #[.int .i64 p,.int .i64 c,.int .i64 h,.int .i64 s],.agg #[.int .i64 xn,.int .i64 xd],.int .i64 2] W fun e w'=>e = .returned (.tuple #[.agg #[.int .i64 0,.int .i64 0],.bool false])∧Below W.heap.size W w'):=fun W=>by
      have:=SC0 W;rw[hsc]at this;exact this
     clear SC0 hsc hst
     go_wp2_with (fail)
     go_quiet (fail)
     go_wp2_with (fail)
     have HFd:Hid (Fr w (wr.drewN nq) [[.int .i64 p,.int .i64 c,.int .i64 h,.int .i64 s],[.int .i64 0,.int .i64 0]]):=HFr.out.drewN _;have HGd:Hid (Fr w1 (wr.drewN nq) [[.int .i64 tn,.int .i64 td]]):=HGr.out.drewN _;have HdW:Hid (Frm S wr (wr.drewN nq)):=(Frm.refl S wr).drewN _;replace q3:(wr.drewN nq).cell? ⟨b2,off2+k*2,none⟩=some (.int .i64 xn):=q3;replace q4:(wr.drewN nq).cell? ⟨b2,off2+k*2+1,none⟩=some (.int .i64 xd):=q4;generalize (wr.drewN nq)=W at *
     refine wp_region_blk 10 9 10 _ _ (.cells #[.int .i64 0,.int .i64 0] 35) (by kernel_rfl) (by kernel_rfl) rfl rfl rfl (fun _ _=>by kernel_rfl) rfl (pure_extract _ _ _ _ rfl rfl) (fun _ _ _ _ h=>h) (by kernel_rfl) ?_
     apply Exists.intro
     refine⟨fun X hX=>?_,fun t1 t2=>?_⟩
     ·
      have hXb:Below W.heap.size W X:=by obtain⟨t0,rfl⟩:=hX;exact below_more W t0
      have HX:Hid (Fr w X [[.int .i64 p,.int .i64 c,.int .i64 h,.int .i64 s],[.int .i64 0,.int .i64 0]]):=HFd.out.below hXb;have y3:X.cell? ⟨b2,off2+k*2,none⟩=some (.int .i64 xn):=keep_cell q3 hXb;have y4:X.cell? ⟨b2,off2+k*2+1,none⟩=some (.int .i64 xd):=keep_cell q4 hXb;have y5:b2<X.heap.size:=World.block_lt_of_cell? X _ y3;clear hX hXb;obtain⟨z0,c00,f00,c01,f01,c02,f02,c03,f03,z1,c10,f10,c11,f11⟩:=HX.out.xf0
      simp only[List.take_succ_cons,List.take_zero]
      repeat (first|go_big_quiet_step (first|(go_at_call 135;exact more_call (SC.out _))|fail)|quiet_step (first|(go_at_call 135;exact more_call (SC.out _))|fail))
      exact wpQuiet_nil rfl
     simp only[List.drop_succ_cons,List.drop_zero,Act.put]
     have HU:Hid (Fr w (more ((more W t1).alloc (.cells #[.int .i64 0,.int .i64 0] 35)) t2) [[.int .i64 p,.int .i64 c,.int .i64 h,.int .i64 s],[.int .i64 0,.int .i64 0]]):=((HFd.out.more t1).alloc _).more t2;have HG:Hid (Fr w1 (more ((more W t1).alloc (.cells #[.int .i64 0,.int .i64 0] 35)) t2) [[.int .i64 tn,.int .i64 td]]):=((HGd.out.more t1).alloc _).more t2;have x0:=blk_cell W t1 t2 #[.int .i64 0,.int .i64 0] 35 0 rfl;have x1:=blk_cell W t1 t2 #[.int .i64 0,.int .i64 0] 35 1 rfl;have x0':=blk_froz W t1 t2 #[.int .i64 0,.int .i64 0] 35 0;have x1':=blk_froz W t1 t2 #[.int .i64 0,.int .i64 0] 35 1;have xz:=blk_lt W t1 t2 (.cells #[.int .i64 0,.int .i64 0] 35);have xb:=(HGd.out.more t1).z;have xw:=Lib.hid (blk_below W t1 t2 (.cells #[.int .i64 0,.int .i64 0] 35));have xbw:=size_more W t1
     simp only[List.length_cons,List.length_nil]at xb
     clear z0 c00 f00 c01 f01 c02 f02 c03 f03 z1 c10 f10 c11 f11;clear gz0 gc00 gf00 gc01 gf01;generalize more ((more W t1).alloc (.cells #[.int .i64 0,.int .i64 0] 35)) t2=U at *;generalize (more W t1).heap.size=bb at *;obtain⟨z0,c00,f00,c01,f01,c02,f02,c03,f03,z1,c10,f10,c11,f11⟩:=HU.out.xf0;obtain⟨gz0,gc00,gf00,gc01,gf01⟩:=HG.out.xf3
     go_wp2_with (fail)
     refine bodyPost_ret (v:=.tuple #[.agg #[.int .i64 0,.int .i64 0],.bool false]) (by simp[results,Tryz.results88,go_sem,c10,c11,z1,f10,f11,x0,x1,x0',x1',xz]) rfl (RetE.mkN HR.out ?_)
     repeat (first|exact HU.out.b|refine stw ?_ (by omega))
    ·have SC:Hid (∀W:World,Calls Tryz.prog 135 #[.agg #[.int .i64 p,.int .i64 c,.int .i64 h,.int .i64 s],.agg #[.int .i64 xn,.int .i64 xd],.int .i64 2] W fun e w'=>e = .returned (.tuple #[.agg #[.int .i64 yn,.int .i64 yd],.bool true])∧Below W.heap.size W w'):=fun W=>by
      have:=SC0 W;rw[hsc]at this;exact this
     have hyv:Val (sq s) ⟨yn,yd⟩:=sclE_val hq1 hsc;clear SC0;rw[hsc]at hst
     go_wp2_with (fail)
     go_quiet (fail)
     go_wp2_with (fail)
     have HFd:Hid (Fr w (wr.drewN nq) [[.int .i64 p,.int .i64 c,.int .i64 h,.int .i64 s],[.int .i64 0,.int .i64 0]]):=HFr.out.drewN _;have HGd:Hid (Fr w1 (wr.drewN nq) [[.int .i64 tn,.int .i64 td]]):=HGr.out.drewN _;have HdW:Hid (Frm S wr (wr.drewN nq)):=(Frm.refl S wr).drewN _;replace q3:(wr.drewN nq).cell? ⟨b2,off2+k*2,none⟩=some (.int .i64 xn):=q3;replace q4:(wr.drewN nq).cell? ⟨b2,off2+k*2+1,none⟩=some (.int .i64 xd):=q4;generalize (wr.drewN nq)=W at *
     refine wp_region_blk 10 9 10 _ _ (.cells #[.int .i64 0,.int .i64 0] 35) (by kernel_rfl) (by kernel_rfl) rfl rfl rfl (fun _ _=>by kernel_rfl) rfl (pure_extract _ _ _ _ rfl rfl) (fun _ _ _ _ h=>h) (by kernel_rfl) ?_
     apply Exists.intro
     refine⟨fun X hX=>?_,fun t1 t2=>?_⟩
     ·
      have hXb:Below W.heap.size W X:=by obtain⟨t0,rfl⟩:=hX;exact below_more W t0
      have HX:Hid (Fr w X [[.int .i64 p,.int .i64 c,.int .i64 h,.int .i64 s],[.int .i64 0,.int .i64 0]]):=HFd.out.below hXb;have y3:X.cell? ⟨b2,off2+k*2,none⟩=some (.int .i64 xn):=keep_cell q3 hXb;have y4:X.cell? ⟨b2,off2+k*2+1,none⟩=some (.int .i64 xd):=keep_cell q4 hXb;have y5:b2<X.heap.size:=World.block_lt_of_cell? X _ y3;clear hX hXb;obtain⟨z0,c00,f00,c01,f01,c02,f02,c03,f03,z1,c10,f10,c11,f11⟩:=HX.out.xf0
      simp only[List.take_succ_cons,List.take_zero]
      repeat (first|go_big_quiet_step (first|(go_at_call 135;exact more_call (SC.out _))|fail)|quiet_step (first|(go_at_call 135;exact more_call (SC.out _))|fail))
      exact wpQuiet_nil rfl
     simp only[List.drop_succ_cons,List.drop_zero,Act.put]
     have HU:Hid (Fr w (more ((more W t1).alloc (.cells #[.int .i64 0,.int .i64 0] 35)) t2) [[.int .i64 p,.int .i64 c,.int .i64 h,.int .i64 s],[.int .i64 0,.int .i64 0]]):=((HFd.out.more t1).alloc _).more t2;have HG:Hid (Fr w1 (more ((more W t1).alloc (.cells #[.int .i64 0,.int .i64 0] 35)) t2) [[.int .i64 tn,.int .i64 td]]):=((HGd.out.more t1).alloc _).more t2;have x0:=blk_cell W t1 t2 #[.int .i64 0,.int .i64 0] 35 0 rfl;have x1:=blk_cell W t1 t2 #[.int .i64 0,.int .i64 0] 35 1 rfl;have x0':=blk_froz W t1 t2 #[.int .i64 0,.int .i64 0] 35 0;have x1':=blk_froz W t1 t2 #[.int .i64 0,.int .i64 0] 35 1;have xz:=blk_lt W t1 t2 (.cells #[.int .i64 0,.int .i64 0] 35);have xb:=(HGd.out.more t1).z;have xw:=Lib.hid (blk_below W t1 t2 (.cells #[.int .i64 0,.int .i64 0] 35));have xbw:=size_more W t1
     simp only[List.length_cons,List.length_nil]at xb
     clear z0 c00 f00 c01 f01 c02 f02 c03 f03 z1 c10 f10 c11 f11;clear gz0 gc00 gf00 gc01 gf01;generalize more ((more W t1).alloc (.cells #[.int .i64 0,.int .i64 0] 35)) t2=U at *;generalize (more W t1).heap.size=bb at *;obtain⟨z0,c00,f00,c01,f01,c02,f02,c03,f03,z1,c10,f10,c11,f11⟩:=HU.out.xf0;obtain⟨gz0,gc00,gf00,gc01,gf01⟩:=HG.out.xf3
     rcases hadd:addE (sq s) ⟨tn,td⟩ ⟨yn,yd⟩with _|⟨un,ud⟩
     ·have HR:Hid (meanE (sq s) (rollsN s) xs=none):=sum_stop (k:=k+1) (by rw[hst.out];exact hadd)
      have AD:Hid (∀W:World,Calls Tryz.prog 136 #[.agg #[.int .i64 p,.int .i64 c,.int .i64 h,.int .i64 s],.agg #[.int .i64 tn,.int .i64 td],.agg #[.int .i64 yn,.int .i64 yd]] W fun e w'=>e = .returned (.tuple #[.agg #[.int .i64 0,.int .i64 0],.bool false])∧Below W.heap.size W w'):=fun W=>by
       have:=l09Add_any p c h tn yn s td yd W hs1 hs6 HT.out hyv;rw[hadd]at this;exact this
      go_wp2_with (fail)
      have HU2:Hid (Fr w ((U.setCell ⟨bb,0,none⟩ (.int .i64 yn)).setCell ⟨bb,1,none⟩ (.int .i64 yd)) [[.int .i64 p,.int .i64 c,.int .i64 h,.int .i64 s],[.int .i64 0,.int .i64 0]]):=(HU.out.setOut (by simp only[List.length_cons,List.length_nil];omega)).setOut (by simp only[List.length_cons,List.length_nil];omega)
      have HG2:Hid (Fr w1 ((U.setCell ⟨bb,0,none⟩ (.int .i64 yn)).setCell ⟨bb,1,none⟩ (.int .i64 yd)) [[.int .i64 tn,.int .i64 td]]):=(HG.out.setOut (by simp only[List.length_cons,List.length_nil];omega)).setOut (by simp only[List.length_cons,List.length_nil];omega)
      have xw2:=Lib.hid (stw (v:=.int .i64 yd) (i:=1) (stw (v:=.int .i64 yn) (i:=0) xw.out xbw) xbw);clear HU HG x0 x1 x0' x1' xz xw;clear z0 c00 f00 c01 f01 c02 f02 c03 f03 z1 c10 f10 c11 f11;clear gz0 gc00 gf00 gc01 gf01;generalize (U.setCell ⟨bb,0,none⟩ (.int .i64 yn)).setCell ⟨bb,1,none⟩ (.int .i64 yd)=U2 at *
      refine (more_first (AD.out _)).mono ?_
      rintro e w' ⟨rfl,t,rfl⟩
      have HZ:=Lib.hid (HU2.out.more t);have HY:=Lib.hid (HG2.out.more t);have xw3:=Lib.hid (blw (t:=t) xw2.out (Nat.le_refl _));clear HU2 HG2 xw2;generalize more U2 t=Z at *;obtain⟨z0,c00,f00,c01,f01,c02,f02,c03,f03,z1,c10,f10,c11,f11⟩:=HZ.out.xf0;obtain⟨gz0,gc00,gf00,gc01,gf01⟩:=HY.out.xf3
      go_wp2_with (fail)
      refine bodyPost_ret (v:=.tuple #[.agg #[.int .i64 0,.int .i64 0],.bool false]) (by simp[results,Tryz.results88,go_sem,c10,c11,z1,f10,f11]) rfl (RetE.mkN HR.out ?_)
      repeat (first|exact HZ.out.b|refine stw ?_ (by omega)|refine alw ?_ (by omega))
     ·have HR:Hid (sumE (sq s) (((rollsN s).zip xs).take (k+1))=some ⟨un,ud⟩):=by rw[hst.out];exact hadd
      have AD:Hid (∀W:World,Calls Tryz.prog 136 #[.agg #[.int .i64 p,.int .i64 c,.int .i64 h,.int .i64 s],.agg #[.int .i64 tn,.int .i64 td],.agg #[.int .i64 yn,.int .i64 yd]] W fun e w'=>e = .returned (.tuple #[.agg #[.int .i64 un,.int .i64 ud],.bool true])∧Below W.heap.size W w'):=fun W=>by
       have:=l09Add_any p c h tn yn s td yd W hs1 hs6 HT.out hyv;rw[hadd]at this;exact this
      go_wp2_with (fail)
      have HU2:Hid (Fr w ((U.setCell ⟨bb,0,none⟩ (.int .i64 yn)).setCell ⟨bb,1,none⟩ (.int .i64 yd)) [[.int .i64 p,.int .i64 c,.int .i64 h,.int .i64 s],[.int .i64 0,.int .i64 0]]):=(HU.out.setOut (by simp only[List.length_cons,List.length_nil];omega)).setOut (by simp only[List.length_cons,List.length_nil];omega)
      have HG2:Hid (Fr w1 ((U.setCell ⟨bb,0,none⟩ (.int .i64 yn)).setCell ⟨bb,1,none⟩ (.int .i64 yd)) [[.int .i64 tn,.int .i64 td]]):=(HG.out.setOut (by simp only[List.length_cons,List.length_nil];omega)).setOut (by simp only[List.length_cons,List.length_nil];omega)
      have xw2:=Lib.hid (stw (v:=.int .i64 yd) (i:=1) (stw (v:=.int .i64 yn) (i:=0) xw.out xbw) xbw);clear HU HG x0 x1 x0' x1' xz xw;clear z0 c00 f00 c01 f01 c02 f02 c03 f03 z1 c10 f10 c11 f11;clear gz0 gc00 gf00 gc01 gf01;generalize (U.setCell ⟨bb,0,none⟩ (.int .i64 yn)).setCell ⟨bb,1,none⟩ (.int .i64 yd)=U2 at *
      refine (more_first (AD.out _)).mono ?_
      rintro e w' ⟨rfl,t,rfl⟩
      have HZ:=Lib.hid (HU2.out.more t);have HY:=Lib.hid (HG2.out.more t);have xw3:=Lib.hid (blw (t:=t) xw2.out (Nat.le_refl _));clear HU2 HG2 xw2;generalize more U2 t=Z at *;obtain⟨z0,c00,f00,c01,f01,c02,f02,c03,f03,z1,c10,f10,c11,f11⟩:=HZ.out.xf0;obtain⟨gz0,gc00,gf00,gc01,gf01⟩:=HY.out.xf3
      go_wp2_with (fail)
      have hF0:Frm S wr Z:=HdW.out.trans (Frm.of_below' S xw3.out)
      have hF1:Frm S wr ((Z.setCell ⟨w1.heap.size,0,none⟩ (.int .i64 un)).setCell ⟨w1.heap.size,1,none⟩ (.int .i64 ud)):=
       (hF0.trans ((Frm.set _ _ _ _).mono (fun q hq=>by rw[HSS.out];subst hq;show _∨_;omega))).trans ((Frm.set _ _ _ _).mono (fun q hq=>by rw[HSS.out];subst hq;show _∨_;omega))
      have hF2:=hF1.alloc (.cells #[.int .i64 un,.int .i64 ud] 35)
      refine⟨⟨k+1,un,ud,by omega,by simp,HR,?_,?_,⟨hRE.out.1.frm hF2,hRE.out.2.frm hF2⟩⟩,by simp[intOf];omega⟩
      ·exact ((HZ.out.setOut (by simpa using hw1)).setOut (by simpa using hw1)).alloc _
      ·exact ((HY.out.set 0 0 rfl rfl _).set 0 1 rfl rfl _).alloc _
  ·have hkn:k=n:=by omega
   subst hkn
   have hse:=sum_end (by rw[HXL.out,hn]) (by rw[hn];exact hsum.out)
   by_cases hdv:sq s ∣ tn
   ·have b0:(tn.tmod (sq s) == 0)=true:=by simp[tmod_zero.2 hdv]
    have hE:Hid (tn.tdiv (sq s)=tn / sq s):=tdiv_dvd hdv
    have HR:Hid (meanE (sq s) (rollsN s) xs=some ⟨tn.tdiv (sq s),0⟩):=by rw[hE.out];exact hse.trans (mean_dvd hq1 HT.out hdv)
    have ht3 : -9000000000000000000≤tn.tdiv (sq s)∧tn.tdiv (sq s)≤9000000000000000000:=by
     obtain⟨e1,e2⟩:=abs_le_bd (m:=1000000000000000000) ht1 ht2 hq1
     rw[hE.out];omega
    clear hdv hse
    go_wp2_with (fail)
    first|refine wp_region_more2 (by kernel_rfl) (by kernel_rfl) ?_|refine wp_region_more (by kernel_rfl) (by kernel_rfl) ?_
    repeat (first|go_big_quiet_step (first|(go_at_call 172;exact more_call (CB.out _))|fail)|quiet_step (first|(go_at_call 172;exact more_call (CB.out _))|fail))
    refine wpQuiet_nil ?_
    intro _ hw'
    obtain⟨tq,hw''⟩:=hw';subst hw'';have HZ:=Lib.hid (HFr.out.more tq);have HY:=Lib.hid (HGr.out.more tq);clear z0 c00 f00 c01 f01 c02 f02 c03 f03 z1 c10 f10 c11 f11;clear gz0 gc00 gf00 gc01 gf01;generalize more wr tq=Z at *;obtain⟨z0,c00,f00,c01,f01,c02,f02,c03,f03,z1,c10,f10,c11,f11⟩:=HZ.out.xf0;obtain⟨gz0,gc00,gf00,gc01,gf01⟩:=HY.out.xf3
    go_wp2_with (fail)
    first|refine wp_region_tail_more2 6 (by kernel_rfl) (by kernel_rfl) ?_|refine wp_region_tail_more 6 (by kernel_rfl) (by kernel_rfl) ?_
    simp only[List.take_succ_cons,List.take_zero,List.drop_succ_cons,List.drop_zero]
    repeat (first|go_big_quiet_step (first|(go_at_call 172;exact more_call (CB.out _))|fail)|quiet_step (first|(go_at_call 172;exact more_call (CB.out _))|fail))
    refine wpQuiet_nil ?_
    intro _ hw'
    obtain⟨t2,hw''⟩:=hw';subst hw''
    go_wp2_with (fail)
    refine bodyPost_ret (v:=.tuple #[.agg #[.int .i64 (tn.tdiv (sq s)),.int .i64 0],.bool true]) (by simp[results,Tryz.results88,go_sem,c10,c11,z1,f10,f11]) rfl (RetE.mkY HR.out ?_)
    repeat (first|exact (HZ.out.more _).b|refine stw ?_ (by omega)|refine alw ?_ (by omega))
   ·have b0:(tn.tmod (sq s) == 0)=false:=by simp[tmod_zero,hdv]
    have hmn:=hse.trans (mean_not (s:=⟨tn,td⟩) hdv)
    have C9:=fun (W:World)=>l09Valid_any p c h tn s (td+1) W hs1 hs6 (by omega)
    simp only[Int.natCast_add,Int.natCast_one]at C9
    rcases hvb:valB (sq s) tn (td+1) with _|_
    ·have HR:Hid (meanE (sq s) (rollsN s) xs=none):=by rw[hmn];show (if valB (sq s) tn (td+1)=true then _ else _)=_;rw[hvb];rfl
     rw[hvb]at C9;have CV:=Lib.hid C9;clear hdv hse hmn C9 hvb
     go_wp2_with (fail)
     first|refine wp_region_more2 (by kernel_rfl) (by kernel_rfl) ?_|refine wp_region_more (by kernel_rfl) (by kernel_rfl) ?_
     repeat (first|go_big_quiet_step (first|(go_at_call 172;exact more_call (CB.out _))|fail)|quiet_step (first|(go_at_call 172;exact more_call (CB.out _))|fail))
     refine wpQuiet_nil ?_
     intro _ hw'
     obtain⟨tq,hw''⟩:=hw';subst hw'';have HZ:=Lib.hid (HFr.out.more tq);have HY:=Lib.hid (HGr.out.more tq);clear z0 c00 f00 c01 f01 c02 f02 c03 f03 z1 c10 f10 c11 f11;clear gz0 gc00 gf00 gc01 gf01;generalize more wr tq=Z at *;obtain⟨z0,c00,f00,c01,f01,c02,f02,c03,f03,z1,c10,f10,c11,f11⟩:=HZ.out.xf0;obtain⟨gz0,gc00,gf00,gc01,gf01⟩:=HY.out.xf3
     go_wp2_with (fail)
     refine (more_first (CV.out _)).mono ?_
     rintro e w' ⟨rfl,t,rfl⟩
     have HV2:Hid (Fr w (more (Z.alloc (.cells #[.int .i64 tn,.int .i64 ((td:Int)+1)] 35)) t) [[.int .i64 p,.int .i64 c,.int .i64 h,.int .i64 s],[.int .i64 0,.int .i64 0]]):=(HZ.out.alloc _).more t
     have HQ2:Hid (Fr Z (more (Z.alloc (.cells #[.int .i64 tn,.int .i64 ((td:Int)+1)] 35)) t) [[.int .i64 tn,.int .i64 ((td:Int)+1)]]):=((Fr.start Z).allocT (by simp) _ _).more t
     have hZz:w.heap.size+2≤Z.heap.size:=by have:=HZ.out.z;simpa using this
     clear z0 c00 f00 c01 f01 c02 f02 c03 f03 z1 c10 f10 c11 f11;clear gz0 gc00 gf00 gc01 gf01;generalize more (Z.alloc (.cells #[.int .i64 tn,.int .i64 ((td:Int)+1)] 35)) t=V2 at *;obtain⟨z0,c00,f00,c01,f01,c02,f02,c03,f03,z1,c10,f10,c11,f11⟩:=HV2.out.xf0;obtain⟨qz0,qc00,qf00,qc01,qf01⟩:=HQ2.out.xf3
     go_wp2_with (fail)
     refine bodyPost_ret (v:=.tuple #[.agg #[.int .i64 0,.int .i64 0],.bool false]) (by simp[results,Tryz.results88,go_sem,c10,c11,z1,f10,f11]) rfl (RetE.mkN HR.out ?_)
     repeat (first|exact HV2.out.b|refine stw ?_ (by omega)|refine alw ?_ (by omega))
    ·have HR:Hid (meanE (sq s) (rollsN s) xs=some ⟨tn,td+1⟩):=by rw[hmn];show (if valB (sq s) tn (td+1)=true then _ else _)=_;rw[hvb];rfl
     rw[hvb]at C9;have CV:=Lib.hid C9;clear hdv hse hmn C9 hvb
     go_wp2_with (fail)
     first|refine wp_region_more2 (by kernel_rfl) (by kernel_rfl) ?_|refine wp_region_more (by kernel_rfl) (by kernel_rfl) ?_
     repeat (first|go_big_quiet_step (first|(go_at_call 172;exact more_call (CB.out _))|fail)|quiet_step (first|(go_at_call 172;exact more_call (CB.out _))|fail))
     refine wpQuiet_nil ?_
     intro _ hw'
     obtain⟨tq,hw''⟩:=hw';subst hw'';have HZ:=Lib.hid (HFr.out.more tq);have HY:=Lib.hid (HGr.out.more tq);clear z0 c00 f00 c01 f01 c02 f02 c03 f03 z1 c10 f10 c11 f11;clear gz0 gc00 gf00 gc01 gf01;generalize more wr tq=Z at *;obtain⟨z0,c00,f00,c01,f01,c02,f02,c03,f03,z1,c10,f10,c11,f11⟩:=HZ.out.xf0;obtain⟨gz0,gc00,gf00,gc01,gf01⟩:=HY.out.xf3
     go_wp2_with (fail)
     refine (more_first (CV.out _)).mono ?_
     rintro e w' ⟨rfl,t,rfl⟩
     have HV2:Hid (Fr w (more (Z.alloc (.cells #[.int .i64 tn,.int .i64 ((td:Int)+1)] 35)) t) [[.int .i64 p,.int .i64 c,.int .i64 h,.int .i64 s],[.int .i64 0,.int .i64 0]]):=(HZ.out.alloc _).more t
     have HQ2:Hid (Fr Z (more (Z.alloc (.cells #[.int .i64 tn,.int .i64 ((td:Int)+1)] 35)) t) [[.int .i64 tn,.int .i64 ((td:Int)+1)]]):=((Fr.start Z).allocT (by simp) _ _).more t
     have hZz:w.heap.size+2≤Z.heap.size:=by have:=HZ.out.z;simpa using this
     clear z0 c00 f00 c01 f01 c02 f02 c03 f03 z1 c10 f10 c11 f11;clear gz0 gc00 gf00 gc01 gf01;generalize more (Z.alloc (.cells #[.int .i64 tn,.int .i64 ((td:Int)+1)] 35)) t=V2 at *;obtain⟨z0,c00,f00,c01,f01,c02,f02,c03,f03,z1,c10,f10,c11,f11⟩:=HV2.out.xf0;obtain⟨qz0,qc00,qf00,qc01,qf01⟩:=HQ2.out.xf3
     go_wp2_with (fail)
     refine bodyPost_ret (v:=.tuple #[.agg #[.int .i64 tn,.int .i64 ((td:Int)+1)],.bool true]) (by simp[results,Tryz.results88,go_sem,c10,c11,z1,f10,f11]) rfl ?_
     rw[HR.out]
     refine⟨by simp,?_⟩
     repeat (first|exact HV2.out.b|refine stw ?_ (by omega)|refine alw ?_ (by omega))
end Go.Proofs.YtkaiilmgemaljaaGreat

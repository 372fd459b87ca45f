/- Part of one proof. There are no conditions. -/
import Derived.Test.YtcmeoenkgmghkaaGreatON13
set_option maxHeartbeats 0
set_option linter.unusedVariables false
set_option linter.unusedSimpArgs false
set_option maxRecDepth 100000
open Go.IntKind renaming i64->y
open Go.Value renaming agg->C,tuple->I,bool->J,slice->K
open Go.Obj renaming cells->D
open Go.Ending renaming returned->F
open Go renaming World->jz,Value->j0,Calls->j1,bodyPost_ret->j2
open Nat renaming le_refl->qa,le_trans->qb,lt_of_lt_of_le->qc
open Go.RowKit.Below renaming refl->qd
open List renaming take_of_length_le->qe,drop_succ_cons->qf,drop_zero->qg,take_succ_cons->qh,take_zero->qi
open Go.Proofs.Tryz renaming prog->qj
namespace Go.Proofs.YtcmeoenkgmghkaaGreat
open Go.RowKit Ps Ra Ex
theorem gh(p c h:Int)(s n c0:Nat)(A:Option Addr)(xs:List E)(w:jz)(hs1:1<=s)(hs6:s<=6)(hx:EL (fun _=>False) w A n xs)(hn:(ah s).length=n)(hval:∀x∈xs,Val (sq s) x):
  j1 qj 144 #[C #[.int y p,.int y c,.int y h,.int y s],K A n c0] w (RetE w (meanE (sq s) (ah s) xs)):=by
 obtain⟨hq1,hq36,_⟩:=sq_bd hs1 hs6
 have hn21:n<=21:=by rw[<-hn];exact cN hs6
 have CB:=h_ fun(W:jz)=>eF p c h s W hs6
 have HF0:Hid (Fr w ((w.alloc (D #[.int y p,.int y c,.int y h,.int y s] 33)).alloc (D #[.int y 0,.int y 0] 45)) [[.int y p,.int y c,.int y h,.int y s],[.int y 0,.int y 0]]):=
  ((Fr.start w).allocT (by simp) _ _).allocT (by simp) _ _
 have HX0:=h_ hx;have hxl:xs.length=n:=hx.1;have HV:=h_ hval;have HXL:=h_ hxl;clear hx hval hxl
 go_enter Tryz.func144,Tryz.ntmps144
 go_wp2_with (fail)
 refine(eZ p c h s _ hs6).mono ?_
 rintro e w1 ⟨v1,rfl,ho,hb⟩
 have HF1:=h_ (HF0.out.below hb)
 have hw1:w.heap.size+2<=w1.heap.size:=by have:=HF1.out.z;simpa using this
 obtain⟨S,hS⟩:∃S:Nat->Prop,S=fun b=>b=w.heap.size\/b=w.heap.size+1\/b=w1.heap.size:=⟨_,rfl⟩
 have HE1:Hid (EL S w1 A n xs):=(HX0.out.spare (S:=S) fun b hb=>by rw[hS];show ¬(_\/_);omega).below HF1.out.b
 obtain⟨A1,c1,rfl,hR,_⟩:=ho.read (S:=fun k=>k<w.heap.size+2) (fun k hk=>by simp at hk;omega)
 have HR1:Hid (RL S w1 A1 n (ah s)):=by
  rw[hn]at hR
  refine⟨hR.1,hR.2.1,fun hpos=>?_⟩
  obtain⟨b,off,hA,hlt,hs,hc⟩:=hR.2.2 hpos
  exact⟨b,off,hA,hlt,by rw[hS];show ¬(_\/_);simp at hs;omega,hc⟩
 have HSS:=h_ hS;clear ho hb hR hS
 go_wp2_with (fail)
 have HF2:Hid (Fr w (w1.alloc (D #[.int y 0,.int y 0] 45)) [[.int y p,.int y c,.int y h,.int y s],[.int y 0,.int y 0]]):=HF1.out.alloc _
 have HG2:Hid (Fr w1 (w1.alloc (D #[.int y 0,.int y 0] 45)) [[.int y 0,.int y 0]]):=(Fr.start w1).allocT (by simp) _ _
 have HRE2:Hid (RL S (w1.alloc (D #[.int y 0,.int y 0] 45)) A1 n (ah s)/\EL S (w1.alloc (D #[.int y 0,.int y 0] 45)) A n xs):=⟨HR1.out.frm ((Frm.refl S _).alloc _),HE1.out.frm ((Frm.refl S _).alloc _)⟩
 go_loopw [8] (fun vi wr=>∃(k:Nat) (tn:Int) (td:Nat),k<=n/\vi= .int y k/\Hid (sumE (sq s) (((ah s).zip xs).take k)=some ⟨tn,td⟩)/\Fr w wr [[.int y p,.int y c,.int y h,.int y s],[.int y 0,.int y 0]]/\Fr w1 wr [[.int y tn,.int y td]]/\Hid (RL S wr A1 n (ah s)/\EL S wr A n xs)) (fun vi _=>n-(intOf vi).toNat)
 case atStart=>exact⟨0,0,0,Nat.zero_le _,rfl,rfl,HF2.out,HG2.out,HRE2.out⟩
 case round=>
  obtain⟨k,tn,td,hk,rfl,hsum,hF,hG,hRE⟩:=hrel;have HFr:=h_ hF;have HGr:=h_ hG;clear hF hG;have ht:Val (sq s) ⟨tn,td⟩:=lG hq1 hsum.out;have htd:td<50:=bP hq1 ht;have HT:=h_ ht;have ht1: -1000000000000000000<=tn:=ht.1;have ht2:tn<=1000000000000000000:=ht.2.1;clear ht
  have z0:=HFr.out.l0 (by simp)
  have c00:=HFr.out.c0 0 rfl;have c01:=HFr.out.c0 1 rfl;have c02:=HFr.out.c0 2 rfl;have c03:=HFr.out.c0 3 rfl
  have gz0:=HGr.out.l0 (by simp)
  have gc00:=HGr.out.c0 0 rfl
  by_cases hlt:k<n
  focus
   have hki:(k:Int)<(n:Int):=by omega
   obtain⟨b1,off1,rfl,_,q1,q2⟩:=hRE.out.1.at hlt;obtain⟨b2,off2,rfl,_,q3,q4⟩:=hRE.out.2.at hlt
   have hst:=h_ (sum_step (k:=k) (by rw[hn];exact hlt) (by rw[hn];exact HXL.out) hsum.out)
   have hxv:Hid (Val (sq s) (xs.getD k ⟨0,0⟩)):=HV.out _ (ak xs _ (by rw[HXL.out];exact hlt))
   have hrr:Hid (1<=((ah s).getD k (0,0)).2/\((ah s).getD k (0,0)).2<=((ah s).getD k (0,0)).1/\((ah s).getD k (0,0)).1<=s):=bC.1 (ak _ _ (by rw[hn];exact hlt))
   generalize (ah s).getD k (0,0)=r at *;generalize xs.getD k ⟨0,0⟩=x at *;obtain⟨a,b⟩:=r;obtain⟨xn,xd⟩:=x
   simp only at q1 q2 q3 q4
   by_cases hab:a=b
   focus
    have hb0:((a:Int)==(b:Int))=true:=by simp[hab]
    have hwt:aL (a,b)=1:=by unfold aL;simp[hab]
    have SC0:∀W:jz,j1 qj 108 #[C #[.int y p,.int y c,.int y h,.int y s],C #[.int y xn,.int y xd],.int y 1] W (RetE W (sclE (sq s) ⟨xn,xd⟩ (aL (a,b)))):=fun W=>by
     rw[hwt];exact kY p c h xn s xd 1 W hs1 hs6 hxv.out (by omega) (by omega)
    rcases hsc:sclE (sq s) ⟨xn,xd⟩ (aL (a,b))with _|⟨yn,yd⟩
    focus
     refine ?zh
    rotate_left
    focus
     have SC:Hid (∀W:jz,j1 qj 108 #[C #[.int y p,.int y c,.int y h,.int y s],C #[.int y xn,.int y xd],.int y 1] W fun e w'=>e=F (I #[C #[.int y yn,.int y yd],J true])/\Below W.heap.size W w'):=fun W=>by
      have:=SC0 W;rw[hsc]at this;exact this
     refine ?za
   rotate_left 2
   focus
    have hb0:((a:Int)==(b:Int))=false:=by simp;omega
    have hwt:aL (a,b)=2:=by unfold aL;simp[hab]
    have SC0:∀W:jz,j1 qj 108 #[C #[.int y p,.int y c,.int y h,.int y s],C #[.int y xn,.int y xd],.int y 2] W (RetE W (sclE (sq s) ⟨xn,xd⟩ (aL (a,b)))):=fun W=>by
     rw[hwt];exact kY p c h xn s xd 2 W hs1 hs6 hxv.out (by omega) (by omega)
    rcases hsc:sclE (sq s) ⟨xn,xd⟩ (aL (a,b))with _|⟨yn,yd⟩
    focus
     refine ?zi
    rotate_left
    focus
     have SC:Hid (∀W:jz,j1 qj 108 #[C #[.int y p,.int y c,.int y h,.int y s],C #[.int y xn,.int y xd],.int y 2] W fun e w'=>e=F (I #[C #[.int y yn,.int y yd],J true])/\Below W.heap.size W w'):=fun W=>by
      have:=SC0 W;rw[hsc]at this;exact this
     refine ?zb
  rotate_left 4
  focus
   have hkn:k=n:=by omega
   subst hkn
   have hse:=sum_end (by rw[HXL.out,hn]) (by rw[hn];exact hsum.out)
   by_cases hdv:sq s∣tn
   focus
    have b0:(tn.tmod (sq s)==0)=true:=by simp[ci.2 hdv]
    have hE:Hid (tn.tdiv (sq s)=tn/sq s):=eu hdv
    have HR:Hid (meanE (sq s) (ah s) xs=some ⟨tn.tdiv (sq s),0⟩):=by rw[hE.out];exact hse.trans (mean_dvd hq1 HT.out hdv)
    have ht3: -9000000000000000000<=tn.tdiv (sq s)/\tn.tdiv (sq s)<=9000000000000000000:=by
     obtain⟨e1,e2⟩:=abs_le_bd (m:=1000000000000000000) ht1 ht2 hq1
     rw[hE.out];omega
    clear hdv hse
    refine ?zg
   rotate_left
   focus
    have b0:(tn.tmod (sq s)==0)=false:=by simp[ci,hdv]
    have hmn:=hse.trans (mean_not (s:=⟨tn,td⟩) hdv)
    have C9:=fun(W:jz)=>l09Valid_any p c h tn s (td+1) W hs1 hs6 (by omega)
    simp only[Int.natCast_add,Int.natCast_one]at C9
    rcases hvb:valB (sq s) tn (td+1)with _|_
    focus
     have HR:Hid (meanE (sq s) (ah s) xs=none):=by rw[hmn];show(if valB (sq s) tn (td+1)=true then _ else _)=_;rw[hvb];rfl
     refine ?ze
    rotate_left
    focus
     have HR:Hid (meanE (sq s) (ah s) xs=some ⟨tn,td+1⟩):=by rw[hmn];show(if valB (sq s) tn (td+1)=true then _ else _)=_;rw[hvb];rfl
     refine ?zf
  rotate_left 3
  case' za|zb=>
   have hyv:Val (sq s) ⟨yn,yd⟩:=jj hq1 hsc;clear SC0;rw[hsc]at hst
  case' ze|zf=>
   rw[hvb]at C9;have CV:=h_ C9;clear hdv hse hmn C9 hvb
  case' zg|ze|zf=>
   go_wp2_with (fail)
   first|refine ag (by kernel_rfl) (by kernel_rfl) ?_|refine ac (by kernel_rfl) (by kernel_rfl) ?_
   repeat (first|go_big_quiet_step (first|(go_at_call 186;exact more_call (CB.out _))|fail)|quiet_step (first|(go_at_call 186;exact more_call (CB.out _))|fail))
   refine wpQuiet_nil ?_
   intro _ hw'
   obtain⟨tq,hw''⟩:=hw';subst hw'';have HZ:=h_ (HFr.out.more tq);have HY:=h_ (HGr.out.more tq);clear z0 c00 c01 c02 c03;clear gz0 gc00;generalize more wr tq=Z at *
   have z0:=HZ.out.l0 (by simp)
  case zg=>
   have c00:=HZ.out.c0 0 rfl;have c01:=HZ.out.c0 1 rfl;have c02:=HZ.out.c0 2 rfl;have c03:=HZ.out.c0 3 rfl
   have z1:=HZ.out.l1 (by simp)
   have c10:=HZ.out.c1 0 rfl;have f10:=HZ.out.f1 0 rfl;have c11:=HZ.out.c1 1 rfl;have f11:=HZ.out.f1 1 rfl
   have gz0:=HY.out.l0 (by simp)
   have gc00:=HY.out.c0 0 rfl
   go_wp2_with (fail)
   first|refine am 6 (by kernel_rfl) (by kernel_rfl) ?_|refine an 6 (by kernel_rfl) (by kernel_rfl) ?_
   simp only[qh,qi,qf,qg]
   repeat (first|go_big_quiet_step (first|(go_at_call 186;exact more_call (CB.out _))|fail)|quiet_step (first|(go_at_call 186;exact more_call (CB.out _))|fail))
   refine wpQuiet_nil ?_
   intro _ hw'
   obtain⟨t2,hw''⟩:=hw';subst hw''
   go_wp2_with (fail)
   refine j2 (v:=I #[C #[.int y (tn.tdiv (sq s)),.int y 0],J true]) (by simp[results,Tryz.results144,go_sem,c10,c11,z1,f10,f11]) rfl (RetE.mkY HR.out ?_)
   repeat (first|exact(HZ.out.more _).b|refine stw ?_ (by omega)|refine alw ?_ (by omega))
  case' ze|zf=>
   have c00:=HZ.out.c0 0 rfl;have c01:=HZ.out.c0 1 rfl;have c02:=HZ.out.c0 2 rfl;have c03:=HZ.out.c0 3 rfl;have gc00:=HY.out.c0 0 rfl;have gc01:=HY.out.c0 1 rfl
   go_wp2_with (fail)
   refine(more_first (CV.out _)).mono ?_
   rintro e w' ⟨rfl,t,rfl⟩
   have HV2:Hid (Fr w (more (Z.alloc (D #[.int y tn,.int y ((td:Int)+1)] 45)) t) [[.int y p,.int y c,.int y h,.int y s],[.int y 0,.int y 0]]):=(HZ.out.alloc _).more t
   have HQ2:Hid (Fr Z (more (Z.alloc (D #[.int y tn,.int y ((td:Int)+1)] 45)) t) [[.int y tn,.int y ((td:Int)+1)]]):=((Fr.start Z).allocT (by simp) _ _).more t
  case' zf=>
   clear z0 c00 c01 c02 c03;clear gc00 gc01;generalize more (Z.alloc (D #[.int y tn,.int y ((td:Int)+1)] 45)) t=V2 at *;have c10:=HV2.out.c1 0 rfl;have f10:=HV2.out.f1 0 rfl;have c11:=HV2.out.c1 1 rfl;have f11:=HV2.out.f1 1 rfl;have qc00:=HQ2.out.c0 0 rfl;have qc01:=HQ2.out.c0 1 rfl
   go_wp2_with (fail)
   refine j2 (v:=I #[C #[.int y tn,.int y ((td:Int)+1)],J true]) (by simp[results,Tryz.results144,go_sem,c10,c11,f10,f11]) rfl ?_
   rw[HR.out]
   refine⟨by simp,?_⟩
  case' ze=>
   clear z0 c00 c01 c02 c03;clear gc00 gc01;generalize more (Z.alloc (D #[.int y tn,.int y ((td:Int)+1)] 45)) t=V2 at *;have c10:=HV2.out.c1 0 rfl;have f10:=HV2.out.f1 0 rfl;have c11:=HV2.out.c1 1 rfl;have f11:=HV2.out.f1 1 rfl
   go_wp2_with (fail)
   refine j2 (v:=I #[C #[.int y 0,.int y 0],J false]) (by simp[results,Tryz.results144,go_sem,c10,c11,f10,f11]) rfl (RetE.mkN HR.out ?_)
  case zf|ze=>
   repeat (first|exact HV2.out.b|refine stw ?_ (by omega)|refine alw ?_ (by omega))
  case' zh|zi=>
   have HR:Hid (meanE (sq s) (ah s) xs=none):=fp (k:=k+1) (by rw[hst.out,hsc];rfl)
  case' zh=>
   have SC:Hid (∀W:jz,j1 qj 108 #[C #[.int y p,.int y c,.int y h,.int y s],C #[.int y xn,.int y xd],.int y 1] W fun e w'=>e=F (I #[C #[.int y 0,.int y 0],J false])/\Below W.heap.size W w'):=fun W=>by
    have:=SC0 W;rw[hsc]at this;exact this
   clear SC0 hsc hst
  case' zi=>
   have SC:Hid (∀W:jz,j1 qj 108 #[C #[.int y p,.int y c,.int y h,.int y s],C #[.int y xn,.int y xd],.int y 2] W fun e w'=>e=F (I #[C #[.int y 0,.int y 0],J false])/\Below W.heap.size W w'):=fun W=>by
    have:=SC0 W;rw[hsc]at this;exact this
   clear SC0 hsc hst
  case' zh|zi|za|zb=>
   go_wp2_with (fail)
   go_quiet (fail)
   go_wp2_with (fail)
   have HFd:Hid (Fr w (wr.drewN nq) [[.int y p,.int y c,.int y h,.int y s],[.int y 0,.int y 0]]):=HFr.out.drewN _;have HGd:Hid (Fr w1 (wr.drewN nq) [[.int y tn,.int y td]]):=HGr.out.drewN _;have HdW:Hid (Frm S wr (wr.drewN nq)):=(Frm.refl S wr).drewN _;replace q3:(wr.drewN nq).cell? ⟨b2,off2+k*2,none⟩=some (.int y xn):=q3;replace q4:(wr.drewN nq).cell? ⟨b2,off2+k*2+1,none⟩=some (.int y xd):=q4;generalize (wr.drewN nq)=W at *
   refine aQ 10 9 10 _ _ (D #[.int y 0,.int y 0] 45) (by kernel_rfl) (by kernel_rfl) rfl rfl rfl (fun _ _=>by kernel_rfl) rfl (bc _ _ _ _ rfl rfl) (fun _ _ _ _ h=>h) (by kernel_rfl) ?_
   apply Exists.intro
   refine⟨fun X hX=>?_,fun t1 t2=>?_⟩
   ·have hXb:Below W.heap.size W X:=by obtain⟨t0,rfl⟩:=hX;exact aa W t0
    have HX:Hid (Fr w X [[.int y p,.int y c,.int y h,.int y s],[.int y 0,.int y 0]]):=HFd.out.below hXb;have y3:X.cell? ⟨b2,off2+k*2,none⟩=some (.int y xn):=ae q3 hXb;have y4:X.cell? ⟨b2,off2+k*2+1,none⟩=some (.int y xd):=ae q4 hXb;have y5:b2<X.heap.size:=World.block_lt_of_cell? X _ y3;clear hX hXb
    have z0:=HX.out.l0 (by simp)
    have c00:=HX.out.c0 0 rfl;have c01:=HX.out.c0 1 rfl;have c02:=HX.out.c0 2 rfl;have c03:=HX.out.c0 3 rfl
    simp only[qh,qi]
    repeat (first|go_big_quiet_step (first|(go_at_call 108;exact more_call (SC.out _))|fail)|quiet_step (first|(go_at_call 108;exact more_call (SC.out _))|fail))
    exact wpQuiet_nil rfl
   simp only[qf,qg,Act.put]
   have HU:Hid (Fr w (more ((more W t1).alloc (D #[.int y 0,.int y 0] 45)) t2) [[.int y p,.int y c,.int y h,.int y s],[.int y 0,.int y 0]]):=((HFd.out.more t1).alloc _).more t2;have HG:Hid (Fr w1 (more ((more W t1).alloc (D #[.int y 0,.int y 0] 45)) t2) [[.int y tn,.int y td]]):=((HGd.out.more t1).alloc _).more t2;have x0:=aW W t1 t2 #[.int y 0,.int y 0] 45 0 rfl;have x1:=aW W t1 t2 #[.int y 0,.int y 0] 45 1 rfl;have x0':=aV W t1 t2 #[.int y 0,.int y 0] 45 0;have x1':=aV W t1 t2 #[.int y 0,.int y 0] 45 1;have xz:=fT W t1 t2 (D #[.int y 0,.int y 0] 45);have xb:=(HGd.out.more t1).z;have xw:=h_ (eo W t1 t2 (D #[.int y 0,.int y 0] 45));have xbw:=ai W t1
   simp only[List.length_cons,List.length_nil]at xb
  case za|zb=>
   clear z0 c00 c01 c02 c03;clear gz0 gc00;generalize more ((more W t1).alloc (D #[.int y 0,.int y 0] 45)) t2=U at *;generalize (more W t1).heap.size=bb at *;have c00:=HU.out.c0 0 rfl;have c01:=HU.out.c0 1 rfl;have c02:=HU.out.c0 2 rfl;have c03:=HU.out.c0 3 rfl;have gc00:=HG.out.c0 0 rfl;have gc01:=HG.out.c0 1 rfl
   rcases hadd:addE (sq s) ⟨tn,td⟩ ⟨yn,yd⟩with _|⟨un,ud⟩
   ·have HR:Hid (meanE (sq s) (ah s) xs=none):=fp (k:=k+1) (by rw[hst.out];exact hadd)
    have AD:Hid (∀W:jz,j1 qj 75 #[C #[.int y p,.int y c,.int y h,.int y s],C #[.int y tn,.int y td],C #[.int y yn,.int y yd]] W fun e w'=>e=F (I #[C #[.int y 0,.int y 0],J false])/\Below W.heap.size W w'):=fun W=>by
     have:=dh p c h tn yn s td yd W hs1 hs6 HT.out hyv;rw[hadd]at this;exact this
    go_wp2_with (fail)
    have HU2:Hid (Fr w ((U.setCell ⟨bb,0,none⟩ (.int y yn)).setCell ⟨bb,1,none⟩ (.int y yd)) [[.int y p,.int y c,.int y h,.int y s],[.int y 0,.int y 0]]):=(HU.out.setOut (by simp only[List.length_cons,List.length_nil];omega)).setOut (by simp only[List.length_cons,List.length_nil];omega)
    have HG2:Hid (Fr w1 ((U.setCell ⟨bb,0,none⟩ (.int y yn)).setCell ⟨bb,1,none⟩ (.int y yd)) [[.int y tn,.int y td]]):=(HG.out.setOut (by simp only[List.length_cons,List.length_nil];omega)).setOut (by simp only[List.length_cons,List.length_nil];omega)
    have xw2:=h_ (stw (v:=.int y yd) (i:=1) (stw (v:=.int y yn) (i:=0) xw.out xbw) xbw);clear HU HG x0 x1 x0' x1' xz xw;clear c00 c01 c02 c03;clear gc00 gc01;generalize (U.setCell ⟨bb,0,none⟩ (.int y yn)).setCell ⟨bb,1,none⟩ (.int y yd)=U2 at *
    refine(more_first (AD.out _)).mono ?_
    rintro e w' ⟨rfl,t,rfl⟩
    have HZ:=h_ (HU2.out.more t);have HY:=h_ (HG2.out.more t);have xw3:=h_ (blw (t:=t) xw2.out (qa _));clear HU2 HG2 xw2;generalize more U2 t=Z at *
    have z1:=HZ.out.l1 (by simp)
    have c10:=HZ.out.c1 0 rfl;have f10:=HZ.out.f1 0 rfl;have c11:=HZ.out.c1 1 rfl;have f11:=HZ.out.f1 1 rfl
    go_wp2_with (fail)
    refine j2 (v:=I #[C #[.int y 0,.int y 0],J false]) (by simp[results,Tryz.results144,go_sem,c10,c11,z1,f10,f11]) rfl (RetE.mkN HR.out ?_)
    repeat (first|exact HZ.out.b|refine stw ?_ (by omega)|refine alw ?_ (by omega))
   ·have HR:Hid (sumE (sq s) (((ah s).zip xs).take (k+1))=some ⟨un,ud⟩):=by rw[hst.out];exact hadd
    have AD:Hid (∀W:jz,j1 qj 75 #[C #[.int y p,.int y c,.int y h,.int y s],C #[.int y tn,.int y td],C #[.int y yn,.int y yd]] W fun e w'=>e=F (I #[C #[.int y un,.int y ud],J true])/\Below W.heap.size W w'):=fun W=>by
     have:=dh p c h tn yn s td yd W hs1 hs6 HT.out hyv;rw[hadd]at this;exact this
    go_wp2_with (fail)
    have HU2:Hid (Fr w ((U.setCell ⟨bb,0,none⟩ (.int y yn)).setCell ⟨bb,1,none⟩ (.int y yd)) [[.int y p,.int y c,.int y h,.int y s],[.int y 0,.int y 0]]):=(HU.out.setOut (by simp only[List.length_cons,List.length_nil];omega)).setOut (by simp only[List.length_cons,List.length_nil];omega)
    have HG2:Hid (Fr w1 ((U.setCell ⟨bb,0,none⟩ (.int y yn)).setCell ⟨bb,1,none⟩ (.int y yd)) [[.int y tn,.int y td]]):=(HG.out.setOut (by simp only[List.length_cons,List.length_nil];omega)).setOut (by simp only[List.length_cons,List.length_nil];omega)
    have xw2:=h_ (stw (v:=.int y yd) (i:=1) (stw (v:=.int y yn) (i:=0) xw.out xbw) xbw);clear HU HG x0 x1 x0' x1' xz xw;clear c00 c01 c02 c03;clear gc00 gc01;generalize (U.setCell ⟨bb,0,none⟩ (.int y yn)).setCell ⟨bb,1,none⟩ (.int y yd)=U2 at *
    refine(more_first (AD.out _)).mono ?_
    rintro e w' ⟨rfl,t,rfl⟩
    have HZ:=h_ (HU2.out.more t);have HY:=h_ (HG2.out.more t);have xw3:=h_ (blw (t:=t) xw2.out (qa _));clear HU2 HG2 xw2;generalize more U2 t=Z at *
    have gz0:=HY.out.l0 (by simp)
    have gc00:=HY.out.c0 0 rfl;have gf00:=HY.out.f0 0 rfl;have gc01:=HY.out.c0 1 rfl;have gf01:=HY.out.f0 1 rfl
    go_wp2_with (fail)
    have hF0:Frm S wr Z:=HdW.out.trans (Frm.of_below' S xw3.out)
    have hF1:Frm S wr ((Z.setCell ⟨w1.heap.size,0,none⟩ (.int y un)).setCell ⟨w1.heap.size,1,none⟩ (.int y ud)):=
     (hF0.trans ((Frm.set _ _ _ _).mono (fun q hq=>by rw[HSS.out];subst hq;show _\/_;omega))).trans ((Frm.set _ _ _ _).mono (fun q hq=>by rw[HSS.out];subst hq;show _\/_;omega))
    have hF2:=hF1.alloc (D #[.int y un,.int y ud] 45)
    refine⟨⟨k+1,un,ud,by omega,by simp,HR,?_,?_,⟨hRE.out.1.frm hF2,hRE.out.2.frm hF2⟩⟩,by simp[intOf];omega⟩
    ·exact((HZ.out.setOut (by simpa using hw1)).setOut (by simpa using hw1)).alloc _
    ·exact((HY.out.set 0 0 rfl rfl _).set 0 1 rfl rfl _).alloc _
  case zh|zi=>
   clear z0 c00 c01 c02 c03;clear gz0 gc00;generalize more ((more W t1).alloc (D #[.int y 0,.int y 0] 45)) t2=U at *;generalize (more W t1).heap.size=bb at *;have c10:=HU.out.c1 0 rfl;have f10:=HU.out.f1 0 rfl;have c11:=HU.out.c1 1 rfl;have f11:=HU.out.f1 1 rfl
   go_wp2_with (fail)
   refine j2 (v:=I #[C #[.int y 0,.int y 0],J false]) (by simp[results,Tryz.results144,go_sem,c10,c11,f10,f11,x0,x1,x0',x1',xz]) rfl (RetE.mkN HR.out ?_)
   repeat (first|exact HU.out.b|refine stw ?_ (by omega))
theorem cD(w:jz):j1 qj 142 #[] w fun e w'=>e=F (C #[.int y 1,.int y 0])/\Below w.heap.size w w':=by
 go_enter Tryz.func142,Tryz.ntmps142
 go_wp2
 refine j2 (v:=C #[.int y 1,.int y 0]) (by simp[results,Tryz.results142,go_sem]) rfl ⟨rfl,?_⟩
 exact(qd _ _).alloc (qa _) _
theorem eV(p c h xn:Int)(s xd:Nat)(w:jz)(hs1:1<=s)(hs6:s<=6)(hx:Val (sq s) ⟨xn,xd⟩):
  j1 qj 141 #[C #[.int y p,.int y c,.int y h,.int y s],C #[.int y xn,.int y xd]] w (RetE w (oneM (sq s) ⟨xn,xd⟩)):=by
 obtain⟨-,-,_⟩:=sq_bd hs1 hs6;have hx1: -1000000000000000000<=xn:=hx.1;have hx2:xn<=1000000000000000000:=hx.2.1
 have HF:Hid (Fr w (((w.alloc (D #[.int y p,.int y c,.int y h,.int y s] 33)).alloc (D #[.int y xn,.int y xd] 45)).alloc (D #[.int y 0,.int y 0] 45)) [[.int y p,.int y c,.int y h,.int y s],[.int y xn,.int y xd],[.int y 0,.int y 0]]):=
  (((Fr.start w).allocT (by simp) _ _).allocT (by simp) _ _).allocT (by simp) _ _
 rcases hm:oneM (sq s) ⟨xn,xd⟩with _|⟨m,d⟩
 focus
  have AD:Hid (∀W:jz,j1 qj 147 #[C #[.int y p,.int y c,.int y h,.int y s],C #[.int y 1,.int y 0],C #[.int y (-xn),.int y xd]] W fun e w'=>e=F (I #[C #[.int y 0,.int y 0],J false])/\Below W.heap.size W w'):=fun W=>by
   have:=dK p c h 1 (-xn) s 0 xd W hs1 hs6 eA (jQ hx);rw[show addE (sq s) ⟨1,0⟩ ⟨-xn,xd⟩=oneM (sq s) ⟨xn,xd⟩from rfl,hm]at this;exact this
  refine ?za
 rotate_left
 focus
  have AD:Hid (∀W:jz,j1 qj 147 #[C #[.int y p,.int y c,.int y h,.int y s],C #[.int y 1,.int y 0],C #[.int y (-xn),.int y xd]] W fun e w'=>e=F (I #[C #[.int y m,.int y d],J true])/\Below W.heap.size W w'):=fun W=>by
   have:=dK p c h 1 (-xn) s 0 xd W hs1 hs6 eA (jQ hx);rw[show addE (sq s) ⟨1,0⟩ ⟨-xn,xd⟩=oneM (sq s) ⟨xn,xd⟩from rfl,hm]at this;exact this
  refine ?zb
 rotate_left
 case' za|zb=>
  clear hx
  go_enter Tryz.func141,Tryz.ntmps141
  go_wp2_with (fail)
  refine(more_first (AD.out _)).mono ?_
  rintro e w' ⟨rfl,t,rfl⟩
  have HZ:=h_ (HF.out.more t);generalize more (((w.alloc (D #[.int y p,.int y c,.int y h,.int y s] 33)).alloc (D #[.int y xn,.int y xd] 45)).alloc (D #[.int y 0,.int y 0] 45)) t=Z at *;have c20:=HZ.out.c2 0 rfl;have f20:=HZ.out.f2 0 rfl;have c21:=HZ.out.c2 1 rfl;have f21:=HZ.out.f2 1 rfl
  go_wp2_with (fail)
 case za=>
  refine j2 (v:=I #[C #[.int y 0,.int y 0],J false]) (by simp[results,Tryz.results141,go_sem,c20,c21,f20,f21]) rfl (RetE.mkN rfl ?_)
  repeat (first|exact HZ.out.b|refine stw ?_ (by omega))
 case zb=>
  refine j2 (v:=I #[C #[.int y m,.int y d],J true]) (by simp[results,Tryz.results141,go_sem,c20,c21,f20,f21]) rfl (RetE.mkY rfl ?_)
  repeat (first|exact HZ.out.b|refine stw ?_ (by omega))
theorem eY(p c h xn:Int)(s xd:Nat)(w:jz)(hs1:1<=s)(hs6:s<=6)(hx:Val (sq s) ⟨xn,xd⟩):
  j1 qj 192 #[C #[.int y p,.int y c,.int y h,.int y s],C #[.int y xn,.int y xd]] w (RetE w (oneM (sq s) ⟨xn,xd⟩)):=by
 obtain⟨-,-,_⟩:=sq_bd hs1 hs6;have hx1: -1000000000000000000<=xn:=hx.1;have hx2:xn<=1000000000000000000:=hx.2.1
 have HF:Hid (Fr w (((w.alloc (D #[.int y p,.int y c,.int y h,.int y s] 33)).alloc (D #[.int y xn,.int y xd] 45)).alloc (D #[.int y 0,.int y 0] 45)) [[.int y p,.int y c,.int y h,.int y s],[.int y xn,.int y xd],[.int y 0,.int y 0]]):=
  (((Fr.start w).allocT (by simp) _ _).allocT (by simp) _ _).allocT (by simp) _ _
 rcases hm:oneM (sq s) ⟨xn,xd⟩with _|⟨m,d⟩
 focus
  have AD:Hid (∀W:jz,j1 qj 75 #[C #[.int y p,.int y c,.int y h,.int y s],C #[.int y 1,.int y 0],C #[.int y (-xn),.int y xd]] W fun e w'=>e=F (I #[C #[.int y 0,.int y 0],J false])/\Below W.heap.size W w'):=fun W=>by
   have:=dh p c h 1 (-xn) s 0 xd W hs1 hs6 eA (jQ hx);rw[show addE (sq s) ⟨1,0⟩ ⟨-xn,xd⟩=oneM (sq s) ⟨xn,xd⟩from rfl,hm]at this;exact this
  refine ?za
 rotate_left
 focus
  have AD:Hid (∀W:jz,j1 qj 75 #[C #[.int y p,.int y c,.int y h,.int y s],C #[.int y 1,.int y 0],C #[.int y (-xn),.int y xd]] W fun e w'=>e=F (I #[C #[.int y m,.int y d],J true])/\Below W.heap.size W w'):=fun W=>by
   have:=dh p c h 1 (-xn) s 0 xd W hs1 hs6 eA (jQ hx);rw[show addE (sq s) ⟨1,0⟩ ⟨-xn,xd⟩=oneM (sq s) ⟨xn,xd⟩from rfl,hm]at this;exact this
  refine ?zb
 rotate_left
 case' za|zb=>
  clear hx
  go_enter Tryz.func192,Tryz.ntmps192
  go_wp2_with (fail)
  first|refine am 11 (by kernel_rfl) (by kernel_rfl) ?_|refine an 11 (by kernel_rfl) (by kernel_rfl) ?_
  simp only[qh,qi,qf,qg]
  repeat (first|go_big_quiet_step (first|(go_at_call 75;exact more_call (AD.out _))|(go_at_call 142;exact more_call (cD _)))|quiet_step (first|(go_at_call 75;exact more_call (AD.out _))|(go_at_call 142;exact more_call (cD _))))
  refine wpQuiet_nil ?_
  intro _ hw'
  obtain⟨t,hw''⟩:=hw';subst hw'';have HZ:=h_ (HF.out.more t);generalize more (((w.alloc (D #[.int y p,.int y c,.int y h,.int y s] 33)).alloc (D #[.int y xn,.int y xd] 45)).alloc (D #[.int y 0,.int y 0] 45)) t=Z at *;have c20:=HZ.out.c2 0 rfl;have f20:=HZ.out.f2 0 rfl;have c21:=HZ.out.c2 1 rfl;have f21:=HZ.out.f2 1 rfl
  go_wp2_with (fail)
 case za=>
  refine j2 (v:=I #[C #[.int y 0,.int y 0],J false]) (by simp[results,Tryz.results192,go_sem,c20,c21,f20,f21]) rfl (RetE.mkN rfl ?_)
  repeat (first|exact HZ.out.b|refine stw ?_ (by omega))
 case zb=>
  refine j2 (v:=I #[C #[.int y m,.int y d],J true]) (by simp[results,Tryz.results192,go_sem,c20,c21,f20,f21]) rfl (RetE.mkY rfl ?_)
  repeat (first|exact HZ.out.b|refine stw ?_ (by omega))
open Go.RowKit Ps
def PosI(h c:Int)(xs:List Int):Prop:=(xs.length:Int)=h/\(∀x∈xs,0<=x)/\xs.sum<=c
instance (h c:Int) (xs:List Int):Decidable (PosI h c xs):=by unfold PosI;infer_instance
theorem numT_take{p:List Int}{i left:Nat}(hi:i<p.length):numT (p.take (i+1)).reverse left=sumW i left (p.getD i 0).toNat+numT (p.take i).reverse (left-(p.getD i 0).toNat):=by
 rw[List.take_succ_eq_append_getElem hi,List.reverse_append]
 have e:p[i]=p.getD i 0:=by simp[List.getD,hi]
 rw[e]
 show numT (p.getD i 0::(p.take i).reverse) left=_
 rw[d7]
 simp[Nat.min_eq_left (Nat.le_of_lt hi)]
theorem sumT_take{p:List Int}{i:Nat}(hi:i<p.length):(p.take (i+1)).sum=(p.take i).sum+p.getD i 0:=bM p i hi
theorem cM(p s:Int)(c h:Nat)(A:Option Addr)(n cp:Nat)(xs:List Int)(w:jz)(hx:SL w A n xs)(hp:PosP h c xs)(hc:c<=15)(hh:h<=24)  :
  j1 qj 132 #[C #[.int y p,.int y c,.int y h,.int y s],K A n cp] w fun e w'=>e=F (.int y (num c xs))/\Below w.heap.size w w':=by
 have HB:Hid (Below w.heap.size w (w.alloc (D #[.int y p,.int y c,.int y h,.int y s] 33))):=(qd _ _).alloc (qa _) _;have hl:xs.length=n:=hx.1
 have hn24:n<=24:=by have:=hp.1;omega
 have hbd:num c xs<wys h c:=dG hp
 have hwb:=wys_bd (k:=h) (m:=c) (by omega) hc
 have HP:=h_ hp;have HX:=h_ (hx.alloc (D #[.int y p,.int y c,.int y h,.int y s] 33));have HL:=h_ hl
 have HN:Hid (numT (xs.take n).reverse c=num c xs):=by unfold Hid num;rw[qe (by omega)]
 have HS:Hid ((xs.take n).sum<=c):=by unfold Hid;rw[qe (by omega)];exact hp.2.2
 have HPN:Hid (∀k,0<=(xs.take k).sum):=fun k=>bh xs k hp.2.1
 clear hx hl hp
 go_enter Tryz.func132,Tryz.ntmps132
 go_wp2
 go_loop [5,6,7] (fun v l i=>∃(k nn lf:Nat),k<=n/\lf<=c/\i= .int y ((k:Int)-1)/\l= .int y lf/\v= .int y nn/\Hid (nn+numT (xs.take k).reverse lf=num c xs)/\Hid ((xs.take k).sum<=lf)) (fun _ _ i=>(intOf i+1).toNat)
 case atStart=>exact⟨n,0,c,by omega,by omega,rfl,rfl,rfl,by unfold Hid;rw[HN.out];omega,HS.out⟩
 case round=>
  obtain⟨k,nn,lf,hk,hlf,hi,rfl,rfl,hnum,hs⟩:=hrel
  rcases k with _|j
  ·rw[show((0:Nat):Int)-1= -1 from rfl]at hi
   subst hi
   have HR:Hid (nn=num c xs):=by have:=hnum.out;unfold Hid;simpa[numT]using this
   go_wp2_with (fail)
   go_ret
   exact⟨by rw[<-HR.out];rfl,HB.out⟩
  ·rw[show((j+1:Nat):Int)-1=(j:Int) by omega]at hi
   subst hi
   obtain⟨b,off,rfl,_,hcells⟩:=HX.out.2 (by omega)
   have hcell:=hcells j (by omega)
   have e1:=numT_take (p:=xs) (i:=j) (left:=lf) (by rw[HL.out];omega)
   have e2:=sumT_take (p:=xs) (i:=j) (by rw[HL.out];omega)
   have e3:=HPN.out j
   have e4:=HP.out.2.1 _ (aZ xs j (by rw[HL.out];omega))
   obtain⟨x,hx⟩:∃x:Nat,xs.getD j 0=(x:Int):=⟨(xs.getD j 0).toNat,by omega⟩
   rw[hx]at hcell e1 e2 e4
   simp only[Int.toNat_natCast]at e1
   have e5:=hs.out;rw[e2]at e5
   have hxl:x<=lf:=by omega
   have hnum':Hid (nn+sumW j lf x+numT (xs.take j).reverse (lf-x)=num c xs):=by have:=hnum.out;rw[e1]at this;unfold Hid;omega
   have hs':Hid ((xs.take j).sum<=((lf-x:Nat):Int)):=by unfold Hid;omega
   have hb0:nn+sumW j lf x<wys h c:=by have:=hnum'.out;omega
   have HM:Hid (∀d,d<=x->sumW j lf d<=sumW j lf x):=fun d hd=>jD hd
   clear hcells e1 e2 e3 e4 e5 hx hnum hs
   go_wp2_with (fail)
   go_loop [5,22] (fun v dv=>∃d:Nat,d<=x/\dv= .int y d/\v= .int y ((nn+sumW j lf d:Nat):Int)) (fun _ dv=>x-(intOf dv).toNat)
   case atStart=>exact⟨0,by omega,rfl,by simp[sumW]⟩
   case round=>
    obtain⟨d,hd,rfl,rfl⟩:=hrel
    by_cases hdx:d<x
    ·have hdi:(d:Int)<(x:Int):=by omega
     have hsub:((lf:Int)-(d:Int))=((lf-d:Nat):Int):=by omega
     have hm1:=HM.out (d+1) (by omega)
     have hm2:=HM.out d (by omega)
     have E:=h_ (eQ j lf d)
     have hm3:sumW j lf d+wys j (lf-d)<=sumW j lf x:=by rw[<-E.out];exact hm1
     have CL:=h_ (fun(W:jz)=>listsUpTo_any j (lf-d) W (by omega) (by omega))
     clear hm1
     go_wp2_with ((go_at_call 187;(try rw[hsub]);refine(CL.out _).mono ?_;rintro e w' ⟨rfl,rfl⟩))
     go_round
     case rel=>exact⟨d+1,by omega,by go_num,by rw[E.out];go_num⟩
     case measure=>simp[intOf];omega
    ·have hdx2:d=x:=by omega
     subst hdx2
     go_wp2_with (fail)
     go_round
     case rel=>exact⟨j,nn+sumW j lf d,lf-d,by omega,by omega,by go_num,by go_num,rfl,hnum'.out,hs'.out⟩
     case measure=>(simp[intOf])<;>omega
theorem hJ(p s:Int)(c h:Nat)(A:Option Addr)(n cp:Nat)(xs:List Int)(w:jz)(hx:SL w A n xs)(hp:PosP h c xs)(hc:c<=15)(hh:h<=24)(hw6:wys h c<=1000000):
  j1 qj 162 #[C #[.int y p,.int y c,.int y h,.int y s],K A n cp] w fun e w'=>e=F (.int y (num c xs))/\Below w.heap.size w w':=by
 have HB:Hid (Below w.heap.size w (w.alloc (D #[.int y p,.int y c,.int y h,.int y s] 33))):=(qd _ _).alloc (qa _) _;have hl:xs.length=n:=hx.1
 have hn24:n<=24:=by have:=hp.1;omega
 have hbd:num c xs<wys h c:=dG hp
 have HW:Hid (∀i m,i<=h->m<=c->wys i m<=wys h c):=fun i m hi hm=>jd hi hm
 have HP:=h_ hp;have HX:=h_ (hx.alloc (D #[.int y p,.int y c,.int y h,.int y s] 33));have HL:=h_ hl
 have hnh:=h_ (show n=h by rw[<-hl];exact hp.1)
 have HN:Hid (numT (xs.take n).reverse c=num c xs):=by unfold Hid num;rw[qe (by omega)]
 have HS:Hid ((xs.take n).sum<=c):=by unfold Hid;rw[qe (by omega)];exact hp.2.2
 have HPN:Hid (∀k,0<=(xs.take k).sum):=fun k=>bh xs k hp.2.1
 clear hx hl hp
 go_enter Tryz.func162,Tryz.ntmps162
 go_wp2
 go_loop [5,6,7] (fun v l i=>∃(k nn lf:Nat),k<=n/\lf<=c/\i= .int y ((k:Int)-1)/\l= .int y lf/\v= .int y nn/\Hid (nn+numT (xs.take k).reverse lf=num c xs)/\Hid ((xs.take k).sum<=lf)) (fun _ _ i=>(intOf i+1).toNat)
 case atStart=>exact⟨n,0,c,by omega,by omega,rfl,rfl,rfl,by unfold Hid;rw[HN.out];omega,HS.out⟩
 case round=>
  obtain⟨k,nn,lf,hk,hlf,hi,rfl,rfl,hnum,hs⟩:=hrel
  rcases k with _|j
  ·rw[show((0:Nat):Int)-1= -1 from rfl]at hi
   subst hi
   have HR:Hid (nn=num c xs):=by have:=hnum.out;unfold Hid;simpa[numT]using this
   go_wp2_with (fail)
   go_ret
   exact⟨by rw[<-HR.out];rfl,HB.out⟩
  ·rw[show((j+1:Nat):Int)-1=(j:Int) by omega]at hi
   subst hi
   obtain⟨b,off,rfl,_,hcells⟩:=HX.out.2 (by omega)
   have hcell:=hcells j (by omega)
   have e1:=numT_take (p:=xs) (i:=j) (left:=lf) (by rw[HL.out];omega)
   have e2:=sumT_take (p:=xs) (i:=j) (by rw[HL.out];omega)
   have e3:=HPN.out j
   have e4:=HP.out.2.1 _ (aZ xs j (by rw[HL.out];omega))
   obtain⟨x,hx⟩:∃x:Nat,xs.getD j 0=(x:Int):=⟨(xs.getD j 0).toNat,by omega⟩
   rw[hx]at hcell e1 e2 e4
   simp only[Int.toNat_natCast]at e1
   have e5:=hs.out;rw[e2]at e5
   have hxl:x<=lf:=by omega
   have hnum':Hid (nn+sumW j lf x+numT (xs.take j).reverse (lf-x)=num c xs):=by have:=hnum.out;rw[e1]at this;unfold Hid;omega
   have hs':Hid ((xs.take j).sum<=((lf-x:Nat):Int)):=by unfold Hid;omega
   have hb0:nn+sumW j lf x<wys h c:=by have:=hnum'.out;omega
   have HM:Hid (∀d,d<=x->sumW j lf d<=sumW j lf x):=fun d hd=>jD hd
   clear hcells e1 e2 e3 e4 e5 hx hnum hs
   go_wp2_with (fail)
   go_loop [5,8] (fun v dv=>∃d:Nat,d<=x/\dv= .int y d/\v= .int y ((nn+sumW j lf d:Nat):Int)) (fun _ dv=>x-(intOf dv).toNat)
   case atStart=>exact⟨0,by omega,rfl,by simp[sumW]⟩
   case round=>
    obtain⟨d,hd,rfl,rfl⟩:=hrel
    by_cases hdx:d<x
    ·have hdi:(d:Int)<(x:Int):=by omega
     have hsub:((lf:Int)-(d:Int))=((lf-d:Nat):Int):=by omega
     have hm1:=HM.out (d+1) (by omega)
     have hm2:=HM.out d (by omega)
     have E:=h_ (eQ j lf d)
     have hm3:sumW j lf d+wys j (lf-d)<=sumW j lf x:=by rw[<-E.out];exact hm1
     have CL:=h_ (fun(W:jz)=>(show j1 qj 112 #[.int y ((lf-d:Nat):Int),.int y j] W (fun e w'=>e=F (.int y (wys j (lf-d)))/\W=w')from by have h1:=l10Ways_any j (lf-d) W (by omega) (by omega);rw[eK (qb (HW.out _ _ (by have:=hnh.out;omega) (by omega)) hw6)]at h1;exact h1))
     clear hm1
     go_wp2_with ((go_at_call 112;(try rw[hsub]);refine(CL.out _).mono ?_;rintro e w' ⟨rfl,rfl⟩))
     go_round
     case rel=>exact⟨d+1,by omega,by go_num,by rw[E.out];go_num⟩
     case measure=>simp[intOf];omega
    ·have hdx2:d=x:=by omega
     subst hdx2
     go_wp2_with (fail)
     go_round
     case rel=>exact⟨j,nn+sumW j lf d,lf-d,by omega,by omega,by go_num,by go_num,rfl,hnum'.out,hs'.out⟩
     case measure=>(simp[intOf])<;>omega
open Go.RowKit Ps Ra Ex Go.Maps
structure FrS(S:Nat->Prop)(w wr:jz)(L:List (List j0)):Prop where
 f:Frm S w wr
 low:∀k,S k->k<w.heap.size
 z:w.heap.size+L.length<=wr.heap.size
 cell:∀i j v,frAt L i j=some v->wr.cell? ⟨w.heap.size+i,j,none⟩=some v
 froz:∀i j v,frAt L i j=some v->wr.frozen? ⟨w.heap.size+i,j,none⟩=false
section
variable {S:Nat->Prop}{w wr w2:jz}{L:List (List j0)}
theorem FrS.cellA(h:FrS S w wr L){b:Nat}(i j:Nat){v:j0}(hb:b=w.heap.size+i)(hv:frAt L i j=some v):wr.cell? ⟨b,j,none⟩=some v:=by subst hb;exact h.cell i j v hv
theorem FrS.frozA(h:FrS S w wr L){b:Nat}(i j:Nat){v:j0}(hb:b=w.heap.size+i)(hv:frAt L i j=some v):wr.frozen? ⟨b,j,none⟩=false:=by subst hb;exact h.froz i j v hv
theorem FrS.ltA(h:FrS S w wr L){b:Nat}(i:Nat)(hb:b=w.heap.size+i)(hi:i<L.length):b<wr.heap.size:=by have:=h.z;omega
theorem FrS.c0(h:FrS S w wr L)(j:Nat){v:j0}(hv:frAt L 0 j=some v):wr.cell? ⟨w.heap.size,j,none⟩=some v:=h.cellA 0 j rfl hv
theorem FrS.f0(h:FrS S w wr L)(j:Nat){v:j0}(hv:frAt L 0 j=some v):wr.frozen? ⟨w.heap.size,j,none⟩=false:=h.frozA 0 j rfl hv
theorem FrS.l0(h:FrS S w wr L)(hi:0<L.length):w.heap.size<wr.heap.size:=h.ltA 0 rfl hi
theorem FrS.c1(h:FrS S w wr L)(j:Nat){v:j0}(hv:frAt L 1 j=some v):wr.cell? ⟨w.heap.size+1,j,none⟩=some v:=h.cellA 1 j rfl hv
theorem FrS.f1(h:FrS S w wr L)(j:Nat){v:j0}(hv:frAt L 1 j=some v):wr.frozen? ⟨w.heap.size+1,j,none⟩=false:=h.frozA 1 j rfl hv
theorem FrS.l1(h:FrS S w wr L)(hi:1<L.length):w.heap.size+1<wr.heap.size:=h.ltA 1 rfl hi
theorem FrS.c2(h:FrS S w wr L)(j:Nat){v:j0}(hv:frAt L 2 j=some v):wr.cell? ⟨w.heap.size+1+1,j,none⟩=some v:=h.cellA 2 j rfl hv
theorem FrS.f2(h:FrS S w wr L)(j:Nat){v:j0}(hv:frAt L 2 j=some v):wr.frozen? ⟨w.heap.size+1+1,j,none⟩=false:=h.frozA 2 j rfl hv
theorem FrS.l2(h:FrS S w wr L)(hi:2<L.length):w.heap.size+1+1<wr.heap.size:=h.ltA 2 rfl hi
theorem FrS.c3(h:FrS S w wr L)(j:Nat){v:j0}(hv:frAt L 3 j=some v):wr.cell? ⟨w.heap.size+1+1+1,j,none⟩=some v:=h.cellA 3 j rfl hv
theorem FrS.f3(h:FrS S w wr L)(j:Nat){v:j0}(hv:frAt L 3 j=some v):wr.frozen? ⟨w.heap.size+1+1+1,j,none⟩=false:=h.frozA 3 j rfl hv
theorem FrS.l3(h:FrS S w wr L)(hi:3<L.length):w.heap.size+1+1+1<wr.heap.size:=h.ltA 3 rfl hi
theorem FrS.c4(h:FrS S w wr L)(j:Nat){v:j0}(hv:frAt L 4 j=some v):wr.cell? ⟨w.heap.size+1+1+1+1,j,none⟩=some v:=h.cellA 4 j rfl hv
theorem FrS.f4(h:FrS S w wr L)(j:Nat){v:j0}(hv:frAt L 4 j=some v):wr.frozen? ⟨w.heap.size+1+1+1+1,j,none⟩=false:=h.frozA 4 j rfl hv
theorem FrS.l4(h:FrS S w wr L)(hi:4<L.length):w.heap.size+1+1+1+1<wr.heap.size:=h.ltA 4 rfl hi
theorem FrS.c5(h:FrS S w wr L)(j:Nat){v:j0}(hv:frAt L 5 j=some v):wr.cell? ⟨w.heap.size+1+1+1+1+1,j,none⟩=some v:=h.cellA 5 j rfl hv
theorem FrS.f5(h:FrS S w wr L)(j:Nat){v:j0}(hv:frAt L 5 j=some v):wr.frozen? ⟨w.heap.size+1+1+1+1+1,j,none⟩=false:=h.frozA 5 j rfl hv
theorem FrS.l5(h:FrS S w wr L)(hi:5<L.length):w.heap.size+1+1+1+1+1<wr.heap.size:=h.ltA 5 rfl hi
theorem FrS.xf0{S:Nat->Prop}{w wr:jz}{a0_0 a0_1 a0_2 a0_3 a1_0 a1_1 a2_0 a2_1 a2_2 a2_3 a3_0 a3_1:j0}{t0 t1 t2 t3:List j0}{tt:List (List j0)}(h:FrS S w wr ((a0_0::a0_1::a0_2::a0_3::t0)::(a1_0::a1_1::t1)::(a2_0::a2_1::a2_2::a2_3::t2)::(a3_0::a3_1::t3)::tt)):w.heap.size<wr.heap.size/\wr.cell? ⟨w.heap.size,0,none⟩=some a0_0/\wr.frozen? ⟨w.heap.size,0,none⟩=false/\wr.cell? ⟨w.heap.size,1,none⟩=some a0_1/\wr.frozen? ⟨w.heap.size,1,none⟩=false/\wr.cell? ⟨w.heap.size,2,none⟩=some a0_2/\wr.frozen? ⟨w.heap.size,2,none⟩=false/\wr.cell? ⟨w.heap.size,3,none⟩=some a0_3/\wr.frozen? ⟨w.heap.size,3,none⟩=false/\w.heap.size+1<wr.heap.size/\wr.cell? ⟨w.heap.size+1,0,none⟩=some a1_0/\wr.frozen? ⟨w.heap.size+1,0,none⟩=false/\wr.cell? ⟨w.heap.size+1,1,none⟩=some a1_1/\wr.frozen? ⟨w.heap.size+1,1,none⟩=false/\w.heap.size+1+1<wr.heap.size/\wr.cell? ⟨w.heap.size+1+1,0,none⟩=some a2_0/\wr.frozen? ⟨w.heap.size+1+1,0,none⟩=false/\wr.cell? ⟨w.heap.size+1+1,1,none⟩=some a2_1/\wr.frozen? ⟨w.heap.size+1+1,1,none⟩=false/\wr.cell? ⟨w.heap.size+1+1,2,none⟩=some a2_2/\wr.frozen? ⟨w.heap.size+1+1,2,none⟩=false/\wr.cell? ⟨w.heap.size+1+1,3,none⟩=some a2_3/\wr.frozen? ⟨w.heap.size+1+1,3,none⟩=false/\w.heap.size+1+1+1<wr.heap.size/\wr.cell? ⟨w.heap.size+1+1+1,0,none⟩=some a3_0/\wr.frozen? ⟨w.heap.size+1+1+1,0,none⟩=false/\wr.cell? ⟨w.heap.size+1+1+1,1,none⟩=some a3_1/\wr.frozen? ⟨w.heap.size+1+1+1,1,none⟩=false:=
 ⟨h.l0 (by simp),h.c0 0 rfl,h.f0 0 rfl,h.c0 1 rfl,h.f0 1 rfl,h.c0 2 rfl,h.f0 2 rfl,h.c0 3 rfl,h.f0 3 rfl,h.l1 (by simp),h.c1 0 rfl,h.f1 0 rfl,h.c1 1 rfl,h.f1 1 rfl,h.l2 (by simp),h.c2 0 rfl,h.f2 0 rfl,h.c2 1 rfl,h.f2 1 rfl,h.c2 2 rfl,h.f2 2 rfl,h.c2 3 rfl,h.f2 3 rfl,h.l3 (by simp),h.c3 0 rfl,h.f3 0 rfl,h.c3 1 rfl,h.f3 1 rfl⟩
theorem FrS.xf1{S:Nat->Prop}{w wr:jz}{a0_0 a0_1 a0_2 a0_3 a1_0 a1_1 a1_2 a1_3 a2_0 a2_1 a2_2 a2_3:j0}{t0 t1 t2:List j0}{tt:List (List j0)}(h:FrS S w wr ((a0_0::a0_1::a0_2::a0_3::t0)::(a1_0::a1_1::a1_2::a1_3::t1)::(a2_0::a2_1::a2_2::a2_3::t2)::tt)):w.heap.size<wr.heap.size/\wr.cell? ⟨w.heap.size,0,none⟩=some a0_0/\wr.frozen? ⟨w.heap.size,0,none⟩=false/\wr.cell? ⟨w.heap.size,1,none⟩=some a0_1/\wr.frozen? ⟨w.heap.size,1,none⟩=false/\wr.cell? ⟨w.heap.size,2,none⟩=some a0_2/\wr.frozen? ⟨w.heap.size,2,none⟩=false/\wr.cell? ⟨w.heap.size,3,none⟩=some a0_3/\wr.frozen? ⟨w.heap.size,3,none⟩=false/\w.heap.size+1<wr.heap.size/\wr.cell? ⟨w.heap.size+1,0,none⟩=some a1_0/\wr.frozen? ⟨w.heap.size+1,0,none⟩=false/\wr.cell? ⟨w.heap.size+1,1,none⟩=some a1_1/\wr.frozen? ⟨w.heap.size+1,1,none⟩=false/\wr.cell? ⟨w.heap.size+1,2,none⟩=some a1_2/\wr.frozen? ⟨w.heap.size+1,2,none⟩=false/\wr.cell? ⟨w.heap.size+1,3,none⟩=some a1_3/\wr.frozen? ⟨w.heap.size+1,3,none⟩=false/\w.heap.size+1+1<wr.heap.size/\wr.cell? ⟨w.heap.size+1+1,0,none⟩=some a2_0/\wr.frozen? ⟨w.heap.size+1+1,0,none⟩=false/\wr.cell? ⟨w.heap.size+1+1,1,none⟩=some a2_1/\wr.frozen? ⟨w.heap.size+1+1,1,none⟩=false/\wr.cell? ⟨w.heap.size+1+1,2,none⟩=some a2_2/\wr.frozen? ⟨w.heap.size+1+1,2,none⟩=false/\wr.cell? ⟨w.heap.size+1+1,3,none⟩=some a2_3/\wr.frozen? ⟨w.heap.size+1+1,3,none⟩=false:=
 ⟨h.l0 (by simp),h.c0 0 rfl,h.f0 0 rfl,h.c0 1 rfl,h.f0 1 rfl,h.c0 2 rfl,h.f0 2 rfl,h.c0 3 rfl,h.f0 3 rfl,h.l1 (by simp),h.c1 0 rfl,h.f1 0 rfl,h.c1 1 rfl,h.f1 1 rfl,h.c1 2 rfl,h.f1 2 rfl,h.c1 3 rfl,h.f1 3 rfl,h.l2 (by simp),h.c2 0 rfl,h.f2 0 rfl,h.c2 1 rfl,h.f2 1 rfl,h.c2 2 rfl,h.f2 2 rfl,h.c2 3 rfl,h.f2 3 rfl⟩
theorem FrS.start(w:jz)(low:∀k,S k->k<w.heap.size):FrS S w w []:=⟨Frm.refl _ _,low,qa _,fun i j v h=>by simp[frAt]at h,fun i j v h=>by simp[frAt]at h⟩
theorem j6{L:List (List j0)}{i j:Nat}{v:j0}(h:frAt L i j=some v):i<L.length:=by
 unfold frAt at h
 rcases hL:L[i]? with _|l
 ·rw[hL]at h;cases h
 ·exact(List.getElem?_eq_some_iff.1 hL).1
theorem cZ{T:Nat->Prop}(hf:Frm T wr w2){b j:Nat}(hb:b<wr.heap.size)(hn:¬T b):w2.frozen? ⟨b,j,none⟩=wr.frozen? ⟨b,j,none⟩:=by
 have e:=hf.block b hb hn
 simp[World.frozen?,e]
theorem FrS.frm(h:FrS S w wr L)(hf:Frm S wr w2):FrS S w w2 L:=by
 refine⟨h.f.trans hf,h.low,qb h.z hf.size,fun i j v hv=>hf.cell' (h.cell i j v hv) fun hs=>?_,fun i j v hv=>?_⟩
 ·have:=h.low _ hs;omega
 ·rw[cZ hf (by have:=h.z;have:=j6 hv;omega) fun hs=>by have:=h.low _ hs;omega]
  exact h.froz i j v hv
theorem FrS.below(h:FrS S w wr L)(hb:Below wr.heap.size wr w2):FrS S w w2 L:=h.frm (Frm.of_below' S hb)
theorem FrS.more(h:FrS S w wr L)(t:jz):FrS S w (more wr t) L:=h.below (aa wr t)
theorem FrS.alloc(h:FrS S w wr L)(o:Obj):FrS S w (wr.alloc o) L:=h.below ((qd _ _).alloc (qa _) o)
theorem FrS.out{O:Nat->Prop}(h:FrS S w wr L)(hf:Frm O wr w2)(hO:∀k,O k->w.heap.size+L.length<=k):FrS S w w2 L:=by
 refine⟨?_,h.low,qb h.z hf.size,fun i j v hv=>hf.cell' (h.cell i j v hv) fun hs=>?_,fun i j v hv=>?_⟩
 ·exact⟨hf.os.trans h.f.os,hf.tape.trans h.f.tape,hf.output.trans h.f.output,qb h.f.size hf.size,fun k hk hn=>(hf.block k (qc hk h.f.size) fun ho=>by have:=hO k ho;omega).trans (h.f.block k hk hn)⟩
 ·have:=hO _ hs;have:=j6 hv;omega
 ·rw[cZ hf (by have:=h.z;have:=j6 hv;omega) fun hs=>by have:=hO _ hs;have:=j6 hv;omega]
  exact h.froz i j v hv
theorem FrS.set(h:FrS S w wr L){b:Nat}(i j:Nat)(hb:b=w.heap.size+i){u:j0}(hu:frAt L i j=some u)(v:j0):FrS S w (wr.setCell ⟨b,j,none⟩ v) (L.modify i (·.set j v)):=by
 subst hb;have hc:=h.cell i j u hu;have hi:=j6 hu;have hf:=Frm.set wr (w.heap.size+i) j v
 refine⟨⟨hf.os.trans h.f.os,hf.tape.trans h.f.tape,hf.output.trans h.f.output,qb h.f.size hf.size,fun k hk hn=>(hf.block k (qc hk h.f.size) (by omega)).trans (h.f.block k hk hn)⟩,h.low,by simp;exact h.z,fun i' j' v' hv=>?_,fun i' j' v' hv=>?_⟩
 ·by_cases hi:i'=i
  ·subst hi
   rcases hL:L[i']? with _|l
   ·simp[frAt,hL]at hu
   ·simp[frAt,hL]at hv hu
    by_cases hj:j'=j
    ·subst hj
     rw[List.getElem?_set_self (List.getElem?_eq_some_iff.1 hu).1]at hv;injection hv with hv;subst hv
     simp[go_sem,hc]
    ·rw[List.getElem?_set_ne (by omega)]at hv
     have:=h.cell i' j' v' (by simp[frAt,hL,hv])
     have hne:¬j'=j:=hj
     simp[go_sem,this,hne,Ne.symm hne]
  ·have:frAt L i' j'=some v':=by
    unfold frAt at hv ⊢;rw[List.getElem?_modify]at hv
    simp[Ne.symm hi]at hv
    exact hv
   have:=h.cell i' j' v' this
   have hne:¬w.heap.size+i'=w.heap.size+i:=by omega
   have hne2:¬w.heap.size+i=w.heap.size+i':=by omega
   simp[go_sem,this,hne,hne2]
   try omega
 ·have:∃u',frAt L i' j'=some u':=by
   unfold frAt at hv ⊢;rw[List.getElem?_modify]at hv
   rcases hL:L[i']? with _|l
   ·simp[hL]at hv
   ·by_cases hi:i=i'
    ·simp[hL,hi]at hv
     have:j'<l.length:=by have:=(List.getElem?_eq_some_iff.1 hv).1;simpa using this
     exact⟨l[j'],by simp[this]⟩
    ·simp[hL,hi]at hv
     exact⟨v',by simpa using hv⟩
  obtain⟨u',hu'⟩:=this;have:=h.froz i' j' u' hu'
  simp[go_sem,this]
theorem FrS.allocT(h:FrS S w wr L)(hz:wr.heap.size=w.heap.size+L.length)(cs:Array j0)(T:TypeId):FrS S w (wr.alloc (D cs T)) (L++[cs.toList]):=by
 have ha:=h.alloc (D cs T)
 have new:∀i j v,frAt (L++[cs.toList]) i j=some v->¬i<L.length->i=L.length/\cs[j]? =some v:=fun i j v hv hi=>by
  unfold frAt at hv
  rw[List.getElem?_append_right (by omega)]at hv
  have:i-L.length=0:=by
   rcases Nat.eq_zero_or_pos (i-L.length)with h'|h'
   ·exact h'
   ·rw[List.getElem?_eq_none (by simp;omega)]at hv;cases hv
  rw[this]at hv
  simp at hv
  exact⟨by omega,by simpa using hv⟩
 refine⟨ha.f,h.low,by simp;omega,fun i j v hv=>?_,fun i j v hv=>?_⟩
 ·by_cases hi:i<L.length
  ·exact ha.cell i j v (eH hv hi)
  ·obtain⟨rfl,hc⟩:=new i j v hv hi
   rw[<-hz];simp[go_sem,hc]
 ·by_cases hi:i<L.length
  ·exact ha.froz i j v (eH hv hi)
  ·obtain⟨rfl,hc⟩:=new i j v hv hi
   rw[<-hz];simp[go_sem]
end
def RS(T:Nat->Prop)(w:jz)(A:Option Addr)(n:Nat)(ls:List (List (List Int))):Prop:=
 ls.length=n/\(0<n->∃b off,A=some ⟨b,off,none⟩/\b<w.heap.size/\¬T b/\∀k,k<n->∃B m c,w.cell? ⟨b,off+k,none⟩=some (K B m c)/\PL T w B m (ls.getD k [])/\m<=c)
def RSV(T:Nat->Prop)(w:jz)(u:j0)(ls:List (List (List Int))):Prop:=∃A n c,u=K A n c/\RS T w A n ls/\n<=c
section
variable {T T' O:Nat->Prop}{w w':jz}{A:Option Addr}{n:Nat}{u:j0}{ls:List (List (List Int))}
theorem RS.frm(h:RS T w A n ls)(hf:Frm O w w')(hO:∀k,O k->T k):RS T w' A n ls:=by
 refine⟨h.1,fun hn=>?_⟩
 obtain⟨b,off,hA,hlt,hs,hc⟩:=h.2 hn
 refine⟨b,off,hA,qc hlt hf.size,hs,fun k hk=>?_⟩
 obtain⟨B,m,c,h1,h2,h3⟩:=hc k hk
 exact⟨B,m,c,hf.cell' h1 (fun ho=>hs (hO b ho)),h2.frm (hf.mono hO),h3⟩
theorem RS.set(h:RS T w A n ls)(hS:∀k,T' k->T k\/w.heap.size<=k):RS T' w A n ls:=by
 refine⟨h.1,fun hn=>?_⟩
 obtain⟨b,off,hA,hlt,hs,hc⟩:=h.2 hn
 refine⟨b,off,hA,hlt,fun hb=>by rcases hS b hb with h|h;exact hs h;omega,fun k hk=>?_⟩
 obtain⟨B,m,c,h1,h2,h3⟩:=hc k hk
 exact⟨B,m,c,h1,h2.set hS,h3⟩
theorem RSV.frm(h:RSV T w u ls)(hf:Frm O w w')(hO:∀k,O k->T k):RSV T w' u ls:=let ⟨A,n,c,h1,h2,h3⟩:=h;⟨A,n,c,h1,h2.frm hf hO,h3⟩
theorem RSV.set(h:RSV T w u ls)(hS:∀k,T' k->T k\/w.heap.size<=k):RSV T' w u ls:=let ⟨A,n,c,h1,h2,h3⟩:=h;⟨A,n,c,h1,h2.set hS,h3⟩
end
structure RT where
 p:Int
 c:Nat
 h:Nat
 s:Nat
 bt:Nat
 b1:Nat
 b2:Nat
 b3:Nat
 A:Option Addr
 nr:Nat
 cr:Nat
def RT.S(t:RT):Nat->Prop:=fun k=>k=t.b1\/k=t.b2\/k=t.b3
def RT.N(t:RT):Nat:=wys t.h t.c
def RT.cells(t:RT):List j0:=[.int y t.p,.int y t.c,.int y t.h,.int y t.s,.int y t.N,K t.A t.nr t.cr,.map (some t.b1),.map (some t.b2),.map (some t.b3)]
structure RT.Ok(t:RT):Prop where
 v:isVar t.p t.c t.h t.s=true
 n:t.N<=500
 r:(ah t.s).length=t.nr
 c:t.nr<=t.cr
def keysU(N:Nat):List Lit:=(List.range (N*N)).map fun(i:Nat)=>Lit.int y (i:Int)
def RT.k1(t:RT)(q:List Int):Lit:=.int y (num t.c q:Int)
def RT.k2(t:RT)(q r:List Int):Lit:=.int y ((num t.c q*t.N+num t.c r:Nat):Int)
def exV(o:Option E):j0:=C #[.int y (o.getD ⟨0,0⟩).num,.int y ((o.getD ⟨0,0⟩).depth:Int)]
noncomputable def rsl(s:Nat)(q:List Int):List (List (List Int)):=(ah s).map fun r=>resultsL q r.1 r.2
def RaceM(t:RT)(T:Nat->Prop)(w:jz)(f1 f2 f3:Lit->Option j0):Prop:=
 MapV qj 2 w t.b1 (keysU t.N) f1/\MapV qj 2 w t.b2 (keysU t.N) f2/\MapV qj 2 w t.b3 (keysU t.N) f3/\
 (∀q,PosP t.h t.c q->∀u,f1 (t.k1 q)=some u->RSV T w u (rsl t.s q))/\
 (∀q r,PosP t.h t.c q->PosP t.h t.c r->∀u,f2 (t.k2 q r)=some u->u=exV (win t.s q r)/\f3 (t.k2 q r)=some (J (win t.s q r).isNone))
structure RaceI(t:RT)(T:Nat->Prop)(w:jz):Prop where
 tb:∀j v,t.cells[j]? =some v->w.cell? ⟨t.bt,j,none⟩=some v
 nt:¬T t.bt
 rl:RL T w t.A t.nr (ah t.s)
 sub:∀k,t.S k->T k
 d12:t.b1≠t.b2
 d13:t.b1≠t.b3
 d23:t.b2≠t.b3
 maps:∃f1 f2 f3,RaceM t T w f1 f2 f3
section
variable {t:RT}{T T' O:Nat->Prop}{w w':jz}{f1 f2 f3:Lit->Option j0}
theorem RL.set{S S':Nat->Prop}{w:jz}{A:Option Addr}{n:Nat}{rs:List (Nat×Nat)}(h:RL S w A n rs)(hS:∀k,S' k->S k\/w.heap.size<=k):RL S' w A n rs:=by
 refine⟨h.1,h.2.1,fun hn=>?_⟩
 obtain⟨b,off,hA,hlt,hs,hc⟩:=h.2.2 hn
 exact⟨b,off,hA,hlt,fun hb=>by rcases hS b hb with h|h;exact hs h;omega,hc⟩
theorem RaceM.frm(h:RaceM t T w f1 f2 f3)(hf:Frm O w w')(hO:∀k,O k->T k)(hn:∀k,O k->¬t.S k):RaceM t T w' f1 f2 f3:=by
 obtain⟨h1,h2,h3,h4,h5⟩:=h
 exact⟨h1.frm hf fun h=>hn _ h (.inl rfl),h2.frm hf fun h=>hn _ h (.inr (.inl rfl)),h3.frm hf fun h=>hn _ h (.inr (.inr rfl)),fun q hq u hu=>(h4 q hq u hu).frm hf hO,h5⟩
theorem RaceI.own(h:RaceI t T w)(hf:Frm O w w')(hO:∀k,O k->T k)(hn:∀k,O k->¬t.S k):RaceI t T w':=
 let ⟨f1,f2,f3,hm⟩:=h.maps
 ⟨fun j v hv=>hf.cell' (h.tb j v hv) fun ho=>h.nt (hO _ ho),h.nt,h.rl.frm (hf.mono hO),h.sub,h.d12,h.d13,h.d23,f1,f2,f3,hm.frm hf hO hn⟩
theorem RaceI.below(h:RaceI t T w)(hb:Below w.heap.size w w'):RaceI t T w':=h.own (Frm.of_below hb) (fun _ h=>h.elim) (fun _ h=>h.elim)
theorem RaceI.alloc(h:RaceI t T w)(o:Obj):RaceI t T (w.alloc o):=h.below ((qd _ _).alloc (qa _) o)
theorem RaceI.drew(h:RaceI t T w):RaceI t T w.drew:=h.below (drw (qd _ _))
theorem RaceI.ltB(h:RaceI t T w):t.bt<w.heap.size:=World.block_lt_of_cell? w _ (h.tb 0 _ rfl)
theorem RaceI.ltS(h:RaceI t T w):∀k,t.S k->k<w.heap.size:=by
 obtain⟨_,_,_,h1,h2,h3,_⟩:=h.maps
 rintro k (rfl|rfl|rfl)
 ·exact h1.lt
 ·exact h2.lt
 ·exact h3.lt
theorem RaceI.set(h:RaceI t T w)(hS:∀k,T' k->T k\/w.heap.size<=k)(hs:∀k,t.S k->T' k):RaceI t T' w:=by
 obtain⟨f1,f2,f3,h1,h2,h3,h4,h5⟩:=h.maps
 exact⟨h.tb,fun hb=>by rcases hS _ hb with h'|h';exact h.nt h';have:=h.ltB;omega,h.rl.set hS,hs,h.d12,h.d13,h.d23,f1,f2,f3,h1,h2,h3,fun q hq u hu=>(h4 q hq u hu).set hS,h5⟩
theorem RaceI.less(h:RaceI t T w)(hS:∀k,T' k->T k)(hs:∀k,t.S k->T' k):RaceI t T' w:=h.set (fun k hk=>.inl (hS k hk)) hs
end
def ownT(T:Nat->Prop)(w:jz)(m:Nat):Nat->Prop:=fun k=>T k\/(w.heap.size<=k/\k<w.heap.size+m)
def RetWn(t:RT)(T:Nat->Prop)(w:jz)(o:Option E)(e:Ending)(w':jz):Prop:=e=F (I #[exV o,J o.isSome])/\RaceI t T w'/\Frm t.S w w'
theorem RetWn.mkY{t:RT}{T:Nat->Prop}{w w':jz}{o:Option E}{m:Int}{d:Nat}(ho:o=some ⟨m,d⟩)(h1:RaceI t T w')(h2:Frm t.S w w'):RetWn t T w o (F (I #[C #[.int y m,.int y (d:Int)],J true])) w':=by subst ho;exact⟨rfl,h1,h2⟩
theorem RetWn.mkN{t:RT}{T:Nat->Prop}{w w':jz}{o:Option E}(ho:o=none)(h1:RaceI t T w')(h2:Frm t.S w w'):RetWn t T w o (F (I #[C #[.int y 0,.int y 0],J false])) w':=by subst ho;exact⟨rfl,h1,h2⟩
theorem keyI:Keyed qj 2:=int_keyed Tryz.underlying2
theorem i6{k:Nat}(h:k<=1000000):keyOf qj 2 (.int y (k:Int))=some (.int y (k:Int)):=keyOf_int_mk Tryz.underlying2 (WalkArith.wf_i64 (by omega))
theorem mem_keysU{N k:Nat}(h:k<N*N):Lit.int y (k:Int)∈keysU N:=by
 unfold keysU
 exact List.mem_map.2 ⟨k,List.mem_range.2 h,rfl⟩
theorem fa{N:Nat}(h:N<=500):(keysU N).length<maxLen:=by
 unfold keysU maxLen;have:N*N<=500*500:=Nat.mul_le_mul h h
 simp;omega
theorem k2_inj{t:RT}{q r q' r':List Int}(hq:PosP t.h t.c q)(hr:PosP t.h t.c r)(hq':PosP t.h t.c q')(hr':PosP t.h t.c r')(h:t.k2 q r=t.k2 q' r'):q=q'/\r=r':=by
 unfold RT.k2 at h;injection h with _ h
 have h':num t.c q*t.N+num t.c r=num t.c q'*t.N+num t.c r':=by omega
 obtain⟨h1,h2⟩:=pair_inj (dG hr) (dG hr') h'
 exact⟨jP hq hq' h1,jP hr hr' h2⟩
theorem k1_inj{t:RT}{q q':List Int}(hq:PosP t.h t.c q)(hq':PosP t.h t.c q')(h:t.k1 q=t.k1 q'):q=q':=by
 unfold RT.k1 at h;injection h with _ h
 exact jP hq hq' (by omega)
open Go.RowKit Ps Ra Ex Go.Maps
theorem mapV_empty(P:Program)(k:TypeId){w:jz}{b:Nat}(U:List Lit)(hb:w.heap[b]? =some (Obj.map #[] 0)):MapV P k w b U (fun _=>none):=by
 refine⟨.map [],⟨#[],0,hb,⟨by simp,Go.MapKept.stamped_empty 0,by simp⟩,Nat.zero_le _,rfl⟩,fun l hl=>⟨rfl,fun z=>rfl⟩,fun l h=>by simp[has]at h⟩
def RetNew(w:jz)(p:Int)(c h s:Nat)(e:Ending)(w':jz):Prop:=
 ∃t:RT,t.p=p/\t.c=c/\t.h=h/\t.s=s/\e=F (.pointer (some ⟨t.bt,0,none⟩))/\t.Ok/\RaceI t t.S w'/\(∀k,t.S k->w.heap.size<=k)/\w.heap.size<=t.bt/\Below w.heap.size w w'
def newG(w:jz)(p:Int)(c h s N:Nat)(i:Nat)(v:j0)(W:jz):Prop:=
 match i with
 | 2=>v= .int y (N:Int)
 | 4=>OwnR W w.heap.size v (ah s)
 | 5=>∃b,v= .map (some b)/\w.heap.size<=b/\W.heap[b]? =some (.map #[] 0)
 | 6=>∃b,v= .map (some b)/\w.heap.size<=b/\W.heap[b]? =some (.map #[] 0)
 | 7=>∃b,v= .map (some b)/\w.heap.size<=b/\W.heap[b]? =some (.map #[] 0)
 |_=>v=C #[.int y p,.int y c,.int y h,.int y s]
def mapB:j0->Option Nat
 | .map (some b)=>some b
 |_=>none
def newO(i:Nat)(v:j0):Option Nat:=if 5<=i then mapB v else none
theorem newG_stab{w:jz}{p:Int}{c h s N:Nat}(i:Nat)(v:j0)(W W':jz)(hg:newG w p c h s N i v W)(hb:Below W.heap.size W W'):newG w p c h s N i v W':=by
 have key:∀b:Nat,W.heap[b]? =some (Obj.map #[] 0)->W'.heap[b]? =some (Obj.map #[] 0):=fun b h=>(hb.block b (Array.getElem?_eq_some_iff.1 h).1).trans h
 unfold newG at *
 split at hg<;>first|exact hg|exact own_below hg hb|(obtain⟨b,h1,h2,h3⟩:=hg;exact⟨b,h1,h2,key b h3⟩)
theorem newG_lt{w:jz}{p:Int}{c h s N:Nat}(i:Nat)(v:j0)(W:jz)(b:Nat)(hg:newG w p c h s N i v W)(ho:newO i v=some b):b<W.heap.size:=by
 unfold newO at ho
 split at ho
 ·rename_i h5
  unfold newG at hg
  split at hg<;>first|omega|(obtain⟨b',rfl,_,h3⟩:=hg;simp[mapB]at ho;subst ho;exact(Array.getElem?_eq_some_iff.1 h3).1)|(subst hg;simp[mapB]at ho)
 ·cases ho
theorem newRace_any(p:Int)(c h s:Nat)(w:jz)(hv:isVar p c h s=true)(hN:wys h c<=500):
  j1 qj 71 #[C #[.int y p,.int y c,.int y h,.int y s]] w (RetNew w p c h s):=by
 have HV:=h_ hv;have HN:=h_ hN
 have HC:Hid (wysC h c=wys h c):=eK (by omega)
 have HF0:=h_ ((Fr.start w).allocT (by simp) #[.int y p,.int y c,.int y h,.int y s] 33)
 have CN:=h_ fun(W:jz)=>eJ p s c h W hv
 have CR:=h_ fun(W:jz)=>ja p c h s W hv
 clear hv hN
 go_enter Tryz.func71,Tryz.ntmps71
 go_wp2_with (fail)
 refine aR 8 (fun i=>i+3) (newG w p c h s (wys h c)) newO (by kernel_rfl) (by kernel_rfl) newG_stab newG_lt ?_ ?_
 ·intro i o hi ho a' W hb hfar hdep
  have e1:a'.tmps.getD 1 undef= .pointer (some ⟨w.heap.size,0,none⟩):=(hfar 1 (fun j _=>by omega)).trans rfl
  have HFW:=HF0.out.below hb;have hWz:w.heap.size<=W.heap.size:=HFW.b.size;have HFh:=h_ HFW;have c00:=HFh.out.c0 0 rfl;have c01:=HFh.out.c0 1 rfl;have c02:=HFh.out.c0 2 rfl;have c03:=HFh.out.c0 3 rfl;have dep:∀j,j<8->Region.waitsFor .any _ i j=true->newG w p c h s (wys h c) j (a'.tmps.getD (j+3) undef) W:=hdep
  have good:∀(v:j0) (W':jz),Below W.heap.size W W'->newG w p c h s (wys h c) i v W'->(∀b,newO i v=some b->W.heap.size<=b)->MGood (newG w p c h s (wys h c)) newO i W v W':=fun v W' h1 h2 h3=>⟨h1,h2,h3⟩
  have load:∀(d:Option Tmp) (ty:TypeId) (pos:String) (af:Array Edge),(execOp a'.eval { dst:=d,op:=Op.load 33 (Operand.tmp 1),type:=ty,pos:=pos,after:=af,guard:=none }).run qj W= .ok (.value (C #[.int y p,.int y c,.int y h,.int y s])) W:=fun d ty pos af=>by
   simp only[execOp,Act.eval,e1]
   go_simp
  have hi8:=i_7 hi
  rcases hi8 with rfl|rfl|rfl|rfl|rfl|rfl|rfl|rfl
  all_goals
   simp at ho
   subst ho
  ·exact .inl ⟨_,W,load _ _ _ _,good _ _ (qd _ _) rfl (fun b hb=>by simp[newO]at hb)⟩
  ·exact .inl ⟨_,W,load _ _ _ _,good _ _ (qd _ _) rfl (fun b hb=>by simp[newO]at hb)⟩
  ·have e4:a'.tmps.getD 4 undef=C #[.int y p,.int y c,.int y h,.int y s]:=dp hdep 1
   refine .inr ⟨133,#[C #[.int y p,.int y c,.int y h,.int y s]],?_,?_⟩
   ·simp only[execOp,Act.eval]
    go_simp
   ·refine(CN.out W).mono ?_
    rintro e W' ⟨rfl,hb'⟩
    exact⟨_,rfl,good _ _ hb' (by rw[HC.out];rfl) (fun b hb=>by simp[newO]at hb)⟩
  ·exact .inl ⟨_,W,load _ _ _ _,good _ _ (qd _ _) rfl (fun b hb=>by simp[newO]at hb)⟩
  ·have e6:a'.tmps.getD 6 undef=C #[.int y p,.int y c,.int y h,.int y s]:=dp hdep 3
   refine .inr ⟨139,#[C #[.int y p,.int y c,.int y h,.int y s]],?_,?_⟩
   ·simp only[execOp,Act.eval]
    go_simp
   ·refine(CR.out W).mono ?_
    rintro e W' ⟨v,rfl,ho,hb'⟩
    exact⟨_,rfl,good _ _ hb' (aB ho hWz) (fun b hb=>by simp[newO]at hb)⟩
  all_goals
   refine .inl ⟨.map (some W.heap.size),W.alloc (.map #[] 0),rfl,good _ _ ((qd _ _).alloc (qa _) _) ⟨W.heap.size,rfl,hWz,heap_alloc_new W _⟩ (fun b hb=>?_)⟩
   simp[newO,mapB]at hb
   omega
 ·intro v W hb hg ho
  have HBW:Below w.heap.size w W:=((qd _ _).alloc (qa _) _).trans (hb.mono (by simp))
  have g0:v 0=_:=gq hg 0
  have g1:v 1=_:=gq hg 1
  have g2:v 2=_:=gq hg 2
  have g3:v 3=_:=gq hg 3
  have g4:OwnR W w.heap.size (v 4) (ah s):=hg 4 (by omega)
  obtain⟨b1,g5,l1,m1⟩:∃b,v 5= .map (some b)/\w.heap.size<=b/\W.heap[b]? =some (.map #[] 0):=hg 5 (by omega)
  obtain⟨b2,g6,l2,m2⟩:∃b,v 6= .map (some b)/\w.heap.size<=b/\W.heap[b]? =some (.map #[] 0):=hg 6 (by omega)
  obtain⟨b3,g7,l3,m3⟩:∃b,v 7= .map (some b)/\w.heap.size<=b/\W.heap[b]? =some (.map #[] 0):=hg 7 (by omega)
  have d12:b1≠b2:=fun e=>ho 5 6 (by omega) (by omega) (by omega) b1 (by rw[g5];rfl) (by rw[g6,e];rfl)
  have d13:b1≠b3:=fun e=>ho 5 7 (by omega) (by omega) (by omega) b1 (by rw[g5];rfl) (by rw[g7,e];rfl)
  have d23:b2≠b3:=fun e=>ho 6 7 (by omega) (by omega) (by omega) b2 (by rw[g6];rfl) (by rw[g7,e];rfl)
  have hrb:∀k,(v 4).ownBlock=some k->¬(k=b1\/k=b2\/k=b3):=fun k hk hor=>by
   obtain⟨_,h4⟩:=g4
   rcases h4 with⟨h4,_⟩|⟨g,cap,cur,h4,_,h5,_⟩
   ·rw[h4]at hk;cases hk
   ·rw[h4]at hk
    simp[Value.ownBlock]at hk
    subst hk
    rcases hor with rfl|rfl|rfl
    ·rw[m1]at h5;cases h5
    ·rw[m2]at h5;cases h5
    ·rw[m3]at h5;cases h5
  obtain⟨A,cr,hv4,hsl,hcr⟩:=aY (S:=fun k=>k=b1\/k=b2\/k=b3) g4 hrb (by omega)
  have HR:Hid (∀W',W'=W.alloc (D #[.int y p,.int y c,.int y h,.int y s,.int y (wys h c:Int),K A (ah s).length cr,.map (some b1),.map (some b2),.map (some b3)] 169)->RetNew w p c h s (F (.pointer (some ⟨W.heap.size,0,none⟩))) W'):=fun W' hW'=>by
   subst hW';have hz:w.heap.size<=W.heap.size:=HBW.size
   refine⟨⟨p,c,h,s,W.heap.size,b1,b2,b3,A,(ah s).length,cr⟩,rfl,rfl,rfl,rfl,rfl,⟨HV.out,HN.out,rfl,hcr⟩,?_,?_,hz,HBW.alloc hz _⟩
   ·have mk:∀b,W.heap[b]? =some (Obj.map #[] 0)->MapV qj 2 (W.alloc (D #[.int y p,.int y c,.int y h,.int y s,.int y (wys h c:Int),K A (ah s).length cr,.map (some b1),.map (some b2),.map (some b3)] 169)) b (keysU (wys h c)) (fun _=>none):=fun b hb=>(mapV_empty qj 2 (keysU (wys h c)) hb).alloc _
    have lt:∀b:Nat,W.heap[b]? =some (Obj.map #[] 0)->b<W.heap.size:=fun b h=>(Array.getElem?_eq_some_iff.1 h).1
    refine⟨fun j v hj=>?_,?_,⟨rfl,hsl.alloc _⟩,fun k hk=>hk,d12,d13,d23,_,_,_,mk b1 m1,mk b2 m2,mk b3 m3,(fun q _ u hu=>by cases hu),(fun q r _ _ u hu=>by cases hu)⟩
    ·have:(#[.int y p,.int y c,.int y h,.int y s,.int y (wys h c:Int),K A (ah s).length cr,.map (some b1),.map (some b2),.map (some b3)]:Array j0)[j]? =some v:=by rw[<-hj];simp[RT.cells,RT.N]
     simp[go_sem,this]
    ·rintro(h|h|h)
     ·have:=lt b1 m1;simp at h;omega
     ·have:=lt b2 m2;simp at h;omega
     ·have:=lt b3 m3;simp at h;omega
   ·rintro k (rfl|rfl|rfl)<;>assumption
  clear hrb hsl g4 m1 m2 m3 hg ho hcr
  simp only[qf,qg,putV,g0,g1,g2,g3,hv4,g5,g6,g7,Act.put]
  clear g0 g1 g2 g3 hv4 g5 g6 g7
  go_wp2_with (fail)
  go_ret
  exact HR.out _ rfl
end Go.Proofs.YtcmeoenkgmghkaaGreat

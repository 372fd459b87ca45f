/- Part of one proof. There are no conditions. -/
import Derived.Test.YtkaiilmgemaljaaGreatTD3
import Derived.Test.YtkaiilmgemaljaaGreatTZt
set_option maxHeartbeats 0
set_option linter.unusedVariables false
set_option linter.unusedSimpArgs false
set_option maxRecDepth 100000
namespace Go.Proofs.YtkaiilmgemaljaaGreat
open Go.RowKit
def dlF (bs:List Int) (q0:Int×Nat) (c:Int):Nat->List Int×Int×(Int×Nat)
 | 0=>([],c,q0)
 | k + 1 => ((dlF bs q0 c k).1 ++ [if nx bs (ns bs (dlF bs q0 c k).2.2 ((dlF bs q0 c k).2.1 + 1)) 3 = 0 then 0 else nx bs (dlF bs q0 c k).2.2 ((dlF bs q0 c k).2.1 + 1)],
     (dlF bs q0 c k).2.1 - (if nx bs (ns bs (dlF bs q0 c k).2.2 ((dlF bs q0 c k).2.1 + 1)) 3 = 0 then 0 else nx bs (dlF bs q0 c k).2.2 ((dlF bs q0 c k).2.1 + 1)),
     ns bs (ns bs (dlF bs q0 c k).2.2 ((dlF bs q0 c k).2.1 + 1)) 3)
theorem dlF_bd (bs:List Int) (q0:Int×Nat) {c:Int} (hc:0<=c):∀k,0<=(dlF bs q0 c k).2.1/\(dlF bs q0 c k).2.1<=c/\(dlF bs q0 c k).1.length=k
 | 0=>⟨hc,Int.le_refl _,rfl⟩
 | k + 1 => by
   obtain ⟨h1, h2, h3⟩ := dlF_bd bs q0 hc k; have hx := nx_bd bs (dlF bs q0 c k).2.2 ((dlF bs q0 c k).2.1 + 1)
   refine ⟨?_, ?_, by show List.length (_ ++ [_]) = _; rw [List.length_append, h3]; rfl⟩
   · show 0 ≤ (dlF bs q0 c k).2.1 - _
     split <;> omega
   · show (dlF bs q0 c k).2.1 - _ ≤ c
     split <;> omega
def drF (bs:List Int) (q0:Int×Nat) (c:Int) (h:Nat):List Int×(Int×Nat):=
 if nx bs (dlF bs q0 c h).2.2 30=0 then ((dlF bs q0 c h).1++[0],ns bs (dlF bs q0 c h).2.2 30)
 else if nx bs (dlF bs q0 c h).2.2 30=1 then ((dlF bs q0 c h).1.set 0 (-1),ns bs (dlF bs q0 c h).2.2 30)
 else if nx bs (dlF bs q0 c h).2.2 30=2 then ((dlF bs q0 c h).1.set (h-1) (c+1),ns bs (dlF bs q0 c h).2.2 30)
 else ((dlF bs q0 c h).1,ns bs (dlF bs q0 c h).2.2 30)
theorem drF_len (bs:List Int) (q0:Int×Nat) {c:Int} (hc:0<=c) (h:Nat):h<=(drF bs q0 c h).1.length/\(drF bs q0 c h).1.length<=h+1:=by
 have h3:=(dlF_bd bs q0 hc h).2.2;unfold drF
 split
 ·show _<=(List.length (_++[_]))/\_;rw[List.length_append,h3];simp
 ·split
  ·show _<=(List.length (List.set _ _ _))/\_;rw[List.length_set,h3];omega
  ·split
   ·show _<=(List.length (List.set _ _ _))/\_;rw[List.length_set,h3];omega
   ·show _<=(List.length _)/\_;rw[h3];omega
def RetDr (g:Nat) (C:Option Addr) (n c:Nat) (bs:List Int) (W:World) (r:List Int×(Int×Nat)) (e:Ending) (W':World):Prop:=
 ∃v,e = .returned v/\OwnS W' W.heap.size 2 v r.1/\SrcG W' g C n c bs r.2/\Frm (fun j=>j=g) W W'
theorem OwnS.base {w:World} {b b':Nat} {e:TypeId} {v:Value} {xs:List Int} (h:OwnS w b e v xs) (hb:b'<=b):OwnS w b' e v xs:=cY h hb
theorem jy {w:World} {base:Nat} {e:TypeId} {v:Value} {xs:List Int} {x:Int} (h:w.ownsRow base e 1 v (xs.length+1) (xs.map (Value.int .i64)++[.int .i64 x])):OwnS w base e v (xs++[x]):=by
 unfold OwnS;rw[List.length_append,List.map_append]
 exact h
theorem ii (g:Nat) (C:Option Addr) (n cc:Nat) (bs:List Int) (q:Int×Nat) (p c s:Int) (h:Nat) (hc:0<=c) (hc2:c<=20) (hh:1<=h) (hh2:h<=24) (W:World) (hs:SrcG W g C n cc bs q):
  Calls Tryz.prog 161 #[.pointer (some ⟨g,0,none⟩),.agg #[.int .i64 p,.int .i64 c,.int .i64 (h:Int),.int .i64 s]] W (RetDr g C n cc bs W (drF bs q c h)):=by
 obtain⟨i0,hi,hz0,hz1,hz2⟩:=info_parts Tryz.infoI;have hg:=hs.lt;have HG:=h_ hg
 have HF0:Hid (FrS (fun j=>j=g) W ((W.alloc (.cells #[.int .i64 p,.int .i64 c,.int .i64 (h:Int),.int .i64 s] 25)).alloc (.cells #[] 2)) [[.int .i64 p,.int .i64 c,.int .i64 (h:Int),.int .i64 s]]):=((FrS.start W (fun k hk=>by rw[hk];exact hg)).allocT (by simp) _ _).alloc _
 have HS0:=h_ ((hs.alloc (.cells #[.int .i64 p,.int .i64 c,.int .i64 (h:Int),.int .i64 s] 25)).alloc (.cells #[] 2))
 have HO0:Hid (OwnS ((W.alloc (.cells #[.int .i64 p,.int .i64 c,.int .i64 (h:Int),.int .i64 s] 25)).alloc (.cells #[] 2)) (W.heap.size+1) 2 (.slice (some ⟨W.heap.size+1,0,none⟩) 0 0) []):=by
  have:=World.ownsRow_made (W.alloc (.cells #[.int .i64 p,.int .i64 c,.int .i64 (h:Int),.int .i64 s] 25)) (base:=W.heap.size+1) (e:=2) (size:=1) #[] 0 (by simp) (by decide) rfl
  unfold Hid OwnS
  simpa using this
 have HBD:=h_ (dlF_bd bs q hc)
 have hmin:min (24:Int) (h:Int)=(h:Int):=by omega
 clear hs
 go_enter Tryz.func161,Tryz.ntmps161
 go_wp2_with (fail)
 go_loopw [5,6,7] (fun v5 v6 v7 wr=>∃k:Nat,k<=h/\v7 = .int .i64 k/\v6 = .int .i64 (dlF bs q c k).2.1/\(∃vx,vx=v5/\Hid (OwnS wr (W.heap.size+1) 2 vx (dlF bs q c k).1))/\Hid (SrcG wr g C n cc bs (dlF bs q c k).2.2)/\Hid (FrS (fun j=>j=g) W wr [[.int .i64 p,.int .i64 c,.int .i64 (h:Int),.int .i64 s]])) (fun _ _ v7 _=>h-(intOf v7).toNat)
 case atStart=>exact⟨0,by omega,rfl,rfl,⟨_,rfl,HO0.out⟩,HS0.out,HF0.out⟩
 case round=>
  clear HO0 HS0 HF0;obtain⟨k,hk,rfl,rfl,⟨vx,rfl,HO⟩,HS,HF⟩:=hrel;obtain⟨hl0,hlc,hll⟩:=HBD.out k
  by_cases hlt:k<h
  focus
   have hki:(k:Int)<(h:Int):=by omega
   have HDL:Hid (dlF bs q c (k+1)=((dlF bs q c k).1++[if nx bs (ns bs (dlF bs q c k).2.2 ((dlF bs q c k).2.1+1)) 3=0 then 0 else nx bs (dlF bs q c k).2.2 ((dlF bs q c k).2.1+1)],
    (dlF bs q c k).2.1-(if nx bs (ns bs (dlF bs q c k).2.2 ((dlF bs q c k).2.1+1)) 3=0 then 0 else nx bs (dlF bs q c k).2.2 ((dlF bs q c k).2.1+1)),
    ns bs (ns bs (dlF bs q c k).2.2 ((dlF bs q c k).2.1+1)) 3)):=rfl
   generalize (dlF bs q c k).1=ps at *;generalize (dlF bs q c k).2.1=left at *;generalize (dlF bs q c k).2.2=qk at *
   have hmax:max (1:Int) (left+1)=left+1:=by omega
   have hn1:=nx_bd bs qk (left+1);have hn2:=nx_bd bs (ns bs qk (left+1)) 3;obtain⟨z0,c00,f00,c01,f01,c02,f02,c03,f03⟩:=HF.out.xf3
   go_wp2_with (fail)
   clear z0 c00 f00 c01 f01 c02 f02 c03 f03
   refine (bB HS.out (k:=left+1) (by omega)).mono ?_
   refine ?zc
  rotate_left
  focus
   have hke:k=h:=by omega
   subst hke
   have hki:¬(k:Int)<(k:Int):=by omega
   have HD:Hid (drF bs q c k=if nx bs (dlF bs q c k).2.2 30=0 then ((dlF bs q c k).1++[0],ns bs (dlF bs q c k).2.2 30)
    else if nx bs (dlF bs q c k).2.2 30=1 then ((dlF bs q c k).1.set 0 (-1),ns bs (dlF bs q c k).2.2 30)
    else if nx bs (dlF bs q c k).2.2 30=2 then ((dlF bs q c k).1.set (k-1) (c+1),ns bs (dlF bs q c k).2.2 30)
    else ((dlF bs q c k).1,ns bs (dlF bs q c k).2.2 30)):=rfl
   generalize (dlF bs q c k).1=ps at *;generalize (dlF bs q c k).2.1=left at *;generalize (dlF bs q c k).2.2=qk at *;generalize drF bs q c k=R at *;obtain⟨z0,c00,f00,c01,f01,c02,f02,c03,f03⟩:=HF.out.xf3
   go_wp2_with (fail)
   clear z0 c00 f00 c01 f01 c02 f02 c03 f03
   refine (bB HS.out (k:=30) (by omega)).mono ?_
   refine ?zd
  rotate_left
  case' zc|zd=>
   rintro e w1 ⟨rfl,hs1,hf1⟩
   have HS1:=h_ hs1;have HF1:=h_ (HF.out.frm hf1)
   have HO1:Hid (OwnS w1 (W.heap.size+1) 2 vx ps):=hf1.own HO.out fun j hj hjg=>by have:=(HO.out.lt j hj).1;have:=HG.out;omega
  case' zc=>
   clear hs1 hf1 HS HF HO;generalize nx bs qk (left+1)=x at *;generalize ns bs qk (left+1)=q1 at *
   go_wp2_with (fail)
   refine (bB HS1.out (k:=3) (by omega)).mono ?_
   rintro e w2 ⟨rfl,hs1,hf1⟩
   have HS2:=h_ hs1;have HF2:=h_ (HF1.out.frm hf1)
   have HO2:Hid (OwnS w2 (W.heap.size+1) 2 vx ps):=hf1.own HO1.out fun j hj hjg=>by have:=(HO1.out.lt j hj).1;have:=HG.out;omega
   clear hs1 hf1 HS1 HF1 HO1;generalize nx bs q1 3=z at *;generalize ns bs q1 3=q2 at *
   obtain⟨nn,hnn⟩:∃nn:Int,nn=if z=0 then 0 else x:=⟨_,rfl⟩
   have hnb:0<=nn/\nn<=left:=by rw[hnn];split<;>omega
   obtain⟨hnb0,hnb1⟩:=hnb;rw[<- hnn]at HDL
   have hzW:W.heap.size+1<=w2.heap.size:=by have:=HF2.out.z;simpa using this
   have HROW:Hid ((w2.alloc (.cells #[.int .i64 nn] 2)).ownsRow (W.heap.size+1) 2 1 vx ps.length (ps.map (Value.int .i64))):=row_alloc HO2.out _
   have HVL:=h_ fun (j:Nat) (hj:vx.ownBlock=some j)=>HO2.out.lt j hj
   have HTN:Hid (∀j u,[Value.int .i64 nn][j]? = some u->(w2.alloc (.cells #[.int .i64 nn] 2)).cell? ((⟨w2.heap.size,0,none⟩:Addr).add j)=some u):=one_new w2 (.int .i64 nn) 2;have HSA:=h_ (HS2.out.alloc (.cells #[.int .i64 nn] 2));have HFA:=h_ (HF2.out.alloc (.cells #[.int .i64 nn] 2));clear HS2 HF2 HO2
   have hps:ps.length<=24:=by omega
   by_cases hz:z=0
   focus
    have hz':(z == 0)=true:=by simp[hz]
    obtain rfl:nn=0:=by rw[hnn,if_pos hz]
    clear hz hnn
    go_wp2_with (at_builtin;(refine wpList_append_own_at _ rfl _ _ 26 rfl (W.heap.size+1) 2 i0 (.int .i64 0) 1 8 Tryz.underlying26 hi hz0 hz1 hz2 rfl (by decide) _ _ _ rfl HROW.out ⟨w2.heap.size,0,none⟩ 1 1 [.int .i64 0] rfl rfl HTN.out (ints_oneCell _ [0]) (by unfold maxLen;omega) (by omega) (by simp;omega) ?_);intro v' w4 hown hgrow _ hat)
    refine ?za
   rotate_left
   focus
    have hz':(z == 0)=false:=by simp[hz]
    obtain rfl:nn=x:=by rw[hnn,if_neg hz]
    clear hz hnn
    go_wp2_with (at_builtin;(refine wpList_append_own_at _ rfl _ _ 26 rfl (W.heap.size+1) 2 i0 (.int .i64 0) 1 8 Tryz.underlying26 hi hz0 hz1 hz2 rfl (by decide) _ _ _ rfl HROW.out ⟨w2.heap.size,0,none⟩ 1 1 [.int .i64 nn] rfl rfl HTN.out (ints_oneCell _ [nn]) (by unfold maxLen;omega) (by omega) (by simp;omega) ?_);intro v' w4 hown hgrow _ hat)
    refine ?zb
  case' za|zb=>
   have HS4:Hid (SrcG w4 g C n cc bs q2):=HSA.out.frm (Frm.of_grown hgrow) fun j hj=>by have:=(HVL.out j hj.symm).1;have:=HG.out;omega
   have HF4:Hid (FrS (fun j=>j=g) W w4 [[.int .i64 p,.int .i64 c,.int .i64 (h:Int),.int .i64 s]]):=HFA.out.out (Frm.of_grown hgrow) fun j hj=>by have:=(HVL.out j hj.symm).1;simpa using this
  case' za=>
   have HO4:Hid (OwnS w4 (W.heap.size+1) 2 v' (ps++[0])):=jy hown;clear hown hgrow hat HROW HSA HFA
  case' zb=>
   have HO4:Hid (OwnS w4 (W.heap.size+1) 2 v' (ps++[nn])):=jy hown;clear hown hgrow hat HROW HSA HFA
  case za|zb=>
   go_wp2_with (fail)
   go_roundw
   case rel=>exact⟨k+1,by omega,by go_num,by rw[HDL.out]<;>simp,⟨_,rfl,by rw[HDL.out];exact HO4.out⟩,by rw[HDL.out];exact HS4.out,HF4.out⟩
   case measure=>(simp[intOf])<;>omega
  case' zd=>
   clear hs1 hf1 HS HF HO;generalize nx bs qk 30=z at *;generalize ns bs qk 30=q1 at *
   have hzW:W.heap.size+1<=w1.heap.size:=by have:=HF1.out.z;simpa using this
   have hps:ps.length<=24:=by omega
   have hVL:=fun (j:Nat) (hj:vx.ownBlock=some j)=>HO1.out.lt j hj
   by_cases hz0:z=0
   ·have HR:Hid (R=(ps++[0],q1)):=by unfold Hid;rw[HD.out,if_pos hz0]
    have b0:(z == 0)=true:=by simp[hz0]
    have HROW:Hid ((w1.alloc (.cells #[.int .i64 0] 2)).ownsRow (W.heap.size+1) 2 1 vx ps.length (ps.map (Value.int .i64))):=row_alloc HO1.out _;have HVL:=h_ hVL;have HTN:Hid (∀j u,[Value.int .i64 0][j]? = some u->(w1.alloc (.cells #[.int .i64 0] 2)).cell? ((⟨w1.heap.size,0,none⟩:Addr).add j)=some u):=one_new w1 (.int .i64 0) 2;have HSA:=h_ (HS1.out.alloc (.cells #[.int .i64 0] 2));have HFA:=h_ (HF1.out.alloc (.cells #[.int .i64 0] 2));clear HS1 HF1 HO1 hz0 HD hVL
    go_wp2_with (at_builtin;(refine wpList_append_own_at _ rfl _ _ 26 rfl (W.heap.size+1) 2 i0 (.int .i64 0) 1 8 Tryz.underlying26 hi hz0 hz1 hz2 rfl (by decide) _ _ _ rfl HROW.out ⟨w1.heap.size,0,none⟩ 1 1 [.int .i64 0] rfl rfl HTN.out (ints_oneCell _ [0]) (by unfold maxLen;omega) (by omega) (by simp;omega) ?_);intro v' w4 hown hgrow _ hat)
    have HS4:Hid (SrcG w4 g C n cc bs q1):=HSA.out.frm (Frm.of_grown hgrow) fun j hj=>by have:=(HVL.out j hj.symm).1;have:=HG.out;omega
    have HF4:Hid (FrS (fun j=>j=g) W w4 [[.int .i64 p,.int .i64 c,.int .i64 (k:Int),.int .i64 s]]):=HFA.out.out (Frm.of_grown hgrow) fun j hj=>by have:=(HVL.out j hj.symm).1;simpa using this
    have HO4:Hid (OwnS w4 W.heap.size 2 v' (ps++[0])):=(jy hown).base (by omega)
    clear hown hgrow hat HROW HSA HFA
    go_wp2_with (fail)
    go_ret
    exact⟨v',rfl,by rw[HR.out];exact HO4.out,by rw[HR.out];exact HS4.out,HF4.out.f⟩
   have b0:(z == 0)=false:=by simp[hz0]
   obtain⟨Ax,cx,hvx,hsl,hcx⟩:=HO1.out.read;subst hvx
   obtain⟨gx,rfl,hg1,hg2,hcl,hfr⟩:=cX HO1.out (by omega)
   have hpl:0<ps.length:=by omega
   have hpli:(0:Int)<(ps.length:Int):=by omega
   by_cases hz1:z=1
   focus
    have HR:Hid (R=(ps.set 0 (-1),q1)):=by unfold Hid;rw[HD.out,if_neg hz0,if_pos hz1]
    have b1:(z == 1)=true:=by simp[hz1]
    have y0:=hcl 0 (by omega)
    have yf:=hfr 0
    have HO4:=h_ ((HO1.out.stored 0 (-1)).base (b':=W.heap.size) (by omega))
    have HS4:=h_ (HS1.out.set (b:=gx) (i:=0) (by have:=HG.out;omega) (.int .i64 (-1)))
    have HF4:=h_ (HF1.out.f.ownSet (b:=gx) (i:=0) (by omega) (.int .i64 (-1)))
    generalize ps.getD 0 0=y at *;clear hcl hfr hsl hVL HS1 HF1 HO1 HD
    refine ?zf
   rotate_left
   have b1:(z == 1)=false:=by simp[hz1]
   by_cases hz2:z=2
   focus
    have HR:Hid (R=(ps.set (k-1) (c+1),q1)):=by unfold Hid;rw[HD.out,if_neg hz0,if_neg hz1,if_pos hz2]
    have b2:(z == 2)=true:=by simp[hz2]
    have y0:=hcl (k-1) (by omega)
    have yf:=hfr (k-1)
    have HO4:=h_ ((HO1.out.stored (k-1) (c+1)).base (b':=W.heap.size) (by omega))
    have HS4:=h_ (HS1.out.set (b:=gx) (i:=k-1) (by have:=HG.out;omega) (.int .i64 (c+1)))
    have HF4:=h_ (HF1.out.f.ownSet (b:=gx) (i:=k-1) (by omega) (.int .i64 (c+1)))
    have e1:((ps.length:Int)-1).toNat=k-1:=by omega
    have e2:0<=(ps.length:Int)-1:=by omega
    have e3:(ps.length:Int)-1<(ps.length:Int):=by omega
    generalize ps.getD (k-1) 0=y at *;obtain⟨z0,c00,f00,c01,f01,c02,f02,c03,f03⟩:=HF1.out.xf3;clear hcl hfr hsl hVL HS1 HF1 HO1 HD
    refine ?ze
   rotate_left
   ·have HR:Hid (R=(ps,q1)):=by unfold Hid;rw[HD.out,if_neg hz0,if_neg hz1,if_neg hz2]
    have b2:(z == 2)=false:=by simp[hz2]
    have HO4:=h_ (HO1.out.base (b':=W.heap.size) (by omega))
    have HF4:=h_ HF1.out.f;clear hcl hfr hsl hVL HF1 HO1 HD
    go_wp2_with (fail)
    go_ret
    exact⟨_,rfl,by rw[HR.out];first|exact HO4.out|(have hq:=HO4.out;rw[hll]at hq;exact hq),by rw[HR.out];exact HS1.out,HF4.out⟩
  case ze|zf=>
   go_wp2_with (fail)
   go_ret
   exact⟨_,rfl,by rw[HR.out];first|exact HO4.out|(have hq:=HO4.out;rw[hll]at hq;exact hq),by rw[HR.out];exact HS4.out,HF4.out⟩
end Go.Proofs.YtkaiilmgemaljaaGreat

/- Joined texts of one proof: N15, N16, N17. Each part tells what it shows. There are no conditions. -/
import Derived.Test.YtkaiilmgemaljaaGreatPN14
import Derived.Test.YtkaiilmgemaljaaGreatPZb
import Derived.Test.YtkaiilmgemaljaaGreatPZc
set_option linter.unusedVariables false
set_option linter.unusedSimpArgs false
/- Contracts of one minus a number, the program's and the reference's. There are no conditions. -/
namespace Go.Proofs.YtkaiilmgemaljaaGreat
open Go.RowKit Ps Ra Ex
theorem l11One_any (w:World):Calls Tryz.prog 212 #[] w fun e w'=>e = .returned (.agg #[.int .i64 1,.int .i64 0])∧Below w.heap.size w w':=by
 go_enter Tryz.func212,Tryz.ntmps212
 go_wp2
 refine bodyPost_ret (v:=.agg #[.int .i64 1,.int .i64 0]) (by simp[results,Tryz.results212,go_sem]) rfl ⟨rfl,?_⟩
 exact (Below.refl _ _).alloc (Nat.le_refl _) _
set_option maxRecDepth 10000 in
theorem oneMinus_any (p c h xn:Int) (s xd:Nat) (w:World) (hs1:1≤s) (hs6:s≤6) (hx:Val (sq s) ⟨xn,xd⟩):
  Calls Tryz.prog 181 #[.agg #[.int .i64 p,.int .i64 c,.int .i64 h,.int .i64 s],.agg #[.int .i64 xn,.int .i64 xd]] w (RetE w (oneM (sq s) ⟨xn,xd⟩)):=by
 obtain⟨hq1,hq36,_⟩:=sq_bd hs1 hs6;have hx1 : -1000000000000000000≤xn:=hx.1;have hx2:xn≤1000000000000000000:=hx.2.1;have hd50:xd<50:=depth_lt hq1 hx
 have HF:Hid (Fr w (((w.alloc (.cells #[.int .i64 p,.int .i64 c,.int .i64 h,.int .i64 s] 25)).alloc (.cells #[.int .i64 xn,.int .i64 xd] 35)).alloc (.cells #[.int .i64 0,.int .i64 0] 35)) [[.int .i64 p,.int .i64 c,.int .i64 h,.int .i64 s],[.int .i64 xn,.int .i64 xd],[.int .i64 0,.int .i64 0]]):=
  (((Fr.start w).allocT (by simp) _ _).allocT (by simp) _ _).allocT (by simp) _ _
 rcases hm:oneM (sq s) ⟨xn,xd⟩with _|⟨m,d⟩
 ·have AD:Hid (∀W:World,Calls Tryz.prog 130 #[.agg #[.int .i64 p,.int .i64 c,.int .i64 h,.int .i64 s],.agg #[.int .i64 1,.int .i64 0],.agg #[.int .i64 (-xn),.int .i64 xd]] W fun e w'=>e = .returned (.tuple #[.agg #[.int .i64 0,.int .i64 0],.bool false])∧Below W.heap.size W w'):=fun W=>by
   have:=addExact_any p c h 1 (-xn) s 0 xd W hs1 hs6 one_val (neg_val hx);rw[show addE (sq s) ⟨1,0⟩ ⟨-xn,xd⟩=oneM (sq s) ⟨xn,xd⟩from rfl,hm]at this;exact this
  clear hx
  go_enter Tryz.func181,Tryz.ntmps181
  go_wp2_with (fail)
  refine (more_first (AD.out _)).mono ?_
  rintro e w' ⟨rfl,t,rfl⟩
  have HZ:=Lib.hid (HF.out.more t);generalize more (((w.alloc (.cells #[.int .i64 p,.int .i64 c,.int .i64 h,.int .i64 s] 25)).alloc (.cells #[.int .i64 xn,.int .i64 xd] 35)).alloc (.cells #[.int .i64 0,.int .i64 0] 35)) t=Z at *;obtain⟨z0,c00,f00,c01,f01,c02,f02,c03,f03,z1,c10,f10,c11,f11,z2,c20,f20,c21,f21⟩:=HZ.out.xf1
  go_wp2_with (fail)
  refine bodyPost_ret (v:=.tuple #[.agg #[.int .i64 0,.int .i64 0],.bool false]) (by simp[results,Tryz.results181,go_sem,c20,c21,z2,f20,f21]) rfl (RetE.mkN rfl ?_)
  repeat (first|exact HZ.out.b|refine stw ?_ (by omega))
 ·have AD:Hid (∀W:World,Calls Tryz.prog 130 #[.agg #[.int .i64 p,.int .i64 c,.int .i64 h,.int .i64 s],.agg #[.int .i64 1,.int .i64 0],.agg #[.int .i64 (-xn),.int .i64 xd]] W fun e w'=>e = .returned (.tuple #[.agg #[.int .i64 m,.int .i64 d],.bool true])∧Below W.heap.size W w'):=fun W=>by
   have:=addExact_any p c h 1 (-xn) s 0 xd W hs1 hs6 one_val (neg_val hx);rw[show addE (sq s) ⟨1,0⟩ ⟨-xn,xd⟩=oneM (sq s) ⟨xn,xd⟩from rfl,hm]at this;exact this
  clear hx
  go_enter Tryz.func181,Tryz.ntmps181
  go_wp2_with (fail)
  refine (more_first (AD.out _)).mono ?_
  rintro e w' ⟨rfl,t,rfl⟩
  have HZ:=Lib.hid (HF.out.more t);generalize more (((w.alloc (.cells #[.int .i64 p,.int .i64 c,.int .i64 h,.int .i64 s] 25)).alloc (.cells #[.int .i64 xn,.int .i64 xd] 35)).alloc (.cells #[.int .i64 0,.int .i64 0] 35)) t=Z at *;obtain⟨z0,c00,f00,c01,f01,c02,f02,c03,f03,z1,c10,f10,c11,f11,z2,c20,f20,c21,f21⟩:=HZ.out.xf1
  go_wp2_with (fail)
  refine bodyPost_ret (v:=.tuple #[.agg #[.int .i64 m,.int .i64 d],.bool true]) (by simp[results,Tryz.results181,go_sem,c20,c21,z2,f20,f21]) rfl (RetE.mkY rfl ?_)
  repeat (first|exact HZ.out.b|refine stw ?_ (by omega))
set_option maxRecDepth 10000 in
theorem l12Minus_any (p c h xn:Int) (s xd:Nat) (w:World) (hs1:1≤s) (hs6:s≤6) (hx:Val (sq s) ⟨xn,xd⟩):
  Calls Tryz.prog 220 #[.agg #[.int .i64 p,.int .i64 c,.int .i64 h,.int .i64 s],.agg #[.int .i64 xn,.int .i64 xd]] w (RetE w (oneM (sq s) ⟨xn,xd⟩)):=by
 obtain⟨hq1,hq36,_⟩:=sq_bd hs1 hs6;have hx1 : -1000000000000000000≤xn:=hx.1;have hx2:xn≤1000000000000000000:=hx.2.1;have hd50:xd<50:=depth_lt hq1 hx
 have HF:Hid (Fr w (((w.alloc (.cells #[.int .i64 p,.int .i64 c,.int .i64 h,.int .i64 s] 25)).alloc (.cells #[.int .i64 xn,.int .i64 xd] 35)).alloc (.cells #[.int .i64 0,.int .i64 0] 35)) [[.int .i64 p,.int .i64 c,.int .i64 h,.int .i64 s],[.int .i64 xn,.int .i64 xd],[.int .i64 0,.int .i64 0]]):=
  (((Fr.start w).allocT (by simp) _ _).allocT (by simp) _ _).allocT (by simp) _ _
 rcases hm:oneM (sq s) ⟨xn,xd⟩with _|⟨m,d⟩
 ·have AD:Hid (∀W:World,Calls Tryz.prog 136 #[.agg #[.int .i64 p,.int .i64 c,.int .i64 h,.int .i64 s],.agg #[.int .i64 1,.int .i64 0],.agg #[.int .i64 (-xn),.int .i64 xd]] W fun e w'=>e = .returned (.tuple #[.agg #[.int .i64 0,.int .i64 0],.bool false])∧Below W.heap.size W w'):=fun W=>by
   have:=l09Add_any p c h 1 (-xn) s 0 xd W hs1 hs6 one_val (neg_val hx);rw[show addE (sq s) ⟨1,0⟩ ⟨-xn,xd⟩=oneM (sq s) ⟨xn,xd⟩from rfl,hm]at this;exact this
  clear hx
  go_enter Tryz.func220,Tryz.ntmps220
  go_wp2_with (fail)
  first|refine wp_region_tail_more2 11 (by kernel_rfl) (by kernel_rfl) ?_|refine wp_region_tail_more 11 (by kernel_rfl) (by kernel_rfl) ?_
  simp only[List.take_succ_cons,List.take_zero,List.drop_succ_cons,List.drop_zero]
  repeat (first|go_big_quiet_step (first|(go_at_call 136;exact more_call (AD.out _))|(go_at_call 212;exact more_call (l11One_any _)))|quiet_step (first|(go_at_call 136;exact more_call (AD.out _))|(go_at_call 212;exact more_call (l11One_any _))))
  refine wpQuiet_nil ?_
  intro _ hw'
  obtain⟨t,hw''⟩:=hw';subst hw'';have HZ:=Lib.hid (HF.out.more t);generalize more (((w.alloc (.cells #[.int .i64 p,.int .i64 c,.int .i64 h,.int .i64 s] 25)).alloc (.cells #[.int .i64 xn,.int .i64 xd] 35)).alloc (.cells #[.int .i64 0,.int .i64 0] 35)) t=Z at *;obtain⟨z0,c00,f00,c01,f01,c02,f02,c03,f03,z1,c10,f10,c11,f11,z2,c20,f20,c21,f21⟩:=HZ.out.xf1
  go_wp2_with (fail)
  refine bodyPost_ret (v:=.tuple #[.agg #[.int .i64 0,.int .i64 0],.bool false]) (by simp[results,Tryz.results220,go_sem,c20,c21,z2,f20,f21]) rfl (RetE.mkN rfl ?_)
  repeat (first|exact HZ.out.b|refine stw ?_ (by omega))
 ·have AD:Hid (∀W:World,Calls Tryz.prog 136 #[.agg #[.int .i64 p,.int .i64 c,.int .i64 h,.int .i64 s],.agg #[.int .i64 1,.int .i64 0],.agg #[.int .i64 (-xn),.int .i64 xd]] W fun e w'=>e = .returned (.tuple #[.agg #[.int .i64 m,.int .i64 d],.bool true])∧Below W.heap.size W w'):=fun W=>by
   have:=l09Add_any p c h 1 (-xn) s 0 xd W hs1 hs6 one_val (neg_val hx);rw[show addE (sq s) ⟨1,0⟩ ⟨-xn,xd⟩=oneM (sq s) ⟨xn,xd⟩from rfl,hm]at this;exact this
  clear hx
  go_enter Tryz.func220,Tryz.ntmps220
  go_wp2_with (fail)
  first|refine wp_region_tail_more2 11 (by kernel_rfl) (by kernel_rfl) ?_|refine wp_region_tail_more 11 (by kernel_rfl) (by kernel_rfl) ?_
  simp only[List.take_succ_cons,List.take_zero,List.drop_succ_cons,List.drop_zero]
  repeat (first|go_big_quiet_step (first|(go_at_call 136;exact more_call (AD.out _))|(go_at_call 212;exact more_call (l11One_any _)))|quiet_step (first|(go_at_call 136;exact more_call (AD.out _))|(go_at_call 212;exact more_call (l11One_any _))))
  refine wpQuiet_nil ?_
  intro _ hw'
  obtain⟨t,hw''⟩:=hw';subst hw'';have HZ:=Lib.hid (HF.out.more t);generalize more (((w.alloc (.cells #[.int .i64 p,.int .i64 c,.int .i64 h,.int .i64 s] 25)).alloc (.cells #[.int .i64 xn,.int .i64 xd] 35)).alloc (.cells #[.int .i64 0,.int .i64 0] 35)) t=Z at *;obtain⟨z0,c00,f00,c01,f01,c02,f02,c03,f03,z1,c10,f10,c11,f11,z2,c20,f20,c21,f21⟩:=HZ.out.xf1
  go_wp2_with (fail)
  refine bodyPost_ret (v:=.tuple #[.agg #[.int .i64 m,.int .i64 d],.bool true]) (by simp[results,Tryz.results220,go_sem,c20,c21,z2,f20,f21]) rfl (RetE.mkY rfl ?_)
  repeat (first|exact HZ.out.b|refine stw ?_ (by omega))
end Go.Proofs.YtkaiilmgemaljaaGreat
/- Contracts of what is a bear-off position, the program's and the reference's. There are no conditions. -/
namespace Go.Proofs.YtkaiilmgemaljaaGreat
open Go.RowKit Ps
def PosI (h c:Int) (xs:List Int):Prop:=(xs.length:Int)=h∧(∀x∈xs,0≤x)∧xs.sum≤c
instance (h c:Int) (xs:List Int):Decidable (PosI h c xs):=by unfold PosI;infer_instance
end Go.Proofs.YtkaiilmgemaljaaGreat
/- Contracts of the number of a bear-off position, the program's and the reference's. There are no conditions. -/
namespace Go.Proofs.YtkaiilmgemaljaaGreat
open Go.RowKit Ps
theorem numT_take {p:List Int} {i left:Nat} (hi:i<p.length):numT (p.take (i+1)).reverse left=sumW i left (p.getD i 0).toNat+numT (p.take i).reverse (left-(p.getD i 0).toNat):=by
 rw[List.take_succ_eq_append_getElem hi,List.reverse_append]
 have e:p[i]=p.getD i 0:=by simp[List.getD,hi]
 rw[e]
 show numT (p.getD i 0::(p.take i).reverse) left=_
 rw[numT_cons]
 simp[Nat.min_eq_left (Nat.le_of_lt hi)]
theorem sumT_take {p:List Int} {i:Nat} (hi:i<p.length):(p.take (i+1)).sum=(p.take i).sum+p.getD i 0:=sum_take_succ p i hi
set_option maxRecDepth 10000 in
set_option maxHeartbeats 1000000 in
theorem bearoffNumber_any (p s:Int) (c h:Nat) (A:Option Addr) (n cp:Nat) (xs:List Int) (w:World) (hx:SL w A n xs) (hp:PosP h c xs) (hc:c≤15) (hh:h≤24)  :
  Calls Tryz.prog 169 #[.agg #[.int .i64 p,.int .i64 c,.int .i64 h,.int .i64 s],.slice A n cp] w fun e w'=>e = .returned (.int .i64 (num c xs))∧Below w.heap.size w w':=by
 have HB:Hid (Below w.heap.size w (w.alloc (.cells #[.int .i64 p,.int .i64 c,.int .i64 h,.int .i64 s] 25))):=(Below.refl _ _).alloc (Nat.le_refl _) _;have hl:xs.length=n:=hx.1
 have hn24:n≤24:=by have:=hp.1;omega
 have hbd:num c xs<wys h c:=num_lt hp
 have hwb:=wys_bd (k:=h) (m:=c) (by omega) hc
 have HW:Hid (∀i m,i≤h→m≤c→wys i m≤wys h c):=fun i m hi hm=>wys_mono hi hm
 have HP:=Lib.hid hp;have HX:=Lib.hid (hx.alloc (.cells #[.int .i64 p,.int .i64 c,.int .i64 h,.int .i64 s] 25));have HL:=Lib.hid hl
 have hnh:=Lib.hid (show n=h by rw[← hl];exact hp.1)
 have HN:Hid (numT (xs.take n).reverse c=num c xs):=by unfold Hid num;rw[List.take_of_length_le (by omega)]
 have HS:Hid ((xs.take n).sum≤c):=by unfold Hid;rw[List.take_of_length_le (by omega)];exact hp.2.2
 have HPN:Hid (∀k,0≤(xs.take k).sum):=fun k=>sum_take_nonneg xs k hp.2.1
 clear hx hl hp
 go_enter Tryz.func169,Tryz.ntmps169
 go_wp2
 go_loop [5,6,7] (fun v l i=>∃(k nn lf:Nat),k≤n∧lf≤c∧i = .int .i64 ((k:Int)-1)∧l = .int .i64 lf∧v = .int .i64 nn∧Hid (nn+numT (xs.take k).reverse lf=num c xs)∧Hid ((xs.take k).sum≤lf)) (fun _ _ i=>(intOf i+1).toNat)
 case atStart=>exact⟨n,0,c,by omega,by omega,rfl,rfl,rfl,by unfold Hid;rw[HN.out];omega,HS.out⟩
 case round=>
  obtain⟨k,nn,lf,hk,hlf,hi,rfl,rfl,hnum,hs⟩:=hrel
  rcases k with _|j
  ·rw[show ((0:Nat):Int)-1 = -1 from rfl]at hi
   subst hi
   have HR:Hid (nn=num c xs):=by have:=hnum.out;unfold Hid;simpa[numT]using this
   go_wp2_with (fail)
   go_ret
   exact⟨by rw[← HR.out];rfl,HB.out⟩
  ·rw[show ((j+1:Nat):Int)-1=(j:Int) by omega]at hi
   subst hi
   obtain⟨b,off,rfl,_,hcells⟩:=HX.out.2 (by omega)
   have hcell:=hcells j (by omega)
   have e1:=numT_take (p:=xs) (i:=j) (left:=lf) (by rw[HL.out];omega)
   have e2:=sumT_take (p:=xs) (i:=j) (by rw[HL.out];omega)
   have e3:=HPN.out j
   have e4:=HP.out.2.1 _ (getD_mem xs j (by rw[HL.out];omega))
   obtain⟨x,hx⟩:∃x:Nat,xs.getD j 0=(x:Int):=⟨(xs.getD j 0).toNat,by omega⟩
   rw[hx]at hcell e1 e2 e4
   simp only[Int.toNat_natCast]at e1
   have e5:=hs.out;rw[e2]at e5
   have hxl:x≤lf:=by omega
   have hnum':Hid (nn+sumW j lf x+numT (xs.take j).reverse (lf-x)=num c xs):=by have:=hnum.out;rw[e1]at this;unfold Hid;omega
   have hs':Hid ((xs.take j).sum≤((lf-x:Nat):Int)):=by unfold Hid;omega
   have hb0:nn+sumW j lf x<wys h c:=by have:=hnum'.out;omega
   have HM:Hid (∀d,d≤x→sumW j lf d≤sumW j lf x):=fun d hd=>sumW_mono hd
   clear hcells e1 e2 e3 e4 e5 hx hnum hs
   go_wp2_with (fail)
   go_loop [5,22] (fun v dv=>∃d:Nat,d≤x∧dv = .int .i64 d∧v = .int .i64 ((nn+sumW j lf d:Nat):Int)) (fun _ dv=>x-(intOf dv).toNat)
   case atStart=>exact⟨0,by omega,rfl,by simp[sumW]⟩
   case round=>
    obtain⟨d,hd,rfl,rfl⟩:=hrel
    by_cases hdx:d<x
    ·have hdi:(d:Int)<(x:Int):=by omega
     have hsub:((lf:Int)-(d:Int))=((lf-d:Nat):Int):=by omega
     have hm1:=HM.out (d+1) (by omega)
     have hm2:=HM.out d (by omega)
     have E:=Lib.hid (sumW_succ j lf d)
     have hm3:sumW j lf d+wys j (lf-d)≤sumW j lf x:=by rw[← E.out];exact hm1
     have CL:=Lib.hid (fun (W:World)=>listsUpTo_any j (lf-d) W (by omega) (by omega))
     clear hm1
     go_wp2_with ((go_at_call 216;(try rw[hsub]);refine (CL.out _).mono ?_;rintro e w' ⟨rfl,rfl⟩))
     go_round
     case rel=>exact⟨d+1,by omega,by go_num,by rw[E.out];go_num⟩
     case measure=>simp[intOf];omega
    ·have hdx2:d=x:=by omega
     subst hdx2
     go_wp2_with (fail)
     go_round
     case rel=>exact⟨j,nn+sumW j lf d,lf-d,by omega,by omega,by go_num,by go_num,rfl,hnum'.out,hs'.out⟩
     case measure=>(simp[intOf])<;>omega
set_option maxRecDepth 10000 in
set_option maxHeartbeats 1000000 in
theorem l10Number_any (p s:Int) (c h:Nat) (A:Option Addr) (n cp:Nat) (xs:List Int) (w:World) (hx:SL w A n xs) (hp:PosP h c xs) (hc:c≤15) (hh:h≤24) (hw6:wys h c≤1000000):
  Calls Tryz.prog 192 #[.agg #[.int .i64 p,.int .i64 c,.int .i64 h,.int .i64 s],.slice A n cp] w fun e w'=>e = .returned (.int .i64 (num c xs))∧Below w.heap.size w w':=by
 have HB:Hid (Below w.heap.size w (w.alloc (.cells #[.int .i64 p,.int .i64 c,.int .i64 h,.int .i64 s] 25))):=(Below.refl _ _).alloc (Nat.le_refl _) _;have hl:xs.length=n:=hx.1
 have hn24:n≤24:=by have:=hp.1;omega
 have hbd:num c xs<wys h c:=num_lt hp
 have hwb:=wys_bd (k:=h) (m:=c) (by omega) hc
 have HW:Hid (∀i m,i≤h→m≤c→wys i m≤wys h c):=fun i m hi hm=>wys_mono hi hm
 have HP:=Lib.hid hp;have HX:=Lib.hid (hx.alloc (.cells #[.int .i64 p,.int .i64 c,.int .i64 h,.int .i64 s] 25));have HL:=Lib.hid hl
 have hnh:=Lib.hid (show n=h by rw[← hl];exact hp.1)
 have HN:Hid (numT (xs.take n).reverse c=num c xs):=by unfold Hid num;rw[List.take_of_length_le (by omega)]
 have HS:Hid ((xs.take n).sum≤c):=by unfold Hid;rw[List.take_of_length_le (by omega)];exact hp.2.2
 have HPN:Hid (∀k,0≤(xs.take k).sum):=fun k=>sum_take_nonneg xs k hp.2.1
 clear hx hl hp
 go_enter Tryz.func192,Tryz.ntmps192
 go_wp2
 go_loop [5,6,7] (fun v l i=>∃(k nn lf:Nat),k≤n∧lf≤c∧i = .int .i64 ((k:Int)-1)∧l = .int .i64 lf∧v = .int .i64 nn∧Hid (nn+numT (xs.take k).reverse lf=num c xs)∧Hid ((xs.take k).sum≤lf)) (fun _ _ i=>(intOf i+1).toNat)
 case atStart=>exact⟨n,0,c,by omega,by omega,rfl,rfl,rfl,by unfold Hid;rw[HN.out];omega,HS.out⟩
 case round=>
  obtain⟨k,nn,lf,hk,hlf,hi,rfl,rfl,hnum,hs⟩:=hrel
  rcases k with _|j
  ·rw[show ((0:Nat):Int)-1 = -1 from rfl]at hi
   subst hi
   have HR:Hid (nn=num c xs):=by have:=hnum.out;unfold Hid;simpa[numT]using this
   go_wp2_with (fail)
   go_ret
   exact⟨by rw[← HR.out];rfl,HB.out⟩
  ·rw[show ((j+1:Nat):Int)-1=(j:Int) by omega]at hi
   subst hi
   obtain⟨b,off,rfl,_,hcells⟩:=HX.out.2 (by omega)
   have hcell:=hcells j (by omega)
   have e1:=numT_take (p:=xs) (i:=j) (left:=lf) (by rw[HL.out];omega)
   have e2:=sumT_take (p:=xs) (i:=j) (by rw[HL.out];omega)
   have e3:=HPN.out j
   have e4:=HP.out.2.1 _ (getD_mem xs j (by rw[HL.out];omega))
   obtain⟨x,hx⟩:∃x:Nat,xs.getD j 0=(x:Int):=⟨(xs.getD j 0).toNat,by omega⟩
   rw[hx]at hcell e1 e2 e4
   simp only[Int.toNat_natCast]at e1
   have e5:=hs.out;rw[e2]at e5
   have hxl:x≤lf:=by omega
   have hnum':Hid (nn+sumW j lf x+numT (xs.take j).reverse (lf-x)=num c xs):=by have:=hnum.out;rw[e1]at this;unfold Hid;omega
   have hs':Hid ((xs.take j).sum≤((lf-x:Nat):Int)):=by unfold Hid;omega
   have hb0:nn+sumW j lf x<wys h c:=by have:=hnum'.out;omega
   have HM:Hid (∀d,d≤x→sumW j lf d≤sumW j lf x):=fun d hd=>sumW_mono hd
   clear hcells e1 e2 e3 e4 e5 hx hnum hs
   go_wp2_with (fail)
   go_loop [5,8] (fun v dv=>∃d:Nat,d≤x∧dv = .int .i64 d∧v = .int .i64 ((nn+sumW j lf d:Nat):Int)) (fun _ dv=>x-(intOf dv).toNat)
   case atStart=>exact⟨0,by omega,rfl,by simp[sumW]⟩
   case round=>
    obtain⟨d,hd,rfl,rfl⟩:=hrel
    by_cases hdx:d<x
    ·have hdi:(d:Int)<(x:Int):=by omega
     have hsub:((lf:Int)-(d:Int))=((lf-d:Nat):Int):=by omega
     have hm1:=HM.out (d+1) (by omega)
     have hm2:=HM.out d (by omega)
     have E:=Lib.hid (sumW_succ j lf d)
     have hm3:sumW j lf d+wys j (lf-d)≤sumW j lf x:=by rw[← E.out];exact hm1
     have CL:=Lib.hid (fun (W:World)=>(show Calls Tryz.prog 167 #[.int .i64 ((lf-d:Nat):Int),.int .i64 j] W (fun e w'=>e = .returned (.int .i64 (wys j (lf-d)))∧W=w') from by have h1:=l10Ways_any j (lf-d) W (by omega) (by omega);rw[wysC_ok (Nat.le_trans (HW.out _ _ (by have:=hnh.out;omega) (by omega)) hw6)]at h1;exact h1))
     clear hm1
     go_wp2_with ((go_at_call 167;(try rw[hsub]);refine (CL.out _).mono ?_;rintro e w' ⟨rfl,rfl⟩))
     go_round
     case rel=>exact⟨d+1,by omega,by go_num,by rw[E.out];go_num⟩
     case measure=>simp[intOf];omega
    ·have hdx2:d=x:=by omega
     subst hdx2
     go_wp2_with (fail)
     go_round
     case rel=>exact⟨j,nn+sumW j lf d,lf-d,by omega,by omega,by go_num,by go_num,rfl,hnum'.out,hs'.out⟩
     case measure=>(simp[intOf])<;>omega
end Go.Proofs.YtkaiilmgemaljaaGreat

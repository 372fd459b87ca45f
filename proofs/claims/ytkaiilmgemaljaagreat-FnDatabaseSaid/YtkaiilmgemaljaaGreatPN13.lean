/- Contract of the program's mean. There are no conditions. -/
import Derived.Test.YtkaiilmgemaljaaGreatPZs
set_option linter.unusedVariables false
set_option linter.unusedSimpArgs false
namespace Go.Proofs.YtkaiilmgemaljaaGreat
open Go.RowKit Ps Ra Ex
def exC (xs:List E):List Value:=xs.flatMap fun x=>[.int .i64 x.num,.int .i64 x.depth]
theorem exC_snoc (xs:List E) (x:E):exC (xs++[x])=exC xs++[.int .i64 x.num,.int .i64 x.depth]:=by simp[exC]
theorem exC_get:∀(xs:List E) (k:Nat),k<xs.length→(exC xs).getD (k*2) undef = .int .i64 (xs.getD k ⟨0,0⟩).num∧(exC xs).getD (k*2+1) undef = .int .i64 (xs.getD k ⟨0,0⟩).depth
 | [],k,h=>by simp at h
 | r::rs,0,_=>by simp[exC]
 | r :: rs, k + 1, h => by
   have := exC_get rs k (by simpa using h)
   have e : exC (r :: rs) = .int .i64 r.num :: .int .i64 r.depth :: exC rs := rfl
   rw [e, show (k + 1) * 2 = k * 2 + 1 + 1 by omega, show k * 2 + 1 + 1 + 1 = (k * 2 + 1) + 1 + 1 by omega]
   simpa using this
theorem SLZ.spare {z:Nat} {S0 S:Nat→Prop} {w:World} {A:Option Addr} {n:Nat} {cs:List Value} (h:SLZ z S0 w A n cs) (hS:∀b,b<w.heap.size→¬S b):SLZ z S w A n cs:=by
 refine⟨h.1,fun hn=>?_⟩
 obtain⟨b,off,hA,hlt,_,hc⟩:=h.2 hn
 exact⟨b,off,hA,hlt,hS b hlt,hc⟩
theorem SLZ.less {z:Nat} {S0 S:Nat→Prop} {w:World} {A:Option Addr} {n:Nat} {cs:List Value} (h:SLZ z S0 w A n cs) (hS:∀b,S b→S0 b):SLZ z S w A n cs:=by
 refine⟨h.1,fun hn=>?_⟩
 obtain⟨b,off,hA,hlt,hs,hc⟩:=h.2 hn
 exact⟨b,off,hA,hlt,fun hb=>hs (hS b hb),hc⟩
def EL (S:Nat→Prop) (w:World) (A:Option Addr) (n:Nat) (xs:List E):Prop:=xs.length=n∧SLZ 2 S w A n (exC xs)
theorem EL.frm {S:Nat→Prop} {w w':World} {A:Option Addr} {n:Nat} {xs:List E} (h:EL S w A n xs) (hf:Frm S w w'):EL S w' A n xs:=⟨h.1,h.2.frm hf⟩
theorem EL.below {S:Nat→Prop} {w w':World} {A:Option Addr} {n:Nat} {xs:List E} (h:EL S w A n xs) (hb:Below w.heap.size w w'):EL S w' A n xs:=h.frm (Frm.of_below' S hb)
theorem EL.spare {S0 S:Nat→Prop} {w:World} {A:Option Addr} {n:Nat} {xs:List E} (h:EL S0 w A n xs) (hS:∀b,b<w.heap.size→¬S b):EL S w A n xs:=⟨h.1,h.2.spare hS⟩
theorem EL.at {S:Nat→Prop} {w:World} {A:Option Addr} {n:Nat} {xs:List E} (h:EL S w A n xs) {k:Nat} (hk:k<n):∃b off,A=some ⟨b,off,none⟩∧b<w.heap.size∧
  w.cell? ⟨b,off+k*2,none⟩=some (.int .i64 (xs.getD k ⟨0,0⟩).num)∧w.cell? ⟨b,off+k*2+1,none⟩=some (.int .i64 (xs.getD k ⟨0,0⟩).depth):=by
 obtain⟨hl,_,hc⟩:=h
 obtain⟨b,off,hA,hlt,_,hcell⟩:=hc (by omega)
 obtain⟨e1,e2⟩:=exC_get xs k (by omega)
 exact⟨b,off,hA,hlt,by rw[hcell _ (by omega),e1],by rw[Nat.add_assoc,hcell _ (by omega),e2]⟩
/-! ### steps of a sum -/
theorem zip_take_succ {rs:List (Nat×Nat)} {xs:List E} {k:Nat} (h:k<rs.length) (hl:xs.length=rs.length):(rs.zip xs).take (k+1)=(rs.zip xs).take k++[(rs.getD k (0,0),xs.getD k ⟨0,0⟩)]:=by
 have hz:k<(rs.zip xs).length:=by rw[List.length_zip];omega
 rw[List.take_succ_eq_append_getElem hz,List.getElem_zip]
 simp[List.getD,h,show k<xs.length by omega]
theorem sum_step {B:Int} {rs:List (Nat×Nat)} {xs:List E} {k:Nat} {t:E} (h:k<rs.length) (hl:xs.length=rs.length) (hs:sumE B ((rs.zip xs).take k)=some t):
  sumE B ((rs.zip xs).take (k+1))=(sclE B (xs.getD k ⟨0,0⟩) (weight (rs.getD k (0,0)))).bind fun y=>addE B t y:=by
 rw[zip_take_succ h hl,sumE_snoc,hs];rfl
theorem sum_stop {B:Int} {rs:List (Nat×Nat)} {xs:List E} {k:Nat} (hs:sumE B ((rs.zip xs).take k)=none):meanE B rs xs=none:=by
 have e:rs.zip xs=(rs.zip xs).take k++(rs.zip xs).drop k:=(List.take_append_drop k _).symm;unfold meanE
 rw[e,sumE_none hs];rfl
theorem sum_end {B:Int} {rs:List (Nat×Nat)} {xs:List E} {t:E} (hl:xs.length=rs.length) (hs:sumE B ((rs.zip xs).take rs.length)=some t):meanE B rs xs=mk B t.num (t.depth+1):=by
 rw[List.take_of_length_le (by rw[List.length_zip];omega)]at hs
 unfold meanE
 rw[hs];rfl
set_option maxHeartbeats 4000000 in
set_option maxRecDepth 10000 in
theorem meanExact_any (p c h:Int) (s n c0:Nat) (A:Option Addr) (xs:List E) (w:World) (hv:isVar p c h s=true) (hx:EL (fun _=>False) w A n xs) (hn:(rollsN s).length=n) (hval:∀x∈xs,Val (sq s) x):
  Calls Tryz.prog 196 #[.agg #[.int .i64 p,.int .i64 c,.int .i64 h,.int .i64 s],.slice A n c0] w (RetE w (meanE (sq s) (rollsN s) xs)):=by
 have hv':=isVar_yes hv
 have hs1:1≤s:=by omega
 have hs6:s≤6:=by omega
 obtain⟨hq1,hq36,_⟩:=sq_bd hs1 hs6
 have hn21:n≤21:=by rw[← hn];exact rolls_le hs6
 have HF0:Hid (Fr w (((w.alloc (.cells #[.int .i64 p,.int .i64 c,.int .i64 h,.int .i64 s] 25)).alloc (.cells #[.int .i64 0,.int .i64 0] 35)).alloc (.cells #[.int .i64 0,.int .i64 0] 35)) [[.int .i64 p,.int .i64 c,.int .i64 h,.int .i64 s],[.int .i64 0,.int .i64 0],[.int .i64 0,.int .i64 0]]):=
  (((Fr.start w).allocT (by simp) _ _).allocT (by simp) _ _).allocT (by simp) _ _
 obtain⟨S,hS⟩:∃S:Nat→Prop,S=fun b=>w.heap.size≤b∧b<w.heap.size+3:=⟨_,rfl⟩
 have HE0:Hid (EL S w A n xs):=hx.spare fun b hb=>by rw[hS];show ¬(_∧_);omega
 have hxl:xs.length=n:=hx.1;have HV:=Lib.hid hval;have HVV:=Lib.hid hv;have HSS:=Lib.hid hS;have HXL:=Lib.hid hxl;clear hx hval hv hv' hS hxl
 go_enter Tryz.func196,Tryz.ntmps196
 go_wp2_with (fail)
 refine (AllRolls_any p c h s _ HVV.out).mono ?_
 rintro e w1 ⟨v1,rfl,ho,hb⟩
 obtain⟨A1,c1,rfl,hR,_⟩:=ho.read (S:=S) (fun k hk=>by rw[HSS.out];simp at hk;show ¬(_∧_);omega)
 have HF1:=Lib.hid (HF0.out.below hb);have HE1:Hid (EL S w1 A n xs):=HE0.out.below HF1.out.b
 have HR1:Hid (RL S w1 A1 n (rollsN s)):=by rw[hn]at hR;exact hR
 clear ho hb hR;obtain⟨z0,c00,f00,c01,f01,c02,f02,c03,f03,z1,c10,f10,c11,f11,z2,c20,f20,c21,f21⟩:=HF1.out.xf1
 go_wp2_with (fail)
 clear z0 c00 f00 c01 f01 c02 f02 c03 f03 z1 c10 f10 c11 f11 z2 c20 f20 c21 f21
 go_loopw [16] (fun vi wr=>∃(k:Nat) (tn:Int) (td:Nat),k≤n∧vi = .int .i64 k∧Hid (sumE (sq s) (((rollsN s).zip xs).take k)=some ⟨tn,td⟩)∧Fr w wr [[.int .i64 p,.int .i64 c,.int .i64 h,.int .i64 s],[.int .i64 0,.int .i64 0],[.int .i64 tn,.int .i64 td]]∧Hid (RL S wr A1 n (rollsN s)∧EL S wr A n xs)) (fun vi _=>n-(intOf vi).toNat)
 case atStart=>exact⟨0,0,0,Nat.zero_le _,rfl,rfl,HF1.out,HR1.out,HE1.out⟩
 case round=>
  obtain⟨k,tn,td,hk,rfl,hsum,hF,hRE⟩:=hrel;have HFr:=Lib.hid hF;clear hF;have ht:Val (sq s) ⟨tn,td⟩:=sumE_val hq1 hsum.out;have htd:td<50:=depth_lt hq1 ht;have HT:=Lib.hid ht;have ht1 : -1000000000000000000≤tn:=ht.1;have ht2:tn≤1000000000000000000:=ht.2.1;clear ht;obtain⟨z0,c00,f00,c01,f01,c02,f02,c03,f03,z1,c10,f10,c11,f11,z2,c20,f20,c21,f21⟩:=HFr.out.xf1
  by_cases hlt:k<n
  ·have hki:(k:Int)<(n:Int):=by omega
   obtain⟨b1,off1,rfl,_,q1,q2⟩:=hRE.out.1.at hlt;obtain⟨b2,off2,rfl,_,q3,q4⟩:=hRE.out.2.at hlt
   have hst:=Lib.hid (sum_step (k:=k) (by rw[hn];exact hlt) (by rw[hn];exact HXL.out) hsum.out)
   have hxv:Hid (Val (sq s) (xs.getD k ⟨0,0⟩)):=HV.out _ (getD_mem' xs _ (by rw[HXL.out];exact hlt))
   have hrr:Hid (1≤((rollsN s).getD k (0,0)).2∧((rollsN s).getD k (0,0)).2≤((rollsN s).getD k (0,0)).1∧((rollsN s).getD k (0,0)).1≤s):=mem_rollsN.1 (getD_mem' _ _ (by rw[hn];exact hlt))
   generalize (rollsN s).getD k (0,0)=r at *;generalize xs.getD k ⟨0,0⟩=x at *;obtain⟨a,b⟩:=r;obtain⟨xn,xd⟩:=x;obtain⟨r1,r2,r3⟩:=hrr.out
   simp only at r1 r2 r3 q1 q2 q3 q4
   have RW:=Lib.hid fun (W:World)=>RollWeight_any p c h s a b W HVV.out r1 r2 r3
   have SC0:=fun (W:World)=>scaleExact_any p c h xn s xd (wgt (a,b)) W hs1 hs6 hxv.out (wgt_bd _).1 (by have:=(wgt_bd (a,b)).2;omega)
   rw[wgt_weight]at SC0
   rcases hsc:sclE (sq s) ⟨xn,xd⟩ (weight (a,b)) with _|⟨yn,yd⟩
   ·have HR:Hid (meanE (sq s) (rollsN s) xs=none):=sum_stop (k:=k+1) (by rw[hst.out,hsc];rfl)
    have SC:Hid (∀W:World,Calls Tryz.prog 129 #[.agg #[.int .i64 p,.int .i64 c,.int .i64 h,.int .i64 s],.agg #[.int .i64 xn,.int .i64 xd],.int .i64 (wgt (a,b))] W fun e w'=>e = .returned (.tuple #[.agg #[.int .i64 0,.int .i64 0],.bool false])∧Below W.heap.size W w'):=fun W=>by
     have:=SC0 W;rw[hsc,← wgt_weight]at this;exact this
    clear SC0 hsc hst
    go_wp2_with (fail)
    have HF:=Lib.hid (HFr.out.alloc (.cells #[.int .i64 a,.int .i64 b] 39))
    have qr1:(wr.alloc (.cells #[.int .i64 a,.int .i64 b] 39)).cell? ⟨wr.heap.size,0,none⟩=some (.int .i64 a):=by simp[go_sem]
    have qr2:(wr.alloc (.cells #[.int .i64 a,.int .i64 b] 39)).cell? ⟨wr.heap.size,1,none⟩=some (.int .i64 b):=by simp[go_sem]
    have hbW:=Lib.hid ((Below.refl wr.heap.size wr).alloc (Nat.le_refl _) (.cells #[.int .i64 a,.int .i64 b] 39));replace q3:=keep_cell q3 hbW.out;replace q4:=keep_cell q4 hbW.out;clear q1 q2;clear z0 c00 f00 c01 f01 c02 f02 c03 f03 z1 c10 f10 c11 f11 z2 c20 f20 c21 f21;generalize wr.alloc (.cells #[.int .i64 a,.int .i64 b] 39)=W at *;generalize hrb:wr.heap.size=rb at *;have hrb:=Lib.hid hrb
    refine wp_region_blk 12 11 9 _ _ (.cells #[.int .i64 0,.int .i64 0] 35) (by kernel_rfl) (by kernel_rfl) rfl rfl rfl (fun _ _=>by kernel_rfl) rfl (pure_extract _ _ _ _ rfl rfl) (fun _ _ _ _ h=>h) (by kernel_rfl) ?_
    apply Exists.intro
    refine⟨fun X hX=>?_,fun t1 t2=>?_⟩
    ·
     have hXb:Below W.heap.size W X:=by obtain⟨t0,rfl⟩:=hX;exact below_more W t0
     have HX:Hid (Fr w X [[.int .i64 p,.int .i64 c,.int .i64 h,.int .i64 s],[.int .i64 0,.int .i64 0],[.int .i64 tn,.int .i64 td]]):=HF.out.below hXb;have y1:X.cell? ⟨rb,0,none⟩=some (.int .i64 a):=keep_cell qr1 hXb;have y2:X.cell? ⟨rb,1,none⟩=some (.int .i64 b):=keep_cell qr2 hXb;have y3:X.cell? ⟨b2,off2+k*2,none⟩=some (.int .i64 xn):=keep_cell q3 hXb;have y4:X.cell? ⟨b2,off2+k*2+1,none⟩=some (.int .i64 xd):=keep_cell q4 hXb;have y5:b2<X.heap.size:=World.block_lt_of_cell? X _ y3;have y6:rb<X.heap.size:=World.block_lt_of_cell? X _ y1;clear hX hXb;obtain⟨z0,c00,f00,c01,f01,c02,f02,c03,f03,z1,c10,f10,c11,f11,z2,c20,f20,c21,f21⟩:=HX.out.xf1
     simp only[List.take_succ_cons,List.take_zero]
     repeat (first|go_big_quiet_step (first|(go_at_call 234;exact more_call (RW.out _))|(go_at_call 129;exact more_call (SC.out _)))|quiet_step (first|(go_at_call 234;exact more_call (RW.out _))|(go_at_call 129;exact more_call (SC.out _))))
     exact wpQuiet_nil rfl
    simp only[List.drop_succ_cons,List.drop_zero,Act.put]
    have HU:Hid (Fr w (more ((more W t1).alloc (.cells #[.int .i64 0,.int .i64 0] 35)) t2) [[.int .i64 p,.int .i64 c,.int .i64 h,.int .i64 s],[.int .i64 0,.int .i64 0],[.int .i64 tn,.int .i64 td]]):=((HF.out.more t1).alloc _).more t2;have x0:=blk_cell W t1 t2 #[.int .i64 0,.int .i64 0] 35 0 rfl;have x1:=blk_cell W t1 t2 #[.int .i64 0,.int .i64 0] 35 1 rfl;have x0':=blk_froz W t1 t2 #[.int .i64 0,.int .i64 0] 35 0;have x1':=blk_froz W t1 t2 #[.int .i64 0,.int .i64 0] 35 1;have xz:=blk_lt W t1 t2 (.cells #[.int .i64 0,.int .i64 0] 35);have xb:=(HF.out.more t1).z;have xw:=Lib.hid (blk_below W t1 t2 (.cells #[.int .i64 0,.int .i64 0] 35));have xbw:=size_more W t1
    simp only[List.length_cons,List.length_nil]at xb
    generalize more ((more W t1).alloc (.cells #[.int .i64 0,.int .i64 0] 35)) t2=U at *;generalize (more W t1).heap.size=bb at *;obtain⟨z0,c00,f00,c01,f01,c02,f02,c03,f03,z1,c10,f10,c11,f11,z2,c20,f20,c21,f21⟩:=HU.out.xf1
    go_wp2_with (fail)
    refine bodyPost_ret (v:=.tuple #[.agg #[.int .i64 0,.int .i64 0],.bool false]) (by simp[results,Tryz.results196,go_sem,c10,c11,z1,f10,f11,x0,x1,x0',x1',xz]) rfl (RetE.mkN HR.out ?_)
    repeat (first|exact HU.out.b|refine stw ?_ (by omega))
   ·have SC:Hid (∀W:World,Calls Tryz.prog 129 #[.agg #[.int .i64 p,.int .i64 c,.int .i64 h,.int .i64 s],.agg #[.int .i64 xn,.int .i64 xd],.int .i64 (wgt (a,b))] W fun e w'=>e = .returned (.tuple #[.agg #[.int .i64 yn,.int .i64 yd],.bool true])∧Below W.heap.size W w'):=fun W=>by
     have:=SC0 W;rw[hsc,← wgt_weight]at this;exact this
    have hyv:Val (sq s) ⟨yn,yd⟩:=sclE_val hq1 hsc;clear SC0;rw[hsc]at hst
    go_wp2_with (fail)
    have HF:=Lib.hid (HFr.out.alloc (.cells #[.int .i64 a,.int .i64 b] 39))
    have qr1:(wr.alloc (.cells #[.int .i64 a,.int .i64 b] 39)).cell? ⟨wr.heap.size,0,none⟩=some (.int .i64 a):=by simp[go_sem]
    have qr2:(wr.alloc (.cells #[.int .i64 a,.int .i64 b] 39)).cell? ⟨wr.heap.size,1,none⟩=some (.int .i64 b):=by simp[go_sem]
    have hbW:=Lib.hid ((Below.refl wr.heap.size wr).alloc (Nat.le_refl _) (.cells #[.int .i64 a,.int .i64 b] 39));replace q3:=keep_cell q3 hbW.out;replace q4:=keep_cell q4 hbW.out;clear q1 q2;clear z0 c00 f00 c01 f01 c02 f02 c03 f03 z1 c10 f10 c11 f11 z2 c20 f20 c21 f21;generalize wr.alloc (.cells #[.int .i64 a,.int .i64 b] 39)=W at *;generalize hrb:wr.heap.size=rb at *;have hrb:=Lib.hid hrb
    refine wp_region_blk 12 11 9 _ _ (.cells #[.int .i64 0,.int .i64 0] 35) (by kernel_rfl) (by kernel_rfl) rfl rfl rfl (fun _ _=>by kernel_rfl) rfl (pure_extract _ _ _ _ rfl rfl) (fun _ _ _ _ h=>h) (by kernel_rfl) ?_
    apply Exists.intro
    refine⟨fun X hX=>?_,fun t1 t2=>?_⟩
    ·
     have hXb:Below W.heap.size W X:=by obtain⟨t0,rfl⟩:=hX;exact below_more W t0
     have HX:Hid (Fr w X [[.int .i64 p,.int .i64 c,.int .i64 h,.int .i64 s],[.int .i64 0,.int .i64 0],[.int .i64 tn,.int .i64 td]]):=HF.out.below hXb;have y1:X.cell? ⟨rb,0,none⟩=some (.int .i64 a):=keep_cell qr1 hXb;have y2:X.cell? ⟨rb,1,none⟩=some (.int .i64 b):=keep_cell qr2 hXb;have y3:X.cell? ⟨b2,off2+k*2,none⟩=some (.int .i64 xn):=keep_cell q3 hXb;have y4:X.cell? ⟨b2,off2+k*2+1,none⟩=some (.int .i64 xd):=keep_cell q4 hXb;have y5:b2<X.heap.size:=World.block_lt_of_cell? X _ y3;have y6:rb<X.heap.size:=World.block_lt_of_cell? X _ y1;clear hX hXb;obtain⟨z0,c00,f00,c01,f01,c02,f02,c03,f03,z1,c10,f10,c11,f11,z2,c20,f20,c21,f21⟩:=HX.out.xf1
     simp only[List.take_succ_cons,List.take_zero]
     repeat (first|go_big_quiet_step (first|(go_at_call 234;exact more_call (RW.out _))|(go_at_call 129;exact more_call (SC.out _)))|quiet_step (first|(go_at_call 234;exact more_call (RW.out _))|(go_at_call 129;exact more_call (SC.out _))))
     exact wpQuiet_nil rfl
    simp only[List.drop_succ_cons,List.drop_zero,Act.put]
    have HU:Hid (Fr w (more ((more W t1).alloc (.cells #[.int .i64 0,.int .i64 0] 35)) t2) [[.int .i64 p,.int .i64 c,.int .i64 h,.int .i64 s],[.int .i64 0,.int .i64 0],[.int .i64 tn,.int .i64 td]]):=((HF.out.more t1).alloc _).more t2;have x0:=blk_cell W t1 t2 #[.int .i64 0,.int .i64 0] 35 0 rfl;have x1:=blk_cell W t1 t2 #[.int .i64 0,.int .i64 0] 35 1 rfl;have x0':=blk_froz W t1 t2 #[.int .i64 0,.int .i64 0] 35 0;have x1':=blk_froz W t1 t2 #[.int .i64 0,.int .i64 0] 35 1;have xz:=blk_lt W t1 t2 (.cells #[.int .i64 0,.int .i64 0] 35);have xb:=(HF.out.more t1).z;have xw:=Lib.hid (blk_below W t1 t2 (.cells #[.int .i64 0,.int .i64 0] 35));have xbw:=size_more W t1
    simp only[List.length_cons,List.length_nil]at xb
    generalize more ((more W t1).alloc (.cells #[.int .i64 0,.int .i64 0] 35)) t2=U at *;generalize (more W t1).heap.size=bb at *;obtain⟨z0,c00,f00,c01,f01,c02,f02,c03,f03,z1,c10,f10,c11,f11,z2,c20,f20,c21,f21⟩:=HU.out.xf1
    rcases hadd:addE (sq s) ⟨tn,td⟩ ⟨yn,yd⟩with _|⟨un,ud⟩
    ·have HR:Hid (meanE (sq s) (rollsN s) xs=none):=sum_stop (k:=k+1) (by rw[hst.out];exact hadd)
     have AD:Hid (∀W:World,Calls Tryz.prog 130 #[.agg #[.int .i64 p,.int .i64 c,.int .i64 h,.int .i64 s],.agg #[.int .i64 tn,.int .i64 td],.agg #[.int .i64 yn,.int .i64 yd]] W fun e w'=>e = .returned (.tuple #[.agg #[.int .i64 0,.int .i64 0],.bool false])∧Below W.heap.size W w'):=fun W=>by
      have:=addExact_any p c h tn yn s td yd W hs1 hs6 HT.out hyv;rw[hadd]at this;exact this
     go_wp2_with (fail)
     have HU2:Hid (Fr w ((U.setCell ⟨bb,0,none⟩ (.int .i64 yn)).setCell ⟨bb,1,none⟩ (.int .i64 yd)) [[.int .i64 p,.int .i64 c,.int .i64 h,.int .i64 s],[.int .i64 0,.int .i64 0],[.int .i64 tn,.int .i64 td]]):=(HU.out.setOut (by simp only[List.length_cons,List.length_nil];omega)).setOut (by simp only[List.length_cons,List.length_nil];omega)
     have xw2:=Lib.hid (stw (v:=.int .i64 yd) (i:=1) (stw (v:=.int .i64 yn) (i:=0) xw.out xbw) xbw);clear HU x0 x1 x0' x1' xz xw;clear z0 c00 f00 c01 f01 c02 f02 c03 f03 z1 c10 f10 c11 f11 z2 c20 f20 c21 f21;generalize (U.setCell ⟨bb,0,none⟩ (.int .i64 yn)).setCell ⟨bb,1,none⟩ (.int .i64 yd)=U2 at *
     refine (more_first (AD.out _)).mono ?_
     rintro e w' ⟨rfl,t,rfl⟩
     have HZ:=Lib.hid (HU2.out.more t);have xw3:=Lib.hid (blw (t:=t) xw2.out (Nat.le_refl _));clear HU2 xw2;generalize more U2 t=Z at *;obtain⟨z0,c00,f00,c01,f01,c02,f02,c03,f03,z1,c10,f10,c11,f11,z2,c20,f20,c21,f21⟩:=HZ.out.xf1
     go_wp2_with (fail)
     refine bodyPost_ret (v:=.tuple #[.agg #[.int .i64 0,.int .i64 0],.bool false]) (by simp[results,Tryz.results196,go_sem,c10,c11,z1,f10,f11]) rfl (RetE.mkN HR.out ?_)
     repeat (first|exact HZ.out.b|refine stw ?_ (by omega)|refine alw ?_ (by omega))
    ·have HR:Hid (sumE (sq s) (((rollsN s).zip xs).take (k+1))=some ⟨un,ud⟩):=by rw[hst.out];exact hadd
     have AD:Hid (∀W:World,Calls Tryz.prog 130 #[.agg #[.int .i64 p,.int .i64 c,.int .i64 h,.int .i64 s],.agg #[.int .i64 tn,.int .i64 td],.agg #[.int .i64 yn,.int .i64 yd]] W fun e w'=>e = .returned (.tuple #[.agg #[.int .i64 un,.int .i64 ud],.bool true])∧Below W.heap.size W w'):=fun W=>by
      have:=addExact_any p c h tn yn s td yd W hs1 hs6 HT.out hyv;rw[hadd]at this;exact this
     go_wp2_with (fail)
     have HU2:Hid (Fr w ((U.setCell ⟨bb,0,none⟩ (.int .i64 yn)).setCell ⟨bb,1,none⟩ (.int .i64 yd)) [[.int .i64 p,.int .i64 c,.int .i64 h,.int .i64 s],[.int .i64 0,.int .i64 0],[.int .i64 tn,.int .i64 td]]):=(HU.out.setOut (by simp only[List.length_cons,List.length_nil];omega)).setOut (by simp only[List.length_cons,List.length_nil];omega)
     have xw2:=Lib.hid (stw (v:=.int .i64 yd) (i:=1) (stw (v:=.int .i64 yn) (i:=0) xw.out xbw) xbw);clear HU x0 x1 x0' x1' xz xw;clear z0 c00 f00 c01 f01 c02 f02 c03 f03 z1 c10 f10 c11 f11 z2 c20 f20 c21 f21;generalize (U.setCell ⟨bb,0,none⟩ (.int .i64 yn)).setCell ⟨bb,1,none⟩ (.int .i64 yd)=U2 at *
     refine (more_first (AD.out _)).mono ?_
     rintro e w' ⟨rfl,t,rfl⟩
     have HZ:=Lib.hid (HU2.out.more t);have xw3:=Lib.hid (blw (t:=t) xw2.out (Nat.le_refl _));clear HU2 xw2;generalize more U2 t=Z at *;obtain⟨z0,c00,f00,c01,f01,c02,f02,c03,f03,z1,c10,f10,c11,f11,z2,c20,f20,c21,f21⟩:=HZ.out.xf1
     go_wp2_with (fail)
     have hF0:Frm S wr Z:=Frm.of_below' S (by have h1:=hbW.out;rw[← hrb.out]at h1;exact h1.trans (xw3.out.mono h1.size))
     have hF1:Frm S wr ((Z.setCell ⟨w.heap.size+1+1,0,none⟩ (.int .i64 un)).setCell ⟨w.heap.size+1+1,1,none⟩ (.int .i64 ud)):=
      (hF0.trans ((Frm.set _ _ _ _).mono (fun q hq=>by rw[HSS.out];subst hq;show _∧_;omega))).trans ((Frm.set _ _ _ _).mono (fun q hq=>by rw[HSS.out];subst hq;show _∧_;omega))
     have hF2:=hF1.alloc (.cells #[.int .i64 un,.int .i64 ud] 35)
     refine⟨⟨k+1,un,ud,by omega,by simp,HR,?_,⟨hRE.out.1.frm hF2,hRE.out.2.frm hF2⟩⟩,by simp[intOf];omega⟩
     exact ((HZ.out.set 2 0 rfl rfl _).set 2 1 rfl rfl _).alloc _
  ·have hkn:k=n:=by omega
   subst hkn
   have hse:=sum_end (by rw[HXL.out,hn]) (by rw[hn];exact hsum.out)
   rcases hm:meanE (sq s) (rollsN s) xs with _|⟨m,d⟩
   ·have MK:Hid (∀W:World,Calls Tryz.prog 207 #[.agg #[.int .i64 p,.int .i64 c,.int .i64 h,.int .i64 s],.int .i64 tn,.int .i64 ((td:Int)+1)] W fun e w'=>e = .returned (.tuple #[.agg #[.int .i64 0,.int .i64 0],.bool false])∧Below W.heap.size W w'):=fun W=>by
     have:=makeExact_any p c h tn s (td+1) W hs1 hs6 (by omega) (by omega) (by omega)
     rw[← show meanE (sq s) (rollsN s) xs=mk (sq s) tn (td+1) from hse,hm]at this;exact this
    go_wp2_with (fail)
    refine (more_first (MK.out _)).mono ?_
    rintro e w' ⟨rfl,t,rfl⟩
    have HZ:=Lib.hid (HFr.out.more t);clear z0 c00 f00 c01 f01 c02 f02 c03 f03 z1 c10 f10 c11 f11 z2 c20 f20 c21 f21;generalize more wr t=Z at *;obtain⟨z0,c00,f00,c01,f01,c02,f02,c03,f03,z1,c10,f10,c11,f11,z2,c20,f20,c21,f21⟩:=HZ.out.xf1
    go_wp2_with (fail)
    refine bodyPost_ret (v:=.tuple #[.agg #[.int .i64 0,.int .i64 0],.bool false]) (by simp[results,Tryz.results196,go_sem,c10,c11,z1,f10,f11]) rfl (RetE.mkN hm ?_)
    repeat (first|exact HZ.out.b|refine stw ?_ (by omega)|refine alw ?_ (by omega))
   ·have MK:Hid (∀W:World,Calls Tryz.prog 207 #[.agg #[.int .i64 p,.int .i64 c,.int .i64 h,.int .i64 s],.int .i64 tn,.int .i64 ((td:Int)+1)] W fun e w'=>e = .returned (.tuple #[.agg #[.int .i64 m,.int .i64 d],.bool true])∧Below W.heap.size W w'):=fun W=>by
     have:=makeExact_any p c h tn s (td+1) W hs1 hs6 (by omega) (by omega) (by omega)
     rw[← show meanE (sq s) (rollsN s) xs=mk (sq s) tn (td+1) from hse,hm]at this;exact this
    go_wp2_with (fail)
    refine (more_first (MK.out _)).mono ?_
    rintro e w' ⟨rfl,t,rfl⟩
    have HZ:=Lib.hid (HFr.out.more t);clear z0 c00 f00 c01 f01 c02 f02 c03 f03 z1 c10 f10 c11 f11 z2 c20 f20 c21 f21;generalize more wr t=Z at *;obtain⟨z0,c00,f00,c01,f01,c02,f02,c03,f03,z1,c10,f10,c11,f11,z2,c20,f20,c21,f21⟩:=HZ.out.xf1
    go_wp2_with (fail)
    refine bodyPost_ret (v:=.tuple #[.agg #[.int .i64 m,.int .i64 d],.bool true]) (by simp[results,Tryz.results196,go_sem,c10,c11,z1,f10,f11]) rfl (RetE.mkY hm ?_)
    repeat (first|exact HZ.out.b|refine stw ?_ (by omega)|refine alw ?_ (by omega))
end Go.Proofs.YtkaiilmgemaljaaGreat

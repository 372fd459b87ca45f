/- Contracts of the draws' source of numbers. There are no conditions beyond those that each states. -/
import Derived.Test.YtkaiilmgemaljaaGreatPZl
import Derived.Test.YtkaiilmgemaljaaGreatPZn
import Derived.Test.YtkaiilmgemaljaaGreatPZb
set_option linter.unusedVariables false
set_option linter.unusedSimpArgs false
namespace Go.Proofs.YtkaiilmgemaljaaGreat
open Go.RowKit
def SBy (w:World) (C:Option Addr) (n:Nat) (bs:List Int):Prop:=bs.length=n∧(0<n→∃b off,C=some ⟨b,off,none⟩∧b<w.heap.size∧∀i,i<n→w.cell? ⟨b,off+i,none⟩=some (.int .u8 (bs.getD i 0)))∧∀x∈bs,0≤x∧x≤255
theorem SBy.getD {w:World} {C:Option Addr} {n:Nat} {bs:List Int} (h:SBy w C n bs) (i:Nat):0≤bs.getD i 0∧bs.getD i 0≤255:=by
 by_cases hi:i<bs.length
 ·exact h.2.2 _ (getD_mem bs i hi)
 ·rw[List.getD_eq_getElem?_getD,List.getElem?_eq_none (by omega)];simp
structure Src (S:Nat→Prop) (W:World) (g:Nat) (C:Option Addr) (n c:Nat) (bs:List Int) (seed:Int) (at':Nat):Prop where
 cl:Cel W g [.slice C n c,.int .i64 (at':Int),.int .i64 seed]
 by':SBy W C n bs
 ne:0<n→∀b off s,C=some ⟨b,off,s⟩→b≠g∧¬S b
 g':¬S g
 s0:0≤seed
 s1:seed≤2147483646
 a:at'≤n
 n':n≤4096
theorem SBy.frm {S:Nat→Prop} {w w':World} {C:Option Addr} {n:Nat} {bs:List Int} (h:SBy w C n bs) (hf:Frm S w w') (hn:0<n→∀b off s,C=some ⟨b,off,s⟩→¬S b):SBy w' C n bs:=by
 refine⟨h.1,fun h0=>?_,h.2.2⟩
 obtain⟨b,off,hA,hlt,hc⟩:=h.2.1 h0
 exact⟨b,off,hA,Nat.lt_of_lt_of_le hlt hf.size,fun i hi=>hf.cell' (hc i hi) (hn h0 b off none hA)⟩
theorem Src.frm {S:Nat→Prop} {W W':World} {g:Nat} {C:Option Addr} {n c:Nat} {bs:List Int} {seed:Int} {at':Nat} (h:Src S W g C n c bs seed at') (hf:Frm S W W'):Src S W' g C n c bs seed at':=
 ⟨⟨Nat.lt_of_lt_of_le h.cl.lt hf.size,fun i x hx=>hf.cell' (h.cl.cell i x hx) h.g',fun i x hx=>(frm_froz hf h.cl.lt h.g').trans (h.cl.froz i x hx)⟩,h.by'.frm hf fun h0 b off s hA=>(h.ne h0 b off s hA).2,h.ne,h.g',h.s0,h.s1,h.a,h.n'⟩
theorem Src.below {S:Nat→Prop} {W W':World} {g:Nat} {C:Option Addr} {n c:Nat} {bs:List Int} {seed:Int} {at':Nat} (h:Src S W g C n c bs seed at') (hb:Below W.heap.size W W'):Src S W' g C n c bs seed at':=h.frm (Frm.of_below' S hb)
def seedF (seed:Int):Int:=(seed*48271+17) % 2147483647
theorem seedF_bd {seed:Int}:0≤seedF seed∧seedF seed≤2147483646:=by unfold seedF;omega
def nextX (bs:List Int) (seed:Int) (at':Nat) (n:Int):Int:=if n≤1 then 0 else if at'<bs.length then (if n≤256∧(at'+1) % 2=0 then bs.getD at' 0 % n else (seedF seed / 11+bs.getD at' 0) % n) else seedF seed / 11 % n
def nextS (seed n:Int):Int:=if n≤1 then seed else seedF seed
def nextA (bs:List Int) (at':Nat) (n:Int):Nat:=if n≤1 then at' else if at'<bs.length then at'+1 else at'
theorem nextX_bd (bs:List Int) (seed:Int) (at':Nat) (n:Int):0≤nextX bs seed at' n∧(nextX bs seed at' n<n∨nextX bs seed at' n=0):=by
 unfold nextX
 split
 ·omega
 ·rename_i h
  have key:∀x:Int,0≤x % n∧x % n<n:=fun x=>⟨Int.emod_nonneg x (by omega),Int.emod_lt_of_pos x (by omega)⟩
  split
  ·split
   ·exact⟨(key _).1,.inl (key _).2⟩
   ·exact⟨(key _).1,.inl (key _).2⟩
  ·exact⟨(key _).1,.inl (key _).2⟩
set_option maxRecDepth 100000 in
set_option maxHeartbeats 1000000 in
theorem l01Next_any (S:Nat→Prop) (g:Nat) (C:Option Addr) (n c:Nat) (bs:List Int) (seed:Int) (at':Nat) (k:Int) (hk:k≤1000000) (W:World) (h:Src S W g C n c bs seed at'):
  Calls Tryz.prog 154 #[.pointer (some ⟨g,0,none⟩),.int .i64 k] W fun e W'=>e = .returned (.int .i64 (nextX bs seed at' k))∧Src S W' g C n c bs (nextS seed k) (nextA bs at' k)∧Frm (fun j=>j=g) W W':=by
 have H:=Lib.hid h;have c0:=h.cl.cell 0 _ rfl;have c1:=h.cl.cell 1 _ rfl;have c2:=h.cl.cell 2 _ rfl;have f1:=h.cl.froz 1 _ rfl;have f2:=h.cl.froz 2 _ rfl;have z0:=h.cl.lt;have s0:=h.s0;have s1:=h.s1;have a0:=h.a;have n0:=h.n'
 have hl:=h.by'.1
 obtain⟨q0,q1⟩:=seedF_bd (seed:=seed);have hE:(seed*48271+17) % 2147483647=seedF seed:=rfl;clear h
 by_cases hk1:k≤1
 ·have HR:Hid (nextX bs seed at' k=0):=by unfold Hid nextX;rw[if_pos hk1]
  have HR2:Hid (Src S W g C n c bs (nextS seed k) (nextA bs at' k)):=by unfold Hid nextS nextA;rw[if_pos hk1,if_pos hk1];exact H.out
  go_enter Tryz.func154,Tryz.ntmps154
  go_wp2_with (fail)
  go_ret
  exact⟨by rw[HR.out];rfl,HR2.out,Frm.refl _ _⟩
 ·have hS2:Hid (nextS seed k=seedF seed):=by unfold Hid nextS;rw[if_neg hk1]
  have hF2:Frm (fun j=>j=g) W (W.setCell ⟨g,2,none⟩ (.int .i64 (seedF seed))):=Frm.set W g 2 _
  have hC2:Cel (W.setCell ⟨g,2,none⟩ (.int .i64 (seedF seed))) g [.slice C n c,.int .i64 (at':Int),.int .i64 (seedF seed)]:=H.out.cl.st (i:=2) (by simp)
  have hB2:SBy (W.setCell ⟨g,2,none⟩ (.int .i64 (seedF seed))) C n bs:=H.out.by'.frm hF2 fun h0 b off s hA=>(H.out.ne h0 b off s hA).1
  have HF2:=Lib.hid hF2;have HC2:=Lib.hid hC2;have HB2:=Lib.hid hB2;clear hF2 hC2 hB2
  by_cases hlt:at'<n
  ·have hli:(at':Int)<(n:Int):=by omega
   have HA2:Hid (nextA bs at' k=at'+1):=by unfold Hid nextA;rw[if_neg hk1,if_pos (by omega)]
   have HX:Hid (nextX bs seed at' k=if k≤256∧(at'+1) % 2=0 then bs.getD at' 0 % k else (seedF seed / 11+bs.getD at' 0) % k):=by unfold Hid nextX;rw[if_neg hk1,if_pos (by omega)]
   have hx:=H.out.by'.getD at'
   obtain⟨b,off,rfl,hzb,hcb⟩:=H.out.by'.2.1 (by omega)
   have hb0:=hcb at' hlt
   have hbg:=(H.out.ne (by omega) b off none rfl).1
   have hgb:¬g=b:=fun h=>hbg h.symm
   have HW3:Hid (∀q,Src S { (W.setCell ⟨g,2,none⟩ (.int .i64 (seedF seed))).setCell ⟨g,1,none⟩ (.int .i64 (at'+1:Int)) with drawn:=q } g (some ⟨b,off,none⟩) n c bs (nextS seed k) (nextA bs at' k)∧Frm (fun j=>j=g) W { (W.setCell ⟨g,2,none⟩ (.int .i64 (seedF seed))).setCell ⟨g,1,none⟩ (.int .i64 (at'+1:Int)) with drawn:=q }):=by
    intro q
    have h1:=HC2.out.st (i:=1) (v:=.int .i64 (at'+1:Int)) (by simp)
    have h2:=Frm.set (W.setCell ⟨g,2,none⟩ (.int .i64 (seedF seed))) g 1 (.int .i64 (at'+1:Int))
    have h3:=HB2.out.frm h2 fun h0 b off s hA=>(H.out.ne h0 b off s hA).1
    have h4:=HF2.out.trans h2;rw[hS2.out,HA2.out]
    exact⟨⟨⟨h1.lt,h1.cell,h1.froz⟩,h3,H.out.ne,H.out.g',q0,q1,by omega,n0⟩,⟨h4.os,h4.tape,h4.output,h4.size,h4.block⟩⟩
   clear hcb;generalize bs.getD at' 0=x at *;obtain⟨hx0,hx1⟩:=hx
   have hm:=Int.emod_emod_of_dvd ((at':Int)+1) (by decide:(2:Int) ∣ 2)
   by_cases h256:k≤256
   ·by_cases hev:(at'+1) % 2=0
    ·have hevi:((at':Int)+1) % 2=0:=by omega
     have HR:Hid (nextX bs seed at' k=x % k):=by unfold Hid;rw[HX.out,if_pos ⟨h256,hev⟩]
     clear hm
     go_enter Tryz.func154,Tryz.ntmps154
     go_wp2_with (fail)
     go_quiet (fail)
     go_wp2_with (fail)
     go_quiet (fail)
     go_wp2_with (fail)
     go_quiet (fail)
     go_wp2_with (fail)
     go_ret
     exact⟨by rw[HR.out];rfl,HW3.out _⟩
    ·have hevi:¬((at':Int)+1) % 2=0:=by omega
     have HR:Hid (nextX bs seed at' k=(seedF seed / 11+x) % k):=by unfold Hid;rw[HX.out,if_neg fun h=>hev h.2]
     clear hm
     go_enter Tryz.func154,Tryz.ntmps154
     go_wp2_with (fail)
     go_quiet (fail)
     go_wp2_with (fail)
     go_quiet (fail)
     go_wp2_with (fail)
     go_ret
     exact⟨by rw[HR.out];rfl,HW3.out _⟩
   ·have HR:Hid (nextX bs seed at' k=(seedF seed / 11+x) % k):=by unfold Hid;rw[HX.out,if_neg fun h=>h256 h.1]
    clear hm
    go_enter Tryz.func154,Tryz.ntmps154
    go_wp2_with (fail)
    go_quiet (fail)
    go_wp2_with (fail)
    go_quiet (fail)
    go_wp2_with (fail)
    go_ret
    exact⟨by rw[HR.out];rfl,HW3.out _⟩
  ·have hge:¬(at':Int)<(n:Int):=by omega
   have HA2:Hid (nextA bs at' k=at'):=by unfold Hid nextA;rw[if_neg hk1,if_neg (by omega)]
   have HR:Hid (nextX bs seed at' k=seedF seed / 11 % k):=by unfold Hid nextX;rw[if_neg hk1,if_neg (by omega)]
   have HW3:Hid (∀q,Src S { W.setCell ⟨g,2,none⟩ (.int .i64 (seedF seed)) with drawn:=q } g C n c bs (nextS seed k) (nextA bs at' k)∧Frm (fun j=>j=g) W { W.setCell ⟨g,2,none⟩ (.int .i64 (seedF seed)) with drawn:=q }):=by
    intro q
    rw[hS2.out,HA2.out]
    exact⟨⟨⟨HC2.out.lt,HC2.out.cell,HC2.out.froz⟩,HB2.out,H.out.ne,H.out.g',q0,q1,a0,n0⟩,⟨HF2.out.os,HF2.out.tape,HF2.out.output,HF2.out.size,HF2.out.block⟩⟩
   go_enter Tryz.func154,Tryz.ntmps154
   go_wp2_with (fail)
   go_quiet (fail)
   go_wp2_with (fail)
   go_ret
   exact⟨by rw[HR.out];rfl,HW3.out _⟩
def SrcG (W:World) (g:Nat) (C:Option Addr) (n c:Nat) (bs:List Int) (q:Int×Nat):Prop:=Src (fun k=>g<k) W g C n c bs q.1 q.2
def nx (bs:List Int) (q:Int×Nat) (n:Int):Int:=nextX bs q.1 q.2 n
def ns (bs:List Int) (q:Int×Nat) (n:Int):Int×Nat:=(nextS q.1 n,nextA bs q.2 n)
theorem nx_bd (bs:List Int) (q:Int×Nat) (n:Int):0≤nx bs q n∧(nx bs q n<n∨nx bs q n=0):=nextX_bd bs q.1 q.2 n
section
variable {W W':World} {g:Nat} {C:Option Addr} {n c:Nat} {bs:List Int} {q:Int×Nat}
theorem next_any (h:SrcG W g C n c bs q) {k:Int} (hk:k≤1000000):
  Calls Tryz.prog 154 #[.pointer (some ⟨g,0,none⟩),.int .i64 k] W fun e W'=>e = .returned (.int .i64 (nx bs q k))∧SrcG W' g C n c bs (ns bs q k)∧Frm (fun j=>j=g) W W':=
 l01Next_any _ g C n c bs q.1 q.2 k hk W h
theorem SrcG.below (h:SrcG W g C n c bs q) (hb:Below W.heap.size W W'):SrcG W' g C n c bs q:=Src.below h hb
theorem SrcG.alloc (h:SrcG W g C n c bs q) (o:Obj):SrcG (W.alloc o) g C n c bs q:=h.below (Bel.alloc W o)
theorem SrcG.set (h:SrcG W g C n c bs q) {b i:Nat} (hb:g<b) (v:Value):SrcG (W.setCell ⟨b,i,none⟩ v) g C n c bs q:=Src.frm h ((Frm.set W b i v).mono fun k hk=>by rw[hk];exact hb)
theorem SrcG.frm {O:Nat→Prop} (h:SrcG W g C n c bs q) (hf:Frm O W W') (hO:∀k,O k→g<k):SrcG W' g C n c bs q:=Src.frm h (hf.mono hO)
theorem SrcG.lt (h:SrcG W g C n c bs q):g<W.heap.size:=h.cl.lt
end
def seedK (bs:List Int) (k:Nat):Int:=(bs.take k).foldl (fun s b=>(s*43+b) % 2147483647) 24157
theorem seedK_succ {bs:List Int} {k:Nat} (h:k<bs.length):seedK bs (k+1)=(seedK bs k*43+bs.getD k 0) % 2147483647:=by
 unfold seedK;rw[take_snoc_getD bs 0 h,List.foldl_append]
 rfl
theorem seedK_bd (bs:List Int) (hb:∀i,0≤bs.getD i 0):∀k,k≤bs.length→0≤seedK bs k∧seedK bs k≤2147483646
 | 0,_=>by unfold seedK;simp
 | k+1,h=>by rw[seedK_succ (by omega)];omega
set_option maxRecDepth 100000 in
theorem l01From_any (C:Option Addr) (n c:Nat) (bs:List Int) (W:World) (h:SBy W C n bs) (hn:n≤4096):
  Calls Tryz.prog 72 #[.slice C n c] W fun e W'=>e = .returned (.pointer (some ⟨W.heap.size,0,none⟩))∧SrcG W' W.heap.size C n c bs (seedK bs 64,0)∧Below W.heap.size W W':=by
 have H:=Lib.hid h;have hl:=h.1
 have HNE:Hid (0<n→∀b off s,C=some ⟨b,off,s⟩→b<W.heap.size):=fun h0 b off s hA=>by
  obtain⟨b',off',hA',hlt,_⟩:=h.2.1 h0;rw[hA]at hA';injection hA' with hA';injection hA' with h1
  omega
 have HBD:=Lib.hid (seedK_bd bs fun i=>(h.getD i).1)
 have HC0:Hid (Cel (W.alloc (.cells #[.slice C n c,.int .i64 0,.int .i64 24157] 184)) W.heap.size [.slice C n c,.int .i64 0,.int .i64 (seedK bs 0)]):=Cel.new W #[.slice C n c,.int .i64 0,.int .i64 24157] _;have HB0:Hid (Below W.heap.size W (W.alloc (.cells #[.slice C n c,.int .i64 0,.int .i64 24157] 184))):=Bel.alloc W _;clear h
 go_enter Tryz.func72,Tryz.ntmps72
 go_wp2_with (fail)
 go_loopw [4] (fun v4 wr=>∃k:Nat,k≤n∧k≤64∧v4 = .int .i64 k∧Hid (Cel wr W.heap.size [.slice C n c,.int .i64 0,.int .i64 (seedK bs k)])∧Hid (Below W.heap.size W wr)) (fun v4 _=>n-(intOf v4).toNat)
 case atStart=>exact⟨0,by omega,by omega,rfl,HC0.out,HB0.out⟩
 case round=>
  clear HC0 HB0;obtain⟨k,hk,hk64,rfl,HC,HB⟩:=hrel
  have hbd:=HBD.out k (by omega)
  by_cases hlt:k<n
  ·have hki:(k:Int)<(n:Int):=by omega
   by_cases h64:k<64
   ·have h64i:(k:Int)<64:=by omega
    have HS:=Lib.hid (seedK_succ (bs:=bs) (k:=k) (by omega))
    have hx:=H.out.getD k
    obtain⟨b,off,rfl,hzb,hcb⟩:=H.out.2.1 (by omega)
    have hb0:wr.cell? ⟨b,off+k,none⟩=some (.int .u8 (bs.getD k 0)):=keep_cell (hcb k hlt) HB.out;have hbz:b<wr.heap.size:=Nat.lt_of_lt_of_le hzb HB.out.size;have c0:=HC.out.cell 0 _ rfl;have c2:=HC.out.cell 2 _ rfl;have f2:=HC.out.froz 2 _ rfl;have z0:=HC.out.lt;clear hcb;generalize bs.getD k 0=x at *;generalize seedK bs k=sd at *
    go_wp2_with (fail)
    refine wp_region_tail_more 15 (by kernel_rfl) (by kernel_rfl) ?_
    simp only[List.take_succ_cons,List.take_zero,List.drop_succ_cons,List.drop_zero]
    repeat (first|go_big_quiet_step (fail)|quiet_step (fail))
    refine wpQuiet_nil ?_
    intro _ hw'
    obtain⟨tr,hw''⟩:=hw';subst hw'';have HC2:=Lib.hid (HC.out.below (below_more wr tr));have HB2:=Lib.hid (HB.out.trans ((below_more wr tr).mono HB.out.size));clear hb0 hbz c0 c2 f2 z0 HC HB;generalize more wr tr=Z at *;have c0:=HC2.out.cell 0 _ rfl;have c2:=HC2.out.cell 2 _ rfl;have f2:=HC2.out.froz 2 _ rfl;have z0:=HC2.out.lt
    go_wp2_with (fail)
    have HC3:Hid (Cel (Z.setCell ⟨W.heap.size,2,none⟩ (.int .i64 (seedK bs (k+1)))) W.heap.size [.slice (some ⟨b,off,none⟩) n c,.int .i64 0,.int .i64 (seedK bs (k+1))]):=HC2.out.st (i:=2) (by simp)
    have HB3:Hid (Below W.heap.size W (Z.setCell ⟨W.heap.size,2,none⟩ (.int .i64 (seedK bs (k+1))))):=HB2.out.setCell (by simp) _
    rw[HS.out]at HC3 HB3
    go_roundw
    case rel=>exact⟨k+1,by omega,by omega,by go_num,by rw[HS.out];exact HC3.out,HB3.out⟩
    case measure=>(simp[intOf])<;>omega
   ·have h64i:¬(k:Int)<64:=by omega
    have hk4:k=64:=by omega
    have HR:Hid (SrcG wr W.heap.size C n c bs (seedK bs 64,0)):=by
     subst hk4
     exact⟨HC.out,H.out.frm (S:=fun _=>False) (Frm.of_below' _ HB.out) (fun _ _ _ _ _ h=>h),fun h0 b off s hA=>⟨by have:=HNE.out h0 b off s hA;omega,by have:=HNE.out h0 b off s hA;omega⟩,by omega,hbd.1,hbd.2,Nat.zero_le _,hn⟩
    go_wp2_with (fail)
    go_ret
    exact⟨rfl,HR.out,HB.out⟩
  ·have hki:¬(k:Int)<(n:Int):=by omega
   have HR:Hid (SrcG wr W.heap.size C n c bs (seedK bs 64,0)):=by
    have he:seedK bs 64=seedK bs k:=by unfold seedK;rw[List.take_of_length_le (by omega:bs.length≤64),List.take_of_length_le (by omega:bs.length≤k)]
    rw[he]
    exact⟨HC.out,H.out.frm (S:=fun _=>False) (Frm.of_below' _ HB.out) (fun _ _ _ _ _ h=>h),fun h0 b off s hA=>⟨by have:=HNE.out h0 b off s hA;omega,by have:=HNE.out h0 b off s hA;omega⟩,by omega,hbd.1,hbd.2,Nat.zero_le _,hn⟩
   go_wp2_with (fail)
   go_ret
   exact⟨rfl,HR.out,HB.out⟩
end Go.Proofs.YtkaiilmgemaljaaGreat

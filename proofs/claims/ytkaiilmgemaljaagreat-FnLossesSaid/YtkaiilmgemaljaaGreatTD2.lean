/- Part of one proof. There are no conditions. -/
import Derived.Test.YtkaiilmgemaljaaGreatTD1
import Derived.Test.YtkaiilmgemaljaaGreatTZn
set_option linter.unusedVariables false
set_option linter.unusedSimpArgs false
set_option maxRecDepth 100000
namespace Go.Proofs.YtkaiilmgemaljaaGreat
open Go.RowKit
def SrcG (W:World) (g:Nat) (C:Option Addr) (n c:Nat) (bs:List Int) (q:Int×Nat):Prop:=Src (fun k=>g<k) W g C n c bs q.1 q.2
def nx (bs:List Int) (q:Int×Nat) (n:Int):Int:=nextX bs q.1 q.2 n
def ns (bs:List Int) (q:Int×Nat) (n:Int):Int×Nat:=(nextS q.1 n,nextA bs q.2 n)
theorem nx_bd (bs:List Int) (q:Int×Nat) (n:Int):0<=nx bs q n/\(nx bs q n<n\/nx bs q n=0):=nextX_bd bs q.1 q.2 n
section
variable {W W':World} {g:Nat} {C:Option Addr} {n c:Nat} {bs:List Int} {q:Int×Nat}
theorem bB (h:SrcG W g C n c bs q) {k:Int} (hk:k<=1000000):
  Calls Tryz.prog 154 #[.pointer (some ⟨g,0,none⟩),.int .i64 k] W fun e W'=>e = .returned (.int .i64 (nx bs q k))/\SrcG W' g C n c bs (ns bs q k)/\Frm (fun j=>j=g) W W':=
 l01Next_any _ g C n c bs q.1 q.2 k hk W h
theorem SrcG.below (h:SrcG W g C n c bs q) (hb:Below W.heap.size W W'):SrcG W' g C n c bs q:=Src.below h hb
theorem SrcG.alloc (h:SrcG W g C n c bs q) (o:Obj):SrcG (W.alloc o) g C n c bs q:=h.below (Bel.alloc W o)
theorem SrcG.set (h:SrcG W g C n c bs q) {b i:Nat} (hb:g<b) (v:Value):SrcG (W.setCell ⟨b,i,none⟩ v) g C n c bs q:=Src.frm h ((Frm.set W b i v).mono fun k hk=>by rw[hk];exact hb)
theorem SrcG.frm {O:Nat->Prop} (h:SrcG W g C n c bs q) (hf:Frm O W W') (hO:∀k,O k->g<k):SrcG W' g C n c bs q:=Src.frm h (hf.mono hO)
theorem SrcG.lt (h:SrcG W g C n c bs q):g<W.heap.size:=h.cl.lt
end
def seedK (bs:List Int) (k:Nat):Int:=(bs.take k).foldl (fun s b=>(s*43+b) % 2147483647) 24157
theorem iS {bs:List Int} {k:Nat} (h:k<bs.length):seedK bs (k+1)=(seedK bs k*43+bs.getD k 0) % 2147483647:=by
 unfold seedK;rw[ar bs 0 h,List.foldl_append]
 rfl
theorem seedK_bd (bs:List Int) (hb:∀i,0<=bs.getD i 0):∀k,k<=bs.length->0<=seedK bs k/\seedK bs k<=2147483646
 | 0,_=>by unfold seedK;simp
 | k+1,h=>by rw[iS (by omega)];omega
theorem l01From_any (C:Option Addr) (n c:Nat) (bs:List Int) (W:World) (h:SBy W C n bs) (hn:n<=4096):
  Calls Tryz.prog 72 #[.slice C n c] W fun e W'=>e = .returned (.pointer (some ⟨W.heap.size,0,none⟩))/\SrcG W' W.heap.size C n c bs (seedK bs 64,0)/\Below W.heap.size W W':=by
 have H:=h_ h;have hl:=h.1
 have HNE:Hid (0<n->∀b off s,C=some ⟨b,off,s⟩->b<W.heap.size):=fun h0 b off s hA=>by
  obtain⟨b',off',hA',hlt,_⟩:=h.2.1 h0;rw[hA]at hA';injection hA' with hA';injection hA' with h1
  omega
 have HBD:=h_ (seedK_bd bs fun i=>(h.getD i).1)
 have HC0:Hid (Cel (W.alloc (.cells #[.slice C n c,.int .i64 0,.int .i64 24157] 184)) W.heap.size [.slice C n c,.int .i64 0,.int .i64 (seedK bs 0)]):=Cel.new W #[.slice C n c,.int .i64 0,.int .i64 24157] _;have HB0:Hid (Below W.heap.size W (W.alloc (.cells #[.slice C n c,.int .i64 0,.int .i64 24157] 184))):=Bel.alloc W _;clear h
 go_enter Tryz.func72,Tryz.ntmps72
 go_wp2_with (fail)
 go_loopw [4] (fun v4 wr=>∃k:Nat,k<=n/\k<=64/\v4 = .int .i64 k/\Hid (Cel wr W.heap.size [.slice C n c,.int .i64 0,.int .i64 (seedK bs k)])/\Hid (Below W.heap.size W wr)) (fun v4 _=>n-(intOf v4).toNat)
 case atStart=>exact⟨0,by omega,by omega,rfl,HC0.out,HB0.out⟩
 case round=>
  clear HC0 HB0;obtain⟨k,hk,hk64,rfl,HC,HB⟩:=hrel
  have hbd:=HBD.out k (by omega)
  by_cases hlt:k<n
  ·have hki:(k:Int)<(n:Int):=by omega
   by_cases h64:k<64
   ·have h64i:(k:Int)<64:=by omega
    have HS:=h_ (iS (bs:=bs) (k:=k) (by omega))
    have hx:=H.out.getD k
    obtain⟨b,off,rfl,hzb,hcb⟩:=H.out.2.1 (by omega)
    have hb0:wr.cell? ⟨b,off+k,none⟩=some (.int .u8 (bs.getD k 0)):=ag (hcb k hlt) HB.out;have hbz:b<wr.heap.size:=Nat.lt_of_lt_of_le hzb HB.out.size;have c0:=HC.out.cell 0 _ rfl;have c2:=HC.out.cell 2 _ rfl;have f2:=HC.out.froz 2 _ rfl;have z0:=HC.out.lt;clear hcb;generalize bs.getD k 0=x at *;generalize seedK bs k=sd at *
    go_wp2_with (fail)
    refine ai 15 (by kernel_rfl) (by kernel_rfl) ?_
    simp only[List.take_succ_cons,List.take_zero,List.drop_succ_cons,List.drop_zero]
    repeat (first|go_big_quiet_step (fail)|quiet_step (fail))
    refine wpQuiet_nil ?_
    intro _ hw'
    obtain⟨tr,hw''⟩:=hw';subst hw'';have HC2:=h_ (HC.out.below (aa wr tr));have HB2:=h_ (HB.out.trans ((aa wr tr).mono HB.out.size));clear hb0 hbz c0 c2 f2 z0 HC HB;generalize more wr tr=Z at *;have c0:=HC2.out.cell 0 _ rfl;have c2:=HC2.out.cell 2 _ rfl;have f2:=HC2.out.froz 2 _ rfl;have z0:=HC2.out.lt
    go_wp2_with (fail)
    have HC3:Hid (Cel (Z.setCell ⟨W.heap.size,2,none⟩ (.int .i64 (seedK bs (k+1)))) W.heap.size [.slice (some ⟨b,off,none⟩) n c,.int .i64 0,.int .i64 (seedK bs (k+1))]):=HC2.out.st (i:=2) (by simp)
    have HB3:Hid (Below W.heap.size W (Z.setCell ⟨W.heap.size,2,none⟩ (.int .i64 (seedK bs (k+1))))):=HB2.out.setCell (by simp) _
    rw[HS.out]at HC3 HB3
    go_roundw
    case rel=>exact⟨k+1,by omega,by omega,by go_num,by rw[HS.out];exact HC3.out,HB3.out⟩
    case measure=>(simp[intOf])<;>omega
   ·have h64i:¬(k:Int)<64:=by omega
    have hk4:k=64:=by omega
    have HR:Hid (SrcG wr W.heap.size C n c bs (seedK bs 64,0)):=by
     subst hk4
     exact⟨HC.out,H.out.frm (S:=fun _=>False) (Frm.of_below' _ HB.out) (fun _ _ _ _ _ h=>h),fun h0 b off s hA=>⟨by have:=HNE.out h0 b off s hA;omega,by have:=HNE.out h0 b off s hA;omega⟩,by omega,hbd.1,hbd.2,Nat.zero_le _,hn⟩
    go_wp2_with (fail)
    go_ret
    exact⟨rfl,HR.out,HB.out⟩
  ·have hki:¬(k:Int)<(n:Int):=by omega
   have HR:Hid (SrcG wr W.heap.size C n c bs (seedK bs 64,0)):=by
    have he:seedK bs 64=seedK bs k:=by unfold seedK;rw[List.take_of_length_le (by omega:bs.length<=64),List.take_of_length_le (by omega:bs.length<=k)]
    rw[he]
    exact⟨HC.out,H.out.frm (S:=fun _=>False) (Frm.of_below' _ HB.out) (fun _ _ _ _ _ h=>h),fun h0 b off s hA=>⟨by have:=HNE.out h0 b off s hA;omega,by have:=HNE.out h0 b off s hA;omega⟩,by omega,hbd.1,hbd.2,Nat.zero_le _,hn⟩
   go_wp2_with (fail)
   go_ret
   exact⟨rfl,HR.out,HB.out⟩
end Go.Proofs.YtkaiilmgemaljaaGreat

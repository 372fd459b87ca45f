/- Contracts of the laws' own dice. There are no conditions beyond those that each states. -/
import Derived.Test.YtkaiilmgemaljaaGreatPD2
import Derived.Laws.Bits64b
set_option linter.unusedVariables false
set_option linter.unusedSimpArgs false
namespace Go.Proofs.YtkaiilmgemaljaaGreat
open Go.RowKit
theorem mask24_bd {x:Int} (h0:0≤x) (h1:x<18446744073709551616):0≤bits .and .u64 x 16777215∧bits .and .u64 x 16777215<16777216:=by
 obtain⟨k,rfl⟩:=Int.eq_ofNat_of_zero_le h0
 have h:=bits_and_u64_nat k 16777215 (by omega) (by omega)
 have e:((16777215:Nat):Int)=16777215:=rfl;have e2:k &&& 16777215=k % 16777216:=Nat.and_two_pow_sub_one_eq_mod k 24;rw[e]at h;rw[h,e2]
 omega
theorem SBy.bel {W W':World} {C:Option Addr} {n:Nat} {bs:List Int} (h:SBy W C n bs) (hb:Below W.heap.size W W'):SBy W' C n bs:=h.frm (S:=fun _=>False) (Frm.of_below' _ hb) (fun _ _ _ _ _ h=>h)
set_option maxRecDepth 100000 in
set_option maxHeartbeats 1000000 in
theorem roll_any (C:Option Addr) (n c:Nat) (bs:List Int) (W:World) (h:SBy W C n bs) (hn:n≤4096):
  Calls Tryz.prog 69 #[.slice C n c,.int .u64 811] W fun e W'=>e = .returned (.pointer (some ⟨W.heap.size,0,none⟩))∧(∃u:Int,(0≤u∧u<18446744073709551616)∧Cel W' W.heap.size [.slice C n c,.int .i64 0,.int .u64 u])∧Below W.heap.size W W':=by
 have H:=Lib.hid h;have hl:=h.1;clear h
 go_enter Tryz.func69,Tryz.ntmps69
 go_wp2_with (fail)
 go_loopw [6] (fun v6 wr=>∃(k:Nat) (u:Int),k≤n∧v6 = .int .i64 k∧(0≤u∧u<18446744073709551616)∧Hid (Cel wr W.heap.size [.slice C n c,.int .i64 0,.int .u64 u])∧Hid (Below W.heap.size W wr)) (fun v6 _=>n-(intOf v6).toNat)
 case atStart=> 
  refine⟨0,_,by omega,rfl,?_,Cel.new W #[.slice C n c,.int .i64 0,.int .u64 _] _,Bel.alloc W _⟩
  omega
 case round=>
  obtain⟨k,sd,hk,rfl,hsd,HC,HB⟩:=hrel
  by_cases hlt:k<n
  ·have hki:(k:Int)<(n:Int):=by omega
   have hx:=H.out.getD k
   obtain⟨b,off,rfl,hzb,hcb⟩:=H.out.2.1 (by omega)
   have hb0:wr.cell? ⟨b,off+k,none⟩=some (.int .u8 (bs.getD k 0)):=keep_cell (hcb k hlt) HB.out;have hbz:b<wr.heap.size:=Nat.lt_of_lt_of_le hzb HB.out.size;have c0:=HC.out.cell 0 _ rfl;have c2:=HC.out.cell 2 _ rfl;have f2:=HC.out.froz 2 _ rfl;have z0:=HC.out.lt;clear hcb;generalize bs.getD k 0=x at *
   go_wp2_with (fail)
   refine wp_region_tail_more 15 (by kernel_rfl) (by kernel_rfl) ?_
   simp only[List.take_succ_cons,List.take_zero,List.drop_succ_cons,List.drop_zero]
   repeat (first|go_big_quiet_step (fail)|quiet_step (fail))
   refine wpQuiet_nil ?_
   intro _ hw'
   obtain⟨tr,hw''⟩:=hw';subst hw'';have HC2:=Lib.hid (HC.out.below (below_more wr tr));have HB2:=Lib.hid (HB.out.trans ((below_more wr tr).mono HB.out.size));clear hb0 hbz c0 c2 f2 z0 HC HB;generalize more wr tr=Z at *;have c0:=HC2.out.cell 0 _ rfl;have c2:=HC2.out.cell 2 _ rfl;have f2:=HC2.out.froz 2 _ rfl;have z0:=HC2.out.lt
   go_wp2_with (fail)
   go_roundw
   case rel=>
    refine⟨k+1,_,by omega,by go_num,?_,HC2.out.st (i:=2) (by simp),HB2.out.setCell (by simp) _⟩
    rw[IntKind.wrap_u64 (_+3)]
    omega
   case measure=>(simp[intOf])<;>omega
  ·have hki:¬(k:Int)<(n:Int):=by omega
   go_wp2_with (fail)
   go_ret
   exact⟨rfl,⟨sd,hsd,HC.out⟩,HB.out⟩
set_option maxRecDepth 100000 in
set_option maxHeartbeats 1000000 in
theorem below_any (C:Option Addr) (n c g i:Nat) (bs:List Int) (u k:Int) (W:World) (h:SBy W C n bs) (hC:Cel W g [.slice C n c,.int .i64 (i:Int),.int .u64 u]) (hne:0<n→∀b off s,C=some ⟨b,off,s⟩→b≠g) (hn:n≤4096) (hin:i≤n) (hk1:1≤k) (hk2:k≤1000000):
  Calls Tryz.prog 70 #[.pointer (some ⟨g,0,none⟩),.int .i64 k] W fun e W'=>∃x:Int,e = .returned (.int .i64 x)∧0≤x∧x<k∧(∃(i':Nat) (u':Int),i'≤n∧Cel W' g [.slice C n c,.int .i64 (i':Int),.int .u64 u'])∧Frm (fun j=>j=g) W W':=by
 have H:=Lib.hid h;have HC:=Lib.hid hC;have c0:=hC.cell 0 _ rfl;have c1:=hC.cell 1 _ rfl;have c2:=hC.cell 2 _ rfl;have f1:=hC.froz 1 _ rfl;have f2:=hC.froz 2 _ rfl;have z0:=hC.lt
 have hmod:∀x:Int,0≤x % k∧x % k<k:=fun x=>⟨Int.emod_nonneg x (by omega),Int.emod_lt_of_pos x (by omega)⟩
 have hl:=h.1;clear hC h
 by_cases hlt:i<n
 ·have hx:=H.out.getD i
  obtain⟨b,off,rfl,hzb,hcb⟩:=H.out.2.1 (by omega)
  have hb0:W.cell? ⟨b,off+i,none⟩=some (.int .u8 (bs.getD i 0)):=hcb i hlt
  have hgb:¬g=b:=fun h=>hne (by omega) b off none rfl h.symm
  have hbg:¬b=g:=fun h=>hgb h.symm
  have hli:(i:Int)<(n:Int):=by omega
  clear hcb hne;generalize bs.getD i 0=x at *
  go_enter Tryz.func70,Tryz.ntmps70
  go_wp2_with (fail)
  obtain⟨H2,hH2,h20,h21⟩:∃H2:Int,H2=IntKind.u64.wrap (IntKind.u64.wrap (u*6364136223846793005)+1442695040888963407)∧0≤H2∧H2<18446744073709551616:=⟨_,rfl,by rw[IntKind.wrap_u64 (_+1442695040888963407)];omega,by rw[IntKind.wrap_u64 (_+1442695040888963407)];omega⟩
  rw[← hH2]
  obtain⟨m0,m1⟩:=mask24_bd (x:=H2 / 8589934592) (by omega) (by omega)
  obtain⟨y,hy,hy0,hy1⟩:∃y:Int,y=wrap64 (bits .and .u64 (H2 / 8589934592) 16777215)∧0≤y∧y<16777216:=⟨_,rfl,by unfold wrap64;omega,by unfold wrap64;omega⟩
  rw[← hy];clear hH2 hy m0 m1
  go_quiet (fail)
  go_wp2_with (fail)
  go_quiet (fail)
  go_wp2_with (fail)
  go_ret
  exact⟨_,rfl,(hmod _).1,(hmod _).2,⟨i+1,H2,by omega,((HC.out.st (i:=2) (v:=.int .u64 H2) (by simp)).below (below_drewN' (Below.refl _ _) _)).st (i:=1) (v:=.int .i64 ((i+1:Nat):Int)) (by simp)⟩,((Frm.set _ _ _ _).drewN _).trans (Frm.set _ _ _ _)⟩
 ·have hli:¬(i:Int)<(n:Int):=by omega
  clear hne
  go_enter Tryz.func70,Tryz.ntmps70
  go_wp2_with (fail)
  obtain⟨H2,hH2,h20,h21⟩:∃H2:Int,H2=IntKind.u64.wrap (IntKind.u64.wrap (u*6364136223846793005)+1442695040888963407)∧0≤H2∧H2<18446744073709551616:=⟨_,rfl,by rw[IntKind.wrap_u64 (_+1442695040888963407)];omega,by rw[IntKind.wrap_u64 (_+1442695040888963407)];omega⟩
  rw[← hH2]
  obtain⟨m0,m1⟩:=mask24_bd (x:=H2 / 8589934592) (by omega) (by omega)
  obtain⟨y,hy,hy0,hy1⟩:∃y:Int,y=wrap64 (bits .and .u64 (H2 / 8589934592) 16777215)∧0≤y∧y<16777216:=⟨_,rfl,by unfold wrap64;omega,by unfold wrap64;omega⟩
  rw[← hy];clear hH2 hy m0 m1
  go_quiet (fail)
  go_wp2_with (fail)
  go_ret
  exact⟨_,rfl,(hmod _).1,(hmod _).2,⟨i,H2,hin,(HC.out.st (i:=2) (v:=.int .u64 H2) (by simp)).below (below_drewN' (Below.refl _ _) _)⟩,(Frm.set _ _ _ _).drewN _⟩
end Go.Proofs.YtkaiilmgemaljaaGreat

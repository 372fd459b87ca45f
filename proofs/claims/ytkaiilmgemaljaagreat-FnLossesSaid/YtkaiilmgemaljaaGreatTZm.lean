/- Part of one proof. There are no conditions. -/
import Derived.Test.YtkaiilmgemaljaaGreatTN14
import Derived.Test.YtkaiilmgemaljaaGreatTZb
import Derived.Test.YtkaiilmgemaljaaGreatTZc
set_option maxHeartbeats 0
set_option linter.unusedVariables false
set_option linter.unusedSimpArgs false
set_option maxRecDepth 10000
/- Contracts of one minus a number, the program's and the reference's. There are no conditions. -/
namespace Go.Proofs.YtkaiilmgemaljaaGreat
open Go.RowKit Ps Ra Ex
theorem cD (w:World):Calls Tryz.prog 212 #[] w fun e w'=>e = .returned (.agg #[.int .i64 1,.int .i64 0])/\Below w.heap.size w w':=by
 go_enter Tryz.func212,Tryz.ntmps212
 go_wp2
 refine bodyPost_ret (v:=.agg #[.int .i64 1,.int .i64 0]) (by simp[results,Tryz.results212,go_sem]) rfl ⟨rfl,?_⟩
 exact (Below.refl _ _).alloc (Nat.le_refl _) _
theorem oneMinus_any (p c h xn:Int) (s xd:Nat) (w:World) (hs1:1<=s) (hs6:s<=6) (hx:Val (sq s) ⟨xn,xd⟩):
  Calls Tryz.prog 181 #[.agg #[.int .i64 p,.int .i64 c,.int .i64 h,.int .i64 s],.agg #[.int .i64 xn,.int .i64 xd]] w (RetE w (oneM (sq s) ⟨xn,xd⟩)):=by
 obtain⟨hq1,hq36,_⟩:=sq_bd hs1 hs6;have hx1 : -1000000000000000000<=xn:=hx.1;have hx2:xn<=1000000000000000000:=hx.2.1;have hd50:xd<50:=aY hq1 hx
 have HF:Hid (Fr w (((w.alloc (.cells #[.int .i64 p,.int .i64 c,.int .i64 h,.int .i64 s] 25)).alloc (.cells #[.int .i64 xn,.int .i64 xd] 35)).alloc (.cells #[.int .i64 0,.int .i64 0] 35)) [[.int .i64 p,.int .i64 c,.int .i64 h,.int .i64 s],[.int .i64 xn,.int .i64 xd],[.int .i64 0,.int .i64 0]]):=
  (((Fr.start w).allocT (by simp) _ _).allocT (by simp) _ _).allocT (by simp) _ _
 rcases hm:oneM (sq s) ⟨xn,xd⟩with _|⟨m,d⟩
 focus
  have AD:Hid (∀W:World,Calls Tryz.prog 130 #[.agg #[.int .i64 p,.int .i64 c,.int .i64 h,.int .i64 s],.agg #[.int .i64 1,.int .i64 0],.agg #[.int .i64 (-xn),.int .i64 xd]] W fun e w'=>e = .returned (.tuple #[.agg #[.int .i64 0,.int .i64 0],.bool false])/\Below W.heap.size W w'):=fun W=>by
   have:=bQ p c h 1 (-xn) s 0 xd W hs1 hs6 fb (ec hx);rw[show addE (sq s) ⟨1,0⟩ ⟨-xn,xd⟩=oneM (sq s) ⟨xn,xd⟩from rfl,hm]at this;exact this
  refine ?za
 rotate_left
 focus
  have AD:Hid (∀W:World,Calls Tryz.prog 130 #[.agg #[.int .i64 p,.int .i64 c,.int .i64 h,.int .i64 s],.agg #[.int .i64 1,.int .i64 0],.agg #[.int .i64 (-xn),.int .i64 xd]] W fun e w'=>e = .returned (.tuple #[.agg #[.int .i64 m,.int .i64 d],.bool true])/\Below W.heap.size W w'):=fun W=>by
   have:=bQ p c h 1 (-xn) s 0 xd W hs1 hs6 fb (ec hx);rw[show addE (sq s) ⟨1,0⟩ ⟨-xn,xd⟩=oneM (sq s) ⟨xn,xd⟩from rfl,hm]at this;exact this
  refine ?zb
 rotate_left
 case' za|zb=>
  clear hx
  go_enter Tryz.func181,Tryz.ntmps181
  go_wp2_with (fail)
  refine (more_first (AD.out _)).mono ?_
  rintro e w' ⟨rfl,t,rfl⟩
  have HZ:=h_ (HF.out.more t);generalize more (((w.alloc (.cells #[.int .i64 p,.int .i64 c,.int .i64 h,.int .i64 s] 25)).alloc (.cells #[.int .i64 xn,.int .i64 xd] 35)).alloc (.cells #[.int .i64 0,.int .i64 0] 35)) t=Z at *;obtain⟨z0,c00,f00,c01,f01,c02,f02,c03,f03,z1,c10,f10,c11,f11,z2,c20,f20,c21,f21⟩:=HZ.out.xf2
  go_wp2_with (fail)
 case za=>
  refine bodyPost_ret (v:=.tuple #[.agg #[.int .i64 0,.int .i64 0],.bool false]) (by simp[results,Tryz.results181,go_sem,c20,c21,z2,f20,f21]) rfl (RetE.mkN rfl ?_)
  repeat (first|exact HZ.out.b|refine stw ?_ (by omega))
 case zb=>
  refine bodyPost_ret (v:=.tuple #[.agg #[.int .i64 m,.int .i64 d],.bool true]) (by simp[results,Tryz.results181,go_sem,c20,c21,z2,f20,f21]) rfl (RetE.mkY rfl ?_)
  repeat (first|exact HZ.out.b|refine stw ?_ (by omega))
theorem l12Minus_any (p c h xn:Int) (s xd:Nat) (w:World) (hs1:1<=s) (hs6:s<=6) (hx:Val (sq s) ⟨xn,xd⟩):
  Calls Tryz.prog 220 #[.agg #[.int .i64 p,.int .i64 c,.int .i64 h,.int .i64 s],.agg #[.int .i64 xn,.int .i64 xd]] w (RetE w (oneM (sq s) ⟨xn,xd⟩)):=by
 obtain⟨hq1,hq36,_⟩:=sq_bd hs1 hs6;have hx1 : -1000000000000000000<=xn:=hx.1;have hx2:xn<=1000000000000000000:=hx.2.1;have hd50:xd<50:=aY hq1 hx
 have HF:Hid (Fr w (((w.alloc (.cells #[.int .i64 p,.int .i64 c,.int .i64 h,.int .i64 s] 25)).alloc (.cells #[.int .i64 xn,.int .i64 xd] 35)).alloc (.cells #[.int .i64 0,.int .i64 0] 35)) [[.int .i64 p,.int .i64 c,.int .i64 h,.int .i64 s],[.int .i64 xn,.int .i64 xd],[.int .i64 0,.int .i64 0]]):=
  (((Fr.start w).allocT (by simp) _ _).allocT (by simp) _ _).allocT (by simp) _ _
 rcases hm:oneM (sq s) ⟨xn,xd⟩with _|⟨m,d⟩
 focus
  have AD:Hid (∀W:World,Calls Tryz.prog 136 #[.agg #[.int .i64 p,.int .i64 c,.int .i64 h,.int .i64 s],.agg #[.int .i64 1,.int .i64 0],.agg #[.int .i64 (-xn),.int .i64 xd]] W fun e w'=>e = .returned (.tuple #[.agg #[.int .i64 0,.int .i64 0],.bool false])/\Below W.heap.size W w'):=fun W=>by
   have:=cE p c h 1 (-xn) s 0 xd W hs1 hs6 fb (ec hx);rw[show addE (sq s) ⟨1,0⟩ ⟨-xn,xd⟩=oneM (sq s) ⟨xn,xd⟩from rfl,hm]at this;exact this
  refine ?za
 rotate_left
 focus
  have AD:Hid (∀W:World,Calls Tryz.prog 136 #[.agg #[.int .i64 p,.int .i64 c,.int .i64 h,.int .i64 s],.agg #[.int .i64 1,.int .i64 0],.agg #[.int .i64 (-xn),.int .i64 xd]] W fun e w'=>e = .returned (.tuple #[.agg #[.int .i64 m,.int .i64 d],.bool true])/\Below W.heap.size W w'):=fun W=>by
   have:=cE p c h 1 (-xn) s 0 xd W hs1 hs6 fb (ec hx);rw[show addE (sq s) ⟨1,0⟩ ⟨-xn,xd⟩=oneM (sq s) ⟨xn,xd⟩from rfl,hm]at this;exact this
  refine ?zb
 rotate_left
 case' za|zb=>
  clear hx
  go_enter Tryz.func220,Tryz.ntmps220
  go_wp2_with (fail)
  first|refine ah 11 (by kernel_rfl) (by kernel_rfl) ?_|refine ai 11 (by kernel_rfl) (by kernel_rfl) ?_
  simp only[List.take_succ_cons,List.take_zero,List.drop_succ_cons,List.drop_zero]
  repeat (first|go_big_quiet_step (first|(go_at_call 136;exact more_call (AD.out _))|(go_at_call 212;exact more_call (cD _)))|quiet_step (first|(go_at_call 136;exact more_call (AD.out _))|(go_at_call 212;exact more_call (cD _))))
  refine wpQuiet_nil ?_
  intro _ hw'
  obtain⟨t,hw''⟩:=hw';subst hw'';have HZ:=h_ (HF.out.more t);generalize more (((w.alloc (.cells #[.int .i64 p,.int .i64 c,.int .i64 h,.int .i64 s] 25)).alloc (.cells #[.int .i64 xn,.int .i64 xd] 35)).alloc (.cells #[.int .i64 0,.int .i64 0] 35)) t=Z at *;obtain⟨z0,c00,f00,c01,f01,c02,f02,c03,f03,z1,c10,f10,c11,f11,z2,c20,f20,c21,f21⟩:=HZ.out.xf2
  go_wp2_with (fail)
 case za=>
  refine bodyPost_ret (v:=.tuple #[.agg #[.int .i64 0,.int .i64 0],.bool false]) (by simp[results,Tryz.results220,go_sem,c20,c21,z2,f20,f21]) rfl (RetE.mkN rfl ?_)
  repeat (first|exact HZ.out.b|refine stw ?_ (by omega))
 case zb=>
  refine bodyPost_ret (v:=.tuple #[.agg #[.int .i64 m,.int .i64 d],.bool true]) (by simp[results,Tryz.results220,go_sem,c20,c21,z2,f20,f21]) rfl (RetE.mkY rfl ?_)
  repeat (first|exact HZ.out.b|refine stw ?_ (by omega))
end Go.Proofs.YtkaiilmgemaljaaGreat
/- Contracts of what is a bear-off position, the program's and the reference's. There are no conditions. -/
namespace Go.Proofs.YtkaiilmgemaljaaGreat
open Go.RowKit Ps
def PosI (h c:Int) (xs:List Int):Prop:=(xs.length:Int)=h/\(∀x∈xs,0<=x)/\xs.sum<=c
instance (h c:Int) (xs:List Int):Decidable (PosI h c xs):=by unfold PosI;infer_instance
def posB (h c:Int) (xs:List Int):Bool:=decide (PosI h c xs)
theorem posB_yes {h c:Int} {xs:List Int} (H:posB h c xs=true):PosI h c xs:=of_decide_eq_true H
theorem ba {h c:Nat} {xs:List Int} (H:posB h c xs=true):PosP h c xs:=by
 obtain⟨h1,h2,h3⟩:=posB_yes H
 exact⟨by omega,h2,h3⟩
theorem posB_len {h c:Int} {xs:List Int} (H:(xs.length:Int)≠h):posB h c xs=false:=decide_eq_false fun h=>H h.1
theorem posB_neg {h c:Int} {xs:List Int} {x:Int} (hx:x∈xs) (h0:x<0):posB h c xs=false:=decide_eq_false fun H=>by have:=H.2.1 x hx;omega
theorem posB_far {h c:Int} {xs:List Int} (k:Nat) (hs:c<(xs.take k).sum):posB h c xs=false:=decide_eq_false fun H=>by
 have:=dI xs k H.2.1;have:=H.2.2
 omega
theorem fD {h c:Int} {xs:List Int} (hl:(xs.length:Int)=h) (h0:∀x∈xs,0<=x) (hs:xs.sum<=c):posB h c xs=true:=decide_eq_true ⟨hl,h0,hs⟩
theorem fF {xs:List Int} {k:Nat} {x:Int} (hk:k<xs.length) (h:x∈xs.take (k+1)):x∈xs.take k\/x=xs.getD k 0:=by
 rw[List.take_succ_eq_append_getElem hk]at h
 rcases List.mem_append.1 h with h|h
 ·exact .inl h
 ·right;simpa[List.getD,hk]using h
theorem fJ (p c h s:Int) (A:Option Addr) (n cp:Nat) (xs:List Int) (w:World) (hx:SL w A n xs) (hc1:0<=c) (hc2:c<=15) (hh:h<=24):
  Calls Tryz.prog 93 #[.agg #[.int .i64 p,.int .i64 c,.int .i64 h,.int .i64 s],.slice A n cp] w fun e w'=>e = .returned (.bool (posB h c xs))/\Below w.heap.size w w':=by
 have HB:Hid (Below w.heap.size w (w.alloc (.cells #[.int .i64 p,.int .i64 c,.int .i64 h,.int .i64 s] 25))):=(Below.refl _ _).alloc (Nat.le_refl _) _;have hl:xs.length=n:=hx.1;have HX:=h_ (hx.alloc (.cells #[.int .i64 p,.int .i64 c,.int .i64 h,.int .i64 s] 25));have HL:=h_ hl;clear hx hl
 by_cases hn:(n:Int)=h
 ·have hn24:n<=24:=by omega
  have e1:((n:Int) != h)=false:=by simp[hn]
  have HN:=h_ hn;clear hn
  go_enter Tryz.func93,Tryz.ntmps93
  go_wp2
  go_loop [5,17] (fun l i=>∃k:Nat,k<=n/\i = .int .i64 k/\l = .int .i64 (c-(xs.take k).sum)/\Hid (∀x∈xs.take k,0<=x)/\Hid ((xs.take k).sum<=c)/\0<=(xs.take k).sum) (fun _ i=>n-(intOf i).toNat)
  case atStart=>exact⟨0,by omega,rfl,by simp,by unfold Hid;simp,by unfold Hid;simpa using hc1,by simp⟩
  case round=>
   obtain⟨k,hk,rfl,rfl,h0,hs,hs0⟩:=hrel;have hs':=hs.out
   by_cases hlt:k<n
   ·have hki:(k:Int)<(n:Int):=by omega
    obtain⟨b,off,rfl,_,hc⟩:=HX.out.2 (by omega)
    have hcell:=hc k hlt
    have e:=h_ (bm xs k (by rw[HL.out];exact hlt))
    have hm:=h_ (bn xs k (by rw[HL.out];exact hlt))
    have ht:Hid (∀y,y∈xs.take (k+1)->y∈xs.take k\/y=xs.getD k 0):=fun y hy=>fF (by rw[HL.out];exact hlt) hy
    clear hc;generalize xs.getD k 0=x at *;have E:=h_ e.out;clear e;generalize (xs.take k).sum=u at *
    by_cases hx0:x<0
    ·have HR:Hid (posB h c xs=false):=posB_neg hm.out hx0
     have b1:decide (x<0)=true:=decide_eq_true hx0
     have b2:inB x 0 (c-u)=false:=bC (by omega)
     go_wp2_with (fail)
     go_ret
     exact⟨by rw[HR.out];rfl,HB.out⟩
    ·have b1:decide (x<0)=false:=decide_eq_false hx0
     by_cases hx1:c-u<x
     ·have HR:Hid (posB h c xs=false):=posB_far (k+1) (by rw[E.out];omega)
      have b3:decide (c-u<x)=true:=decide_eq_true hx1
      have b2:inB x 0 (c-u)=false:=bC (by omega)
      go_wp2_with (fail)
      go_ret
      exact⟨by rw[HR.out];rfl,HB.out⟩
     ·have b3:decide (c-u<x)=false:=decide_eq_false hx1
      have b2:inB x 0 (c-u)=true:=aS (by omega)
      go_wp2_with (fail)
      go_round
      case rel=>exact⟨k+1,by omega,by go_num,by rw[E.out];go_num,fun y hy=>by
        rcases ht.out y hy with h'|h'
        ·exact h0.out y h'
        ·omega,by unfold Hid;rw[E.out];omega,by rw[E.out];omega⟩
      case measure=>simp[intOf];omega
   ·have hkn:k=n:=by omega
    subst hkn
    have HR:Hid (posB h c xs=true):=by
     have e:xs.take k=xs:=List.take_of_length_le (by rw[HL.out];exact Nat.le_refl _)
     rw[e]at h0 hs
     exact fD (by rw[HL.out];exact HN.out) h0.out hs.out
    go_wp2_with (fail)
    go_ret
    exact⟨by rw[HR.out];rfl,HB.out⟩
 ·have e1:((n:Int) != h)=true:=by simp[hn]
  have HR:Hid (posB h c xs=false):=posB_len (by rw[HL.out];exact hn)
  go_enter Tryz.func93,Tryz.ntmps93
  go_wp2
  go_ret
  exact⟨by rw[HR.out];rfl,HB.out⟩
theorem ed (p c h s:Int) (A:Option Addr) (n cp:Nat) (xs:List Int) (w:World) (hx:SL w A n xs) (hc1:0<=c) (hc2:c<=15) (hh:h<=24):
  Calls Tryz.prog 115 #[.agg #[.int .i64 p,.int .i64 c,.int .i64 h,.int .i64 s],.slice A n cp] w fun e w'=>e = .returned (.bool (posB h c xs))/\Below w.heap.size w w':=by
 have HB:Hid (Below w.heap.size w (w.alloc (.cells #[.int .i64 p,.int .i64 c,.int .i64 h,.int .i64 s] 25))):=(Below.refl _ _).alloc (Nat.le_refl _) _;have hl:xs.length=n:=hx.1;have HX:=h_ (hx.alloc (.cells #[.int .i64 p,.int .i64 c,.int .i64 h,.int .i64 s] 25));have HL:=h_ hl;clear hx hl
 by_cases hn:(n:Int)=h
 ·have hn24:n<=24:=by omega
  have e1:((n:Int) != h)=false:=by simp[hn]
  have HN:=h_ hn;clear hn
  go_enter Tryz.func115,Tryz.ntmps115
  go_wp2
  go_loop [5,6] (fun l i=>∃k:Nat,k<=n/\i = .int .i64 k/\l = .int .i64 (c-(xs.take k).sum)/\Hid (∀x∈xs.take k,0<=x)/\Hid ((xs.take k).sum<=c)/\0<=(xs.take k).sum) (fun _ i=>n-(intOf i).toNat)
  case atStart=>exact⟨0,by omega,rfl,by simp,by unfold Hid;simp,by unfold Hid;simpa using hc1,by simp⟩
  case round=>
   obtain⟨k,hk,rfl,rfl,h0,hs,hs0⟩:=hrel;have hs':=hs.out
   by_cases hlt:k<n
   focus
    have hki:(k:Int)<(n:Int):=by omega
    obtain⟨b,off,rfl,_,hc⟩:=HX.out.2 (by omega)
    have hcell:=hc k hlt
    have e:=h_ (bm xs k (by rw[HL.out];exact hlt))
    have hm:=h_ (bn xs k (by rw[HL.out];exact hlt))
    have ht:Hid (∀y,y∈xs.take (k+1)->y∈xs.take k\/y=xs.getD k 0):=fun y hy=>fF (by rw[HL.out];exact hlt) hy
    clear hc;generalize xs.getD k 0=x at *;have E:=h_ e.out;clear e;generalize (xs.take k).sum=u at *
    by_cases hx0:x<0
    focus
     have HR:Hid (posB h c xs=false):=posB_neg hm.out hx0
     have b1:decide (x<0)=true:=decide_eq_true hx0
     refine ?za
    rotate_left
    focus
     have b1:decide (x<0)=false:=decide_eq_false hx0
     by_cases hx1:c-u<x
     focus
      have HR:Hid (posB h c xs=false):=posB_far (k+1) (by rw[E.out];omega)
      have b3:decide (c-u<x)=true:=decide_eq_true hx1
      refine ?zb
     rotate_left
     ·have b3:decide (c-u<x)=false:=decide_eq_false hx1
      have b2:inB x 0 (c-u)=true:=aS (by omega)
      go_wp2_with ((go_at_call 134;refine (l01In_any _ _ _ _).mono ?_;rintro e w' ⟨rfl,rfl⟩))
      go_round
      case rel=>exact⟨k+1,by omega,by go_num,by rw[E.out];go_num,fun y hy=>by
        rcases ht.out y hy with h'|h'
        ·exact h0.out y h'
        ·omega,by unfold Hid;rw[E.out];omega,by rw[E.out];omega⟩
      case measure=>simp[intOf];omega
   rotate_left 2
   ·have hkn:k=n:=by omega
    subst hkn
    have HR:Hid (posB h c xs=true):=by
     have e:xs.take k=xs:=List.take_of_length_le (by rw[HL.out];exact Nat.le_refl _)
     rw[e]at h0 hs
     exact fD (by rw[HL.out];exact HN.out) h0.out hs.out
    go_wp2_with (fail)
    go_ret
    exact⟨by rw[HR.out];rfl,HB.out⟩
   case za|zb=>
    have b2:inB x 0 (c-u)=false:=bC (by omega)
    go_wp2_with ((go_at_call 134;refine (l01In_any _ _ _ _).mono ?_;rintro e w' ⟨rfl,rfl⟩))
    go_ret
    exact⟨by rw[HR.out];rfl,HB.out⟩
 ·have e1:((n:Int) != h)=true:=by simp[hn]
  have HR:Hid (posB h c xs=false):=posB_len (by rw[HL.out];exact hn)
  go_enter Tryz.func115,Tryz.ntmps115
  go_wp2
  go_ret
  exact⟨by rw[HR.out];rfl,HB.out⟩
end Go.Proofs.YtkaiilmgemaljaaGreat
/- Contracts of the number of a bear-off position, the program's and the reference's. There are no conditions. -/
namespace Go.Proofs.YtkaiilmgemaljaaGreat
open Go.RowKit Ps
theorem numT_take {p:List Int} {i left:Nat} (hi:i<p.length):numT (p.take (i+1)).reverse left=sumW i left (p.getD i 0).toNat+numT (p.take i).reverse (left-(p.getD i 0).toNat):=by
 rw[List.take_succ_eq_append_getElem hi,List.reverse_append]
 have e:p[i]=p.getD i 0:=by simp[List.getD,hi]
 rw[e]
 show numT (p.getD i 0::(p.take i).reverse) left=_
 rw[dA]
 simp[Nat.min_eq_left (Nat.le_of_lt hi)]
theorem sumT_take {p:List Int} {i:Nat} (hi:i<p.length):(p.take (i+1)).sum=(p.take i).sum+p.getD i 0:=bm p i hi
theorem ch (p s:Int) (c h:Nat) (A:Option Addr) (n cp:Nat) (xs:List Int) (w:World) (hx:SL w A n xs) (hp:PosP h c xs) (hc:c<=15) (hh:h<=24)  :
  Calls Tryz.prog 169 #[.agg #[.int .i64 p,.int .i64 c,.int .i64 h,.int .i64 s],.slice A n cp] w fun e w'=>e = .returned (.int .i64 (num c xs))/\Below w.heap.size w w':=by
 have HB:Hid (Below w.heap.size w (w.alloc (.cells #[.int .i64 p,.int .i64 c,.int .i64 h,.int .i64 s] 25))):=(Below.refl _ _).alloc (Nat.le_refl _) _;have hl:xs.length=n:=hx.1
 have hn24:n<=24:=by have:=hp.1;omega
 have hbd:num c xs<wys h c:=cZ hp
 have hwb:=gH (k:=h) (m:=c) (by omega) hc
 have HW:Hid (∀i m,i<=h->m<=c->wys i m<=wys h c):=fun i m hi hm=>fj hi hm
 have HP:=h_ hp;have HX:=h_ (hx.alloc (.cells #[.int .i64 p,.int .i64 c,.int .i64 h,.int .i64 s] 25));have HL:=h_ hl
 have hnh:=h_ (show n=h by rw[<- hl];exact hp.1)
 have HN:Hid (numT (xs.take n).reverse c=num c xs):=by unfold Hid num;rw[List.take_of_length_le (by omega)]
 have HS:Hid ((xs.take n).sum<=c):=by unfold Hid;rw[List.take_of_length_le (by omega)];exact hp.2.2
 have HPN:Hid (∀k,0<=(xs.take k).sum):=fun k=>bf xs k hp.2.1
 clear hx hl hp
 go_enter Tryz.func169,Tryz.ntmps169
 go_wp2
 go_loop [5,6,7] (fun v l i=>∃(k nn lf:Nat),k<=n/\lf<=c/\i = .int .i64 ((k:Int)-1)/\l = .int .i64 lf/\v = .int .i64 nn/\Hid (nn+numT (xs.take k).reverse lf=num c xs)/\Hid ((xs.take k).sum<=lf)) (fun _ _ i=>(intOf i+1).toNat)
 case atStart=>exact⟨n,0,c,by omega,by omega,rfl,rfl,rfl,by unfold Hid;rw[HN.out];omega,HS.out⟩
 case round=>
  obtain⟨k,nn,lf,hk,hlf,hi,rfl,rfl,hnum,hs⟩:=hrel
  rcases k with _|j
  ·rw[show ((0:Nat):Int)-1 = -1 from rfl]at hi
   subst hi
   have HR:Hid (nn=num c xs):=by have:=hnum.out;unfold Hid;simpa[numT]using this
   go_wp2_with (fail)
   go_ret
   exact⟨by rw[<- HR.out];rfl,HB.out⟩
  ·rw[show ((j+1:Nat):Int)-1=(j:Int) by omega]at hi
   subst hi
   obtain⟨b,off,rfl,_,hcells⟩:=HX.out.2 (by omega)
   have hcell:=hcells j (by omega)
   have e1:=numT_take (p:=xs) (i:=j) (left:=lf) (by rw[HL.out];omega)
   have e2:=sumT_take (p:=xs) (i:=j) (by rw[HL.out];omega)
   have e3:=HPN.out j
   have e4:=HP.out.2.1 _ (bn xs j (by rw[HL.out];omega))
   obtain⟨x,hx⟩:∃x:Nat,xs.getD j 0=(x:Int):=⟨(xs.getD j 0).toNat,by omega⟩
   rw[hx]at hcell e1 e2 e4
   simp only[Int.toNat_natCast]at e1
   have e5:=hs.out;rw[e2]at e5
   have hxl:x<=lf:=by omega
   have hnum':Hid (nn+sumW j lf x+numT (xs.take j).reverse (lf-x)=num c xs):=by have:=hnum.out;rw[e1]at this;unfold Hid;omega
   have hs':Hid ((xs.take j).sum<=((lf-x:Nat):Int)):=by unfold Hid;omega
   have hb0:nn+sumW j lf x<wys h c:=by have:=hnum'.out;omega
   have HM:Hid (∀d,d<=x->sumW j lf d<=sumW j lf x):=fun d hd=>gT hd
   clear hcells e1 e2 e3 e4 e5 hx hnum hs
   go_wp2_with (fail)
   go_loop [5,22] (fun v dv=>∃d:Nat,d<=x/\dv = .int .i64 d/\v = .int .i64 ((nn+sumW j lf d:Nat):Int)) (fun _ dv=>x-(intOf dv).toNat)
   case atStart=>exact⟨0,by omega,rfl,by simp[sumW]⟩
   case round=>
    obtain⟨d,hd,rfl,rfl⟩:=hrel
    by_cases hdx:d<x
    ·have hdi:(d:Int)<(x:Int):=by omega
     have hsub:((lf:Int)-(d:Int))=((lf-d:Nat):Int):=by omega
     have hm1:=HM.out (d+1) (by omega)
     have hm2:=HM.out d (by omega)
     have E:=h_ (d6 j lf d)
     have hm3:sumW j lf d+wys j (lf-d)<=sumW j lf x:=by rw[<- E.out];exact hm1
     have CL:=h_ (fun (W:World)=>listsUpTo_any j (lf-d) W (by omega) (by omega))
     clear hm1
     go_wp2_with ((go_at_call 216;(try rw[hsub]);refine (CL.out _).mono ?_;rintro e w' ⟨rfl,rfl⟩))
     go_round
     case rel=>exact⟨d+1,by omega,by go_num,by rw[E.out];go_num⟩
     case measure=>simp[intOf];omega
    ·have hdx2:d=x:=by omega
     subst hdx2
     go_wp2_with (fail)
     go_round
     case rel=>exact⟨j,nn+sumW j lf d,lf-d,by omega,by omega,by go_num,by go_num,rfl,hnum'.out,hs'.out⟩
     case measure=>(simp[intOf])<;>omega
theorem fG (p s:Int) (c h:Nat) (A:Option Addr) (n cp:Nat) (xs:List Int) (w:World) (hx:SL w A n xs) (hp:PosP h c xs) (hc:c<=15) (hh:h<=24) (hw6:wys h c<=1000000):
  Calls Tryz.prog 192 #[.agg #[.int .i64 p,.int .i64 c,.int .i64 h,.int .i64 s],.slice A n cp] w fun e w'=>e = .returned (.int .i64 (num c xs))/\Below w.heap.size w w':=by
 have HB:Hid (Below w.heap.size w (w.alloc (.cells #[.int .i64 p,.int .i64 c,.int .i64 h,.int .i64 s] 25))):=(Below.refl _ _).alloc (Nat.le_refl _) _;have hl:xs.length=n:=hx.1
 have hn24:n<=24:=by have:=hp.1;omega
 have hbd:num c xs<wys h c:=cZ hp
 have hwb:=gH (k:=h) (m:=c) (by omega) hc
 have HW:Hid (∀i m,i<=h->m<=c->wys i m<=wys h c):=fun i m hi hm=>fj hi hm
 have HP:=h_ hp;have HX:=h_ (hx.alloc (.cells #[.int .i64 p,.int .i64 c,.int .i64 h,.int .i64 s] 25));have HL:=h_ hl
 have hnh:=h_ (show n=h by rw[<- hl];exact hp.1)
 have HN:Hid (numT (xs.take n).reverse c=num c xs):=by unfold Hid num;rw[List.take_of_length_le (by omega)]
 have HS:Hid ((xs.take n).sum<=c):=by unfold Hid;rw[List.take_of_length_le (by omega)];exact hp.2.2
 have HPN:Hid (∀k,0<=(xs.take k).sum):=fun k=>bf xs k hp.2.1
 clear hx hl hp
 go_enter Tryz.func192,Tryz.ntmps192
 go_wp2
 go_loop [5,6,7] (fun v l i=>∃(k nn lf:Nat),k<=n/\lf<=c/\i = .int .i64 ((k:Int)-1)/\l = .int .i64 lf/\v = .int .i64 nn/\Hid (nn+numT (xs.take k).reverse lf=num c xs)/\Hid ((xs.take k).sum<=lf)) (fun _ _ i=>(intOf i+1).toNat)
 case atStart=>exact⟨n,0,c,by omega,by omega,rfl,rfl,rfl,by unfold Hid;rw[HN.out];omega,HS.out⟩
 case round=>
  obtain⟨k,nn,lf,hk,hlf,hi,rfl,rfl,hnum,hs⟩:=hrel
  rcases k with _|j
  ·rw[show ((0:Nat):Int)-1 = -1 from rfl]at hi
   subst hi
   have HR:Hid (nn=num c xs):=by have:=hnum.out;unfold Hid;simpa[numT]using this
   go_wp2_with (fail)
   go_ret
   exact⟨by rw[<- HR.out];rfl,HB.out⟩
  ·rw[show ((j+1:Nat):Int)-1=(j:Int) by omega]at hi
   subst hi
   obtain⟨b,off,rfl,_,hcells⟩:=HX.out.2 (by omega)
   have hcell:=hcells j (by omega)
   have e1:=numT_take (p:=xs) (i:=j) (left:=lf) (by rw[HL.out];omega)
   have e2:=sumT_take (p:=xs) (i:=j) (by rw[HL.out];omega)
   have e3:=HPN.out j
   have e4:=HP.out.2.1 _ (bn xs j (by rw[HL.out];omega))
   obtain⟨x,hx⟩:∃x:Nat,xs.getD j 0=(x:Int):=⟨(xs.getD j 0).toNat,by omega⟩
   rw[hx]at hcell e1 e2 e4
   simp only[Int.toNat_natCast]at e1
   have e5:=hs.out;rw[e2]at e5
   have hxl:x<=lf:=by omega
   have hnum':Hid (nn+sumW j lf x+numT (xs.take j).reverse (lf-x)=num c xs):=by have:=hnum.out;rw[e1]at this;unfold Hid;omega
   have hs':Hid ((xs.take j).sum<=((lf-x:Nat):Int)):=by unfold Hid;omega
   have hb0:nn+sumW j lf x<wys h c:=by have:=hnum'.out;omega
   have HM:Hid (∀d,d<=x->sumW j lf d<=sumW j lf x):=fun d hd=>gT hd
   clear hcells e1 e2 e3 e4 e5 hx hnum hs
   go_wp2_with (fail)
   go_loop [5,8] (fun v dv=>∃d:Nat,d<=x/\dv = .int .i64 d/\v = .int .i64 ((nn+sumW j lf d:Nat):Int)) (fun _ dv=>x-(intOf dv).toNat)
   case atStart=>exact⟨0,by omega,rfl,by simp[sumW]⟩
   case round=>
    obtain⟨d,hd,rfl,rfl⟩:=hrel
    by_cases hdx:d<x
    ·have hdi:(d:Int)<(x:Int):=by omega
     have hsub:((lf:Int)-(d:Int))=((lf-d:Nat):Int):=by omega
     have hm1:=HM.out (d+1) (by omega)
     have hm2:=HM.out d (by omega)
     have E:=h_ (d6 j lf d)
     have hm3:sumW j lf d+wys j (lf-d)<=sumW j lf x:=by rw[<- E.out];exact hm1
     have CL:=h_ (fun (W:World)=>(show Calls Tryz.prog 167 #[.int .i64 ((lf-d:Nat):Int),.int .i64 j] W (fun e w'=>e = .returned (.int .i64 (wys j (lf-d)))/\W=w') from by have h1:=l10Ways_any j (lf-d) W (by omega) (by omega);rw[dh (Nat.le_trans (HW.out _ _ (by have:=hnh.out;omega) (by omega)) hw6)]at h1;exact h1))
     clear hm1
     go_wp2_with ((go_at_call 167;(try rw[hsub]);refine (CL.out _).mono ?_;rintro e w' ⟨rfl,rfl⟩))
     go_round
     case rel=>exact⟨d+1,by omega,by go_num,by rw[E.out];go_num⟩
     case measure=>simp[intOf];omega
    ·have hdx2:d=x:=by omega
     subst hdx2
     go_wp2_with (fail)
     go_round
     case rel=>exact⟨j,nn+sumW j lf d,lf-d,by omega,by omega,by go_num,by go_num,rfl,hnum'.out,hs'.out⟩
     case measure=>(simp[intOf])<;>omega
end Go.Proofs.YtkaiilmgemaljaaGreat

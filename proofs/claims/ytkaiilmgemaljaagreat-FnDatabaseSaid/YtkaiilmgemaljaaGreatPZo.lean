/- Joined texts of one proof: N7, N37. Each part tells what it shows. There are no conditions. -/
import Derived.Test.YtkaiilmgemaljaaGreatPZc
import Derived.Test.YtkaiilmgemaljaaGreatPShelf
import Derived.Test.YtkaiilmgemaljaaGreatPZn
set_option linter.unusedVariables false
set_option linter.unusedSimpArgs false
/- Contract of comparing two exact numbers, the program's. There are no conditions. -/
namespace Go.Proofs.YtkaiilmgemaljaaGreat
open Go.RowKit Ps Ra Ex
theorem Mul64_hl (x:Nat) (y U:Int) (w:World) (hx:x≤1000000000000000000) (hy0:0≤y) (hy:y≤1000000000000000) (hU:(x:Int)*y=U):
  Calls Tryz.prog 204 #[.int .u64 x,.int .u64 y] w fun e w'=>e = .returned (.tuple #[.int .u64 (hiW U),.int .u64 (loW U)])∧w=w':=by
 obtain⟨k,rfl⟩:=Int.eq_ofNat_of_zero_le hy0
 refine (Tryz.bits_Mul64 x k (by omega) (by omega) w).mono fun e w' ⟨he,hw⟩=>⟨?_,hw.symm⟩
 rw[he,← hU];unfold hiW loW two64
 rw[Int.natCast_ediv,Int.natCast_emod,Int.natCast_mul];rfl
theorem hl_ne1 {u v:Int} (h:u<v):((hiW u == hiW v)=true∧(loW u == loW v)=false∧decide (loW u<loW v)=true∧decide (hiW u<hiW v)=false)∨((hiW u == hiW v)=false∧decide (hiW u<hiW v)=true):=by
 rcases hl_lt h with h1|⟨h1,h2⟩
 ·right;simp;omega
 ·left;simp;omega
theorem hl_ne2 {u v:Int} (h:v<u):((hiW u == hiW v)=true∧(loW u == loW v)=false∧decide (loW u<loW v)=false∧decide (hiW u<hiW v)=false)∨((hiW u == hiW v)=false∧decide (hiW u<hiW v)=false):=by
 rcases hl_lt h with h1|⟨h1,h2⟩
 ·right;simp;omega
 ·left;simp;omega
set_option maxHeartbeats 2000000 in
set_option maxRecDepth 10000 in
theorem compareExact_any (p c h xn yn:Int) (s xd yd:Nat) (w:World) (hs1:1≤s) (hs6:s≤6) (hx:Val (sq s) ⟨xn,xd⟩) (hy:Val (sq s) ⟨yn,yd⟩):
  Calls Tryz.prog 166 #[.agg #[.int .i64 p,.int .i64 c,.int .i64 h,.int .i64 s],.agg #[.int .i64 xn,.int .i64 xd],.agg #[.int .i64 yn,.int .i64 yd]] w fun e w'=>e = .returned (.int .i64 (cmpE (sq s) ⟨xn,xd⟩ ⟨yn,yd⟩))∧Below w.heap.size w w':=by
 obtain⟨hq1,hq36,_⟩:=sq_bd hs1 hs6;have hxd:xd<50:=depth_lt hq1 hx;have hyd:yd<50:=depth_lt hq1 hy;have hx1 : -1000000000000000000≤xn:=hx.1;have hx2:xn≤1000000000000000000:=hx.2.1;have hy1 : -1000000000000000000≤yn:=hy.1;have hy2:yn≤1000000000000000000:=hy.2.1;have px:=pw_pos hq1 xd;have py:=pw_pos hq1 yd;have px2:pw (sq s) xd≤1000000000000000:=hx.2.2.1;have py2:pw (sq s) yd≤1000000000000000:=hy.2.2.1
 have CX:Hid (∀W:World,Calls Tryz.prog 217 #[.agg #[.int .i64 p,.int .i64 c,.int .i64 h,.int .i64 s],.int .i64 xd] W fun e w'=>e = .returned (.tuple #[.int .i64 (pw (sq s) xd),.bool true])∧Below W.heap.size W w'):=fun W=>by
  have:=scaleOf_any p c h s xd W hs1 hs6 (by omega)
  rwa [(scl_ok px2).1,(scl_ok px2).2]at this
 have CY:Hid (∀W:World,Calls Tryz.prog 217 #[.agg #[.int .i64 p,.int .i64 c,.int .i64 h,.int .i64 s],.int .i64 yd] W fun e w'=>e = .returned (.tuple #[.int .i64 (pw (sq s) yd),.bool true])∧Below W.heap.size W w'):=fun W=>by
  have:=scaleOf_any p c h s yd W hs1 hs6 (by omega)
  rwa [(scl_ok py2).1,(scl_ok py2).2]at this
 obtain⟨U,hU⟩:∃U,(xn.natAbs:Int)*pw (sq s) yd=U:=⟨_,rfl⟩;obtain⟨V,hV⟩:∃V,(yn.natAbs:Int)*pw (sq s) xd=V:=⟨_,rfl⟩
 have MX:=Lib.hid fun (W:World)=>Mul64_hl xn.natAbs (pw (sq s) yd) U W (by omega) (by omega) py2 hU
 have MY:=Lib.hid fun (W:World)=>Mul64_hl yn.natAbs (pw (sq s) xd) V W (by omega) (by omega) px2 hV
 have HU:Hid (crs (sq s) ⟨xn,xd⟩ ⟨yn,yd⟩=U):=hU;have HVV:Hid (crs (sq s) ⟨yn,yd⟩ ⟨xn,xd⟩=V):=hV;clear hU hV hx hy
 have HB:Hid (Below w.heap.size w (((w.alloc (.cells #[.int .i64 p,.int .i64 c,.int .i64 h,.int .i64 s] 25)).alloc (.cells #[.int .i64 xn,.int .i64 xd] 35)).alloc (.cells #[.int .i64 yn,.int .i64 yd] 35))):=
  alw (alw ((Below.refl _ _).alloc (Nat.le_refl _) _) (Nat.le_refl _)) (Nat.le_refl _)
 by_cases h1:xn<0
 ·by_cases h2:yn<0
  ·
   rcases Int.lt_trichotomy U V with hlt|heq|hgt
   ·
    have HC:Hid (cmpE (sq s) ⟨xn,xd⟩ ⟨yn,yd⟩=_):=cmp_nn_lt (by rw[HU.out,HVV.out];exact hlt) (by assumption) (by assumption)
    rcases (hl_ne1 hlt) with⟨b1,b2,b3,b4⟩|⟨b1,b4⟩
    ·
     generalize hiW U=u1 at *;generalize hiW V=v1 at *;generalize loW U=u2 at *;generalize loW V=v2 at *
     go_enter Tryz.func166,Tryz.ntmps166
     go_wp2_with (first|(go_at_call 217;first|((with_reducible refine (more_call (CX.out _)).mono ?_);rintro e w' ⟨rfl,t2,rfl⟩)|((with_reducible refine (more_first (CY.out _)).mono ?_);rintro e w' ⟨rfl,t,rfl⟩))|(go_at_call 205;refine (absolute_any _ _ (by omega) (by omega)).mono ?_;rintro e w' ⟨rfl,rfl⟩)|(go_at_call 204;first|((with_reducible refine (MX.out _).mono ?_);rintro e w' ⟨rfl,rfl⟩)|((with_reducible refine (MY.out _).mono ?_);rintro e w' ⟨rfl,rfl⟩)))
     go_ret
     exact⟨by rw[HC.out];rfl,blw HB.out (Nat.le_refl _)⟩
    ·
     generalize hiW U=u1 at *;generalize hiW V=v1 at *;generalize loW U=u2 at *;generalize loW V=v2 at *
     go_enter Tryz.func166,Tryz.ntmps166
     go_wp2_with (first|(go_at_call 217;first|((with_reducible refine (more_call (CX.out _)).mono ?_);rintro e w' ⟨rfl,t2,rfl⟩)|((with_reducible refine (more_first (CY.out _)).mono ?_);rintro e w' ⟨rfl,t,rfl⟩))|(go_at_call 205;refine (absolute_any _ _ (by omega) (by omega)).mono ?_;rintro e w' ⟨rfl,rfl⟩)|(go_at_call 204;first|((with_reducible refine (MX.out _).mono ?_);rintro e w' ⟨rfl,rfl⟩)|((with_reducible refine (MY.out _).mono ?_);rintro e w' ⟨rfl,rfl⟩)))
     go_ret
     exact⟨by rw[HC.out];rfl,blw HB.out (Nat.le_refl _)⟩
   ·
    have HC:Hid (cmpE (sq s) ⟨xn,xd⟩ ⟨yn,yd⟩=0):=cmp_same (by rw[HU.out,HVV.out];exact heq) (.inl ⟨h1,h2⟩)
    have b1:(hiW U == hiW V)=true:=by simp[heq]
    have b2:(loW U == loW V)=true:=by simp[heq]
    clear heq;generalize hiW U=u1 at *;generalize hiW V=v1 at *;generalize loW U=u2 at *;generalize loW V=v2 at *
    go_enter Tryz.func166,Tryz.ntmps166
    go_wp2_with (first|(go_at_call 217;first|((with_reducible refine (more_call (CX.out _)).mono ?_);rintro e w' ⟨rfl,t2,rfl⟩)|((with_reducible refine (more_first (CY.out _)).mono ?_);rintro e w' ⟨rfl,t,rfl⟩))|(go_at_call 205;refine (absolute_any _ _ (by omega) (by omega)).mono ?_;rintro e w' ⟨rfl,rfl⟩)|(go_at_call 204;first|((with_reducible refine (MX.out _).mono ?_);rintro e w' ⟨rfl,rfl⟩)|((with_reducible refine (MY.out _).mono ?_);rintro e w' ⟨rfl,rfl⟩)))
    go_ret
    exact⟨by rw[HC.out];rfl,blw HB.out (Nat.le_refl _)⟩
   ·
    have HC:Hid (cmpE (sq s) ⟨xn,xd⟩ ⟨yn,yd⟩=_):=cmp_nn_gt (by rw[HU.out,HVV.out];exact hgt) (by assumption) (by assumption)
    rcases (hl_ne2 hgt) with⟨b1,b2,b3,b4⟩|⟨b1,b4⟩
    ·
     generalize hiW U=u1 at *;generalize hiW V=v1 at *;generalize loW U=u2 at *;generalize loW V=v2 at *
     go_enter Tryz.func166,Tryz.ntmps166
     go_wp2_with (first|(go_at_call 217;first|((with_reducible refine (more_call (CX.out _)).mono ?_);rintro e w' ⟨rfl,t2,rfl⟩)|((with_reducible refine (more_first (CY.out _)).mono ?_);rintro e w' ⟨rfl,t,rfl⟩))|(go_at_call 205;refine (absolute_any _ _ (by omega) (by omega)).mono ?_;rintro e w' ⟨rfl,rfl⟩)|(go_at_call 204;first|((with_reducible refine (MX.out _).mono ?_);rintro e w' ⟨rfl,rfl⟩)|((with_reducible refine (MY.out _).mono ?_);rintro e w' ⟨rfl,rfl⟩)))
     go_ret
     exact⟨by rw[HC.out];rfl,blw HB.out (Nat.le_refl _)⟩
    ·
     generalize hiW U=u1 at *;generalize hiW V=v1 at *;generalize loW U=u2 at *;generalize loW V=v2 at *
     go_enter Tryz.func166,Tryz.ntmps166
     go_wp2_with (first|(go_at_call 217;first|((with_reducible refine (more_call (CX.out _)).mono ?_);rintro e w' ⟨rfl,t2,rfl⟩)|((with_reducible refine (more_first (CY.out _)).mono ?_);rintro e w' ⟨rfl,t,rfl⟩))|(go_at_call 205;refine (absolute_any _ _ (by omega) (by omega)).mono ?_;rintro e w' ⟨rfl,rfl⟩)|(go_at_call 204;first|((with_reducible refine (MX.out _).mono ?_);rintro e w' ⟨rfl,rfl⟩)|((with_reducible refine (MY.out _).mono ?_);rintro e w' ⟨rfl,rfl⟩)))
     go_ret
     exact⟨by rw[HC.out];rfl,blw HB.out (Nat.le_refl _)⟩
  ·have HC:Hid (cmpE (sq s) ⟨xn,xd⟩ ⟨yn,yd⟩ = -1):=cmp_np hq1 h1 (by show 0≤yn;omega)
   go_enter Tryz.func166,Tryz.ntmps166
   go_wp2_with (fail)
   go_ret
   exact⟨by rw[HC.out];rfl,HB.out⟩
 ·by_cases h2:yn<0
  ·have HC:Hid (cmpE (sq s) ⟨xn,xd⟩ ⟨yn,yd⟩=1):=cmp_pn hq1 (by show 0≤xn;omega) h2
   go_enter Tryz.func166,Tryz.ntmps166
   go_wp2_with (fail)
   go_ret
   exact⟨by rw[HC.out];rfl,HB.out⟩
  ·have h3:0≤xn:=by omega
   have h4:0≤yn:=by omega
   rcases Int.lt_trichotomy U V with hlt|heq|hgt
   ·
    have HC:Hid (cmpE (sq s) ⟨xn,xd⟩ ⟨yn,yd⟩=_):=cmp_pp_lt (by rw[HU.out,HVV.out];exact hlt) (by assumption) (by assumption)
    rcases (hl_ne1 hlt) with⟨b1,b2,b3,b4⟩|⟨b1,b4⟩
    ·
     generalize hiW U=u1 at *;generalize hiW V=v1 at *;generalize loW U=u2 at *;generalize loW V=v2 at *
     go_enter Tryz.func166,Tryz.ntmps166
     go_wp2_with (first|(go_at_call 217;first|((with_reducible refine (more_call (CX.out _)).mono ?_);rintro e w' ⟨rfl,t2,rfl⟩)|((with_reducible refine (more_first (CY.out _)).mono ?_);rintro e w' ⟨rfl,t,rfl⟩))|(go_at_call 205;refine (absolute_any _ _ (by omega) (by omega)).mono ?_;rintro e w' ⟨rfl,rfl⟩)|(go_at_call 204;first|((with_reducible refine (MX.out _).mono ?_);rintro e w' ⟨rfl,rfl⟩)|((with_reducible refine (MY.out _).mono ?_);rintro e w' ⟨rfl,rfl⟩)))
     go_ret
     exact⟨by rw[HC.out];rfl,blw HB.out (Nat.le_refl _)⟩
    ·
     generalize hiW U=u1 at *;generalize hiW V=v1 at *;generalize loW U=u2 at *;generalize loW V=v2 at *
     go_enter Tryz.func166,Tryz.ntmps166
     go_wp2_with (first|(go_at_call 217;first|((with_reducible refine (more_call (CX.out _)).mono ?_);rintro e w' ⟨rfl,t2,rfl⟩)|((with_reducible refine (more_first (CY.out _)).mono ?_);rintro e w' ⟨rfl,t,rfl⟩))|(go_at_call 205;refine (absolute_any _ _ (by omega) (by omega)).mono ?_;rintro e w' ⟨rfl,rfl⟩)|(go_at_call 204;first|((with_reducible refine (MX.out _).mono ?_);rintro e w' ⟨rfl,rfl⟩)|((with_reducible refine (MY.out _).mono ?_);rintro e w' ⟨rfl,rfl⟩)))
     go_ret
     exact⟨by rw[HC.out];rfl,blw HB.out (Nat.le_refl _)⟩
   ·
    have HC:Hid (cmpE (sq s) ⟨xn,xd⟩ ⟨yn,yd⟩=0):=cmp_same (by rw[HU.out,HVV.out];exact heq) (.inr ⟨h3,h4⟩)
    have b1:(hiW U == hiW V)=true:=by simp[heq]
    have b2:(loW U == loW V)=true:=by simp[heq]
    clear heq;generalize hiW U=u1 at *;generalize hiW V=v1 at *;generalize loW U=u2 at *;generalize loW V=v2 at *
    go_enter Tryz.func166,Tryz.ntmps166
    go_wp2_with (first|(go_at_call 217;first|((with_reducible refine (more_call (CX.out _)).mono ?_);rintro e w' ⟨rfl,t2,rfl⟩)|((with_reducible refine (more_first (CY.out _)).mono ?_);rintro e w' ⟨rfl,t,rfl⟩))|(go_at_call 205;refine (absolute_any _ _ (by omega) (by omega)).mono ?_;rintro e w' ⟨rfl,rfl⟩)|(go_at_call 204;first|((with_reducible refine (MX.out _).mono ?_);rintro e w' ⟨rfl,rfl⟩)|((with_reducible refine (MY.out _).mono ?_);rintro e w' ⟨rfl,rfl⟩)))
    go_ret
    exact⟨by rw[HC.out];rfl,blw HB.out (Nat.le_refl _)⟩
   ·
    have HC:Hid (cmpE (sq s) ⟨xn,xd⟩ ⟨yn,yd⟩=_):=cmp_pp_gt (by rw[HU.out,HVV.out];exact hgt) (by assumption) (by assumption)
    rcases (hl_ne2 hgt) with⟨b1,b2,b3,b4⟩|⟨b1,b4⟩
    ·
     generalize hiW U=u1 at *;generalize hiW V=v1 at *;generalize loW U=u2 at *;generalize loW V=v2 at *
     go_enter Tryz.func166,Tryz.ntmps166
     go_wp2_with (first|(go_at_call 217;first|((with_reducible refine (more_call (CX.out _)).mono ?_);rintro e w' ⟨rfl,t2,rfl⟩)|((with_reducible refine (more_first (CY.out _)).mono ?_);rintro e w' ⟨rfl,t,rfl⟩))|(go_at_call 205;refine (absolute_any _ _ (by omega) (by omega)).mono ?_;rintro e w' ⟨rfl,rfl⟩)|(go_at_call 204;first|((with_reducible refine (MX.out _).mono ?_);rintro e w' ⟨rfl,rfl⟩)|((with_reducible refine (MY.out _).mono ?_);rintro e w' ⟨rfl,rfl⟩)))
     go_ret
     exact⟨by rw[HC.out];rfl,blw HB.out (Nat.le_refl _)⟩
    ·
     generalize hiW U=u1 at *;generalize hiW V=v1 at *;generalize loW U=u2 at *;generalize loW V=v2 at *
     go_enter Tryz.func166,Tryz.ntmps166
     go_wp2_with (first|(go_at_call 217;first|((with_reducible refine (more_call (CX.out _)).mono ?_);rintro e w' ⟨rfl,t2,rfl⟩)|((with_reducible refine (more_first (CY.out _)).mono ?_);rintro e w' ⟨rfl,t,rfl⟩))|(go_at_call 205;refine (absolute_any _ _ (by omega) (by omega)).mono ?_;rintro e w' ⟨rfl,rfl⟩)|(go_at_call 204;first|((with_reducible refine (MX.out _).mono ?_);rintro e w' ⟨rfl,rfl⟩)|((with_reducible refine (MY.out _).mono ?_);rintro e w' ⟨rfl,rfl⟩)))
     go_ret
     exact⟨by rw[HC.out];rfl,blw HB.out (Nat.le_refl _)⟩
end Go.Proofs.YtkaiilmgemaljaaGreat
/- Contract of the best of a roll, out of the program's race table. There are no conditions. -/
namespace Go.Proofs.YtkaiilmgemaljaaGreat
open Go.RowKit Ps Ra Ex Go.Maps
theorem bestS_val {B:Int} (hB:1≤B) {f:List Int→Option E} (hf:∀q x,f q=some x→Val B x) {l:List (List Int)}:∀{t:Nat×Nat×E},bestS B f l=some t→Val B t.2.2:=by
 induction l using snoc_ind with
 | nil=>intro t h;rw[bestS_nil]at h;injection h with h;subst h;exact zero_val
 | snoc l q ih =>
   intro t h
   rw [bestS_snoc] at h
   cases hs : bestS B f l with
   | none => rw [hs] at h; cases h
   | some u =>
     rw [hs] at h
     cases hq : f q with
     | none => rw [hq] at h; cases h
     | some x =>
       rw [hq] at h
       simp only [Option.bind_some, Option.map_some, Option.some.injEq] at h
       subst h
       split
       · exact hf q x hq
       · exact ih (t := u) hs
theorem results_len {n c a b:Nat} {p:List Int} (ha:1≤a) (hb:1≤b) (hp:PosP n c p) (hn:n≤24):(resultsL p a b).length≤663552:=by
 rw[← rows_results ha hb hp]
 have h1:=sortU_len ((dice a b).flatMap fun ds=>rowL ds [p])
 have h2:=rowsF_len hn hp (l:=dice a b) fun ds hds=>⟨(dice_pos ha hb ds hds).1,dice_len.2 ds hds⟩
 have h3:=(dice_len (a:=a) (b:=b)).1;unfold rowsF at h2
 omega
theorem bestS_stop {B:Int} {f:List Int→Option E} {l:List (List Int)} {k:Nat} (hk:k<l.length) {t:Nat×Nat×E} (hs:bestS B f (l.take k)=some t) (hq:f (l.getD k [])=none):bestS B f l=none:=by
 have h1:bestS B f (l.take (k+1))=none:=by rw[take_snoc_getD l [] hk,bestS_snoc,hs,hq];rfl
 have:=bestS_none (k:=l.drop (k+1)) h1
 rwa [List.take_append_drop]at this
theorem bestS_go {B:Int} {f:List Int→Option E} {l:List (List Int)} {k a:Nat} {m x:E} (hk:k<l.length) (hs:bestS B f (l.take k)=some (k,a,m)) (hq:f (l.getD k [])=some x) (h:k=0∨ltE B m x=true):
  bestS B f (l.take (k+1))=some (k+1,k,x):=by
 rw[take_snoc_getD l [] hk,bestS_snoc,hs,hq]
 simp[h]
theorem bestS_keep {B:Int} {f:List Int→Option E} {l:List (List Int)} {k a:Nat} {m x:E} (hk:k<l.length) (hs:bestS B f (l.take k)=some (k,a,m)) (hq:f (l.getD k [])=some x) (h0:k≠0) (h:ltE B m x=false):
  bestS B f (l.take (k+1))=some (k+1,a,m):=by
 rw[take_snoc_getD l [] hk,bestS_snoc,hs,hq]
 simp[h0,h]
def BestV (T:Nat→Prop) (w:World) (h k a:Nat) (l:List (List Int)) (v:Value):Prop:=
 (k=0∧v = .slice none 0 0)∨(0<k∧∃b off c,v = .slice (some ⟨b,off,none⟩) h c∧h≤c∧SQ T w (some ⟨b,off,none⟩) h (l.getD a []))
theorem BestV.frm {T:Nat→Prop} {w w':World} {h k a:Nat} {l:List (List Int)} {v:Value} (hb:BestV T w h k a l v) (hf:Frm T w w'):BestV T w' h k a l v:=
 hb.imp id fun⟨h0,b,off,c,h1,h2,h3⟩=>⟨h0,b,off,c,h1,h2,h3.frm hf⟩
def RetBest (t:RT) (T:Nat→Prop) (w:World) (l:List (List Int)) (o:Option (Nat×Nat×E)) (e:Ending) (w':World):Prop:=
 RaceI t T w'∧Frm t.S w w'∧match o with
  | none=>e = .returned (.tuple #[.slice none 0 0,.agg #[.int .i64 0,.int .i64 0],.bool false])
  | some (k,a,x)=>∃v,e = .returned (.tuple #[v,.agg #[.int .i64 x.num,.int .i64 (x.depth:Int)],.bool true])∧BestV T w' t.h k a l v
theorem frmT {t:RT} {T:Nat→Prop} {w w':World} (h:Frm t.S w w') (hs:∀k,t.S k→T k):Frm T w w':=h.mono hs
def BestI (t:RT) (T:Nat→Prop) (w:World) (A:Option Addr) (n:Nat) (l:List (List Int)) (k a:Nat) (x:E) (v:Value) (wr:World):Prop:=
 FrS t.S w wr [[.int .i64 0,.int .i64 0],[.int .i64 x.num,.int .i64 (x.depth:Int)]]∧RaceI t (ownT T w 2) wr∧PL (ownT T w 2) wr A n l∧BestV (ownT T w 2) wr t.h k a l v
set_option maxRecDepth 100000 in
set_option maxHeartbeats 4000000 in
theorem best_any (t:RT) (ht:t.Ok) {own other:List Int} (hq:PosP t.h t.c own) (hs0:own.sum≠0) (i a b:Nat) (hi:i<t.nr) (hab:(rollsN t.s).getD i (0,0)=(a,b)) (hsec:∀q∈resultsL own a b,SecC t q other)
  (T:Nat→Prop) (A B:Option Addr) (ca cb:Nat) (w:World) (hT:∀k,w.heap.size≤k→¬T k) (hI:RaceI t T w) (hA:SQ T w A t.h own) (hca:t.h≤ca) (hB:SQ T w B t.h other) (hcb:t.h≤cb):
  Calls Tryz.prog 76 #[.pointer (some ⟨t.bt,0,none⟩),.slice A t.h ca,.slice B t.h cb,.int .i64 (i:Int)] w (RetBest t T w (resultsL own a b) (bestS (sq t.s) (sec t.s other) (resultsL own a b))):=by
 have hv:=isVar_yes ht.v
 have hs1:1≤t.s:=by omega
 have hs6:t.s≤6:=by omega
 have hh24:t.h≤24:=by omega
 have hh1:0<t.h:=by omega
 obtain⟨hq1,hq36,_⟩:=sq_bd hs1 hs6;have hlow:=hI.ltS;have HSUB:=Lib.hid hI.sub
 have HNS:Hid (∀j,¬t.S (w.heap.size+j)):=fun j h=>by have:=hlow _ h;omega
 have hr:=mem_rollsN.1 (getD_mem' (rollsN t.s) (0,0) (k:=i) (by rw[ht.r];exact hi))
 rw[hab]at hr;obtain⟨r1,r2,r3⟩:=hr
 simp only at r1 r2 r3
 have HRP:Hid (∀q∈resultsL own a b,PosP t.h t.c q):=fun q h=>(results_pos (by omega) r1 hq q h).1
 have HF0:Hid (FrS t.S w ((w.alloc (.cells #[.int .i64 0,.int .i64 0] 35)).alloc (.cells #[.int .i64 0,.int .i64 0] 35)) [[.int .i64 0,.int .i64 0],[.int .i64 0,.int .i64 0]]):=((FrS.start w hlow).allocT (by simp) _ _).allocT (by simp) _ _
 have hb0:Below w.heap.size w ((w.alloc (.cells #[.int .i64 0,.int .i64 0] 35)).alloc (.cells #[.int .i64 0,.int .i64 0] 35)):=((Below.refl _ _).alloc (Nat.le_refl _) _).alloc (by simp) _
 have CRS:=Lib.hid (resultsOf_any t ht (ownT T w 2) A ca own _ (ownT_new hT (by simp)) ((hI.wide 2).below hb0) ((hA.wide 2).below hb0) hca hq)
 have HB0:Hid (SQ (ownT T w 2) ((w.alloc (.cells #[.int .i64 0,.int .i64 0] 35)).alloc (.cells #[.int .i64 0,.int .i64 0] 35)) B t.h other):=(hB.wide 2).below hb0
 have HTN:Hid (∀W:World,w.heap.size+2≤W.heap.size→∀k,W.heap.size≤k→¬ownT T w 2 k):=fun W hz=>ownT_new hT hz
 have HSEC:=Lib.hid hsec
 have HGET:Hid ((rsl t.s own).getD i []=resultsL own a b):=by
  unfold Hid rsl
  rw[getD_map _ _ (0,0) _ (by rw[ht.r];exact hi),hab]
 have HSV:=Lib.hid fun (q:List Int) (x:E) (h:sec t.s other q=some x)=>sec_val hq1 h
 have HRN:=Lib.hid (rsl_len t.s own);have HR:=Lib.hid ht.r
 have hnr21:t.nr≤21:=by rw[← ht.r];exact rolls_le hs6
 have hlen:(resultsL own a b).length≤1000000:=Nat.le_trans (results_len (by omega) r1 hq hh24) (by omega)
 have HLEN:=Lib.hid hlen
 have hii:(i:Int)<(t.nr:Int):=by omega
 have hii0:(0:Int)≤(i:Int):=by omega
 have HNE:=Lib.hid (results_some (by omega:1≤a) r1 hq)
 clear hT hI hA hB hv hlow hb0 hq hsec hab r1 r2 r3 hlen;generalize resultsL own a b=L at *;generalize hTT:ownT T w 2=T' at *
 go_enter Tryz.func76,Tryz.ntmps76
 go_wp2_with (fail)
 refine CRS.out.mono ?_
 rintro e w1 ⟨u,rfl,⟨Au,nu,cu,rfl,hrs,hcu⟩,hI1,hf1⟩
 have hnu:nu=t.nr:=by rw[← hrs.1,HRN.out,HR.out]
 subst hnu
 obtain⟨bu,ou,rfl,hzu,_,hcc⟩:=hrs.2 (by omega)
 obtain⟨Al,nl,cl,hcell,hpl,hcl⟩:=hcc i hi;rw[HGET.out]at hpl;have hnl:=hpl.len;have HNL:=Lib.hid hnl
 have hnl6:nl≤1000000:=by rw[← hnl];exact HLEN.out
 have hf01:=HF0.out.frm hf1
 have hz1:w.heap.size+2≤w1.heap.size:=by have:=hf01.z;simpa using this
 have HST:Hid (BestI t T w Al nl L 0 0 ⟨0,0⟩ (.slice none 0 0) w1):=by
  unfold Hid BestI;rw[hTT]
  exact⟨hf01,hI1,hpl,.inl ⟨rfl,rfl⟩⟩
 have HB1:Hid (SQ T' w1 B t.h other):=HB0.out.frm (frmT hf1 hI1.sub);have HTT:=Lib.hid hTT;have HS1:=Lib.hid hI1.sub;clear hrs hcc hI1 hf1 hpl hf01 hnl CRS HF0 HB0 hTT
 go_wp2_with (fail)
 go_loopw [11,24] (fun v11 v24 wr=>∃(k a:Nat) (xn:Int) (xd:Nat),k≤nl∧v24 = .int .i64 k∧Hid (bestS (sq t.s) (sec t.s other) (L.take k)=some (k,a,⟨xn,xd⟩))∧(∃vx,vx=v11∧Hid (BestI t T w Al nl L k a ⟨xn,xd⟩ vx wr))∧Hid (Frm T' w1 wr)) (fun _ v24 _=>nl-(intOf v24).toNat)
 case atStart=>exact⟨0,0,0,0,by omega,rfl,rfl,⟨_,rfl,HST.out⟩,Frm.refl _ _⟩
 case round=>
  clear HST hcell hcl hzu;obtain⟨k,at',xn,xd,hk,rfl,hbs,⟨vx,rfl,hBI⟩,hfw⟩:=hrel;obtain⟨hF,hIr,hPLr,hBV⟩:=hBI.out;have HF:=Lib.hid hF;rw[HTT.out]at hIr hPLr hBV;have HI:=Lib.hid hIr;have HPL:=Lib.hid hPLr;have HBV:=Lib.hid hBV;clear hF hIr hPLr hBV hBI
  by_cases hlt:k<nl
  ·have hki:(k:Int)<(nl:Int):=by omega
   obtain⟨bl,ol,Bq,mq,cq,rfl,hzl,hcq,hsq,hmq⟩:=HPL.out.at hlt
   have hqp:=HRP.out _ (getD_mem' L [] (by rw[HNL.out];exact hlt))
   have hmh:t.h=mq:=by rw[← hsq.1.1];exact hqp.1.symm
   subst hmh;obtain⟨bq,oq,rfl,_,_⟩:=hsq.1.2 hh1
   have hzr:w.heap.size+2≤wr.heap.size:=by have:=HF.out.z;simpa using this
   have hbtr:=HI.out.ltB
   have CSEC:=Lib.hid (HSEC.out _ (getD_mem' L [] (by rw[HNL.out];exact hlt)) T' (some ⟨bq,oq,none⟩) B cq cb wr (HTN.out wr hzr) HI.out hsq hmq (HB1.out.frm hfw.out) hcb)
   have HSQ:=Lib.hid hsq
   have HLL:Hid (k<L.length):=by unfold Hid;rw[HNL.out];exact hlt
   rcases hso:sec t.s other (L.getD k []) with _|⟨yn,yd⟩
   ·have HR:Hid (bestS (sq t.s) (sec t.s other) L=none):=bestS_stop HLL.out hbs.out hso
    rw[hso]at CSEC;clear hqp hsq hso;obtain⟨z0,c00,f00,c01,f01,z1,c10,f10,c11,f11⟩:=HF.out.xf4
    go_wp2_with (fail)
    clear z0 c00 f00 c01 f01 z1 c10 f10 c11 f11
    refine CSEC.out.mono ?_
    rintro e w2 ⟨rfl,hI2,hf2⟩
    have HF2:=Lib.hid (HF.out.frm hf2);have HI2:=Lib.hid hI2;unfold exV
    simp only[Option.getD_none,Option.isSome_none]
    clear hI2 hf2 HF HI HPL HBV HSQ CSEC;obtain⟨z0,c00,f00,c01,f01,z1,c10,f10,c11,f11⟩:=HF2.out.xf4
    go_wp2_with (fail)
    refine bodyPost_ret (v:=.tuple #[.slice none 0 0,.agg #[.int .i64 0,.int .i64 0],.bool false]) (by simp[results,Tryz.results76,go_sem,c00,c01,z0,f00,f01]) rfl ?_
    rw[HR.out]
    refine⟨?_,?_,rfl⟩
    ·refine RaceI.less (T:=T') ?_ (fun k hk=>by rw[← HTT.out];exact .inl hk) HSUB.out
     repeat (first|exact HI2.out|refine RaceI.alloc ?_ _|refine RaceI.stored ?_ _ (by rw[← HTT.out];exact ownT_at 0 rfl (by omega)) (HNS.out 0))
    ·repeat (first|exact HF2.out.f|refine Frm.alloc ?_ _|refine Frm.ownSet ?_ (by omega) _)
   ·have HYV:Hid (Val (sq t.s) ⟨yn,yd⟩):=HSV.out _ _ hso
    have HXV:Hid (Val (sq t.s) ⟨xn,xd⟩):=bestS_val hq1 HSV.out hbs.out;have HSO:=Lib.hid hso
    have HGO:Hid (k=0∨ltE (sq t.s) ⟨xn,xd⟩ ⟨yn,yd⟩=true→bestS (sq t.s) (sec t.s other) (L.take (k+1))=some (k+1,k,⟨yn,yd⟩)):=fun h=>bestS_go HLL.out hbs.out hso h
    have HKP:Hid (k≠0→ltE (sq t.s) ⟨xn,xd⟩ ⟨yn,yd⟩=false→bestS (sq t.s) (sec t.s other) (L.take (k+1))=some (k+1,at',⟨xn,xd⟩)):=fun h1 h2=>bestS_keep HLL.out hbs.out hso h1 h2
    rw[hso]at CSEC;clear hqp hsq hso;obtain⟨z0,c00,f00,c01,f01,z1,c10,f10,c11,f11⟩:=HF.out.xf4
    go_wp2_with (fail)
    clear z0 c00 f00 c01 f01 z1 c10 f10 c11 f11
    refine CSEC.out.mono ?_
    rintro e w2 ⟨rfl,hI2,hf2⟩
    have HF2:Hid (FrS t.S w (w2.alloc (.cells #[.int .i64 yn,.int .i64 (yd:Int)] 35)) [[.int .i64 0,.int .i64 0],[.int .i64 xn,.int .i64 (xd:Int)]]):=(HF.out.frm hf2).alloc _;have HI2:Hid (RaceI t T' (w2.alloc (.cells #[.int .i64 yn,.int .i64 (yd:Int)] 35))):=hI2.alloc _;have hfT:Frm T' wr (w2.alloc (.cells #[.int .i64 yn,.int .i64 (yd:Int)] 35)):=(frmT hf2 HS1.out).alloc _;have HPL2:=Lib.hid (HPL.out.frm hfT);have HBV2:=Lib.hid (HBV.out.frm hfT);have HSQ2:=Lib.hid (HSQ.out.frm hfT);have HFW2:Hid (Frm T' w1 (w2.alloc (.cells #[.int .i64 yn,.int .i64 (yd:Int)] 35))):=(hfw.out.trans (frmT hf2 HS1.out)).alloc _;have hzg:w.heap.size+2≤w2.heap.size:=Nat.le_trans hzr hf2.size
    have g0:(w2.alloc (.cells #[.int .i64 yn,.int .i64 (yd:Int)] 35)).cell? ⟨w2.heap.size,0,none⟩=some (.int .i64 yn):=by simp[go_sem]
    have g1:(w2.alloc (.cells #[.int .i64 yn,.int .i64 (yd:Int)] 35)).cell? ⟨w2.heap.size,1,none⟩=some (.int .i64 (yd:Int)):=by simp[go_sem]
    have gz:w2.heap.size<(w2.alloc (.cells #[.int .i64 yn,.int .i64 (yd:Int)] 35)).heap.size:=by simp
    unfold exV
    simp only[Option.getD_some,Option.isSome_some]
    clear hI2 hf2 hfT HF HI HPL HBV HSQ CSEC hzr;have e0:=HI2.out.tb 0 _ rfl;have e1:=HI2.out.tb 1 _ rfl;have e2:=HI2.out.tb 2 _ rfl;have e3:=HI2.out.tb 3 _ rfl;have hbt:=HI2.out.ltB
    by_cases hk0:k=0
    ·have hvx:vx = .slice none 0 0:=by
      rcases HBV2.out with⟨_,h⟩|⟨h,_⟩
      ·exact h
      ·omega
     have HR:=Lib.hid (HGO.out (.inl hk0));have HK0:=Lib.hid hk0;subst hvx
     have hnil:∀W:World,(binOp .eql 26 (.slice none 0 0) (.slice none 0 0)).run Tryz.prog W = .ok (.bool true) W:=fun W=>Lib.run_eql_slice_nil (P:=Tryz.prog) W 26 2 none 0 0 0 0 Tryz.underlying26
     clear hk0 HGO HKP
     go_wp2_with (fail)
     generalize w2.alloc (.cells #[.int .i64 yn,.int .i64 (yd:Int)] 35)=W2 at *
     first|refine wp_region_more2 (by kernel_rfl) (by kernel_rfl) ?_|refine wp_region_more (by kernel_rfl) (by kernel_rfl) ?_
     repeat (first|go_big_quiet_step (fail)|quiet_step (fail))
     refine wpQuiet_nil ?_
     intro _ hw'
     obtain⟨tr,hw''⟩:=hw';subst hw'';have HF3:=Lib.hid (HF2.out.more tr);have HI3:=Lib.hid (HI2.out.below (below_more _ tr));have HPL3:=Lib.hid (HPL2.out.below (below_more _ tr));have HBV3:=Lib.hid (HBV2.out.frm (Frm.of_below' _ (below_more _ tr)));have HSQ3:=Lib.hid (HSQ2.out.below (below_more _ tr));have HFW3:=Lib.hid (HFW2.out.trans (Frm.of_below' _ (below_more _ tr)));have k0:=keep_cell g0 (below_more _ tr);have k1:=keep_cell g1 (below_more _ tr);have kz:=Nat.lt_of_lt_of_le gz (size_more _ tr);clear HF2 HI2 HPL2 HBV2 HSQ2 HFW2 g0 g1 gz e0 e1 e2 e3 hbt;generalize more W2 tr=Z at *;obtain⟨z0,c00,f00,c01,f01,z1,c10,f10,c11,f11⟩:=HF3.out.xf4
     go_wp2_with (fail)
     first|refine wp_region_tail_more2 3 (by kernel_rfl) (by kernel_rfl) ?_|refine wp_region_tail_more 3 (by kernel_rfl) (by kernel_rfl) ?_
     simp only[List.take_succ_cons,List.take_zero,List.drop_succ_cons,List.drop_zero]
     repeat (first|go_big_quiet_step (fail)|quiet_step (fail))
     refine wpQuiet_nil ?_
     intro _ hw'
     obtain⟨tr2,hw''⟩:=hw';subst hw'';have HF4:=Lib.hid (HF3.out.more tr2);have HI4:=Lib.hid (HI3.out.below (below_more _ tr2));have HPL4:=Lib.hid (HPL3.out.below (below_more _ tr2));have HSQ4:=Lib.hid (HSQ3.out.below (below_more _ tr2));have HFW4:=Lib.hid (HFW3.out.trans (Frm.of_below' _ (below_more _ tr2)));clear z0 c00 f00 c01 f01 z1 c10 f10 c11 f11;clear HF3 HI3 HPL3 HBV3 HSQ3 HFW3 k0 k1 kz;generalize more Z tr2=Y at *;obtain⟨z0,c00,f00,c01,f01,z1,c10,f10,c11,f11⟩:=HF4.out.xf4
     go_wp2_with (fail)
     clear z0 c00 f00 c01 f01 z1 c10 f10 c11 f11
     have hTb:T' (w.heap.size+1):=by rw[← HTT.out];exact ownT_at 1 rfl (by omega)
     have hfo:∀(X:World) (j:Nat) (v:Value),Frm T' X (X.setCell ⟨w.heap.size+1,j,none⟩ v):=fun X j v=>(Frm.set X (w.heap.size+1) j v).mono fun x hx=>by rw[hx];exact hTb
     have HBI:Hid (BestI t T w (some ⟨bl,ol,none⟩) nl L (k+1) k ⟨yn,yd⟩ (.slice (some ⟨bq,oq,none⟩) t.h cq) ((Y.setCell ⟨w.heap.size+1,0,none⟩ (.int .i64 yn)).setCell ⟨w.heap.size+1,1,none⟩ (.int .i64 (yd:Int)))):=by
      refine⟨(HF4.out.set 1 0 rfl rfl _).set 1 1 rfl rfl _,?_,?_,?_⟩
      ·rw[HTT.out];exact (HI4.out.stored _ hTb (HNS.out 1)).stored _ hTb (HNS.out 1)
      ·rw[HTT.out];exact (HPL4.out.frm (hfo _ _ _)).frm (hfo _ _ _)
      ·rw[HTT.out];exact .inr ⟨by omega,bq,oq,cq,rfl,hmq,(HSQ4.out.frm (hfo _ _ _)).frm (hfo _ _ _)⟩
     have HFW5:Hid (Frm T' w1 ((Y.setCell ⟨w.heap.size+1,0,none⟩ (.int .i64 yn)).setCell ⟨w.heap.size+1,1,none⟩ (.int .i64 (yd:Int)))):=(HFW4.out.trans (hfo _ _ _)).trans (hfo _ _ _);clear hTb hfo
     go_roundw
     case rel=>exact⟨k+1,k,yn,yd,by omega,by go_num,HR.out,⟨_,rfl,HBI.out⟩,HFW5.out⟩
     case measure=>(simp[intOf])<;>omega
    ·obtain⟨bv,ov,cv,hvx,hcv,hsv⟩:∃b off c,vx = .slice (some ⟨b,off,none⟩) t.h c∧t.h≤c∧SQ T' (w2.alloc (.cells #[.int .i64 yn,.int .i64 (yd:Int)] 35)) (some ⟨b,off,none⟩) t.h (L.getD at' []):=by
      rcases HBV2.out with⟨h,_⟩|⟨_,h⟩
      ·exact absurd h hk0
      ·exact h
     subst hvx
     have hnil:∀W:World,(binOp .eql 26 (.slice (some ⟨bv,ov,none⟩) t.h cv) (.slice none 0 0)).run Tryz.prog W = .ok (.bool false) W:=fun W=>Lib.run_eql_slice_nil (P:=Tryz.prog) W 26 2 (some ⟨bv,ov,none⟩) t.h cv 0 0 Tryz.underlying26
     have COMP:=Lib.hid fun (W:World)=>compareExact_any t.p t.c t.h yn xn t.s yd xd W hs1 hs6 HYV.out HXV.out
     have HCS:Hid ((0<cmpE (sq t.s) ⟨yn,yd⟩ ⟨xn,xd⟩)=(ltE (sq t.s) ⟨xn,xd⟩ ⟨yn,yd⟩=true)):=cmp_swap;have hcb1:=cmp_bd (sq t.s) ⟨yn,yd⟩ ⟨xn,xd⟩;generalize cmpE (sq t.s) ⟨yn,yd⟩ ⟨xn,xd⟩=cm at *;clear hsv
     by_cases hcm:0<cm
     ·have HR:=Lib.hid (HGO.out (.inr (by rw[← HCS.out];exact hcm)))
      clear HGO HKP
      go_wp2_with (fail)
      generalize w2.alloc (.cells #[.int .i64 yn,.int .i64 (yd:Int)] 35)=W2 at *;obtain⟨z0,c00,f00,c01,f01,z1,c10,f10,c11,f11⟩:=HF2.out.xf4
      first|refine wp_region_more2 (by kernel_rfl) (by kernel_rfl) ?_|refine wp_region_more (by kernel_rfl) (by kernel_rfl) ?_
      repeat (first|go_big_quiet_step ((go_at_call 166;exact more_call (COMP.out _)))|quiet_step ((go_at_call 166;exact more_call (COMP.out _))))
      refine wpQuiet_nil ?_
      intro _ hw'
      obtain⟨tr,hw''⟩:=hw';subst hw'';clear z0 c00 f00 c01 f01 z1 c10 f10 c11 f11;have HF3:=Lib.hid (HF2.out.more tr);have HI3:=Lib.hid (HI2.out.below (below_more _ tr));have HPL3:=Lib.hid (HPL2.out.below (below_more _ tr));have HBV3:=Lib.hid (HBV2.out.frm (Frm.of_below' _ (below_more _ tr)));have HSQ3:=Lib.hid (HSQ2.out.below (below_more _ tr));have HFW3:=Lib.hid (HFW2.out.trans (Frm.of_below' _ (below_more _ tr)));have k0:=keep_cell g0 (below_more _ tr);have k1:=keep_cell g1 (below_more _ tr);have kz:=Nat.lt_of_lt_of_le gz (size_more _ tr);clear HF2 HI2 HPL2 HBV2 HSQ2 HFW2 g0 g1 gz e0 e1 e2 e3 hbt;generalize more W2 tr=Z at *;obtain⟨z0,c00,f00,c01,f01,z1,c10,f10,c11,f11⟩:=HF3.out.xf4
      go_wp2_with (fail)
      first|refine wp_region_tail_more2 3 (by kernel_rfl) (by kernel_rfl) ?_|refine wp_region_tail_more 3 (by kernel_rfl) (by kernel_rfl) ?_
      simp only[List.take_succ_cons,List.take_zero,List.drop_succ_cons,List.drop_zero]
      repeat (first|go_big_quiet_step (fail)|quiet_step (fail))
      refine wpQuiet_nil ?_
      intro _ hw'
      obtain⟨tr2,hw''⟩:=hw';subst hw'';have HF4:=Lib.hid (HF3.out.more tr2);have HI4:=Lib.hid (HI3.out.below (below_more _ tr2));have HPL4:=Lib.hid (HPL3.out.below (below_more _ tr2));have HSQ4:=Lib.hid (HSQ3.out.below (below_more _ tr2));have HFW4:=Lib.hid (HFW3.out.trans (Frm.of_below' _ (below_more _ tr2)));clear z0 c00 f00 c01 f01 z1 c10 f10 c11 f11;clear HF3 HI3 HPL3 HBV3 HSQ3 HFW3 k0 k1 kz;generalize more Z tr2=Y at *;obtain⟨z0,c00,f00,c01,f01,z1,c10,f10,c11,f11⟩:=HF4.out.xf4
      go_wp2_with (fail)
      clear z0 c00 f00 c01 f01 z1 c10 f10 c11 f11
      have hTb:T' (w.heap.size+1):=by rw[← HTT.out];exact ownT_at 1 rfl (by omega)
      have hfo:∀(X:World) (j:Nat) (v:Value),Frm T' X (X.setCell ⟨w.heap.size+1,j,none⟩ v):=fun X j v=>(Frm.set X (w.heap.size+1) j v).mono fun x hx=>by rw[hx];exact hTb
      have HBI:Hid (BestI t T w (some ⟨bl,ol,none⟩) nl L (k+1) k ⟨yn,yd⟩ (.slice (some ⟨bq,oq,none⟩) t.h cq) ((Y.setCell ⟨w.heap.size+1,0,none⟩ (.int .i64 yn)).setCell ⟨w.heap.size+1,1,none⟩ (.int .i64 (yd:Int)))):=by
       refine⟨(HF4.out.set 1 0 rfl rfl _).set 1 1 rfl rfl _,?_,?_,?_⟩
       ·rw[HTT.out];exact (HI4.out.stored _ hTb (HNS.out 1)).stored _ hTb (HNS.out 1)
       ·rw[HTT.out];exact (HPL4.out.frm (hfo _ _ _)).frm (hfo _ _ _)
       ·rw[HTT.out];exact .inr ⟨by omega,bq,oq,cq,rfl,hmq,(HSQ4.out.frm (hfo _ _ _)).frm (hfo _ _ _)⟩
      have HFW5:Hid (Frm T' w1 ((Y.setCell ⟨w.heap.size+1,0,none⟩ (.int .i64 yn)).setCell ⟨w.heap.size+1,1,none⟩ (.int .i64 (yd:Int)))):=(HFW4.out.trans (hfo _ _ _)).trans (hfo _ _ _);clear hTb hfo
      go_roundw
      case rel=>exact⟨k+1,k,yn,yd,by omega,by go_num,HR.out,⟨_,rfl,HBI.out⟩,HFW5.out⟩
      case measure=>(simp[intOf])<;>omega
     ·have HR:=Lib.hid (HKP.out hk0 (by
       cases hl:ltE (sq t.s) ⟨xn,xd⟩ ⟨yn,yd⟩with
       | false=>rfl
       | true=>exact absurd (by rw[HCS.out];exact hl) hcm))
      clear HGO HKP
      go_wp2_with (fail)
      generalize w2.alloc (.cells #[.int .i64 yn,.int .i64 (yd:Int)] 35)=W2 at *;obtain⟨z0,c00,f00,c01,f01,z1,c10,f10,c11,f11⟩:=HF2.out.xf4
      first|refine wp_region_more2 (by kernel_rfl) (by kernel_rfl) ?_|refine wp_region_more (by kernel_rfl) (by kernel_rfl) ?_
      repeat (first|go_big_quiet_step ((go_at_call 166;exact more_call (COMP.out _)))|quiet_step ((go_at_call 166;exact more_call (COMP.out _))))
      refine wpQuiet_nil ?_
      intro _ hw'
      obtain⟨tr,hw''⟩:=hw';subst hw'';clear z0 c00 f00 c01 f01 z1 c10 f10 c11 f11;have HF3:=Lib.hid (HF2.out.more tr);have HI3:=Lib.hid (HI2.out.below (below_more _ tr));have HPL3:=Lib.hid (HPL2.out.below (below_more _ tr));have HBV3:=Lib.hid (HBV2.out.frm (Frm.of_below' _ (below_more _ tr)));have HSQ3:=Lib.hid (HSQ2.out.below (below_more _ tr));have HFW3:=Lib.hid (HFW2.out.trans (Frm.of_below' _ (below_more _ tr)));have k0:=keep_cell g0 (below_more _ tr);have k1:=keep_cell g1 (below_more _ tr);have kz:=Nat.lt_of_lt_of_le gz (size_more _ tr);clear HF2 HI2 HPL2 HBV2 HSQ2 HFW2 g0 g1 gz e0 e1 e2 e3 hbt;generalize more W2 tr=Z at *
      have HBI:Hid (BestI t T w (some ⟨bl,ol,none⟩) nl L (k+1) at' ⟨xn,xd⟩ (.slice (some ⟨bv,ov,none⟩) t.h cv) Z):=by
       refine⟨HF3.out,?_,?_,?_⟩
       ·rw[HTT.out];exact HI3.out
       ·rw[HTT.out];exact HPL3.out
       ·rw[HTT.out]
        rcases HBV3.out with⟨h,_⟩|⟨_,h⟩
        ·exact absurd h hk0
        ·exact .inr ⟨by omega,h⟩
      go_wp2_with (fail)
      go_roundw
      case rel=>exact⟨k+1,at',xn,xd,by omega,by go_num,HR.out,⟨_,rfl,HBI.out⟩,HFW3.out⟩
      case measure=>(simp[intOf])<;>omega
  ·have hke:k=nl:=by omega
   have HR:Hid (bestS (sq t.s) (sec t.s other) L=some (k,at',⟨xn,xd⟩)):=by
    have h:=hbs.out
    rwa [List.take_of_length_le (by rw[HNL.out];omega)]at h
   obtain⟨z0,c00,f00,c01,f01,z1,c10,f10,c11,f11⟩:=HF.out.xf4
   go_wp2_with (fail)
   first|refine wp_region_tail_more2 3 (by kernel_rfl) (by kernel_rfl) ?_|refine wp_region_tail_more 3 (by kernel_rfl) (by kernel_rfl) ?_
   simp only[List.take_succ_cons,List.take_zero,List.drop_succ_cons,List.drop_zero]
   repeat (first|go_big_quiet_step (fail)|quiet_step (fail))
   refine wpQuiet_nil ?_
   intro _ hw'
   obtain⟨tr,hw''⟩:=hw';subst hw'';clear z0 c00 f00 c01 f01 z1 c10 f10 c11 f11;have HF2:=Lib.hid (HF.out.more tr);have HI2:=Lib.hid (HI.out.below (below_more _ tr));have HBV2:=Lib.hid (HBV.out.frm (Frm.of_below' _ (below_more _ tr)));clear HF HI HPL HBV hfw;generalize more wr tr=Y at *;obtain⟨z0,c00,f00,c01,f01,z1,c10,f10,c11,f11⟩:=HF2.out.xf4
   go_wp2_with (fail)
   refine bodyPost_ret (v:=.tuple #[vx,.agg #[.int .i64 xn,.int .i64 (xd:Int)],.bool true]) (by simp[results,Tryz.results76,go_sem,c00,c01,z0,f00,f01]) rfl ?_
   rw[HR.out]
   have hTb:T' w.heap.size:=by rw[← HTT.out];exact ownT_at 0 rfl (by omega)
   have hfo:∀(X:World) (j:Nat) (v:Value),Frm T' X (X.setCell ⟨w.heap.size,j,none⟩ v):=fun X j v=>(Frm.set X w.heap.size j v).mono fun x hx=>by rw[hx];exact hTb
   refine⟨?_,?_,vx,rfl,?_⟩
   ·refine RaceI.less (T:=T') ?_ (fun k hk=>by rw[← HTT.out];exact .inl hk) HSUB.out
    repeat (first|exact HI2.out|refine RaceI.alloc ?_ _|refine RaceI.stored ?_ _ hTb (HNS.out 0))
   ·repeat (first|exact HF2.out.f|refine Frm.alloc ?_ _|refine Frm.ownSet ?_ (by omega) _)
   ·have h:=(HBV2.out.frm (hfo _ 0 (.int .i64 xn))).frm (hfo _ 1 (.int .i64 (xd:Int)))
    exact h.imp id fun⟨h0,b,off,c,h1,h2,h3⟩=>⟨h0,b,off,c,h1,h2,h3.less fun k hk=>by rw[← HTT.out];exact .inl hk⟩
end Go.Proofs.YtkaiilmgemaljaaGreat

/- Part of one proof. There are no conditions. -/
import Derived.Test.YtkaiilmgemaljaaGreatBZc
import Derived.Test.YtkaiilmgemaljaaGreatBShelf
import Derived.Test.YtkaiilmgemaljaaGreatBZn
set_option maxHeartbeats 0
set_option linter.unusedVariables false
set_option linter.unusedSimpArgs false
set_option maxRecDepth 10000
/- Contract of comparing two exact numbers, the program's. There are no conditions. -/
namespace Go.Proofs.YtkaiilmgemaljaaGreat
open Go.RowKit Ps Ra Ex
theorem Mul64_hl (x:Nat) (y U:Int) (w:World) (hx:x≤1000000000000000000) (hy0:0≤y) (hy:y≤1000000000000000) (hU:(x:Int)*y=U):
  Calls Tryz.prog 204 #[.int .u64 x,.int .u64 y] w fun e w'=>e = .returned (.tuple #[.int .u64 (hiW U),.int .u64 (loW U)])∧w=w':=by
 obtain⟨k,rfl⟩:=Int.eq_ofNat_of_zero_le hy0
 refine (Tryz.bits_Mul64 x k (by omega) (by omega) w).mono fun e w' ⟨he,hw⟩=>⟨?_,hw.symm⟩
 rw[he,← hU];unfold hiW loW two64
 rw[Int.natCast_ediv,Int.natCast_emod,Int.natCast_mul];rfl
theorem hl_ne1 {u v:Int} (h:u<v):((hiW u == hiW v)=true∧(loW u == loW v)=false∧decide (loW u<loW v)=true∧decide (hiW u<hiW v)=false)∨((hiW u == hiW v)=false∧decide (hiW u<hiW v)=true):=by
 rcases hl_lt h with h1|⟨h1,h2⟩
 ·right;simp;omega
 ·left;simp;omega
theorem hl_ne2 {u v:Int} (h:v<u):((hiW u == hiW v)=true∧(loW u == loW v)=false∧decide (loW u<loW v)=false∧decide (hiW u<hiW v)=false)∨((hiW u == hiW v)=false∧decide (hiW u<hiW v)=false):=by
 rcases hl_lt h with h1|⟨h1,h2⟩
 ·right;simp;omega
 ·left;simp;omega
theorem zbp (p c h xn yn:Int) (s xd yd:Nat) (w:World) (hs1:1≤s) (hs6:s≤6) (hx:Val (sq s) ⟨xn,xd⟩) (hy:Val (sq s) ⟨yn,yd⟩):
  Calls Tryz.prog 166 #[.agg #[.int .i64 p,.int .i64 c,.int .i64 h,.int .i64 s],.agg #[.int .i64 xn,.int .i64 xd],.agg #[.int .i64 yn,.int .i64 yd]] w fun e w'=>e = .returned (.int .i64 (cmpE (sq s) ⟨xn,xd⟩ ⟨yn,yd⟩))∧Below w.heap.size w w':=by
 obtain⟨hq1,hq36,_⟩:=sq_bd hs1 hs6;have hxd:xd<50:=zaO hq1 hx;have hyd:yd<50:=zaO hq1 hy;have hx1 : -1000000000000000000≤xn:=hx.1;have hx2:xn≤1000000000000000000:=hx.2.1;have hy1 : -1000000000000000000≤yn:=hy.1;have hy2:yn≤1000000000000000000:=hy.2.1;have px:=zau hq1 xd;have py:=zau hq1 yd;have px2:pw (sq s) xd≤1000000000000000:=hx.2.2.1;have py2:pw (sq s) yd≤1000000000000000:=hy.2.2.1
 have CX:Hid (∀W:World,Calls Tryz.prog 217 #[.agg #[.int .i64 p,.int .i64 c,.int .i64 h,.int .i64 s],.int .i64 xd] W fun e w'=>e = .returned (.tuple #[.int .i64 (pw (sq s) xd),.bool true])∧Below W.heap.size W w'):=fun W=>by
  have:=zcC p c h s xd W hs1 hs6 (by omega)
  rwa [(zaD px2).1,(zaD px2).2]at this
 have CY:Hid (∀W:World,Calls Tryz.prog 217 #[.agg #[.int .i64 p,.int .i64 c,.int .i64 h,.int .i64 s],.int .i64 yd] W fun e w'=>e = .returned (.tuple #[.int .i64 (pw (sq s) yd),.bool true])∧Below W.heap.size W w'):=fun W=>by
  have:=zcC p c h s yd W hs1 hs6 (by omega)
  rwa [(zaD py2).1,(zaD py2).2]at this
 obtain⟨U,hU⟩:∃U,(xn.natAbs:Int)*pw (sq s) yd=U:=⟨_,rfl⟩;obtain⟨V,hV⟩:∃V,(yn.natAbs:Int)*pw (sq s) xd=V:=⟨_,rfl⟩
 have MX:=h_ fun (W:World)=>Mul64_hl xn.natAbs (pw (sq s) yd) U W (by omega) (by omega) py2 hU
 have MY:=h_ fun (W:World)=>Mul64_hl yn.natAbs (pw (sq s) xd) V W (by omega) (by omega) px2 hV
 have HU:Hid (crs (sq s) ⟨xn,xd⟩ ⟨yn,yd⟩=U):=hU;have HVV:Hid (crs (sq s) ⟨yn,yd⟩ ⟨xn,xd⟩=V):=hV;clear hU hV hx hy
 have HB:Hid (Below w.heap.size w (((w.alloc (.cells #[.int .i64 p,.int .i64 c,.int .i64 h,.int .i64 s] 25)).alloc (.cells #[.int .i64 xn,.int .i64 xd] 35)).alloc (.cells #[.int .i64 yn,.int .i64 yd] 35))):=
  alw (alw ((Below.refl _ _).alloc (Nat.le_refl _) _) (Nat.le_refl _)) (Nat.le_refl _)
 by_cases h1:xn<0
 ·by_cases h2:yn<0
  ·
   rcases Int.lt_trichotomy U V with hlt|heq|hgt
   ·
    have HC:Hid (cmpE (sq s) ⟨xn,xd⟩ ⟨yn,yd⟩=_):=cmp_nn_lt (by rw[HU.out,HVV.out];exact hlt) (by assumption) (by assumption)
    rcases (hl_ne1 hlt) with⟨b1,b2,b3,b4⟩|⟨b1,b4⟩
    ·
     generalize hiW U=u1 at *;generalize hiW V=v1 at *;generalize loW U=u2 at *;generalize loW V=v2 at *
     go_enter Tryz.func166,Tryz.ntmps166
     go_wp2_with (first|(go_at_call 217;first|((with_reducible refine (more_call (CX.out _)).mono ?_);rintro e w' ⟨rfl,t2,rfl⟩)|((with_reducible refine (more_first (CY.out _)).mono ?_);rintro e w' ⟨rfl,t,rfl⟩))|(go_at_call 205;refine (absolute_any _ _ (by omega) (by omega)).mono ?_;rintro e w' ⟨rfl,rfl⟩)|(go_at_call 204;first|((with_reducible refine (MX.out _).mono ?_);rintro e w' ⟨rfl,rfl⟩)|((with_reducible refine (MY.out _).mono ?_);rintro e w' ⟨rfl,rfl⟩)))
     go_ret
     exact⟨by rw[HC.out];rfl,blw HB.out (Nat.le_refl _)⟩
    ·
     generalize hiW U=u1 at *;generalize hiW V=v1 at *;generalize loW U=u2 at *;generalize loW V=v2 at *
     go_enter Tryz.func166,Tryz.ntmps166
     go_wp2_with (first|(go_at_call 217;first|((with_reducible refine (more_call (CX.out _)).mono ?_);rintro e w' ⟨rfl,t2,rfl⟩)|((with_reducible refine (more_first (CY.out _)).mono ?_);rintro e w' ⟨rfl,t,rfl⟩))|(go_at_call 205;refine (absolute_any _ _ (by omega) (by omega)).mono ?_;rintro e w' ⟨rfl,rfl⟩)|(go_at_call 204;first|((with_reducible refine (MX.out _).mono ?_);rintro e w' ⟨rfl,rfl⟩)|((with_reducible refine (MY.out _).mono ?_);rintro e w' ⟨rfl,rfl⟩)))
     go_ret
     exact⟨by rw[HC.out];rfl,blw HB.out (Nat.le_refl _)⟩
   ·
    have HC:Hid (cmpE (sq s) ⟨xn,xd⟩ ⟨yn,yd⟩=0):=cmp_same (by rw[HU.out,HVV.out];exact heq) (.inl ⟨h1,h2⟩)
    have b1:(hiW U == hiW V)=true:=by simp[heq]
    have b2:(loW U == loW V)=true:=by simp[heq]
    clear heq;generalize hiW U=u1 at *;generalize hiW V=v1 at *;generalize loW U=u2 at *;generalize loW V=v2 at *
    go_enter Tryz.func166,Tryz.ntmps166
    go_wp2_with (first|(go_at_call 217;first|((with_reducible refine (more_call (CX.out _)).mono ?_);rintro e w' ⟨rfl,t2,rfl⟩)|((with_reducible refine (more_first (CY.out _)).mono ?_);rintro e w' ⟨rfl,t,rfl⟩))|(go_at_call 205;refine (absolute_any _ _ (by omega) (by omega)).mono ?_;rintro e w' ⟨rfl,rfl⟩)|(go_at_call 204;first|((with_reducible refine (MX.out _).mono ?_);rintro e w' ⟨rfl,rfl⟩)|((with_reducible refine (MY.out _).mono ?_);rintro e w' ⟨rfl,rfl⟩)))
    go_ret
    exact⟨by rw[HC.out];rfl,blw HB.out (Nat.le_refl _)⟩
   ·
    have HC:Hid (cmpE (sq s) ⟨xn,xd⟩ ⟨yn,yd⟩=_):=cmp_nn_gt (by rw[HU.out,HVV.out];exact hgt) (by assumption) (by assumption)
    rcases (hl_ne2 hgt) with⟨b1,b2,b3,b4⟩|⟨b1,b4⟩
    ·
     generalize hiW U=u1 at *;generalize hiW V=v1 at *;generalize loW U=u2 at *;generalize loW V=v2 at *
     go_enter Tryz.func166,Tryz.ntmps166
     go_wp2_with (first|(go_at_call 217;first|((with_reducible refine (more_call (CX.out _)).mono ?_);rintro e w' ⟨rfl,t2,rfl⟩)|((with_reducible refine (more_first (CY.out _)).mono ?_);rintro e w' ⟨rfl,t,rfl⟩))|(go_at_call 205;refine (absolute_any _ _ (by omega) (by omega)).mono ?_;rintro e w' ⟨rfl,rfl⟩)|(go_at_call 204;first|((with_reducible refine (MX.out _).mono ?_);rintro e w' ⟨rfl,rfl⟩)|((with_reducible refine (MY.out _).mono ?_);rintro e w' ⟨rfl,rfl⟩)))
     go_ret
     exact⟨by rw[HC.out];rfl,blw HB.out (Nat.le_refl _)⟩
    ·
     generalize hiW U=u1 at *;generalize hiW V=v1 at *;generalize loW U=u2 at *;generalize loW V=v2 at *
     go_enter Tryz.func166,Tryz.ntmps166
     go_wp2_with (first|(go_at_call 217;first|((with_reducible refine (more_call (CX.out _)).mono ?_);rintro e w' ⟨rfl,t2,rfl⟩)|((with_reducible refine (more_first (CY.out _)).mono ?_);rintro e w' ⟨rfl,t,rfl⟩))|(go_at_call 205;refine (absolute_any _ _ (by omega) (by omega)).mono ?_;rintro e w' ⟨rfl,rfl⟩)|(go_at_call 204;first|((with_reducible refine (MX.out _).mono ?_);rintro e w' ⟨rfl,rfl⟩)|((with_reducible refine (MY.out _).mono ?_);rintro e w' ⟨rfl,rfl⟩)))
     go_ret
     exact⟨by rw[HC.out];rfl,blw HB.out (Nat.le_refl _)⟩
  ·have HC:Hid (cmpE (sq s) ⟨xn,xd⟩ ⟨yn,yd⟩ = -1):=cmp_np hq1 h1 (by show 0≤yn;omega)
   go_enter Tryz.func166,Tryz.ntmps166
   go_wp2_with (fail)
   go_ret
   exact⟨by rw[HC.out];rfl,HB.out⟩
 ·by_cases h2:yn<0
  ·have HC:Hid (cmpE (sq s) ⟨xn,xd⟩ ⟨yn,yd⟩=1):=cmp_pn hq1 (by show 0≤xn;omega) h2
   go_enter Tryz.func166,Tryz.ntmps166
   go_wp2_with (fail)
   go_ret
   exact⟨by rw[HC.out];rfl,HB.out⟩
  ·have h3:0≤xn:=by omega
   have h4:0≤yn:=by omega
   rcases Int.lt_trichotomy U V with hlt|heq|hgt
   ·
    have HC:Hid (cmpE (sq s) ⟨xn,xd⟩ ⟨yn,yd⟩=_):=cmp_pp_lt (by rw[HU.out,HVV.out];exact hlt) (by assumption) (by assumption)
    rcases (hl_ne1 hlt) with⟨b1,b2,b3,b4⟩|⟨b1,b4⟩
    ·
     generalize hiW U=u1 at *;generalize hiW V=v1 at *;generalize loW U=u2 at *;generalize loW V=v2 at *
     go_enter Tryz.func166,Tryz.ntmps166
     go_wp2_with (first|(go_at_call 217;first|((with_reducible refine (more_call (CX.out _)).mono ?_);rintro e w' ⟨rfl,t2,rfl⟩)|((with_reducible refine (more_first (CY.out _)).mono ?_);rintro e w' ⟨rfl,t,rfl⟩))|(go_at_call 205;refine (absolute_any _ _ (by omega) (by omega)).mono ?_;rintro e w' ⟨rfl,rfl⟩)|(go_at_call 204;first|((with_reducible refine (MX.out _).mono ?_);rintro e w' ⟨rfl,rfl⟩)|((with_reducible refine (MY.out _).mono ?_);rintro e w' ⟨rfl,rfl⟩)))
     go_ret
     exact⟨by rw[HC.out];rfl,blw HB.out (Nat.le_refl _)⟩
    ·
     generalize hiW U=u1 at *;generalize hiW V=v1 at *;generalize loW U=u2 at *;generalize loW V=v2 at *
     go_enter Tryz.func166,Tryz.ntmps166
     go_wp2_with (first|(go_at_call 217;first|((with_reducible refine (more_call (CX.out _)).mono ?_);rintro e w' ⟨rfl,t2,rfl⟩)|((with_reducible refine (more_first (CY.out _)).mono ?_);rintro e w' ⟨rfl,t,rfl⟩))|(go_at_call 205;refine (absolute_any _ _ (by omega) (by omega)).mono ?_;rintro e w' ⟨rfl,rfl⟩)|(go_at_call 204;first|((with_reducible refine (MX.out _).mono ?_);rintro e w' ⟨rfl,rfl⟩)|((with_reducible refine (MY.out _).mono ?_);rintro e w' ⟨rfl,rfl⟩)))
     go_ret
     exact⟨by rw[HC.out];rfl,blw HB.out (Nat.le_refl _)⟩
   ·
    have HC:Hid (cmpE (sq s) ⟨xn,xd⟩ ⟨yn,yd⟩=0):=cmp_same (by rw[HU.out,HVV.out];exact heq) (.inr ⟨h3,h4⟩)
    have b1:(hiW U == hiW V)=true:=by simp[heq]
    have b2:(loW U == loW V)=true:=by simp[heq]
    clear heq;generalize hiW U=u1 at *;generalize hiW V=v1 at *;generalize loW U=u2 at *;generalize loW V=v2 at *
    go_enter Tryz.func166,Tryz.ntmps166
    go_wp2_with (first|(go_at_call 217;first|((with_reducible refine (more_call (CX.out _)).mono ?_);rintro e w' ⟨rfl,t2,rfl⟩)|((with_reducible refine (more_first (CY.out _)).mono ?_);rintro e w' ⟨rfl,t,rfl⟩))|(go_at_call 205;refine (absolute_any _ _ (by omega) (by omega)).mono ?_;rintro e w' ⟨rfl,rfl⟩)|(go_at_call 204;first|((with_reducible refine (MX.out _).mono ?_);rintro e w' ⟨rfl,rfl⟩)|((with_reducible refine (MY.out _).mono ?_);rintro e w' ⟨rfl,rfl⟩)))
    go_ret
    exact⟨by rw[HC.out];rfl,blw HB.out (Nat.le_refl _)⟩
   ·
    have HC:Hid (cmpE (sq s) ⟨xn,xd⟩ ⟨yn,yd⟩=_):=cmp_pp_gt (by rw[HU.out,HVV.out];exact hgt) (by assumption) (by assumption)
    rcases (hl_ne2 hgt) with⟨b1,b2,b3,b4⟩|⟨b1,b4⟩
    ·
     generalize hiW U=u1 at *;generalize hiW V=v1 at *;generalize loW U=u2 at *;generalize loW V=v2 at *
     go_enter Tryz.func166,Tryz.ntmps166
     go_wp2_with (first|(go_at_call 217;first|((with_reducible refine (more_call (CX.out _)).mono ?_);rintro e w' ⟨rfl,t2,rfl⟩)|((with_reducible refine (more_first (CY.out _)).mono ?_);rintro e w' ⟨rfl,t,rfl⟩))|(go_at_call 205;refine (absolute_any _ _ (by omega) (by omega)).mono ?_;rintro e w' ⟨rfl,rfl⟩)|(go_at_call 204;first|((with_reducible refine (MX.out _).mono ?_);rintro e w' ⟨rfl,rfl⟩)|((with_reducible refine (MY.out _).mono ?_);rintro e w' ⟨rfl,rfl⟩)))
     go_ret
     exact⟨by rw[HC.out];rfl,blw HB.out (Nat.le_refl _)⟩
    ·
     generalize hiW U=u1 at *;generalize hiW V=v1 at *;generalize loW U=u2 at *;generalize loW V=v2 at *
     go_enter Tryz.func166,Tryz.ntmps166
     go_wp2_with (first|(go_at_call 217;first|((with_reducible refine (more_call (CX.out _)).mono ?_);rintro e w' ⟨rfl,t2,rfl⟩)|((with_reducible refine (more_first (CY.out _)).mono ?_);rintro e w' ⟨rfl,t,rfl⟩))|(go_at_call 205;refine (absolute_any _ _ (by omega) (by omega)).mono ?_;rintro e w' ⟨rfl,rfl⟩)|(go_at_call 204;first|((with_reducible refine (MX.out _).mono ?_);rintro e w' ⟨rfl,rfl⟩)|((with_reducible refine (MY.out _).mono ?_);rintro e w' ⟨rfl,rfl⟩)))
     go_ret
     exact⟨by rw[HC.out];rfl,blw HB.out (Nat.le_refl _)⟩
end Go.Proofs.YtkaiilmgemaljaaGreat
/- Contract of the best of a roll, out of the program's race table. There are no conditions. -/
namespace Go.Proofs.YtkaiilmgemaljaaGreat
open Go.RowKit Ps Ra Ex Go.Maps
theorem bestS_val {B:Int} (hB:1≤B) {f:List Int→Option E} (hf:∀q x,f q=some x→Val B x) {l:List (List Int)}:∀{t:Nat×Nat×E},bestS B f l=some t→Val B t.2.2:=by
 induction l using zbo with
 | nil=>intro t h;rw[bestS_nil]at h;injection h with h;subst h;exact zdh
 | snoc l q ih =>
   intro t h
   rw [zbu] at h
   cases hs : bestS B f l with
   | none => rw [hs] at h; cases h
   | some u =>
     rw [hs] at h
     cases hq : f q with
     | none => rw [hq] at h; cases h
     | some x =>
       rw [hq] at h
       simp only [Option.bind_some, Option.map_some, Option.some.injEq] at h
       subst h
       split
       · exact hf q x hq
       · exact ih (t := u) hs
theorem zfF {n c a b:Nat} {p:List Int} (ha:1≤a) (hb:1≤b) (hp:PosP n c p) (hn:n≤24):(resultsL p a b).length≤663552:=by
 rw[← zeW ha hb hp]
 have h1:=zbc ((dice a b).flatMap fun ds=>rowL ds [p])
 have h2:=zeg hn hp (l:=dice a b) fun ds hds=>⟨(zds ha hb ds hds).1,zht.2 ds hds⟩
 have h3:=(zht (a:=a) (b:=b)).1;unfold rowsF at h2
 omega
theorem bestS_stop {B:Int} {f:List Int→Option E} {l:List (List Int)} {k:Nat} (hk:k<l.length) {t:Nat×Nat×E} (hs:bestS B f (l.take k)=some t) (hq:f (l.getD k [])=none):bestS B f l=none:=by
 have h1:bestS B f (l.take (k+1))=none:=by rw[zam l [] hk,zbu,hs,hq];rfl
 have:=bestS_none (k:=l.drop (k+1)) h1
 rwa [List.take_append_drop]at this
theorem bestS_go {B:Int} {f:List Int→Option E} {l:List (List Int)} {k a:Nat} {m x:E} (hk:k<l.length) (hs:bestS B f (l.take k)=some (k,a,m)) (hq:f (l.getD k [])=some x) (h:k=0∨ltE B m x=true):
  bestS B f (l.take (k+1))=some (k+1,k,x):=by
 rw[zam l [] hk,zbu,hs,hq]
 simp[h]
theorem zgJ {B:Int} {f:List Int→Option E} {l:List (List Int)} {k a:Nat} {m x:E} (hk:k<l.length) (hs:bestS B f (l.take k)=some (k,a,m)) (hq:f (l.getD k [])=some x) (h0:k≠0) (h:ltE B m x=false):
  bestS B f (l.take (k+1))=some (k+1,a,m):=by
 rw[zam l [] hk,zbu,hs,hq]
 simp[h0,h]
def BestV (T:Nat→Prop) (w:World) (h k a:Nat) (l:List (List Int)) (v:Value):Prop:=
 (k=0∧v = .slice none 0 0)∨(0<k∧∃b off c,v = .slice (some ⟨b,off,none⟩) h c∧h≤c∧SQ T w (some ⟨b,off,none⟩) h (l.getD a []))
theorem BestV.frm {T:Nat→Prop} {w w':World} {h k a:Nat} {l:List (List Int)} {v:Value} (hb:BestV T w h k a l v) (hf:Frm T w w'):BestV T w' h k a l v:=
 hb.imp id fun⟨h0,b,off,c,h1,h2,h3⟩=>⟨h0,b,off,c,h1,h2,h3.frm hf⟩
end Go.Proofs.YtkaiilmgemaljaaGreat

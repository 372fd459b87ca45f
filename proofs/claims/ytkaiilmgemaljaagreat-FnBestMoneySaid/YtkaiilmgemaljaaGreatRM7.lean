/- Part of one proof. There are no conditions. -/
import Derived.Test.YtkaiilmgemaljaaGreatRZc
import Derived.Test.YtkaiilmgemaljaaGreatRShelf
import Derived.Test.YtkaiilmgemaljaaGreatRZn
import Derived.Test.YtkaiilmgemaljaaGreatRM3
import Derived.Test.YtkaiilmgemaljaaGreatRN14
import Derived.Test.YtkaiilmgemaljaaGreatRM6
import Derived.DeepKeys4
set_option maxHeartbeats 0
set_option linter.unusedVariables false
set_option linter.unusedSimpArgs false
set_option maxRecDepth 10000
/- Contract of comparing two exact numbers, the program's. There are no conditions. -/
namespace Go.Proofs.YtkaiilmgemaljaaGreat
open Go.RowKit Ps Ra Ex
theorem Mul64_hl (x:Nat) (y U:Int) (w:World) (hx:x<=1000000000000000000) (hy0:0<=y) (hy:y<=1000000000000000) (hU:(x:Int)*y=U):
  Calls Tryz.prog 204 #[.int .u64 x,.int .u64 y] w fun e w'=>e = .returned (.tuple #[.int .u64 (hiW U),.int .u64 (loW U)])/\w=w':=by
 obtain⟨k,rfl⟩:=Int.eq_ofNat_of_zero_le hy0
 refine (Tryz.bits_Mul64 x k (by omega) (by omega) w).mono fun e w' ⟨he,hw⟩=>⟨?_,hw.symm⟩
 rw[he,<- hU];unfold hiW loW two64
 rw[Int.natCast_ediv,Int.natCast_emod,Int.natCast_mul];rfl
theorem hl_ne1 {u v:Int} (h:u<v):((hiW u == hiW v)=true/\(loW u == loW v)=false/\decide (loW u<loW v)=true/\decide (hiW u<hiW v)=false)\/((hiW u == hiW v)=false/\decide (hiW u<hiW v)=true):=by
 rcases hl_lt h with h1|⟨h1,h2⟩
 ·right;simp;omega
 ·left;simp;omega
theorem hl_ne2 {u v:Int} (h:v<u):((hiW u == hiW v)=true/\(loW u == loW v)=false/\decide (loW u<loW v)=false/\decide (hiW u<hiW v)=false)\/((hiW u == hiW v)=false/\decide (hiW u<hiW v)=false):=by
 rcases hl_lt h with h1|⟨h1,h2⟩
 ·right;simp;omega
 ·left;simp;omega
theorem bW (p c h xn yn:Int) (s xd yd:Nat) (w:World) (hs1:1<=s) (hs6:s<=6) (hx:Val (sq s) ⟨xn,xd⟩) (hy:Val (sq s) ⟨yn,yd⟩):
  Calls Tryz.prog 166 #[.agg #[.int .i64 p,.int .i64 c,.int .i64 h,.int .i64 s],.agg #[.int .i64 xn,.int .i64 xd],.agg #[.int .i64 yn,.int .i64 yd]] w fun e w'=>e = .returned (.int .i64 (cmpE (sq s) ⟨xn,xd⟩ ⟨yn,yd⟩))/\Below w.heap.size w w':=by
 obtain⟨hq1,hq36,_⟩:=sq_bd hs1 hs6;have hxd:xd<50:=aX hq1 hx;have hyd:yd<50:=aX hq1 hy;have hx1 : -1000000000000000000<=xn:=hx.1;have hx2:xn<=1000000000000000000:=hx.2.1;have hy1 : -1000000000000000000<=yn:=hy.1;have hy2:yn<=1000000000000000000:=hy.2.1;have px:=aD hq1 xd;have py:=aD hq1 yd;have px2:pw (sq s) xd<=1000000000000000:=hx.2.2.1;have py2:pw (sq s) yd<=1000000000000000:=hy.2.2.1
 have CX:Hid (∀W:World,Calls Tryz.prog 217 #[.agg #[.int .i64 p,.int .i64 c,.int .i64 h,.int .i64 s],.int .i64 xd] W fun e w'=>e = .returned (.tuple #[.int .i64 (pw (sq s) xd),.bool true])/\Below W.heap.size W w'):=fun W=>by
  have:=dU p c h s xd W hs1 hs6 (by omega)
  rwa [(aP px2).1,(aP px2).2]at this
 have CY:Hid (∀W:World,Calls Tryz.prog 217 #[.agg #[.int .i64 p,.int .i64 c,.int .i64 h,.int .i64 s],.int .i64 yd] W fun e w'=>e = .returned (.tuple #[.int .i64 (pw (sq s) yd),.bool true])/\Below W.heap.size W w'):=fun W=>by
  have:=dU p c h s yd W hs1 hs6 (by omega)
  rwa [(aP py2).1,(aP py2).2]at this
 obtain⟨U,hU⟩:∃U,(xn.natAbs:Int)*pw (sq s) yd=U:=⟨_,rfl⟩;obtain⟨V,hV⟩:∃V,(yn.natAbs:Int)*pw (sq s) xd=V:=⟨_,rfl⟩
 have MX:=h_ fun (W:World)=>Mul64_hl xn.natAbs (pw (sq s) yd) U W (by omega) (by omega) py2 hU
 have MY:=h_ fun (W:World)=>Mul64_hl yn.natAbs (pw (sq s) xd) V W (by omega) (by omega) px2 hV
 have HU:Hid (crs (sq s) ⟨xn,xd⟩ ⟨yn,yd⟩=U):=hU;have HVV:Hid (crs (sq s) ⟨yn,yd⟩ ⟨xn,xd⟩=V):=hV;clear hU hV hx hy
 have HB:Hid (Below w.heap.size w (((w.alloc (.cells #[.int .i64 p,.int .i64 c,.int .i64 h,.int .i64 s] 25)).alloc (.cells #[.int .i64 xn,.int .i64 xd] 35)).alloc (.cells #[.int .i64 yn,.int .i64 yd] 35))):=
  alw (alw ((Below.refl _ _).alloc (Nat.le_refl _) _) (Nat.le_refl _)) (Nat.le_refl _)
 by_cases h1:xn<0
 focus
  by_cases h2:yn<0
  focus
   rcases Int.lt_trichotomy U V with hlt|heq|hgt
   focus
    have HC:Hid (cmpE (sq s) ⟨xn,xd⟩ ⟨yn,yd⟩=_):=cmp_nn_lt (by rw[HU.out,HVV.out];exact hlt) (by assumption) (by assumption)
    rcases (hl_ne1 hlt) with⟨b1,b2,b3,b4⟩|⟨b1,b4⟩
    focus
     refine ?zc
    rotate_left
    focus
     refine ?zd
   rotate_left 2
   focus
    have HC:Hid (cmpE (sq s) ⟨xn,xd⟩ ⟨yn,yd⟩=0):=cmp_same (by rw[HU.out,HVV.out];exact heq) (.inl ⟨h1,h2⟩)
    refine ?za
   rotate_left
   focus
    have HC:Hid (cmpE (sq s) ⟨xn,xd⟩ ⟨yn,yd⟩=_):=cmp_nn_gt (by rw[HU.out,HVV.out];exact hgt) (by assumption) (by assumption)
    rcases (hl_ne2 hgt) with⟨b1,b2,b3,b4⟩|⟨b1,b4⟩
    focus
     refine ?ze
    rotate_left
    focus
     refine ?zf
  rotate_left 5
  ·have HC:Hid (cmpE (sq s) ⟨xn,xd⟩ ⟨yn,yd⟩ = -1):=cmp_np hq1 h1 (by show 0<=yn;omega)
   go_enter Tryz.func166,Tryz.ntmps166
   go_wp2_with (fail)
   go_ret
   exact⟨by rw[HC.out];rfl,HB.out⟩
 rotate_left 5
 focus
  by_cases h2:yn<0
  ·have HC:Hid (cmpE (sq s) ⟨xn,xd⟩ ⟨yn,yd⟩=1):=cmp_pn hq1 (by show 0<=xn;omega) h2
   go_enter Tryz.func166,Tryz.ntmps166
   go_wp2_with (fail)
   go_ret
   exact⟨by rw[HC.out];rfl,HB.out⟩
  focus
   have h3:0<=xn:=by omega
   have h4:0<=yn:=by omega
   rcases Int.lt_trichotomy U V with hlt|heq|hgt
   focus
    have HC:Hid (cmpE (sq s) ⟨xn,xd⟩ ⟨yn,yd⟩=_):=cmp_pp_lt (by rw[HU.out,HVV.out];exact hlt) (by assumption) (by assumption)
    rcases (hl_ne1 hlt) with⟨b1,b2,b3,b4⟩|⟨b1,b4⟩
    focus
     refine ?zg
    rotate_left
    focus
     refine ?zh
   rotate_left 2
   focus
    have HC:Hid (cmpE (sq s) ⟨xn,xd⟩ ⟨yn,yd⟩=0):=cmp_same (by rw[HU.out,HVV.out];exact heq) (.inr ⟨h3,h4⟩)
    refine ?zb
   rotate_left
   focus
    have HC:Hid (cmpE (sq s) ⟨xn,xd⟩ ⟨yn,yd⟩=_):=cmp_pp_gt (by rw[HU.out,HVV.out];exact hgt) (by assumption) (by assumption)
    rcases (hl_ne2 hgt) with⟨b1,b2,b3,b4⟩|⟨b1,b4⟩
    focus
     refine ?zi
    rotate_left
    focus
     refine ?zj
 rotate_left 5
 case' zc|zd|ze|zf|zg|zh|zi|zj=>
  generalize hiW U=u1 at *;generalize hiW V=v1 at *;generalize loW U=u2 at *;generalize loW V=v2 at *
 case' za|zb=>
  have b1:(hiW U == hiW V)=true:=by simp[heq]
  have b2:(loW U == loW V)=true:=by simp[heq]
  clear heq;generalize hiW U=u1 at *;generalize hiW V=v1 at *;generalize loW U=u2 at *;generalize loW V=v2 at *
 case za|zb|zc|zd|ze|zf|zg|zh|zi|zj=>
  go_enter Tryz.func166,Tryz.ntmps166
  go_wp2_with (first|(go_at_call 217;first|((with_reducible refine (more_call (CX.out _)).mono ?_);rintro e w' ⟨rfl,t2,rfl⟩)|((with_reducible refine (more_first (CY.out _)).mono ?_);rintro e w' ⟨rfl,t,rfl⟩))|(go_at_call 205;refine (absolute_any _ _ (by omega) (by omega)).mono ?_;rintro e w' ⟨rfl,rfl⟩)|(go_at_call 204;first|((with_reducible refine (MX.out _).mono ?_);rintro e w' ⟨rfl,rfl⟩)|((with_reducible refine (MY.out _).mono ?_);rintro e w' ⟨rfl,rfl⟩)))
  go_ret
  exact⟨by rw[HC.out];rfl,blw HB.out (Nat.le_refl _)⟩
end Go.Proofs.YtkaiilmgemaljaaGreat
/- Contract of the best of a roll, out of the program's race table. There are no conditions. -/
namespace Go.Proofs.YtkaiilmgemaljaaGreat
open Go.RowKit Ps Ra Ex Go.Maps
theorem je {B:Int} (hB:1<=B) {f:List Int->Option E} (hf:∀q x,f q=some x->Val B x) {l:List (List Int)}:∀{t:Nat×Nat×E},bestS B f l=some t->Val B t.2.2:=by
 induction l using aT with
 | nil=>intro t h;rw[jf]at h;injection h with h;subst h;exact eL
 | snoc l q ih =>
   intro t h
   rw [bf] at h
   cases hs : bestS B f l with
   | none => rw [hs] at h; cases h
   | some u =>
     rw [hs] at h
     cases hq : f q with
     | none => rw [hq] at h; cases h
     | some x =>
       rw [hq] at h
       simp only [Option.bind_some, Option.map_some, Option.some.injEq] at h
       subst h
       split
       · exact hf q x hq
       · exact ih (t := u) hs
theorem fA {n c a b:Nat} {p:List Int} (ha:1<=a) (hb:1<=b) (hp:PosP n c p) (hn:n<=24):(resultsL p a b).length<=663552:=by
 rw[<- gX ha hb hp]
 have h1:=bN ((dice a b).flatMap fun ds=>rowL ds [p])
 have h2:=fV hn hp (l:=dice a b) fun ds hds=>⟨(eW ha hb ds hds).1,kJ.2 ds hds⟩
 have h3:=(kJ (a:=a) (b:=b)).1;unfold rowsF at h2
 omega
theorem bestS_stop {B:Int} {f:List Int->Option E} {l:List (List Int)} {k:Nat} (hk:k<l.length) {t:Nat×Nat×E} (hs:bestS B f (l.take k)=some t) (hq:f (l.getD k [])=none):bestS B f l=none:=by
 have h1:bestS B f (l.take (k+1))=none:=by rw[ar l [] hk,bf,hs,hq];rfl
 have:=bestS_none (k:=l.drop (k+1)) h1
 rwa [List.take_append_drop]at this
theorem bestS_go {B:Int} {f:List Int->Option E} {l:List (List Int)} {k a:Nat} {m x:E} (hk:k<l.length) (hs:bestS B f (l.take k)=some (k,a,m)) (hq:f (l.getD k [])=some x) (h:k=0\/ltE B m x=true):
  bestS B f (l.take (k+1))=some (k+1,k,x):=by
 rw[ar l [] hk,bf,hs,hq]
 simp[h]
theorem jQ {B:Int} {f:List Int->Option E} {l:List (List Int)} {k a:Nat} {m x:E} (hk:k<l.length) (hs:bestS B f (l.take k)=some (k,a,m)) (hq:f (l.getD k [])=some x) (h0:k≠0) (h:ltE B m x=false):
  bestS B f (l.take (k+1))=some (k+1,a,m):=by
 rw[ar l [] hk,bf,hs,hq]
 simp[h0,h]
def BestV (T:Nat->Prop) (w:World) (h k a:Nat) (l:List (List Int)) (v:Value):Prop:=
 (k=0/\v = .slice none 0 0)\/(0<k/\∃b off c,v = .slice (some ⟨b,off,none⟩) h c/\h<=c/\SQ T w (some ⟨b,off,none⟩) h (l.getD a []))
theorem BestV.frm {T:Nat->Prop} {w w':World} {h k a:Nat} {l:List (List Int)} {v:Value} (hb:BestV T w h k a l v) (hf:Frm T w w'):BestV T w' h k a l v:=
 hb.imp id fun⟨h0,b,off,c,h1,h2,h3⟩=>⟨h0,b,off,c,h1,h2,h3.frm hf⟩
end Go.Proofs.YtkaiilmgemaljaaGreat
namespace Go.Proofs.YtkaiilmgemaljaaGreat.Mo
open Go.Proofs.YtkaiilmgemaljaaGreat.Ex Go.Proofs.YtkaiilmgemaljaaGreat.Ps Go.Proofs.YtkaiilmgemaljaaGreat.Ra
section
variable {B:Int} {r:Ru} {R:RF} {own other:List Int} {c:Cb}
theorem bevG_val (hR:∀c e,R own other c=some e->Val B e) {y:E×Bool} (h:bevG B r R own other c=some y):Val B y.1:=by
 unfold bevG at h
 cases hx:R own other (4*c.1,2) with
 | none=>rw[hx]at h;cases h
 | some x =>
   rw [hx, Option.bind_some] at h
   split at h
   · cases hy : R own other (8 * c.1, 2) with
     | none => rw [hy] at h; cases h
     | some y' =>
       rw [hy, Option.map_some] at h; injection h with h; subst h
       split
       · exact hR _ _ hy
       · exact hR _ _ hx
   · injection h with h; subst h; exact hR _ _ hx
def les (B:Int) (x:E) (c:Cb):E:=if ltE B x (whl c.1) then x else whl c.1
def lesA (B:Int) (x:E) (c:Cb):Int:=if ltE B x (whl c.1) then 1 else 2
theorem les_val {x:E} (hx:Val B x) (hc:Val B (whl c.1)):Val B (les B x c):=by unfold les;split<;>assumption
theorem kK:dblG B r R own other c=(R own other (2*c.1,2)).bind fun x=>
  if bvr r c then (bevG B r R own other c).map fun y=>if ltE B y.1 (les B x c) then (y.1,if y.2 then 4 else 3) else (les B x c,lesA B x c) else some (les B x c,lesA B x c):=by
 unfold dblG les lesA
 congr 1
 funext x
 by_cases h:ltE B x (whl c.1)=true
 ·simp[h]
 ·simp[h]
theorem dblG_val (hR:∀c e,R own other c=some e->Val B e) (hc:Val B (whl c.1)) {y:E×Int} (h:dblG B r R own other c=some y):Val B y.1:=by
 rw[kK]at h
 cases hx:R own other (2*c.1,2) with
 | none=>rw[hx]at h;cases h
 | some x =>
   rw [hx, Option.bind_some] at h; have hl := les_val (hR _ _ hx) hc
   split at h
   · cases hy : bevG B r R own other c with
     | none => rw [hy] at h; cases h
     | some y' =>
       rw [hy, Option.map_some] at h; injection h with h; subst h
       split
       · exact bevG_val hR hy
       · exact hl
   · injection h with h; subst h; exact hl
theorem eqG_val (hR:∀c e,R own other c=some e->Val B e) (hc:Val B (whl c.1)) (hc2:Val B (whl (-c.1))) {y:E} (h:eqG B r R own other c=some y):Val B y:=by
 unfold eqG at h
 split at h
 ·injection h with h;subst h;exact hc
 ·split at h
  ·injection h with h;subst h;exact hc2
  ·cases hx:R own other c with
   | none=>rw[hx]at h;cases h
   | some x =>
     rw [hx, Option.bind_some] at h
     split at h
     · cases hy : dblG B r R own other c with
       | none => rw [hy] at h; cases h
       | some y' =>
         rw [hy, Option.map_some] at h; injection h with h; subst h
         split
         · exact dblG_val hR hc hy
         · exact hR _ _ hx
     · injection h with h; subst h; exact hR _ _ hx
end
theorem rolF_val {s:Nat} (hB:1<=sq s) {r:Ru}:∀(f:Nat) {own other:List Int} {c:Cb} {e:E},rolF s r f own other c=some e->Val (sq s) e
 | 0,own,other,c,e,h=>by cases h
 | f + 1, own, other, c, e, h => by
   unfold rolF at h
   cases hs : allS (fun ro => (bestS (sq s) (fun q => (eqG (sq s) r (rolF s r f) other q (swp c)).map negE) (resultsL own ro.1 ro.2)).map fun t => t.2.2) (ad s) with
   | none => rw [hs] at h; cases h
   | some xs => rw [hs] at h; exact meanE_val hB h
theorem ew {s:Nat} (hB:1<=sq s) {r:Ru} {own other:List Int} {c:Cb} {e:E} (h:rol s r own other c=some e):Val (sq s) e:=rolF_val hB _ h
theorem dR {B:Int} {n:Int} (h1 : -100000<=n) (h2:n<=100000):Val B (whl n):=whl_val (by unfold aA;omega) (by unfold aA;omega)
theorem kH {s:Nat} (hB:1<=sq s) {r:Ru} {own other:List Int} {c:Cb} (h0 : -100000<=c.1) (h1:c.1<=100000) {e:E} (h:eqv s r own other c=some e):Val (sq s) e:=
 eqG_val (fun c e h=>ew hB h) (dR (by omega) (by omega)) (dR (by omega) (by omega)) h
theorem iF (c:Cb):(swp c).1=c.1:=by
 unfold swp
 split
 ·rfl
 ·split<;>rfl
theorem ko {s:Nat} (hB:1<=sq s) {r:Ru} {other:List Int} {c:Cb} (h0 : -100000<=c.1) (h1:c.1<=100000) {q:List Int} {e:E} (h:neqv s r other c q=some e):Val (sq s) e:=by
 unfold neqv at h
 cases hx:eqv s r other q (swp c) with
 | none=>rw[hx]at h;cases h
 | some x =>
   rw [hx, Option.map_some] at h; injection h with h; subst h
   exact kp (kH hB (by rw [iF]; exact h0) (by rw [iF]; exact h1) hx)
theorem mroll_val {s:Nat} (hB:1<=sq s) {r:Ru} {own other:List Int} {c:Cb} (h0 : -100000<=c.1) (h1:c.1<=100000) (ro:Nat×Nat) (e:E) (h:mroll s r own other c ro=some e):Val (sq s) e:=by
 unfold mroll mbest at h
 cases hb:bestS (sq s) (neqv s r other c) (resultsL own ro.1 ro.2) with
 | none=>rw[hb]at h;cases h
 | some u =>
   rw [hb] at h
   simp only [Option.map_some, Option.some.injEq] at h
   subst h
   exact je hB (fun q x h => ko hB h0 h1 h) hb
theorem gI (s:Nat) (r:Ru) (own other:List Int) (c:Cb) (a b:Nat):mroll s r own other c (a,b)=(bestS (sq s) (neqv s r other c) (resultsL own a b)).map fun t=>t.2.2:=rfl
end Go.Proofs.YtkaiilmgemaljaaGreat.Mo
/- Contract of a win chance's computation, out of the program's race table. There are no conditions. -/
namespace Go.Proofs.YtkaiilmgemaljaaGreat
open Go.RowKit Ps Ra Ex Go.Maps
theorem Tryz.infoE:(Tryz.prog.info? 35).map (fun i=>(i.zero,i.size,i.bytes))=some (some (.agg #[.int .i64 0,.int .i64 0]),2,16):=by kernel_rfl
theorem allS_val {B:Int} {g:Nat×Nat->Option E} (hg:∀r x,g r=some x->Val B x) {l:List (Nat×Nat)}:∀{xs:List E},allS g l=some xs->∀x∈xs,Val B x:=by
 induction l using aT with
 | nil=>intro xs h x hx;unfold allS at h;simp at h;subst h;simp at hx
 | snoc l r ih =>
   intro xs h x hx
   rw [bV] at h
   cases hs : allS g l with
   | none => rw [hs] at h; cases h
   | some u =>
     rw [hs] at h
     cases hr : g r with
     | none => rw [hr] at h; cases h
     | some y =>
       rw [hr] at h
       simp only [Option.bind_some, Option.map_some, Option.some.injEq] at h
       subst h
       rcases List.mem_append.1 hx with hx | hx
       · exact ih hs x hx
       · have : x = y := by simpa using hx
         rw [this]; exact hg r y hr
theorem allS_stop {g:Nat×Nat->Option E} {l:List (Nat×Nat)} {k:Nat} (hk:k<l.length) {xs:List E} (hs:allS g (l.take k)=some xs) (hr:g (l.getD k (0,0))=none):allS g l=none:=by
 have h1:allS g (l.take (k+1))=none:=by rw[ar l (0,0) hk,bV,hs,hr];rfl
 have:=allS_none (k:=l.drop (k+1)) h1
 rwa [List.take_append_drop]at this
theorem allS_go {g:Nat×Nat->Option E} {l:List (Nat×Nat)} {k:Nat} (hk:k<l.length) {xs:List E} {x:E} (hs:allS g (l.take k)=some xs) (hr:g (l.getD k (0,0))=some x):allS g (l.take (k+1))=some (xs++[x]):=by
 rw[ar l (0,0) hk,bV,hs,hr];rfl
def OwnE (w:World) (base:Nat) (v:Value) (xs:List E):Prop:=w.ownsRow base 35 2 v xs.length (exC xs)
theorem OwnE.el {w:World} {base:Nat} {v:Value} {xs:List E} (h:OwnE w base v xs):∃A c,v = .slice A xs.length c/\EL (fun _=>False) w A xs.length xs/\xs.length<=c:=by
 obtain⟨A,c,hv,hs,hc⟩:=cJ (S:=fun _=>False) h (fun k hk h=>h) (by omega)
 exact⟨A,c,hv,⟨rfl,hs⟩,hc⟩
end Go.Proofs.YtkaiilmgemaljaaGreat
/- Contract of a win chance, out of the program's race table. There are no conditions. -/
namespace Go.Proofs.YtkaiilmgemaljaaGreat
open Go.RowKit Ps Ra Ex Go.Maps
open Go.RowKit Ps Ra Ex Go.Maps Mo
def mkV (a b:Int) (c:Cb):Value:=.agg #[.int .i64 a,.int .i64 b,.int .i64 c.1,.int .i64 c.2]
theorem laidOutM:laidOutB Tryz.prog=true:=by kernel_rfl
theorem keyM:Keyed Tryz.prog 208:=Keyed.of_law (deep_law_laid laidOutM (m:=3) (by omega) (of_decide_eq_true (by kernel_rfl)) (by kernel_rfl) (by kernel_rfl))
noncomputable def mkL (a b:Int) (c:Cb):Lit:=(keyOf Tryz.prog 208 (mkV a b c)).getD (.bool false)
theorem keyT:Tryz.prog.keyType 208=true:=by kernel_rfl
theorem cellsK:Tryz.prog.cellsOf 208=4:=by kernel_rfl
theorem cellsCb:Tryz.prog.cellsOf 55=2:=by kernel_rfl
theorem cells64:Tryz.prog.cellsOf 2=1:=by kernel_rfl
theorem kC {a b:Int} {c:Cb} (ha:0<=a) (ha2:a<=1000000) (hb:0<=b) (hb2:b<=1000000) (h1:0<=c.1) (h2:c.1<=1000000) (h3:0<=c.2) (h4:c.2<=1000000):keyOf Tryz.prog 208 (mkV a b c)=some (mkL a b c):=by
 have hs:∃l,keyOf Tryz.prog 208 (mkV a b c)=some l:=by
  have w1:(Lit.int .i64 a).wf=true:=WalkArith.wf_i64 (by omega)
  have w2:(Lit.int .i64 b).wf=true:=WalkArith.wf_i64 (by omega)
  have w3:(Lit.int .i64 c.1).wf=true:=WalkArith.wf_i64 (by omega)
  have w4:(Lit.int .i64 c.2).wf=true:=WalkArith.wf_i64 (by omega)
  have hf:(mkV a b c).formed Tryz.prog 208=true:=by
   simp[Value.formed,Tryz.underlying208,cellsK,mkV]
  obtain⟨d,hd⟩:∃d,Tryz.prog.types.size+1=d+3:=⟨Tryz.prog.types.size+1-3,by have:2<=Tryz.prog.types.size:=of_decide_eq_true (by kernel_rfl);omega⟩
  have hu:=Tryz.underlying208;have hu2:=Tryz.underlying55;have hu3:=Tryz.underlying2;unfold keyOf;rw[hu]
  simp only[keyT,hf,Bool.and_self,if_true]
  rw[hd]
  simp[Program.keyLits,hu,hu2,hu3,cellsK,cellsCb,cells64,mkV,Value.cells,w1,w2,w3,w4]
  split
  ·exact⟨_,rfl⟩
  ·rename_i hn
   exact absurd (by decide) hn
 obtain⟨l,hl⟩:=hs;unfold mkL
 rw[hl];rfl
end Go.Proofs.YtkaiilmgemaljaaGreat

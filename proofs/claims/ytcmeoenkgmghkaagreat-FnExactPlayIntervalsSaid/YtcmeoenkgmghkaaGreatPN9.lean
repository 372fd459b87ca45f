/- Part of one proof. There are no conditions. -/
import Derived.Test.YtcmeoenkgmghkaaGreatPN80
set_option linter.unusedVariables false
set_option linter.unusedSimpArgs false
set_option maxHeartbeats 0
set_option maxRecDepth 10000
open Go.Value renaming int->l,tuple->L,agg->R,bool->Y
open Go.IntKind renaming i64->F
open Go.Ending renaming returned->I
open Go.Obj renaming cells->J
namespace Go.Proofs.YtcmeoenkgmghkaaGreat
open Go.RowKit Ps Ra Ex
def scl(B:Int)(d:Nat):Int:=if pw B d<=aw then pw B d else 0
def sclB(B:Int)(d:Nat):Bool:=decide (pw B d<=aw)
theorem aW{B:Int}{d:Nat}(h:pw B d<=1000000000000000):scl B d=pw B d/\sclB B d=true:=⟨if_pos h,decide_eq_true h⟩
theorem kP{B:Int}{d:Nat}(h:1000000000000000<pw B d):scl B d=0/\sclB B d=false:=⟨if_neg (by show ¬_<=(1000000000000000:Int);omega),decide_eq_false (by show ¬_<=(1000000000000000:Int);omega)⟩
theorem ey(p c h:Int)(s d:Nat)(w:World)(hs1:1<=s)(hs6:s<=6)(hd:d<=1000):
  Calls Tryz.prog 149 #[R #[l F p,l F c,l F h,l F s],l F d] w fun e w'=>e=I (L #[l F (scl (sq s) d),Y (sclB (sq s) d)])/\Below w.heap.size w w':=by
 have HB:Hid (Below w.heap.size w (w.alloc (J #[l F p,l F c,l F h,l F s] 33))):=(Below.refl _ _).alloc (Nat.le_refl _) _;obtain⟨hq1,hq36,hq4⟩:=sq_bd hs1 hs6
 have CB:=h_ fun(W:World)=>ep p c h s W hs6
 by_cases hone:sq s=1
 focus
  have b1:(sq s==1)=true:=by simp[hone]
  have HF:Hid (scl (sq s) d=1/\sclB (sq s) d=true):=by
   have:=aW (B:=sq s) (d:=d) (by rw[hone,gQ];decide)
   rw[hone,gQ]at this;rw[hone];exact this
  refine ?za
 rotate_left
 focus
  have b1:(sq s==1)=false:=by simp[hone]
  have hq:4<=sq s:=by omega
  refine ?zb
 rotate_left
 case' za|zb=>
  clear hone hq4
  go_enter Tryz.func149,Tryz.ntmps149
  go_wp2_with (go_at_call 194;refine(more_first (CB.out _)).mono ?_;rintro e w' ⟨rfl,t,rfl⟩)
 case za=>
  go_ret2
  exact⟨by rw[HF.out.1,HF.out.2];rfl,HB.out.trans ((aa _ _).mono HB.out.size)⟩
 case zb=>
  go_loopw [6,11] (fun sc i wr=>∃k:Nat,k<=d/\i=l F k/\sc=l F (pw (sq s) k)/\pw (sq s) k<=1000000000000000/\Below (w.heap.size+1) (w.alloc (J #[l F p,l F c,l F h,l F s] 33)) wr) (fun _ i _=>d-(intOf i).toNat)
  case atStart=>exact⟨0,by omega,rfl,rfl,by rw[bM];omega,(aa _ _).mono (by simp)⟩
  case round=>
   obtain⟨k,hk,rfl,rfl,hle,hb⟩:=hrel
   have hb0:Below w.heap.size w wr:=HB.out.trans (hb.mono (by omega))
   have hz:w.heap.size<wr.heap.size:=by have:=hb.size;simp at this;omega
   have c0:wr.cell? ⟨w.heap.size,0,none⟩=some (l F p):=by rw[hb.cell (by simp)];simp[go_sem]
   have c1:wr.cell? ⟨w.heap.size,1,none⟩=some (l F c):=by rw[hb.cell (by simp)];simp[go_sem]
   have c2:wr.cell? ⟨w.heap.size,2,none⟩=some (l F h):=by rw[hb.cell (by simp)];simp[go_sem]
   have c3:wr.cell? ⟨w.heap.size,3,none⟩=some (l F s):=by rw[hb.cell (by simp)];simp[go_sem]
   have HBk:=h_ hb;have HB0:=h_ hb0;have hp:=az hq1 k
   have g1:pw (sq s) k*sq s<=1000000000000000*36:=Int.mul_le_mul hle hq36 (by omega) (by omega)
   have g0:0<=pw (sq s) k*sq s:=Int.mul_nonneg (by omega) (by omega)
   clear hb hb0
   by_cases hlt:k<d
   ·by_cases hbig:pw (sq s) k*sq s<=1000000000000000
    ·go_wp2_with (go_at_call 194;refine (more_first (CB.out _)).mono ?_;rintro e w' ⟨rfl,t,rfl⟩)
     go_roundw
     case rel=>exact⟨k+1,by omega,by go_num,rfl,hbig,HBk.out.trans ((aa _ _).mono (by omega))⟩
     case measure=>simp[intOf];omega
    ·have HF:Hid (scl (sq s) d=0/\sclB (sq s) d=false):=kP (by have:=bU hq1 (show k+1<=d by omega);rw[bJ]at this;omega)
     have hbig':1000000000000000<pw (sq s) k*sq s:=by omega
     clear hbig
     go_wp2_with (go_at_call 194;refine(more_first (CB.out _)).mono ?_;rintro e w' ⟨rfl,t,rfl⟩)
     go_ret2
     exact⟨by rw[HF.out.1,HF.out.2];rfl,HB0.out.trans ((aa _ _).mono (by omega))⟩
   ·obtain rfl:k=d:=by omega
    have HF:Hid (scl (sq s) k=pw (sq s) k/\sclB (sq s) k=true):=aW hle
    go_wp2
    go_ret2
    exact⟨by rw[HF.out.1,HF.out.2];rfl,HB0.out⟩
theorem a6(p c h:Int)(s d:Nat)(w:World)(hs1:1<=s)(hs6:s<=6)(hd:d<=1000):
  Calls Tryz.prog 145 #[R #[l F p,l F c,l F h,l F s],l F d] w fun e w'=>e=I (L #[l F (scl (sq s) d),Y (sclB (sq s) d)])/\Below w.heap.size w w':=by
 have HB:Hid (Below w.heap.size w (w.alloc (J #[l F p,l F c,l F h,l F s] 33))):=(Below.refl _ _).alloc (Nat.le_refl _) _;obtain⟨hq1,hq36,-⟩:=sq_bd hs1 hs6
 have CB:=h_ fun(W:World)=>eF p c h s W hs6
 go_enter Tryz.func145,Tryz.ntmps145
 go_wp2
 go_loopw [6,7] (fun sc i wr=>∃k:Nat,k<=d/\i=l F k/\sc=l F (pw (sq s) k)/\pw (sq s) k<=1000000000000000/\Below (w.heap.size+1) (w.alloc (J #[l F p,l F c,l F h,l F s] 33)) wr) (fun _ i _=>d-(intOf i).toNat)
 case atStart=>exact⟨0,by omega,rfl,rfl,by rw[bM];omega,Below.refl _ _⟩
 case round=>
  obtain⟨k,hk,rfl,rfl,hle,hb⟩:=hrel
  have hb0:Below w.heap.size w wr:=HB.out.trans (hb.mono (by omega))
  have hz:w.heap.size<wr.heap.size:=by have:=hb.size;simp at this;omega
  have c0:wr.cell? ⟨w.heap.size,0,none⟩=some (l F p):=by rw[hb.cell (by simp)];simp[go_sem]
  have c1:wr.cell? ⟨w.heap.size,1,none⟩=some (l F c):=by rw[hb.cell (by simp)];simp[go_sem]
  have c2:wr.cell? ⟨w.heap.size,2,none⟩=some (l F h):=by rw[hb.cell (by simp)];simp[go_sem]
  have c3:wr.cell? ⟨w.heap.size,3,none⟩=some (l F s):=by rw[hb.cell (by simp)];simp[go_sem]
  have HBk:=h_ hb;have HB0:=h_ hb0;have hp:=az hq1 k
  have g1:pw (sq s) k*sq s<=1000000000000000*36:=Int.mul_le_mul hle hq36 (by omega) (by omega)
  have g0:0<=pw (sq s) k*sq s:=Int.mul_nonneg (by omega) (by omega)
  clear hb hb0
  by_cases hlt:k<d
  ·by_cases hone:sq s=1
   ·have HF:Hid (scl (sq s) d=pw (sq s) k/\sclB (sq s) d=true):=by
     have:=aW (B:=sq s) (d:=d) (by rw[hone,gQ];decide)
     rw[hone,gQ]at this;rw[hone,gQ];exact this
    have b1:decide (1<sq s)=false:=by simp[hone]
    clear hone
    go_wp2_with (go_at_call 186;refine(more_first (CB.out _)).mono ?_;rintro e w' ⟨rfl,t,rfl⟩)
    go_ret2
    exact⟨by rw[HF.out.1,HF.out.2];rfl,HB0.out.trans ((aa _ _).mono (by omega))⟩
   ·have b1:1<sq s:=by omega
    clear hone
    by_cases hbig:pw (sq s) k*sq s<=1000000000000000
    ·go_wp2_with (go_at_call 186;refine (more_first (CB.out _)).mono ?_;rintro e w' ⟨rfl,t,rfl⟩)
     go_roundw
     case rel=>exact⟨k+1,by omega,by go_num,rfl,hbig,blw (blw HBk.out (by simp)) (by simp)⟩
     case measure=>simp[intOf];omega
    ·have HF:Hid (scl (sq s) d=0/\sclB (sq s) d=false):=kP (by have:=bU hq1 (show k+1<=d by omega);rw[bJ]at this;omega)
     have hbig':1000000000000000<pw (sq s) k*sq s:=by omega
     clear hbig
     go_wp2_with (go_at_call 186;refine(more_first (CB.out _)).mono ?_;rintro e w' ⟨rfl,t,rfl⟩)
     go_ret2
     exact⟨by rw[HF.out.1,HF.out.2];rfl,blw (blw HB0.out (Nat.le_refl _)) (Nat.le_refl _)⟩
  ·obtain rfl:k=d:=by omega
   have HF:Hid (scl (sq s) k=pw (sq s) k/\sclB (sq s) k=true):=aW hle
   go_wp2
   go_ret2
   exact⟨by rw[HF.out.1,HF.out.2];rfl,HB0.out⟩
theorem absolute_any(n:Int)(w:World)(h1: -9000000000000000000<=n)(h2:n<=9000000000000000000):
  Calls Tryz.prog 151 #[l F n] w fun e w'=>e=I (l F (n.natAbs:Int))/\w=w':=by
 by_cases h:n<0
 ·have HF:Hid ((n.natAbs:Int) = -n):=by unfold Hid;omega
  go_enter Tryz.func151,Tryz.ntmps151
  go_wp2
  go_ret
  exact⟨by rw[HF.out];rfl,rfl⟩
 ·have HF:Hid ((n.natAbs:Int)=n):=by unfold Hid;omega
  go_enter Tryz.func151,Tryz.ntmps151
  go_wp2
  go_ret
  exact⟨by rw[HF.out];rfl,rfl⟩
theorem eG(p c h n:Int)(s d:Nat)(w:World)(hs1:1<=s)(hs6:s<=6)(hd:d<=1000):
  Calls Tryz.prog 176 #[R #[l F p,l F c,l F h,l F s],R #[l F n,l F d]] w fun e w'=>e=I (Y (valB (sq s) n d))/\Below w.heap.size w w':=by
 have HB:Hid (Below w.heap.size w ((w.alloc (J #[l F p,l F c,l F h,l F s] 33)).alloc (J #[l F n,l F d] 45))):=((Below.refl _ _).alloc (Nat.le_refl _) _).alloc (by simp) _
 obtain⟨hq1,hq36,-⟩:=sq_bd hs1 hs6
 have CB:=h_ fun(W:World)=>ep p c h s W hs6
 have CS:=h_ fun(W:World)=>ey p c h s d W hs1 hs6 hd
 have CS':=h_ fun(W:World)=>a6 p c h s d W hs1 hs6 hd
 by_cases hn: -1000000000000000000<=n/\n<=1000000000000000000
 focus
  have e1:=bw hn
  by_cases hd0:d=0
  focus
   have HF:Hid (valB (sq s) n d=true):=by subst hd0;exact jE (by show -(1000000000000000000:Int)<=n;omega) hn.2
   have b0:((d:Int)==0)=true:=by simp[hd0]
   clear hd0
   refine ?zd
  rotate_left
  focus
   have b0:((d:Int)==0)=false:=by simp[hd0]
   have hd1:1<=(d:Int):=by omega
   by_cases hone:sq s=1
   focus
    have HF:Hid (valB (sq s) n d=false):=by rw[hone];exact valB_one hd0
    have b1:(sq s==1)=true:=by simp[hone]
    clear hone hd0
    refine ?ze
   rotate_left
   focus
    have b1:(sq s==1)=false:=by simp[hone]
    have b2:1<sq s:=by omega
    by_cases hbig:pw (sq s) d<=1000000000000000
    focus
     have eS:=(aW hbig).2
     have h60:¬60<(d:Int):=by
      intro h60
      have:=pw_big (B:=sq s) (by omega) (d:=d) (by omega)
      have e:aw=1000000000000000:=rfl
      omega
     have hdv:∀P:Prop,(sq s∣n->P)->(¬sq s∣n->P)->P:=fun P h1 h2=>(Decidable.em (sq s∣n)).elim h1 h2
     apply hdv
     focus
      intro hdiv
      have HF:Hid (valB (sq s) n d=false):=valB_dvd hd0 hdiv
      have b3:(n.tmod (sq s) !=0)=false:=by simp[cd.2 hdiv]
      clear hdv hdiv hone hd0
      refine ?za
     rotate_left
     focus
      intro hdiv
      have HF:Hid (valB (sq s) n d=true):=valB_mk (by show -(1000000000000000000:Int)<=n;omega) hn.2 hbig hdiv hone
      have b3:(n.tmod (sq s) !=0)=true:=by simp[cd,hdiv]
      clear hdv hdiv hone hd0
      refine ?zb
    rotate_left 2
    focus
     have HF:Hid (valB (sq s) n d=false):=valB_deep (by show(1000000000000000:Int)<_;omega)
     have eS:=(kP (B:=sq s) (d:=d) (by omega)).2
     clear hone hd0
     by_cases h60:60<(d:Int)
     focus
      refine ?zg
     rotate_left
     focus
      refine ?zc
 rotate_left 6
 focus
  have HF:Hid (valB (sq s) n d=false):=gE (by show n< -(1000000000000000000:Int)\/(1000000000000000000:Int)<n;omega)
  have e1:=cE hn
  refine ?zf
 rotate_left
 case' za|zb|zc=>
  go_enter Tryz.func176,Tryz.ntmps176
  go_wp2_with (first|(go_at_call 138;refine(within_any _ _ _ _).mono ?_;rintro e w' ⟨rfl,rfl⟩)|(go_at_call 194;refine(more_first (CB.out _)).mono ?_;rintro e w' ⟨rfl,t,rfl⟩)|(go_at_call 149;first|(refine(more_call (CS.out _)).mono ?_;rintro e w' ⟨rfl,t,rfl⟩)|(refine(more_first (CS.out _)).mono ?_;rintro e w' ⟨rfl,t,rfl⟩)))
  first|refine ag (by kernel_rfl) (by kernel_rfl) ?_|refine ae (by kernel_rfl) (by kernel_rfl) ?_
  repeat (first|go_big_quiet_step ((go_at_call 194;exact more_call (CB.out _)))|quiet_step ((go_at_call 194;exact more_call (CB.out _))))
  refine wpQuiet_nil ?_
  intro _ hw'
  obtain⟨tq,hw''⟩:=hw';subst hw''
  go_wp2
  go_ret
 case' zd|ze|zf|zg=>
  go_enter Tryz.func176,Tryz.ntmps176
  go_wp2_with (first|(go_at_call 138;refine(within_any _ _ _ _).mono ?_;rintro e w' ⟨rfl,rfl⟩)|(go_at_call 194;refine(more_first (CB.out _)).mono ?_;rintro e w' ⟨rfl,t,rfl⟩)|(go_at_call 149;first|(refine(more_call (CS.out _)).mono ?_;rintro e w' ⟨rfl,t,rfl⟩)|(refine(more_first (CS.out _)).mono ?_;rintro e w' ⟨rfl,t,rfl⟩)))
  go_ret
 case za|zb|zc|zd|ze|zf|zg=>
  refine⟨by rw[HF.out];rfl,?_⟩
  first|exact HB.out|exact blw HB.out (Nat.le_refl _)|exact blw (blw HB.out (Nat.le_refl _)) (Nat.le_refl _)|exact blw (blw (blw HB.out (Nat.le_refl _)) (Nat.le_refl _)) (Nat.le_refl _)
theorem l09Valid_any(p c h n:Int)(s d:Nat)(w:World)(hs1:1<=s)(hs6:s<=6)(hd:d<=1000):
  Calls Tryz.prog 130 #[R #[l F p,l F c,l F h,l F s],R #[l F n,l F d]] w fun e w'=>e=I (Y (valB (sq s) n d))/\Below w.heap.size w w':=by
 have HB:Hid (Below w.heap.size w ((w.alloc (J #[l F p,l F c,l F h,l F s] 33)).alloc (J #[l F n,l F d] 45))):=((Below.refl _ _).alloc (Nat.le_refl _) _).alloc (by simp) _
 obtain⟨hq1,hq36,-⟩:=sq_bd hs1 hs6
 have CB':=h_ fun(W:World)=>eF p c h s W hs6
 have CS:=h_ fun(W:World)=>ey p c h s d W hs1 hs6 hd
 have CS':=h_ fun(W:World)=>a6 p c h s d W hs1 hs6 hd
 by_cases hn: -1000000000000000000<=n/\n<=1000000000000000000
 focus
  have e1:=bw hn
  by_cases hd0:d=0
  focus
   have HF:Hid (valB (sq s) n d=true):=by subst hd0;exact jE (by show -(1000000000000000000:Int)<=n;omega) hn.2
   have b0:((d:Int)==0)=true:=by simp[hd0]
   clear hd0
   refine ?zf
  rotate_left
  focus
   have b0:((d:Int)==0)=false:=by simp[hd0]
   by_cases hone:sq s=1
   focus
    have HF:Hid (valB (sq s) n d=false):=by rw[hone];exact valB_one hd0
    have b2:decide (1<sq s)=false:=by simp[hone]
    have HS:Hid (scl (sq s) d=1/\sclB (sq s) d=true):=by
     have:=aW (B:=sq s) (d:=d) (by rw[hone,gQ];decide)
     rw[hone,gQ]at this;rw[hone];exact this
    have eS:=HS.out.2;clear hone hd0
    refine ?za
   rotate_left
   focus
    have b1:(sq s==1)=false:=by simp[hone]
    have b2:1<sq s:=by omega
    by_cases hbig:pw (sq s) d<=1000000000000000
    focus
     have eS:=(aW hbig).2
     have hdv:∀P:Prop,(sq s∣n->P)->(¬sq s∣n->P)->P:=fun P h1 h2=>(Decidable.em (sq s∣n)).elim h1 h2
     apply hdv
     focus
      intro hdiv
      have HF:Hid (valB (sq s) n d=false):=valB_dvd hd0 hdiv
      have b3:(n.tmod (sq s) !=0)=false:=by simp[cd.2 hdiv]
      clear hdv hdiv hone hd0
      refine ?zb
     rotate_left
     focus
      intro hdiv
      have HF:Hid (valB (sq s) n d=true):=valB_mk (by show -(1000000000000000000:Int)<=n;omega) hn.2 hbig hdiv hone
      have b3:(n.tmod (sq s) !=0)=true:=by simp[cd,hdiv]
      clear hdv hdiv hone hd0
      refine ?zc
    rotate_left 2
    focus
     have HF:Hid (valB (sq s) n d=false):=valB_deep (by show(1000000000000000:Int)<_;omega)
     have eS:=(kP (B:=sq s) (d:=d) (by omega)).2
     clear hone hd0
     by_cases h60:60<(d:Int)
     focus
      refine ?zd
     rotate_left
     focus
      refine ?ze
 rotate_left 6
 focus
  have HF:Hid (valB (sq s) n d=false):=gE (by show n< -(1000000000000000000:Int)\/(1000000000000000000:Int)<n;omega)
  have e1:=cE hn
  refine ?zg
 rotate_left
 case' za|zb|zc|zd|ze=>
  go_enter Tryz.func130,Tryz.ntmps130
  go_wp2_with (first|(go_at_call 107;refine(l01In_any _ _ _ _).mono ?_;rintro e w' ⟨rfl,rfl⟩)|(go_at_call 145;refine(more_first (CS'.out _)).mono ?_;rintro e w' ⟨rfl,t,rfl⟩))
  first|refine ag (by kernel_rfl) (by kernel_rfl) ?_|refine ae (by kernel_rfl) (by kernel_rfl) ?_
  repeat (first|go_big_quiet_step ((go_at_call 186;exact more_call (CB'.out _)))|quiet_step ((go_at_call 186;exact more_call (CB'.out _))))
  refine wpQuiet_nil ?_
  intro _ hw'
  obtain⟨tq,hw''⟩:=hw';subst hw''
  go_wp2
  go_ret
 case' zf|zg=>
  go_enter Tryz.func130,Tryz.ntmps130
  go_wp2_with (first|(go_at_call 107;refine(l01In_any _ _ _ _).mono ?_;rintro e w' ⟨rfl,rfl⟩)|(go_at_call 145;refine(more_first (CS'.out _)).mono ?_;rintro e w' ⟨rfl,t,rfl⟩))
  go_ret
 case za|zb|zc|zd|ze|zf|zg=>
  refine⟨by rw[HF.out];rfl,?_⟩
  first|exact HB.out|exact blw HB.out (Nat.le_refl _)|exact blw (blw HB.out (Nat.le_refl _)) (Nat.le_refl _)|exact blw (blw (blw HB.out (Nat.le_refl _)) (Nat.le_refl _)) (Nat.le_refl _)
def RetE(w:World)(r:Option E)(e:Ending)(w':World):Prop:=e=I (L #[R #[l F (r.getD ⟨0,0⟩).num,l F ((r.getD ⟨0,0⟩).depth:Int)],Y r.isSome])/\Below w.heap.size w w'
theorem RetE.mkY{w w':World}{r:Option E}{m:Int}{d:Nat}(hr:r=some ⟨m,d⟩)(hb:Below w.heap.size w w'):RetE w r (I (L #[R #[l F m,l F (d:Int)],Y true])) w':=by subst hr;exact⟨rfl,hb⟩
theorem RetE.mkN{w w':World}{r:Option E}(hr:r=none)(hb:Below w.heap.size w w'):RetE w r (I (L #[R #[l F 0,l F 0],Y false])) w':=by subst hr;exact⟨rfl,hb⟩
theorem bE(p c h n:Int)(s d:Nat)(w:World)(hs1:1<=s)(hs6:s<=6)(hd:d<=1000)(hn1: -9000000000000000000<=n)(hn2:n<=9000000000000000000):
  Calls Tryz.prog 179 #[R #[l F p,l F c,l F h,l F s],l F n,l F d] w (RetE w (mk (sq s) n d)):=by
 have HB:Hid (Below w.heap.size w ((w.alloc (J #[l F p,l F c,l F h,l F s] 33)).alloc (J #[l F 0,l F 0] 45))):=((Below.refl _ _).alloc (Nat.le_refl _) _).alloc (by simp) _
 obtain⟨hq1,hq36,hq4⟩:=sq_bd hs1 hs6
 have CB:=h_ fun(W:World)=>ep p c h s W hs6
 have HQ4:=h_ hq4
 by_cases hone:sq s=1
 focus
  have b1:(sq s==1)=true:=by simp[hone]
  have H0:Hid (mk (sq s) n d=mk (sq s) n 0):=by rw[hone];exact mk_one n d
  refine ?za
 rotate_left
 focus
  have b1:(sq s==1)=false:=by simp[hone]
  have H1:Hid (sq s=1->d=0):=fun h'=>absurd h' hone
  refine ?zb
 rotate_left
 case' za|zb=>
  clear hone hq4
  go_enter Tryz.func179,Tryz.ntmps179
  go_wp2_with (first|(go_at_call 194;refine(more_first (CB.out _)).mono ?_;rintro e w' ⟨rfl,t,rfl⟩))
 case za=>
  go_loopw [1,2] (fun vn vd wr=>∃(k:Nat) (m:Int),k<=d/\vn=l F m/\vd=l F k/\-9000000000000000000<=m/\m<=9000000000000000000/\Hid (mk (sq s) n d=mk (sq s) m k)/\Hid (sq s=1->k=0)/\Below (w.heap.size+2) ((w.alloc (J #[l F p,l F c,l F h,l F s] 33)).alloc (J #[l F 0,l F 0] 45)) wr) (fun _ vd _=>(intOf vd).toNat)
  case atStart=>exact⟨0,n,by omega,rfl,rfl,hn1,hn2,H0,fun _=>rfl,(aa _ _).mono (by simp)⟩
  case round=>
   have hq4:=HQ4.out;obtain⟨k,m,hk,rfl,rfl,hm1,hm2,hst,h1k,hb⟩:=hrel
   have HB0:Hid (Below w.heap.size w wr):=HB.out.trans (hb.mono (by omega))
   have hz:w.heap.size+1<wr.heap.size:=by have:=hb.size;simp at this;omega
   have hz0:w.heap.size<wr.heap.size:=by omega
   have c0:wr.cell? ⟨w.heap.size,0,none⟩=some (l F p):=by rw[hb.cell (by simp)];simp[go_sem]
   have c1:wr.cell? ⟨w.heap.size,1,none⟩=some (l F c):=by rw[hb.cell (by simp)];simp[go_sem]
   have c2:wr.cell? ⟨w.heap.size,2,none⟩=some (l F h):=by rw[hb.cell (by simp)];simp[go_sem]
   have c3:wr.cell? ⟨w.heap.size,3,none⟩=some (l F s):=by rw[hb.cell (by simp)];simp[go_sem]
   have r0:wr.cell? ⟨w.heap.size+1,0,none⟩=some (l F 0):=by rw[hb.cell (by simp)];simp[go_sem]
   have r1:wr.cell? ⟨w.heap.size+1,1,none⟩=some (l F 0):=by rw[hb.cell (by simp)];simp[go_sem]
   have f0:wr.frozen? ⟨w.heap.size+1,0,none⟩=false:=by rw[hb.frozen (by simp)];simp[go_sem]
   have f1:wr.frozen? ⟨w.heap.size+1,1,none⟩=false:=by rw[hb.frozen (by simp)];simp[go_sem]
   have HBk:=h_ hb;clear hb
   by_cases hk0:k=0
   focus
    have HS:Hid (mk (sq s) n d=if valB (sq s) m k then some ⟨m,k⟩else none):=(hst.out).trans (cM (by rw[hk0];rfl))
    have g0:¬0<(k:Int):=by omega
    clear hk0
    refine ?zg
   rotate_left
   focus
    have g0:0<(k:Int):=by omega
    have g00:1<=k:=by omega
    have hq:4<=sq s:=by
     rcases hq4 with h'|h'
     ·exact absurd (h1k.out h') hk0
     ·exact h'
    clear hk0
    by_cases hdiv:sq s∣m
    ·have b3:(m.tmod (sq s) == 0)=true:=by simp[cd.2 hdiv]
     have e4:m.tdiv (sq s)=m/sq s:=eu hdiv
     have hst':Hid (mk (sq s) n d=mk (sq s) (m.tdiv (sq s)) (k-1)):=by
      have e:mk (sq s) m k=mk (sq s) (m/sq s) (k-1):=by
       unfold mk
       rw[show k=(k-1)+1 by omega,jk hdiv];rfl
      rw[e4];exact(hst.out).trans e
     have q1: -9000000000000000000<=m.tdiv (sq s):=by
      obtain⟨u,hu⟩:=hdiv
      rw[e4,hu,Int.mul_ediv_cancel_left _ (by omega)]
      have:u<=0->sq s*u<=u:=fun hu0=>by have:=Int.mul_le_mul_of_nonpos_right hq1 hu0;omega
      omega
     have q2:m.tdiv (sq s)<=9000000000000000000:=by
      obtain⟨u,hu⟩:=hdiv
      rw[e4,hu,Int.mul_ediv_cancel_left _ (by omega)]
      have:0<=u->u<=sq s*u:=fun hu0=>by have:=Int.mul_le_mul_of_nonneg_right hq1 hu0;omega
      omega
     have h1k':Hid (sq s=1->k-1=0):=fun h'=>by omega
     clear e4 hdiv hq4
     go_wp2_with (first|(go_at_call 194;refine(more_first (CB.out _)).mono ?_;rintro e w' ⟨rfl,t,rfl⟩))
     go_roundw
     case rel=>exact⟨k-1,m.tdiv (sq s),by omega,by go_num,by go_num,q1,q2,hst',h1k',blw (blw HBk.out (by simp)) (by simp)⟩
     case measure=>simp[intOf];omega
    focus
     have b3:(m.tmod (sq s)==0)=false:=by simp[cd,hdiv]
     have HS:Hid (mk (sq s) n d=if valB (sq s) m k then some ⟨m,k⟩else none):=(hst.out).trans (cM (by rw[show k=(k-1)+1 by omega,fB hdiv]))
     clear hdiv hq4
     refine ?zh
   rotate_left
   case' zg|zh=>
    have CI:=h_ fun(W:World)=>eG p c h m s k W hs1 hs6 (by omega)
    go_wp2_with (first|(go_at_call 194;refine(more_first (CB.out _)).mono ?_;rintro e w' ⟨rfl,t,rfl⟩))
   case' zg=>
    obtain⟨W1,hW1⟩:∃W1,W1=wr:=⟨_,rfl⟩
   case' zh=>
    obtain⟨W1,hW1⟩:∃W1,W1=more wr t:=⟨_,rfl⟩
   case' zg|zh=>
    try rw[<-hW1]
    have HB1:Hid (Below w.heap.size w W1):=by
     rw[hW1]
     repeat (first|exact HB0.out|exact HB.out|refine blw ?_ (Nat.le_refl _)|refine alw ?_ (Nat.le_refl _)|refine stw ?_ (by omega)|refine drw ?_)
   case' zg=>
    have z1:w.heap.size+1<W1.heap.size:=by rw[hW1];exact hz
    have y0:W1.cell? ⟨w.heap.size+1,0,none⟩=some (l F 0):=by rw[hW1];assumption
    have y1:W1.cell? ⟨w.heap.size+1,1,none⟩=some (l F 0):=by rw[hW1];assumption
    have y2:W1.frozen? ⟨w.heap.size+1,0,none⟩=false:=by rw[hW1];assumption
    have y3:W1.frozen? ⟨w.heap.size+1,1,none⟩=false:=by rw[hW1];assumption
   case' zh=>
    have z1:w.heap.size+1<W1.heap.size:=by rw[hW1];have:=ai wr t;omega
    have y0:W1.cell? ⟨w.heap.size+1,0,none⟩=some (l F 0):=by rw[hW1];simp[go_sem, *]
    have y1:W1.cell? ⟨w.heap.size+1,1,none⟩=some (l F 0):=by rw[hW1];simp[go_sem, *]
    have y2:W1.frozen? ⟨w.heap.size+1,0,none⟩=false:=by rw[hW1];simp[go_sem, *]
    have y3:W1.frozen? ⟨w.heap.size+1,1,none⟩=false:=by rw[hW1];simp[go_sem, *]
   case zg|zh=>
    clear hW1 c0 c1 c2 c3 r0 r1 f0 f1
    refine(CI.out _).mono ?_
    rintro e w2 ⟨rfl,hb2⟩
    have r0:w2.cell? ⟨w.heap.size+1,0,none⟩=some (l F 0):=ac ((ar _ _ _ z1).trans y0) hb2;have r1:w2.cell? ⟨w.heap.size+1,1,none⟩=some (l F 0):=ac ((ar _ _ _ z1).trans y1) hb2;have f0:w2.frozen? ⟨w.heap.size+1,0,none⟩=false:=aS ((aD _ _ _ z1).trans y2) ((ar _ _ _ z1).trans y0) hb2;have f1:w2.frozen? ⟨w.heap.size+1,1,none⟩=false:=aS ((aD _ _ _ z1).trans y3) ((ar _ _ _ z1).trans y1) hb2
    have x0:w2.cell? ⟨W1.heap.size,0,none⟩=some (l F m):=ac (by simp[go_sem]) hb2
    have x1:w2.cell? ⟨W1.heap.size,1,none⟩=some (l F k):=ac (by simp[go_sem]) hb2
    replace HB1:=h_ ((HB1.out.alloc HB1.out.size _).trans (hb2.mono (by have:=HB1.out.size;simp;omega)))
    clear hb2 y0 y1 y2 y3
    by_cases hval:valB (sq s) m k=true
    ·have HR:=h_ ((HS.out).trans (if_pos hval))
     go_wp2_with (fail)
     refine bodyPost_ret (v:=L #[R #[l F m,l F (k:Int)],Y true]) (by simp[results,Tryz.results179,go_sem,r0,r1]) rfl (RetE.mkY HR.out ?_)
     exact stw (stw HB1.out (by omega)) (by omega)
    ·have HR:=h_ ((HS.out).trans (if_neg hval))
     replace hval:valB (sq s) m k=false:=by simpa using hval
     go_wp2_with (fail)
     refine bodyPost_ret (v:=L #[R #[l F 0,l F 0],Y false]) (by simp[results,Tryz.results179,go_sem,r0,r1]) rfl (RetE.mkN HR.out ?_)
     exact stw (stw HB1.out (by omega)) (by omega)
 case zb=>
  go_loopw [1,2] (fun vn vd wr=>∃(k:Nat) (m:Int),k<=d/\vn=l F m/\vd=l F k/\-9000000000000000000<=m/\m<=9000000000000000000/\Hid (mk (sq s) n d=mk (sq s) m k)/\Hid (sq s=1->k=0)/\Below (w.heap.size+2) ((w.alloc (J #[l F p,l F c,l F h,l F s] 33)).alloc (J #[l F 0,l F 0] 45)) wr) (fun _ vd _=>(intOf vd).toNat)
  case atStart=>exact⟨d,n,Nat.le_refl _,rfl,rfl,hn1,hn2,rfl,H1,(aa _ _).mono (by simp)⟩
  case round=>
   have hq4:=HQ4.out;obtain⟨k,m,hk,rfl,rfl,hm1,hm2,hst,h1k,hb⟩:=hrel
   have HB0:Hid (Below w.heap.size w wr):=HB.out.trans (hb.mono (by omega))
   have hz:w.heap.size+1<wr.heap.size:=by have:=hb.size;simp at this;omega
   have hz0:w.heap.size<wr.heap.size:=by omega
   have c0:wr.cell? ⟨w.heap.size,0,none⟩=some (l F p):=by rw[hb.cell (by simp)];simp[go_sem]
   have c1:wr.cell? ⟨w.heap.size,1,none⟩=some (l F c):=by rw[hb.cell (by simp)];simp[go_sem]
   have c2:wr.cell? ⟨w.heap.size,2,none⟩=some (l F h):=by rw[hb.cell (by simp)];simp[go_sem]
   have c3:wr.cell? ⟨w.heap.size,3,none⟩=some (l F s):=by rw[hb.cell (by simp)];simp[go_sem]
   have r0:wr.cell? ⟨w.heap.size+1,0,none⟩=some (l F 0):=by rw[hb.cell (by simp)];simp[go_sem]
   have r1:wr.cell? ⟨w.heap.size+1,1,none⟩=some (l F 0):=by rw[hb.cell (by simp)];simp[go_sem]
   have f0:wr.frozen? ⟨w.heap.size+1,0,none⟩=false:=by rw[hb.frozen (by simp)];simp[go_sem]
   have f1:wr.frozen? ⟨w.heap.size+1,1,none⟩=false:=by rw[hb.frozen (by simp)];simp[go_sem]
   have HBk:=h_ hb;clear hb
   by_cases hk0:k=0
   focus
    have HS:Hid (mk (sq s) n d=if valB (sq s) m k then some ⟨m,k⟩else none):=(hst.out).trans (cM (by rw[hk0];rfl))
    have g0:¬0<(k:Int):=by omega
    clear hk0
    refine ?zm
   rotate_left
   focus
    have g0:0<(k:Int):=by omega
    have g00:1<=k:=by omega
    have hq:4<=sq s:=by
     rcases hq4 with h'|h'
     ·exact absurd (h1k.out h') hk0
     ·exact h'
    clear hk0
    by_cases hdiv:sq s∣m
    ·have b3:(m.tmod (sq s) == 0)=true:=by simp[cd.2 hdiv]
     have e4:m.tdiv (sq s)=m/sq s:=eu hdiv
     have hst':Hid (mk (sq s) n d=mk (sq s) (m.tdiv (sq s)) (k-1)):=by
      have e:mk (sq s) m k=mk (sq s) (m/sq s) (k-1):=by
       unfold mk
       rw[show k=(k-1)+1 by omega,jk hdiv];rfl
      rw[e4];exact(hst.out).trans e
     have q1: -9000000000000000000<=m.tdiv (sq s):=by
      obtain⟨u,hu⟩:=hdiv
      rw[e4,hu,Int.mul_ediv_cancel_left _ (by omega)]
      have:u<=0->sq s*u<=u:=fun hu0=>by have:=Int.mul_le_mul_of_nonpos_right hq1 hu0;omega
      omega
     have q2:m.tdiv (sq s)<=9000000000000000000:=by
      obtain⟨u,hu⟩:=hdiv
      rw[e4,hu,Int.mul_ediv_cancel_left _ (by omega)]
      have:0<=u->u<=sq s*u:=fun hu0=>by have:=Int.mul_le_mul_of_nonneg_right hq1 hu0;omega
      omega
     have h1k':Hid (sq s=1->k-1=0):=fun h'=>by omega
     clear e4 hdiv hq4
     go_wp2_with (first|(go_at_call 194;refine(more_first (CB.out _)).mono ?_;rintro e w' ⟨rfl,t,rfl⟩))
     go_roundw
     case rel=>exact⟨k-1,m.tdiv (sq s),by omega,by go_num,by go_num,q1,q2,hst',h1k',blw (blw HBk.out (by simp)) (by simp)⟩
     case measure=>simp[intOf];omega
    focus
     have b3:(m.tmod (sq s)==0)=false:=by simp[cd,hdiv]
     have HS:Hid (mk (sq s) n d=if valB (sq s) m k then some ⟨m,k⟩else none):=(hst.out).trans (cM (by rw[show k=(k-1)+1 by omega,fB hdiv]))
     clear hdiv hq4
     refine ?zn
   rotate_left
   case' zm|zn=>
    have CI:=h_ fun(W:World)=>eG p c h m s k W hs1 hs6 (by omega)
    go_wp2_with (first|(go_at_call 194;refine(more_first (CB.out _)).mono ?_;rintro e w' ⟨rfl,t,rfl⟩))
   case' zm=>
    obtain⟨W1,hW1⟩:∃W1,W1=wr:=⟨_,rfl⟩
   case' zn=>
    obtain⟨W1,hW1⟩:∃W1,W1=more wr t:=⟨_,rfl⟩
   case' zm|zn=>
    try rw[<-hW1]
    have HB1:Hid (Below w.heap.size w W1):=by
     rw[hW1]
     repeat (first|exact HB0.out|exact HB.out|refine blw ?_ (Nat.le_refl _)|refine alw ?_ (Nat.le_refl _)|refine stw ?_ (by omega)|refine drw ?_)
   case' zm=>
    have z1:w.heap.size+1<W1.heap.size:=by rw[hW1];exact hz
    have y0:W1.cell? ⟨w.heap.size+1,0,none⟩=some (l F 0):=by rw[hW1];assumption
    have y1:W1.cell? ⟨w.heap.size+1,1,none⟩=some (l F 0):=by rw[hW1];assumption
    have y2:W1.frozen? ⟨w.heap.size+1,0,none⟩=false:=by rw[hW1];assumption
    have y3:W1.frozen? ⟨w.heap.size+1,1,none⟩=false:=by rw[hW1];assumption
   case' zn=>
    have z1:w.heap.size+1<W1.heap.size:=by rw[hW1];have:=ai wr t;omega
    have y0:W1.cell? ⟨w.heap.size+1,0,none⟩=some (l F 0):=by rw[hW1];simp[go_sem, *]
    have y1:W1.cell? ⟨w.heap.size+1,1,none⟩=some (l F 0):=by rw[hW1];simp[go_sem, *]
    have y2:W1.frozen? ⟨w.heap.size+1,0,none⟩=false:=by rw[hW1];simp[go_sem, *]
    have y3:W1.frozen? ⟨w.heap.size+1,1,none⟩=false:=by rw[hW1];simp[go_sem, *]
   case zm|zn=>
    clear hW1 c0 c1 c2 c3 r0 r1 f0 f1
    refine(CI.out _).mono ?_
    rintro e w2 ⟨rfl,hb2⟩
    have r0:w2.cell? ⟨w.heap.size+1,0,none⟩=some (l F 0):=ac ((ar _ _ _ z1).trans y0) hb2;have r1:w2.cell? ⟨w.heap.size+1,1,none⟩=some (l F 0):=ac ((ar _ _ _ z1).trans y1) hb2;have f0:w2.frozen? ⟨w.heap.size+1,0,none⟩=false:=aS ((aD _ _ _ z1).trans y2) ((ar _ _ _ z1).trans y0) hb2;have f1:w2.frozen? ⟨w.heap.size+1,1,none⟩=false:=aS ((aD _ _ _ z1).trans y3) ((ar _ _ _ z1).trans y1) hb2
    have x0:w2.cell? ⟨W1.heap.size,0,none⟩=some (l F m):=ac (by simp[go_sem]) hb2
    have x1:w2.cell? ⟨W1.heap.size,1,none⟩=some (l F k):=ac (by simp[go_sem]) hb2
    replace HB1:=h_ ((HB1.out.alloc HB1.out.size _).trans (hb2.mono (by have:=HB1.out.size;simp;omega)))
    clear hb2 y0 y1 y2 y3
    by_cases hval:valB (sq s) m k=true
    ·have HR:=h_ ((HS.out).trans (if_pos hval))
     go_wp2_with (fail)
     refine bodyPost_ret (v:=L #[R #[l F m,l F (k:Int)],Y true]) (by simp[results,Tryz.results179,go_sem,r0,r1]) rfl (RetE.mkY HR.out ?_)
     exact stw (stw HB1.out (by omega)) (by omega)
    ·have HR:=h_ ((HS.out).trans (if_neg hval))
     replace hval:valB (sq s) m k=false:=by simpa using hval
     go_wp2_with (fail)
     refine bodyPost_ret (v:=L #[R #[l F 0,l F 0],Y false]) (by simp[results,Tryz.results179,go_sem,r0,r1]) rfl (RetE.mkN HR.out ?_)
     exact stw (stw HB1.out (by omega)) (by omega)
theorem d7(a b:Int)(w:World)(ha1: -9000000000000000000<=a)(ha2:a<=9000000000000000000)(hb1: -9000000000000000000<=b)(hb2:b<=9000000000000000000):
  Calls Tryz.prog 174 #[l F a,l F b] w fun e w'=>e=I (l F (Int.gcd a b:Int))/\w=w':=by
 go_enter Tryz.func174,Tryz.ntmps174
 go_wp2
 all_goals
  go_loop [0,1] (fun u v=>∃x y:Nat,u=l F x/\v=l F y/\(x:Int)<=9000000000000000000/\(y:Int)<=9000000000000000000/\Hid (Nat.gcd x y=Int.gcd a b)) (fun _ v=>(intOf v).toNat)
  case atStart=>exact⟨a.natAbs,b.natAbs,by congr 1;omega,by congr 1;omega,by omega,by omega,rfl⟩
  case round=>
   obtain⟨x,y,rfl,rfl,hx,hy,hg⟩:=hrel
   by_cases h0:y=0
   ·subst h0
    have e:Hid (x=Int.gcd a b):=by have:=hg.out;rw[Nat.gcd_zero_right]at this;exact this
    clear hg
    go_wp2
    go_ret
    exact⟨eV (by rw[<-e.out]),rfl⟩
   ·have b1:((y:Int) != 0)=true:=by simp;omega
    have hy1:1<=(y:Int):=by omega
    have hlt:(x:Int)%y<y:=Int.emod_lt_of_pos _ (by omega)
    have hg':Hid (Nat.gcd y (x%y)=Int.gcd a b):=by rw[Hid,gcd_step];exact hg.out
    have E:Hid ((x:Int)%y=((x%y:Nat):Int)):=by rw[Hid,Int.natCast_emod]
    clear h0
    go_wp2
    go_round
    case rel=>exact⟨y,x%y,rfl,by rw[E.out],hy,by rw[<-E.out];omega,hg'⟩
    case measure=>simp[intOf];omega
theorem j4(a b:Int)(w:World)(ha1: -9000000000000000000<=a)(ha2:a<=9000000000000000000)(hb1:1<=b)(hb2:b<=9000000000000000000)(hok:eW a b=true):
  Calls Tryz.prog 175 #[l F a,l F b] w fun e w'=>e=I (L #[l F (a*b),Y true])/\w=w':=by
 have hm:=cH;obtain⟨hp1,hp2⟩:=of_decide_eq_true hok;rw[hm]at hp1 hp2
 by_cases ha0:a=0
 ·have e1:(a != 0)=false:=by simp[ha0]
  clear ha0 hok
  go_enter Tryz.func175,Tryz.ntmps175
  go_wp2
  go_ret2
  exact⟨rfl,rfl⟩
 ·have hb0:b≠0:=by omega
  have e1:(a !=0)=true:=by simp[ha0]
  have e2:(b !=0)=true:=by simp[hb0]
  obtain⟨A,hA⟩:∃A:Int,(a.natAbs:Int)=A:=⟨_,rfl⟩;obtain⟨B,hB⟩:∃B:Int,(b.natAbs:Int)=B:=⟨_,rfl⟩
  have hq:¬1000000000000000000/B<A:=fun hq=>by
   have:=prodOk_no (a:=a) hb0 (by rw[hA,hB,hm];exact hq)
   rw[hok]at this;cases this
  clear hok ha0
  obtain rfl:B=b:=by omega
  rcases Int.lt_or_le a 0 with h3|h3
  ·obtain rfl:A = -a:=by omega
   clear hb0 hA hB hm
   go_enter Tryz.func175,Tryz.ntmps175
   go_wp2
   go_ret2
   exact⟨rfl,rfl⟩
  ·obtain rfl:A=a:=by omega
   clear hb0 hA hB hm
   go_enter Tryz.func175,Tryz.ntmps175
   go_wp2
   go_ret2
   exact⟨rfl,rfl⟩
theorem j5(a b:Int)(w:World)(ha1: -9000000000000000000<=a)(ha2:a<=9000000000000000000)(hb1:1<=b)(hb2:b<=9000000000000000000)(hno:eW a b=false):
  Calls Tryz.prog 175 #[l F a,l F b] w fun e w'=>e=I (L #[l F 0,Y false])/\w=w':=by
 have hm:=cH
 have ha0:a≠0:=fun h=>by rw[prodOk_zero (.inl h)]at hno;cases hno
 have hb0:b≠0:=by omega
 have e1:(a !=0)=true:=by simp[ha0]
 have e2:(b !=0)=true:=by simp[hb0]
 obtain⟨A,hA⟩:∃A:Int,(a.natAbs:Int)=A:=⟨_,rfl⟩;obtain⟨B,hB⟩:∃B:Int,(b.natAbs:Int)=B:=⟨_,rfl⟩
 have hq:1000000000000000000/B<A:=by
  apply Int.not_le.1
  intro hq
  rw[prodOk_yes (a:=a) hb0 (by rw[hA,hB,hm];exact hq)]at hno
  cases hno
 clear hno ha0
 obtain rfl:B=b:=by omega
 rcases Int.lt_or_le a 0 with h3|h3
 ·obtain rfl:A = -a:=by omega
  clear hb0 hA hB hm
  go_enter Tryz.func175,Tryz.ntmps175
  go_wp2
  go_ret2
  exact⟨rfl,rfl⟩
 ·obtain rfl:A=a:=by omega
  clear hb0 hA hB hm
  go_enter Tryz.func175,Tryz.ntmps175
  go_wp2
  go_ret2
  exact⟨rfl,rfl⟩
theorem least_dvd{B q:Int}:∀{D:Nat},q∣pw B D->∃d,d<=D/\q∣pw B d/\∀k,k<d->¬q∣pw B k
 | 0,h=>⟨0,Nat.le_refl _,h,fun k hk=>absurd hk (by omega)⟩
 |D+1,h=>by
   by_cases hD:∃k,k< D+1/\q∣pw B k
   · obtain ⟨k, hk, hd⟩ := hD
     have:=least_below k hd;obtain⟨d,h1,h2,h3⟩:=this
     exact⟨d,by omega,h2,h3⟩
   ·exact⟨D+1,Nat.le_refl _,h,fun k hk hd=>hD ⟨k,hk,hd⟩⟩
where
 least_below:∀(k:Nat),q∣pw B k->∃d,d<=k/\q∣pw B d/\∀j,j<d->¬q∣pw B j:=by
  intro k
  induction k using Nat.strongRecOn with
  |_ k ih=>
   intro hd
   by_cases hk:∃j,j<k/\q∣pw B j
   ·obtain⟨j,hj,hjd⟩:=hk
    obtain⟨d,h1,h2,h3⟩:=ih j hj hjd
    exact⟨d,by omega,h2,h3⟩
   ·exact⟨k,Nat.le_refl _,hd,fun j hj hjd=>hk ⟨j,hj,hjd⟩⟩
theorem l09Fit_hit(p c h a b:Int)(s d:Nat)(w:World)(hs1:1<=s)(hs6:s<=6)(hD:d<=50)(hb1:1<=b)(hb2:b<=9000000000000000000)(ha1: -9000000000000000000<=a)(ha2:a<=9000000000000000000)
  (h1:b/(Int.gcd a b:Int)∣pw (sq s) d) (h2:Hid (∀k,k<d->¬b/(Int.gcd a b:Int)∣pw (sq s) k)) (h3:pw (sq s) d<=1000000000000000) (hok:eW (a/(Int.gcd a b:Int)) (pw (sq s) d/(b/(Int.gcd a b:Int)))=true):
  Calls Tryz.prog 146 #[R #[l F p,l F c,l F h,l F s],l F a,l F b] w fun e w'=>e=I (L #[R #[l F (a/(Int.gcd a b:Int)*(pw (sq s) d/(b/(Int.gcd a b:Int)))),l F d],Y true])/\Below w.heap.size w w':=by
 obtain⟨hq1,-,_⟩:=sq_bd hs1 hs6;obtain⟨g1,g2,g3,g4,g5⟩:=dt (a:=a) hb1
 have CG:Hid (∀W:World,Calls Tryz.prog 174 #[l F a,l F b] W fun e w'=>e=I (l F (Int.gcd a b:Int))/\W=w'):=fun W=>d7 a b W ha1 ha2 (by omega) hb2
 have hP:a.tdiv (Int.gcd a b:Int)=a/(Int.gcd a b:Int):=eu (Int.gcd_dvd_left a b)
 have hPb: -9000000000000000000<=a/(Int.gcd a b:Int)/\a/(Int.gcd a b:Int)<=9000000000000000000:=by
  generalize (Int.gcd a b:Int)=g at *;generalize a/g=u at *
  rcases Int.le_total 0 u with h0|h0
  ·have:=Int.mul_le_mul_of_nonneg_left g1 h0;omega
  ·have:=Int.mul_le_mul_of_nonpos_left h0 g1;omega
 have hQb:b/(Int.gcd a b:Int)<=9000000000000000000:=Int.le_trans (Int.ediv_le_self _ (by omega)) hb2
 have hgb:(Int.gcd a b:Int)<=9000000000000000000:=Int.le_trans (Int.le_of_dvd (by omega) (Int.gcd_dvd_right a b)) hb2
 generalize (Int.gcd a b:Int)=g at *;generalize a/g=P at *;generalize hQ:b/g=q at *;clear g2 g3 g5;obtain⟨hP1,hP2⟩:=hPb
 have HF0:Hid (Fr w ((w.alloc (J #[l F p,l F c,l F h,l F s] 33)).alloc (J #[l F 0,l F 0] 45)) [[l F p,l F c,l F h,l F s],[l F 0,l F 0]]):=
  ((Fr.start w).allocT (by simp) _ _).allocT (by simp) _ _
 have CS:Hid (∀(W:World) (j:Nat),j<=1000->pw (sq s) j<=1000000000000000->Calls Tryz.prog 145 #[R #[l F p,l F c,l F h,l F s],l F j] W fun e w'=>e=I (L #[l F (pw (sq s) j),Y true])/\Below W.heap.size W w'):=fun W j hj hp=>by
  have:=a6 p c h s j W hs1 hs6 hj
  rwa [(aW hp).1,(aW hp).2]at this
 go_enter Tryz.func146,Tryz.ntmps146
 go_wp2_with (go_at_call 174;refine(CG.out _).mono ?_;rintro e w' ⟨rfl,rfl⟩)
 simp only[hQ]
 go_loopw [9] (fun v wr=>∃j:Nat,v=l F j/\j<=d/\Fr w wr [[l F p,l F c,l F h,l F s],[l F 0,l F 0]]) (fun v _=>d-(intOf v).toNat)
 case atStart=>exact⟨0,rfl,Nat.zero_le _,HF0.out⟩
 case round=>
  obtain⟨j,rfl,hj,hF⟩:=hrel;have HF:=h_ hF;clear hF;have c00:=HF.out.c0 0 rfl;have c01:=HF.out.c0 1 rfl;have c02:=HF.out.c0 2 rfl;have c03:=HF.out.c0 3 rfl
  have z1:=HF.out.l1 (by simp)
  have c10:=HF.out.c1 0 rfl;have f10:=HF.out.f1 0 rfl;have c11:=HF.out.c1 1 rfl;have f11:=HF.out.f1 1 rfl
  by_cases hjd:j=d
  ·subst hjd
   have hp0:=az hq1 j
   have b1:(pw (sq s) j%q==0)=true:=by simp[Int.emod_eq_zero_of_dvd h1]
   have hm1:1<=pw (sq s) j/q:=Int.le_ediv_of_mul_le (by omega) (by have:=Int.le_of_dvd (by omega) h1;omega)
   have hm2:pw (sq s) j/q<=1000000000000000:=Int.le_trans (Int.ediv_le_self _ (by omega)) h3
   clear h1;have HOK:=h_ hok;have HPW:=h_ h3;clear hok
   have CT:Hid (∀W:World,Calls Tryz.prog 175 #[l F P,l F (pw (sq s) j/q)] W _):=fun W=>j4 P (pw (sq s) j/q) W hP1 hP2 hm1 (by omega) HOK.out
   have e1:=bw (of_decide_eq_true HOK.out: -1000000000000000000<=P*(pw (sq s) j/q)/\P*(pw (sq s) j/q)<=1000000000000000000)
   go_wp2_with (first|(go_at_call 145;refine(more_first (CS.out _ j (by omega) HPW.out)).mono ?_;rintro e w' ⟨rfl,t,rfl⟩)|(go_at_call 175;refine(CT.out _).mono ?_;rintro e w' ⟨rfl,rfl⟩)|(go_at_call 107;refine(l01In_any _ _ _ _).mono ?_;rintro e w' ⟨rfl,rfl⟩))
   refine bodyPost_ret (v:=L #[R #[l F (P*(pw (sq s) j/q)),l F j],Y true]) (by simp[results,Tryz.results146,go_sem,c10,c11,z1,f10,f11]) rfl ⟨rfl,?_⟩
   exact stw (stw (HF.out.more _).b (by omega)) (by omega)
  ·
   have hp3:pw (sq s) j<=1000000000000000:=(Int.le_trans (bU hq1 (by omega)) h3)
   have hp0:=az hq1 j
   have hnd:=h2.out j (by omega)
   have b1:(pw (sq s) j%q==0)=false:=by simp;intro h';exact hnd (Int.dvd_of_emod_eq_zero h')
   clear hnd
   go_wp2_with (go_at_call 145;refine(more_first (CS.out _ j (by omega) hp3)).mono ?_;rintro e w' ⟨rfl,t,rfl⟩)
   go_roundw
   case rel=>exact⟨j+1,by go_num,by omega,HF.out.more _⟩
   case measure=>simp[intOf];omega
theorem l09Fit_far(p c h a b:Int)(s d:Nat)(w:World)(hs1:1<=s)(hs6:s<=6)(hD:d<=50)(hb1:1<=b)(hb2:b<=9000000000000000000)(ha1: -9000000000000000000<=a)(ha2:a<=9000000000000000000)
  (h1:b/(Int.gcd a b:Int)∣pw (sq s) d) (h2:Hid (∀k,k<d->¬b/(Int.gcd a b:Int)∣pw (sq s) k)) (h3:pw (sq s) d<=1000000000000000) (hok:eW (a/(Int.gcd a b:Int)) (pw (sq s) d/(b/(Int.gcd a b:Int)))=false):
  Calls Tryz.prog 146 #[R #[l F p,l F c,l F h,l F s],l F a,l F b] w fun e w'=>e=I (L #[R #[l F (0),l F d],Y false])/\Below w.heap.size w w':=by
 obtain⟨hq1,-,_⟩:=sq_bd hs1 hs6;obtain⟨g1,g2,g3,g4,g5⟩:=dt (a:=a) hb1
 have CG:Hid (∀W:World,Calls Tryz.prog 174 #[l F a,l F b] W fun e w'=>e=I (l F (Int.gcd a b:Int))/\W=w'):=fun W=>d7 a b W ha1 ha2 (by omega) hb2
 have hP:a.tdiv (Int.gcd a b:Int)=a/(Int.gcd a b:Int):=eu (Int.gcd_dvd_left a b)
 have hPb: -9000000000000000000<=a/(Int.gcd a b:Int)/\a/(Int.gcd a b:Int)<=9000000000000000000:=by
  generalize (Int.gcd a b:Int)=g at *;generalize a/g=u at *
  rcases Int.le_total 0 u with h0|h0
  ·have:=Int.mul_le_mul_of_nonneg_left g1 h0;omega
  ·have:=Int.mul_le_mul_of_nonpos_left h0 g1;omega
 have hQb:b/(Int.gcd a b:Int)<=9000000000000000000:=Int.le_trans (Int.ediv_le_self _ (by omega)) hb2
 have hgb:(Int.gcd a b:Int)<=9000000000000000000:=Int.le_trans (Int.le_of_dvd (by omega) (Int.gcd_dvd_right a b)) hb2
 generalize (Int.gcd a b:Int)=g at *;generalize a/g=P at *;generalize hQ:b/g=q at *;clear g2 g3 g5;obtain⟨hP1,hP2⟩:=hPb
 have HF0:Hid (Fr w ((w.alloc (J #[l F p,l F c,l F h,l F s] 33)).alloc (J #[l F 0,l F 0] 45)) [[l F p,l F c,l F h,l F s],[l F 0,l F 0]]):=
  ((Fr.start w).allocT (by simp) _ _).allocT (by simp) _ _
 have CS:Hid (∀(W:World) (j:Nat),j<=1000->pw (sq s) j<=1000000000000000->Calls Tryz.prog 145 #[R #[l F p,l F c,l F h,l F s],l F j] W fun e w'=>e=I (L #[l F (pw (sq s) j),Y true])/\Below W.heap.size W w'):=fun W j hj hp=>by
  have:=a6 p c h s j W hs1 hs6 hj
  rwa [(aW hp).1,(aW hp).2]at this
 go_enter Tryz.func146,Tryz.ntmps146
 go_wp2_with (go_at_call 174;refine(CG.out _).mono ?_;rintro e w' ⟨rfl,rfl⟩)
 simp only[hQ]
 go_loopw [9] (fun v wr=>∃j:Nat,v=l F j/\j<=d/\Fr w wr [[l F p,l F c,l F h,l F s],[l F 0,l F 0]]) (fun v _=>d-(intOf v).toNat)
 case atStart=>exact⟨0,rfl,Nat.zero_le _,HF0.out⟩
 case round=>
  obtain⟨j,rfl,hj,hF⟩:=hrel;have HF:=h_ hF;clear hF;have c00:=HF.out.c0 0 rfl;have c01:=HF.out.c0 1 rfl;have c02:=HF.out.c0 2 rfl;have c03:=HF.out.c0 3 rfl
  have z1:=HF.out.l1 (by simp)
  have c10:=HF.out.c1 0 rfl;have f10:=HF.out.f1 0 rfl;have c11:=HF.out.c1 1 rfl;have f11:=HF.out.f1 1 rfl
  by_cases hjd:j=d
  ·subst hjd
   have hp0:=az hq1 j
   have b1:(pw (sq s) j%q==0)=true:=by simp[Int.emod_eq_zero_of_dvd h1]
   have hm1:1<=pw (sq s) j/q:=Int.le_ediv_of_mul_le (by omega) (by have:=Int.le_of_dvd (by omega) h1;omega)
   have hm2:pw (sq s) j/q<=1000000000000000:=Int.le_trans (Int.ediv_le_self _ (by omega)) h3
   clear h1;have HOK:=h_ hok;have HPW:=h_ h3;clear hok
   have CT:Hid (∀W:World,Calls Tryz.prog 175 #[l F P,l F (pw (sq s) j/q)] W _):=fun W=>j5 P (pw (sq s) j/q) W hP1 hP2 hm1 (by omega) HOK.out
   skip
   go_wp2_with (first|(go_at_call 145;refine(more_first (CS.out _ j (by omega) HPW.out)).mono ?_;rintro e w' ⟨rfl,t,rfl⟩)|(go_at_call 175;refine(CT.out _).mono ?_;rintro e w' ⟨rfl,rfl⟩)|(go_at_call 107;refine(l01In_any _ _ _ _).mono ?_;rintro e w' ⟨rfl,rfl⟩))
   refine bodyPost_ret (v:=L #[R #[l F (0),l F j],Y false]) (by simp[results,Tryz.results146,go_sem,c10,c11,z1,f10,f11]) rfl ⟨rfl,?_⟩
   exact stw (stw (HF.out.more _).b (by omega)) (by omega)
  ·
   have hp3:pw (sq s) j<=1000000000000000:=(Int.le_trans (bU hq1 (by omega)) h3)
   have hp0:=az hq1 j
   have hnd:=h2.out j (by omega)
   have b1:(pw (sq s) j%q==0)=false:=by simp;intro h';exact hnd (Int.dvd_of_emod_eq_zero h')
   clear hnd
   go_wp2_with (go_at_call 145;refine(more_first (CS.out _ j (by omega) hp3)).mono ?_;rintro e w' ⟨rfl,t,rfl⟩)
   go_roundw
   case rel=>exact⟨j+1,by go_num,by omega,HF.out.more _⟩
   case measure=>simp[intOf];omega
theorem l09Fit_miss(p c h a b:Int)(s d:Nat)(w:World)(hs1:1<=s)(hs6:s<=6)(hD:d<=50)(hb1:1<=b)(hb2:b<=9000000000000000000)(ha1: -9000000000000000000<=a)(ha2:a<=9000000000000000000)
  (h2:Hid (∀k,k<d->¬b/(Int.gcd a b:Int)∣pw (sq s) k)) (h3:1000000000000000<pw (sq s) d):
  Calls Tryz.prog 146 #[R #[l F p,l F c,l F h,l F s],l F a,l F b] w fun e w'=>e=I (L #[R #[l F 0,l F 0],Y false])/\Below w.heap.size w w':=by
 obtain⟨hq1,-,_⟩:=sq_bd hs1 hs6;obtain⟨g1,g2,g3,g4,g5⟩:=dt (a:=a) hb1
 have CG:Hid (∀W:World,Calls Tryz.prog 174 #[l F a,l F b] W fun e w'=>e=I (l F (Int.gcd a b:Int))/\W=w'):=fun W=>d7 a b W ha1 ha2 (by omega) hb2
 have hP:a.tdiv (Int.gcd a b:Int)=a/(Int.gcd a b:Int):=eu (Int.gcd_dvd_left a b)
 have hPb: -9000000000000000000<=a/(Int.gcd a b:Int)/\a/(Int.gcd a b:Int)<=9000000000000000000:=by
  generalize (Int.gcd a b:Int)=g at *;generalize a/g=u at *
  rcases Int.le_total 0 u with h0|h0
  ·have:=Int.mul_le_mul_of_nonneg_left g1 h0;omega
  ·have:=Int.mul_le_mul_of_nonpos_left h0 g1;omega
 have hQb:b/(Int.gcd a b:Int)<=9000000000000000000:=Int.le_trans (Int.ediv_le_self _ (by omega)) hb2
 have hgb:(Int.gcd a b:Int)<=9000000000000000000:=Int.le_trans (Int.le_of_dvd (by omega) (Int.gcd_dvd_right a b)) hb2
 generalize (Int.gcd a b:Int)=g at *;generalize a/g=P at *;generalize hQ:b/g=q at *;clear g2 g3 g5;obtain⟨hP1,hP2⟩:=hPb
 have HF0:Hid (Fr w ((w.alloc (J #[l F p,l F c,l F h,l F s] 33)).alloc (J #[l F 0,l F 0] 45)) [[l F p,l F c,l F h,l F s],[l F 0,l F 0]]):=
  ((Fr.start w).allocT (by simp) _ _).allocT (by simp) _ _
 have CS:Hid (∀(W:World) (j:Nat),j<=1000->pw (sq s) j<=1000000000000000->Calls Tryz.prog 145 #[R #[l F p,l F c,l F h,l F s],l F j] W fun e w'=>e=I (L #[l F (pw (sq s) j),Y true])/\Below W.heap.size W w'):=fun W j hj hp=>by
  have:=a6 p c h s j W hs1 hs6 hj
  rwa [(aW hp).1,(aW hp).2]at this
 have CN:Hid (∀(W:World) (j:Nat),j<=1000->1000000000000000<pw (sq s) j->Calls Tryz.prog 145 #[R #[l F p,l F c,l F h,l F s],l F j] W fun e w'=>e=I (L #[l F 0,Y false])/\Below W.heap.size W w'):=fun W j hj hp=>by
  have:=a6 p c h s j W hs1 hs6 hj
  rwa [(kP hp).1,(kP hp).2]at this
 go_enter Tryz.func146,Tryz.ntmps146
 go_wp2_with (go_at_call 174;refine(CG.out _).mono ?_;rintro e w' ⟨rfl,rfl⟩)
 simp only[hQ]
 go_loopw [9] (fun v wr=>∃j:Nat,v=l F j/\j<=d/\Fr w wr [[l F p,l F c,l F h,l F s],[l F 0,l F 0]]) (fun v _=>d-(intOf v).toNat)
 case atStart=>exact⟨0,rfl,Nat.zero_le _,HF0.out⟩
 case round=>
  obtain⟨j,rfl,hj,hF⟩:=hrel;have HF:=h_ hF;clear hF;have c00:=HF.out.c0 0 rfl;have c01:=HF.out.c0 1 rfl;have c02:=HF.out.c0 2 rfl;have c03:=HF.out.c0 3 rfl
  have z1:=HF.out.l1 (by simp)
  have c10:=HF.out.c1 0 rfl;have f10:=HF.out.f1 0 rfl;have c11:=HF.out.c1 1 rfl;have f11:=HF.out.f1 1 rfl
  by_cases hbig:1000000000000000<pw (sq s) j
  ·go_wp2_with (go_at_call 145;refine (more_first (CN.out _ j (by omega) hbig)).mono ?_;rintro e w' ⟨rfl,t,rfl⟩)
   refine bodyPost_ret (v:=L #[R #[l F 0,l F 0],Y false]) (by simp[results,Tryz.results146,go_sem,c10,c11,z1,f10,f11]) rfl ⟨rfl,?_⟩
   exact stw (stw (HF.out.more _).b (by omega)) (by omega)
  ·have hjd:j≠d:=fun h'=>hbig (by rw[h'];exact h3)
   have hp3:pw (sq s) j<=1000000000000000:=(by omega)
   have hp0:=az hq1 j
   have hnd:=h2.out j (by omega)
   have b1:(pw (sq s) j%q==0)=false:=by simp;intro h';exact hnd (Int.dvd_of_emod_eq_zero h')
   clear hnd
   go_wp2_with (go_at_call 145;refine(more_first (CS.out _ j (by omega) hp3)).mono ?_;rintro e w' ⟨rfl,t,rfl⟩)
   go_roundw
   case rel=>exact⟨j+1,by go_num,by omega,HF.out.more _⟩
   case measure=>simp[intOf];omega
theorem gj(p c h a b:Int)(s D:Nat)(hs1:1<=s)(hs6:s<=6)(hD:D<=50)(hb1:1<=b)(hb2:b<=9000000000000000000)(ha1: -9000000000000000000<=a)(ha2:a<=9000000000000000000)(hdv:b∣pw (sq s) D):
  ∃(n:Int) (d:Nat) (f:Bool),(∀w:World,Calls Tryz.prog 146 #[R #[l F p,l F c,l F h,l F s],l F a,l F b] w fun e w'=>e=I (L #[R #[l F n,l F d],Y f])∧Below w.heap.size w w')∧
    mk (sq s) (a*(pw (sq s) D/b)) D=if f then some ⟨n,d⟩else none:=by
 obtain⟨hq1,-,_⟩:=sq_bd hs1 hs6;obtain⟨-,-,-,g4,g5⟩:=dt (a:=a) hb1;obtain⟨r1,r2⟩:=fit_reduce (a:=a) hq1 hb1 hdv;obtain⟨d,d1,d2,d3⟩:=least_dvd r1;have em:aw=1000000000000000:=rfl;rw[r2]
 change ∃(n:Int) (d:Nat) (f:Bool),_/\fitE (sq s) (a/(Int.gcd a b:Int)) (b/(Int.gcd a b:Int)) D=_
 by_cases hsc:pw (sq s) d<=1000000000000000
 ·rw[fit_hit hq1 g4 g5 r1 d2 d3 hsc]
  by_cases hok:eW (a/(Int.gcd a b:Int)) (pw (sq s) d/(b/(Int.gcd a b:Int)))=true
  ·refine⟨_,d,true,fun w=>l09Fit_hit p c h a b s d w hs1 hs6 (by omega) hb1 hb2 ha1 ha2 d2 d3 hsc hok,?_⟩
   rw[if_pos (of_decide_eq_true hok)];rfl
  ·have hno:eW (a / (Int.gcd a b:Int)) (pw (sq s) d / (b / (Int.gcd a b:Int)))=false:=by simpa using hok
   refine⟨_,d,false,fun w=>l09Fit_far p c h a b s d w hs1 hs6 (by omega) hb1 hb2 ha1 ha2 d2 d3 hsc hno,?_⟩
   rw[if_neg (of_decide_eq_false hno)];rfl
 ·rw[fit_miss hq1 g4 g5 r1 d3 (by omega)]
  exact⟨0,0,false,fun w=>l09Fit_miss p c h a b s d w hs1 hs6 (by omega) hb1 hb2 ha1 ha2 d3 (by omega),rfl⟩
theorem abs_le_bd{a b m:Int}(h1: -m<=a)(h2:a<=m)(hb:1<=b): -m<=a/b/\a/b<=m:=by
 constructor
 ·apply Int.le_ediv_of_mul_le (by omega)
  have h0:0<=m:=by omega
  have:m*1<=m*b:=Int.mul_le_mul_of_nonneg_left hb h0
  rw[Int.neg_mul];omega
 ·rcases Int.le_total 0 a with h|h
  ·exact Int.le_trans (Int.ediv_le_self _ h) h2
  ·have h3:a / b<=0:=by
    have:=Int.ediv_le_ediv (show 0<b by omega) h
    simpa using this
   omega
theorem kZ(p c h xn:Int)(s d k:Nat)(w:World)(hs1:1<=s)(hs6:s<=6)(hx:Val (sq s) ⟨xn,d⟩)(hk1:1<=k)(hk9:k<=9000):
  Calls Tryz.prog 108 #[R #[l F p,l F c,l F h,l F s],R #[l F xn,l F d],l F k] w (RetE w (sclE (sq s) ⟨xn,d⟩ k)):=by
 obtain⟨hq1,-,_⟩:=sq_bd hs1 hs6;have hd50:d<50:=bO hq1 hx;have hx1: -1000000000000000000<=xn:=hx.1;have hx2:xn<=1000000000000000000:=hx.2.1;have hp2:pw (sq s) d<=1000000000000000:=hx.2.2.1;have hp1:=az hq1 d;obtain⟨m1,m2,m3,m4,m5,m6,m7⟩:=mul_reduce (n:=xn) (k:=(k:Int)) (d:=d) hq1
 have C:=fun(W:World)=>a6 p c h s d W hs1 hs6 (by omega)
 rw[(aW hp2).1,(aW hp2).2]at C;have CS:=h_ C
 have G1:=h_ fun(W:World)=>d7 (k:Int) (pw (sq s) d) W (by omega) (by omega) (by omega) (by omega)
 have hDk:(Int.gcd (k:Int) (pw (sq s) d):Int)∣k:=Int.gcd_dvd_left _ _;have hDs:(Int.gcd (k:Int) (pw (sq s) d):Int)∣pw (sq s) d:=Int.gcd_dvd_right _ _
 have hDk9:(Int.gcd (k:Int) (pw (sq s) d):Int)<=k:=Int.le_of_dvd (by omega) hDk
 have hkD:1<=(k:Int)/(Int.gcd (k:Int) (pw (sq s) d):Int):=Int.le_ediv_of_mul_le (by omega) (by omega)
 have hkD2:(k:Int)/(Int.gcd (k:Int) (pw (sq s) d):Int)<=k:=Int.ediv_le_self _ (by omega)
 generalize (Int.gcd (k:Int) (pw (sq s) d):Int)=D at *
 have hsD:pw (sq s) d/D<=pw (sq s) d:=Int.ediv_le_self _ (by omega)
 generalize hSD:pw (sq s) d/D=SD at *
 have G2:=h_ fun(W:World)=>d7 xn SD W (by omega) (by omega) (by omega) (by omega)
 have hgx:(Int.gcd xn SD:Int)∣xn:=Int.gcd_dvd_left _ _
 have hgs:(Int.gcd xn SD:Int)<=SD:=Int.le_of_dvd (by omega) (Int.gcd_dvd_right _ _)
 generalize (Int.gcd xn SD:Int)=g at *;have hxg:xn.tdiv g=xn/g:=eu hgx;obtain⟨q1,q2⟩:=abs_le_bd hx1 hx2 m3
 have hqs:SD/g<=SD:=Int.ediv_le_self _ (by omega)
 generalize hK:(k:Int)/D=K at *;generalize xn/g=X at *;generalize hQ:SD/g=Q at *
 have q3: -9000000000000000000<=X/\X<=9000000000000000000:=by omega
 have HFr:Hid (Fr w (((w.alloc (J #[l F p,l F c,l F h,l F s] 33)).alloc (J #[l F xn,l F d] 45)).alloc (J #[l F 0,l F 0] 45)) [[l F p,l F c,l F h,l F s],[l F xn,l F d],[l F 0,l F 0]]):=(((Fr.start w).allocT (by simp) _ _).allocT (by simp) _ _).allocT (by simp) _ _
 have HF0:Hid (Below w.heap.size w (((w.alloc (J #[l F p,l F c,l F h,l F s] 33)).alloc (J #[l F xn,l F d] 45)).alloc (J #[l F 0,l F 0] 45))):=alw (alw ((Below.refl _ _).alloc (Nat.le_refl _) _) (Nat.le_refl _)) (Nat.le_refl _);clear hx C hDk hDs hgx
 by_cases hok:eW X K=true
 focus
  have CT:=h_ fun(W:World)=>j4 X K W q3.1 q3.2 hkD (by omega) hok
  obtain⟨hk3,hk4⟩:=of_decide_eq_true hok;rw[cH]at hk3 hk4
  obtain⟨n,dd,f,CF0,hmk⟩:=gj p c h (X*K) Q s d hs1 hs6 (by omega) m4 (by omega) (by omega) (by omega) m5
  have CF:=h_ CF0;rw[m7]at hmk
  have HR:Hid (sclE (sq s) ⟨xn,d⟩ k=if f then some ⟨n,dd⟩else none):=hmk
  clear hmk CF0 hok m6 m7
  rcases f with _|_
  focus
   have HR':Hid (sclE (sq s) ⟨xn,d⟩ k=none):=HR.out;clear HR
   rcases(show D=1\/1<D by omega)with rfl|h1D
   focus
    rw[Int.ediv_one]at hSD hK;subst hSD hK
    refine ?za
   rotate_left
   focus
    refine ?zd
  rotate_left 2
  focus
   have HR':Hid (sclE (sq s) ⟨xn,d⟩ k=some ⟨n,dd⟩):=HR.out;clear HR
   rcases(show D=1\/1<D by omega)with rfl|h1D
   focus
    rw[Int.ediv_one]at hSD hK;subst hSD hK
    refine ?zb
   rotate_left
   focus
    refine ?zc
 rotate_left 4
 focus
  have hno:eW X K=false:=by simpa using hok
  have CT:=h_ fun(W:World)=>j5 X K W q3.1 q3.2 hkD (by omega) hno
  have HR:Hid (sclE (sq s) ⟨xn,d⟩ k=none):=by
   have:=fit_far (B:=sq s) (p:=X*K) (q:=Q) (D:=d) hq1 m4 m6 m5 (by have:=of_decide_eq_false hno;omega)
   unfold fitE at this;rw[m7]at this
   exact this
  clear hok hno m7
  rcases(show D=1\/1<D by omega)with rfl|h1D
  focus
   rw[Int.ediv_one]at hSD hK;subst hSD hK
   refine ?ze
  rotate_left
  focus
   refine ?zf
 rotate_left 2
 case' ze|za|zb|zc|zd|zf=>
  go_enter Tryz.func108,Tryz.ntmps108
  go_wp2_with (first|(go_at_call 145;((with_reducible refine(more_first (CS.out _)).mono ?_);rintro e w' ⟨rfl,t,rfl⟩))|(go_at_call 174;((with_reducible refine(G1.out _).mono ?_);rintro e w' ⟨rfl,rfl⟩)))
  first|refine ag (by kernel_rfl) (by kernel_rfl) ?_|refine ae (by kernel_rfl) (by kernel_rfl) ?_
  repeat (first|go_big_quiet_step (first|(go_at_call 174;exact ab (G2.out _))|(go_at_call 175;exact ab (CT.out _)))|quiet_step (first|(go_at_call 174;exact ab (G2.out _))|(go_at_call 175;exact ab (CT.out _))))
  refine wpQuiet_nil ?_
  intro _ hw'
  obtain⟨tq,hw''⟩:=hw';subst hw''
  go_wp2_with (fail)
 case' za|zb|zc|zd=>
  generalize hW:more _ tq=W
  have HF:Hid (Fr w W [[l F p,l F c,l F h,l F s],[l F xn,l F d],[l F 0,l F 0]]):=by rw[<-hW];exact HFr.out.more _
  clear hW
  refine aQ 16 15 13 _ _ (J #[l F 0,l F 0] 45) (by kernel_rfl) (by kernel_rfl) rfl rfl rfl (fun _ _=>by kernel_rfl) rfl (aZ _ _ _ _ rfl rfl) (fun _ _ _ _ h=>h) (by kernel_rfl) ?_
  apply Exists.intro
  refine⟨fun X hX=>?_,fun t1 t2=>?_⟩
  ·have HX:Hid (Fr w X [[l F p,l F c,l F h,l F s],[l F xn,l F d],[l F 0,l F 0]]):=by obtain⟨t0,rfl⟩:=hX;exact HF.out.more t0
   clear hX
   have z0:=HX.out.l0 (by simp)
   have c00:=HX.out.c0 0 rfl;have c01:=HX.out.c0 1 rfl;have c02:=HX.out.c0 2 rfl;have c03:=HX.out.c0 3 rfl
   have z1:=HX.out.l1 (by simp)
   have c10:=HX.out.c1 0 rfl
   simp only[List.take_succ_cons,List.take_zero]
   repeat (first|go_big_quiet_step (first|(go_at_call 174;exact ab (G2.out _))|(go_at_call 146;exact more_call (CF.out _)))|quiet_step (first|(go_at_call 174;exact ab (G2.out _))|(go_at_call 146;exact more_call (CF.out _))))
   exact wpQuiet_nil rfl
  simp only[List.drop_succ_cons,List.drop_zero,Act.put]
  have HU:Hid (Fr w (more ((more W t1).alloc (J #[l F 0,l F 0] 45)) t2) [[l F p,l F c,l F h,l F s],[l F xn,l F d],[l F 0,l F 0]]):=((HF.out.more t1).alloc _).more t2;have x0:=aV W t1 t2 #[l F 0,l F 0] 45 0 rfl;have x1:=aV W t1 t2 #[l F 0,l F 0] 45 1 rfl;have x0':=aU W t1 t2 #[l F 0,l F 0] 45 0;have x1':=aU W t1 t2 #[l F 0,l F 0] 45 1;have xz:=fW W t1 t2 (J #[l F 0,l F 0] 45);have xb:=(HF.out.more t1).z
  simp only[List.length_cons,List.length_nil]at xb
  generalize more ((more W t1).alloc (J #[l F 0,l F 0] 45)) t2=U at *;generalize (more W t1).heap.size=bb at *;have c20:=HU.out.c2 0 rfl;have f20:=HU.out.f2 0 rfl;have c21:=HU.out.c2 1 rfl;have f21:=HU.out.f2 1 rfl
  go_wp2_with (fail)
 case ze|zf=>
  refine bodyPost_ret (v:=L #[R #[l F 0,l F 0],Y false]) (by simp[results,Tryz.results108,go_sem]) rfl (RetE.mkN HR.out ?_)
  repeat (first|exact HF0.out|refine blw ?_ (Nat.le_refl _)|refine alw ?_ (Nat.le_refl _)|refine stw ?_ (by omega)|refine drw ?_)
 case za|zd=>
  refine bodyPost_ret (v:=L #[R #[l F 0,l F 0],Y false]) (by simp[results,Tryz.results108,go_sem,c20,c21,f20,f21,x0,x1,x0',x1',xz]) rfl (RetE.mkN HR'.out ?_)
  repeat (first|exact HU.out.b|refine stw ?_ (by omega))
 case zb|zc=>
  refine bodyPost_ret (v:=L #[R #[l F n,l F dd],Y true]) (by simp[results,Tryz.results108,go_sem,c20,c21,f20,f21,x0,x1,x0',x1',xz]) rfl (RetE.mkY HR'.out ?_)
  repeat (first|exact HU.out.b|refine stw ?_ (by omega))
theorem addE_far2{B:Int}{x y:E}(hy:Val B y)(hd:x.depth<y.depth)(hB:1<=B)(hf:2*ax<x.num*pw B (y.depth-x.depth)\/x.num*pw B (y.depth-x.depth)< -(2*ax)):addE B x y=none:=by
 rw[iS (by omega)]
 obtain⟨h1,h2,_,h4,_⟩:=hy
 have hdv:B∣x.num*pw B (y.depth-x.depth):=by
  obtain⟨k,hk⟩:∃k,y.depth-x.depth=k+1:=⟨y.depth-x.depth-1,by omega⟩
  rw[hk,bJ,<-Int.mul_assoc];exact Int.dvd_mul_left _ _
 have hn:¬B∣x.num*pw B (y.depth-x.depth)+y.num:=by
  intro h
  have:B∣y.num:=(Int.dvd_add_right hdv).1 h
  rcases h4 with h4|h4
  ·omega
  ·exact h4 this
 have hs:strip B y.depth (x.num*pw B (y.depth-x.depth)+y.num)=⟨_,y.depth⟩:=dz (.inr hn);rw[cM hs,if_neg];rw[Bool.not_eq_true]
 apply gE
 omega
theorem far_abs{m o:Int}(ho:1<=o)(h:2000000000000000000/o<(m.natAbs:Int)):2*ax<m*o\/m*o< -(2*ax):=by
 have h1:=(Int.ediv_lt_iff_lt_mul (by omega)).1 h
 have e:=cH
 rcases Int.le_total 0 m with h2|h2
 ·left;rw[show(m.natAbs:Int)=m by omega]at h1;omega
 ·right;rw[show(m.natAbs:Int)= -m by omega,Int.neg_mul]at h1;omega
theorem near_abs{m o:Int}(ho:1<=o)(h:(m.natAbs:Int)<=2000000000000000000/o): -2000000000000000000<=m*o/\m*o<=2000000000000000000:=by
 have h1:=Int.mul_le_of_le_ediv (by omega) h
 rcases Int.le_total 0 m with h2|h2
 ·have:0<=m*o:=Int.mul_nonneg h2 (by omega)
  rw[show(m.natAbs:Int)=m by omega]at h1;omega
 ·have:m*o<=0:=Int.mul_nonpos_of_nonpos_of_nonneg h2 (by omega)
  rw[show(m.natAbs:Int)= -m by omega,Int.neg_mul]at h1;omega
theorem l09Add_lt(p c h xn yn:Int)(s xd yd:Nat)(w:World)(hs1:1<=s)(hs6:s<=6)(hx:Val (sq s) ⟨xn,xd⟩)(hy:Val (sq s) ⟨yn,yd⟩)(hlt:(xd:Int)<yd):
  Calls Tryz.prog 75 #[R #[l F p,l F c,l F h,l F s],R #[l F xn,l F xd],R #[l F yn,l F yd]] w (RetE w (addE (sq s) ⟨xn,xd⟩ ⟨yn,yd⟩)):=by
 have hsw:Hid (addE (sq s) ⟨xn,xd⟩ ⟨yn,yd⟩=addE (sq s) ⟨xn,xd⟩ ⟨yn,yd⟩):=by first|rfl|exact iy _ _ _
 obtain⟨hq1,-,_⟩:=sq_bd hs1 hs6;have hxd:xd<50:=bO hq1 hx;have hyd:yd<50:=bO hq1 hy;have hx1: -1000000000000000000<=xn:=hx.1;have hx2:xn<=1000000000000000000:=hx.2.1;have hy1: -1000000000000000000<=yn:=hy.1;have hy2:yn<=1000000000000000000:=hy.2.1;have py2:pw (sq s) yd<=1000000000000000:=hy.2.2.1
 have ph2:pw (sq s) yd<=1000000000000000:=by first|exact px2|exact py2
 have po2:pw (sq s) (yd-xd)<=1000000000000000:=Int.le_trans (bU hq1 (by omega)) ph2
 have po1:=az hq1 (yd-xd)
 have C:=fun(W:World) (d:Nat) (hd:d<=1000)=>a6 p c h s d W hs1 hs6 hd
 have C1:Hid (∀W:World,Calls Tryz.prog 145 #[R #[l F p,l F c,l F h,l F s],l F yd] W fun e w'=>e=I (L #[l F (pw (sq s) yd),Y true])/\Below W.heap.size W w'):=fun W=>by
  have:=C W yd (by omega);rwa [(aW ph2).1,(aW ph2).2]at this
 have C2:Hid (∀W:World,Calls Tryz.prog 145 #[R #[l F p,l F c,l F h,l F s],l F ((yd:Int)-xd)] W fun e w'=>e=I (L #[l F (pw (sq s) (yd-xd)),Y true])/\Below W.heap.size W w'):=fun W=>by
  have:=C W (yd-xd) (by omega);rwa [(aW po2).1,(aW po2).2,show((yd-xd:Nat):Int)=(yd:Int)-xd by omega]at this
 have C3:Hid (∀W:World,Calls Tryz.prog 145 #[R #[l F p,l F c,l F h,l F s],l F 0] W fun e w'=>e=I (L #[l F 1,Y true])/\Below W.heap.size W w'):=fun W=>by
  have:=C W 0 (by omega)
  have h1:pw (sq s) 0<=1000000000000000:=by rw[bM];omega
  rw[(aW h1).1,(aW h1).2,bM]at this
  exact this
 have HH:Hid (Val (sq s) ⟨yn,yd⟩):=by first|exact hx|exact hy
 have HF0:Hid (Below w.heap.size w ((((w.alloc (J #[l F p,l F c,l F h,l F s] 33)).alloc (J #[l F xn,l F xd] 45)).alloc (J #[l F yn,l F yd] 45)).alloc (J #[l F 0,l F 0] 45))):=alw (alw (alw ((Below.refl _ _).alloc (Nat.le_refl _) _) (Nat.le_refl _)) (Nat.le_refl _)) (Nat.le_refl _)
 have hO1:Hid (yd=xd->pw (sq s) (yd-xd)=1):=fun e=>by rw[e,Nat.sub_self,bM]
 obtain⟨O,hO⟩:∃O,pw (sq s) (yd-xd)=O:=⟨_,rfl⟩;rw[hO]at po2 po1 C2 hO1;have HO:=h_ hO;clear hx hy C hO
 by_cases hfar:2000000000000000000/O<(xn.natAbs:Int)
 focus
  have hst:xd<yd:=by
   rcases Nat.lt_or_ge xd yd with h'|h'
   ·exact h'
   ·have:=hO1.out (by omega);rw[this]at hfar;omega
  have HR:Hid (addE (sq s) ⟨xn,xd⟩ ⟨yn,yd⟩=none):=hsw.out.trans (addE_far2 HH.out (by show xd<yd;exact hst) hq1 (by show 2*ax<xn*pw (sq s) (yd-xd)\/xn*pw (sq s) (yd-xd)< -(2*ax);rw[HO.out];exact far_abs po1 hfar))
  refine ?zd
 rotate_left
 focus
  have hnear:=near_abs (m:=xn) po1 (by omega)
  have d1:decide (2000000000000000000/O<xn)=false:=decide_eq_false (by omega)
  have d2:decide (2000000000000000000/O< -xn)=false:=decide_eq_false (by omega)
  refine ?zc
 rotate_left
 case' zc|zd=>
  have d3:decide (2000000000000000000<yn)=false:=decide_eq_false (by omega)
  have d4:decide (2000000000000000000< -yn)=false:=decide_eq_false (by omega)
 case zc=>
  obtain⟨m,hm⟩:∃m,xn*O=m:=⟨_,rfl⟩;rw[hm]at hnear;obtain⟨hn1,hn2⟩:=hnear
  obtain⟨n,d,f,CF0,hmk⟩:=gj p c h (m+yn) (pw (sq s) yd) s yd hs1 hs6 (by omega) (az hq1 yd) (by omega) (by omega) (by omega) (Int.dvd_refl _)
  have CF:=h_ CF0
  have HR:Hid (addE (sq s) ⟨xn,xd⟩ ⟨yn,yd⟩=if f then some ⟨n,d⟩else none):=by
   rw[Hid,hsw.out,<-hmk,iS (by show xd<=yd;omega),Int.ediv_self (by have:=az hq1 yd;omega),Int.mul_one]
   show mk _ (xn*pw (sq s) (yd-xd)+yn) yd=_
   rw[HO.out,hm]
   all_goals rw[Int.add_comm]
  clear hmk CF0 hfar
  rcases f with _|_
  ·have HR':Hid (addE (sq s) ⟨xn,xd⟩ ⟨yn,yd⟩=none):=HR.out;clear HR
   rcases Int.lt_or_le xn (-xn)with hsx|hsx<;>rcases Int.lt_or_le yn (-yn)with hsy|hsy
   all_goals
    go_enter Tryz.func75,Tryz.ntmps75
    go_wp2_with (first|(go_at_call 145;first|((with_reducible refine(more_first (C1.out _)).mono ?_);rintro e w' ⟨rfl,t,rfl⟩)|((with_reducible refine(more_call (C2.out _)).mono ?_);rintro e w' ⟨rfl,t,rfl⟩)|((with_reducible refine(more_call (C3.out _)).mono ?_);rintro e w' ⟨rfl,t,rfl⟩)))
    first|refine ag (by kernel_rfl) (by kernel_rfl) ?_|refine ae (by kernel_rfl) (by kernel_rfl) ?_
    repeat (first|go_big_quiet_step (fail)|quiet_step (fail))
    refine wpQuiet_nil ?_
    intro _ hw'
    obtain⟨tq,hw''⟩:=hw';subst hw''
    go_wp2_with (go_at_call 146;((with_reducible refine(more_call (CF.out _)).mono ?_);rintro e w' ⟨rfl,t2,rfl⟩))
    refine bodyPost_ret (v:=L #[R #[l F 0,l F 0],Y false]) (by simp[results,Tryz.results75,go_sem]) rfl (RetE.mkN HR'.out ?_)
    repeat (first|exact HF0.out|refine blw ?_ (Nat.le_refl _)|refine alw ?_ (Nat.le_refl _)|refine stw ?_ (by omega)|refine drw ?_)
  ·have HR':Hid (addE (sq s) ⟨xn,xd⟩ ⟨yn,yd⟩=some ⟨n,d⟩):=HR.out;clear HR
   rcases Int.lt_or_le xn (-xn)with hsx|hsx<;>rcases Int.lt_or_le yn (-yn)with hsy|hsy
   all_goals
    go_enter Tryz.func75,Tryz.ntmps75
    go_wp2_with (first|(go_at_call 145;first|((with_reducible refine(more_first (C1.out _)).mono ?_);rintro e w' ⟨rfl,t,rfl⟩)|((with_reducible refine(more_call (C2.out _)).mono ?_);rintro e w' ⟨rfl,t,rfl⟩)|((with_reducible refine(more_call (C3.out _)).mono ?_);rintro e w' ⟨rfl,t,rfl⟩)))
    first|refine ag (by kernel_rfl) (by kernel_rfl) ?_|refine ae (by kernel_rfl) (by kernel_rfl) ?_
    repeat (first|go_big_quiet_step (fail)|quiet_step (fail))
    refine wpQuiet_nil ?_
    intro _ hw'
    obtain⟨tq,hw''⟩:=hw';subst hw''
    go_wp2_with (go_at_call 146;((with_reducible refine(more_call (CF.out _)).mono ?_);rintro e w' ⟨rfl,t2,rfl⟩))
    refine bodyPost_ret (v:=L #[R #[l F n,l F d],Y true]) (by simp[results,Tryz.results75,go_sem]) rfl (RetE.mkY HR'.out ?_)
    repeat (first|exact HF0.out|refine blw ?_ (Nat.le_refl _)|refine alw ?_ (Nat.le_refl _)|refine stw ?_ (by omega)|refine drw ?_)
 case' zd=>
  clear hst
  by_cases h0:xn< -xn
  focus
   have g1:2000000000000000000/O< -xn:=by rw[show(xn.natAbs:Int)= -xn by omega]at hfar;exact hfar
   refine ?zb
  rotate_left
  focus
   replace h0: -xn<=xn:=by omega
   have g1:2000000000000000000/O<xn:=by rw[show(xn.natAbs:Int)=xn by omega]at hfar;exact hfar
   refine ?za
 case za|zb=>
  clear hfar
  rcases Int.lt_or_le yn (-yn)with hsy|hsy
  all_goals
   go_enter Tryz.func75,Tryz.ntmps75
   go_wp2_with (first|(go_at_call 145;first|((with_reducible refine(more_first (C1.out _)).mono ?_);rintro e w' ⟨rfl,t,rfl⟩)|((with_reducible refine(more_call (C2.out _)).mono ?_);rintro e w' ⟨rfl,t,rfl⟩)|((with_reducible refine(more_call (C3.out _)).mono ?_);rintro e w' ⟨rfl,t,rfl⟩)))
   first|refine ag (by kernel_rfl) (by kernel_rfl) ?_|refine ae (by kernel_rfl) (by kernel_rfl) ?_
   repeat (first|go_big_quiet_step (fail)|quiet_step (fail))
   refine wpQuiet_nil ?_
   intro _ hw'
   obtain⟨tq,hw''⟩:=hw';subst hw''
   go_wp2_with (fail)
   refine bodyPost_ret (v:=L #[R #[l F 0,l F 0],Y false]) (by simp[results,Tryz.results75,go_sem]) rfl (RetE.mkN HR.out ?_)
   exact stw (stw (blw HF0.out (Nat.le_refl _)) (by omega)) (by omega)
theorem l09Add_ge(p c h xn yn:Int)(s xd yd:Nat)(w:World)(hs1:1<=s)(hs6:s<=6)(hx:Val (sq s) ⟨xn,xd⟩)(hy:Val (sq s) ⟨yn,yd⟩)(hlt:(yd:Int)<=xd):
  Calls Tryz.prog 75 #[R #[l F p,l F c,l F h,l F s],R #[l F xn,l F xd],R #[l F yn,l F yd]] w (RetE w (addE (sq s) ⟨xn,xd⟩ ⟨yn,yd⟩)):=by
 have hsw:Hid (addE (sq s) ⟨xn,xd⟩ ⟨yn,yd⟩=addE (sq s) ⟨yn,yd⟩ ⟨xn,xd⟩):=by first|rfl|exact iy _ _ _
 obtain⟨hq1,-,_⟩:=sq_bd hs1 hs6;have hxd:xd<50:=bO hq1 hx;have hyd:yd<50:=bO hq1 hy;have hx1: -1000000000000000000<=xn:=hx.1;have hx2:xn<=1000000000000000000:=hx.2.1;have hy1: -1000000000000000000<=yn:=hy.1;have hy2:yn<=1000000000000000000:=hy.2.1;have px2:pw (sq s) xd<=1000000000000000:=hx.2.2.1
 have ph2:pw (sq s) xd<=1000000000000000:=by first|exact px2|exact py2
 have po2:pw (sq s) (xd-yd)<=1000000000000000:=Int.le_trans (bU hq1 (by omega)) ph2
 have po1:=az hq1 (xd-yd)
 have C:=fun(W:World) (d:Nat) (hd:d<=1000)=>a6 p c h s d W hs1 hs6 hd
 have C1:Hid (∀W:World,Calls Tryz.prog 145 #[R #[l F p,l F c,l F h,l F s],l F xd] W fun e w'=>e=I (L #[l F (pw (sq s) xd),Y true])/\Below W.heap.size W w'):=fun W=>by
  have:=C W xd (by omega);rwa [(aW ph2).1,(aW ph2).2]at this
 have C2:Hid (∀W:World,Calls Tryz.prog 145 #[R #[l F p,l F c,l F h,l F s],l F ((xd:Int)-yd)] W fun e w'=>e=I (L #[l F (pw (sq s) (xd-yd)),Y true])/\Below W.heap.size W w'):=fun W=>by
  have:=C W (xd-yd) (by omega);rwa [(aW po2).1,(aW po2).2,show((xd-yd:Nat):Int)=(xd:Int)-yd by omega]at this
 have C3:Hid (∀W:World,Calls Tryz.prog 145 #[R #[l F p,l F c,l F h,l F s],l F 0] W fun e w'=>e=I (L #[l F 1,Y true])/\Below W.heap.size W w'):=fun W=>by
  have:=C W 0 (by omega)
  have h1:pw (sq s) 0<=1000000000000000:=by rw[bM];omega
  rw[(aW h1).1,(aW h1).2,bM]at this
  exact this
 have HH:Hid (Val (sq s) ⟨xn,xd⟩):=by first|exact hx|exact hy
 have HF0:Hid (Below w.heap.size w ((((w.alloc (J #[l F p,l F c,l F h,l F s] 33)).alloc (J #[l F xn,l F xd] 45)).alloc (J #[l F yn,l F yd] 45)).alloc (J #[l F 0,l F 0] 45))):=alw (alw (alw ((Below.refl _ _).alloc (Nat.le_refl _) _) (Nat.le_refl _)) (Nat.le_refl _)) (Nat.le_refl _)
 have hO1:Hid (xd=yd->pw (sq s) (xd-yd)=1):=fun e=>by rw[e,Nat.sub_self,bM]
 obtain⟨O,hO⟩:∃O,pw (sq s) (xd-yd)=O:=⟨_,rfl⟩;rw[hO]at po2 po1 C2 hO1;have HO:=h_ hO;clear hx hy C hO
 by_cases hfar:2000000000000000000/O<(yn.natAbs:Int)
 focus
  have hst:yd<xd:=by
   rcases Nat.lt_or_ge yd xd with h'|h'
   ·exact h'
   ·have:=hO1.out (by omega);rw[this]at hfar;omega
  have HR:Hid (addE (sq s) ⟨xn,xd⟩ ⟨yn,yd⟩=none):=hsw.out.trans (addE_far2 HH.out (by show yd<xd;exact hst) hq1 (by show 2*ax<yn*pw (sq s) (xd-yd)\/yn*pw (sq s) (xd-yd)< -(2*ax);rw[HO.out];exact far_abs po1 hfar))
  refine ?zd
 rotate_left
 focus
  have hnear:=near_abs (m:=yn) po1 (by omega)
  have d1:decide (2000000000000000000/O<yn)=false:=decide_eq_false (by omega)
  have d2:decide (2000000000000000000/O< -yn)=false:=decide_eq_false (by omega)
  refine ?zc
 rotate_left
 case' zc|zd=>
  have d3:decide (2000000000000000000<xn)=false:=decide_eq_false (by omega)
  have d4:decide (2000000000000000000< -xn)=false:=decide_eq_false (by omega)
 case zc=>
  obtain⟨m,hm⟩:∃m,yn*O=m:=⟨_,rfl⟩;rw[hm]at hnear;obtain⟨hn1,hn2⟩:=hnear
  obtain⟨n,d,f,CF0,hmk⟩:=gj p c h (xn+m) (pw (sq s) xd) s xd hs1 hs6 (by omega) (az hq1 xd) (by omega) (by omega) (by omega) (Int.dvd_refl _)
  have CF:=h_ CF0
  have HR:Hid (addE (sq s) ⟨xn,xd⟩ ⟨yn,yd⟩=if f then some ⟨n,d⟩else none):=by
   rw[Hid,hsw.out,<-hmk,iS (by show yd<=xd;omega),Int.ediv_self (by have:=az hq1 xd;omega),Int.mul_one]
   show mk _ (yn*pw (sq s) (xd-yd)+xn) xd=_
   rw[HO.out,hm]
   all_goals rw[Int.add_comm]
  clear hmk CF0 hfar
  rcases f with _|_
  ·have HR':Hid (addE (sq s) ⟨xn,xd⟩ ⟨yn,yd⟩=none):=HR.out;clear HR
   rcases Int.lt_or_le xn (-xn)with hsx|hsx<;>rcases Int.lt_or_le yn (-yn)with hsy|hsy
   all_goals
    go_enter Tryz.func75,Tryz.ntmps75
    go_wp2_with (first|(go_at_call 145;first|((with_reducible refine(more_first (C1.out _)).mono ?_);rintro e w' ⟨rfl,t,rfl⟩)|((with_reducible refine(more_call (C2.out _)).mono ?_);rintro e w' ⟨rfl,t,rfl⟩)|((with_reducible refine(more_call (C3.out _)).mono ?_);rintro e w' ⟨rfl,t,rfl⟩)))
    first|refine ag (by kernel_rfl) (by kernel_rfl) ?_|refine ae (by kernel_rfl) (by kernel_rfl) ?_
    repeat (first|go_big_quiet_step (fail)|quiet_step (fail))
    refine wpQuiet_nil ?_
    intro _ hw'
    obtain⟨tq,hw''⟩:=hw';subst hw''
    go_wp2_with (go_at_call 146;((with_reducible refine(more_call (CF.out _)).mono ?_);rintro e w' ⟨rfl,t2,rfl⟩))
    refine bodyPost_ret (v:=L #[R #[l F 0,l F 0],Y false]) (by simp[results,Tryz.results75,go_sem]) rfl (RetE.mkN HR'.out ?_)
    repeat (first|exact HF0.out|refine blw ?_ (Nat.le_refl _)|refine alw ?_ (Nat.le_refl _)|refine stw ?_ (by omega)|refine drw ?_)
  ·have HR':Hid (addE (sq s) ⟨xn,xd⟩ ⟨yn,yd⟩=some ⟨n,d⟩):=HR.out;clear HR
   rcases Int.lt_or_le xn (-xn)with hsx|hsx<;>rcases Int.lt_or_le yn (-yn)with hsy|hsy
   all_goals
    go_enter Tryz.func75,Tryz.ntmps75
    go_wp2_with (first|(go_at_call 145;first|((with_reducible refine(more_first (C1.out _)).mono ?_);rintro e w' ⟨rfl,t,rfl⟩)|((with_reducible refine(more_call (C2.out _)).mono ?_);rintro e w' ⟨rfl,t,rfl⟩)|((with_reducible refine(more_call (C3.out _)).mono ?_);rintro e w' ⟨rfl,t,rfl⟩)))
    first|refine ag (by kernel_rfl) (by kernel_rfl) ?_|refine ae (by kernel_rfl) (by kernel_rfl) ?_
    repeat (first|go_big_quiet_step (fail)|quiet_step (fail))
    refine wpQuiet_nil ?_
    intro _ hw'
    obtain⟨tq,hw''⟩:=hw';subst hw''
    go_wp2_with (go_at_call 146;((with_reducible refine(more_call (CF.out _)).mono ?_);rintro e w' ⟨rfl,t2,rfl⟩))
    refine bodyPost_ret (v:=L #[R #[l F n,l F d],Y true]) (by simp[results,Tryz.results75,go_sem]) rfl (RetE.mkY HR'.out ?_)
    repeat (first|exact HF0.out|refine blw ?_ (Nat.le_refl _)|refine alw ?_ (Nat.le_refl _)|refine stw ?_ (by omega)|refine drw ?_)
 case' zd=>
  clear hst
  by_cases h0:yn< -yn
  focus
   have g1:2000000000000000000/O< -yn:=by rw[show(yn.natAbs:Int)= -yn by omega]at hfar;exact hfar
   refine ?zb
  rotate_left
  focus
   replace h0: -yn<=yn:=by omega
   have g1:2000000000000000000/O<yn:=by rw[show(yn.natAbs:Int)=yn by omega]at hfar;exact hfar
   refine ?za
 case za|zb=>
  clear hfar
  rcases Int.lt_or_le xn (-xn)with hsy|hsy
  all_goals
   go_enter Tryz.func75,Tryz.ntmps75
   go_wp2_with (first|(go_at_call 145;first|((with_reducible refine(more_first (C1.out _)).mono ?_);rintro e w' ⟨rfl,t,rfl⟩)|((with_reducible refine(more_call (C2.out _)).mono ?_);rintro e w' ⟨rfl,t,rfl⟩)|((with_reducible refine(more_call (C3.out _)).mono ?_);rintro e w' ⟨rfl,t,rfl⟩)))
   first|refine ag (by kernel_rfl) (by kernel_rfl) ?_|refine ae (by kernel_rfl) (by kernel_rfl) ?_
   repeat (first|go_big_quiet_step (fail)|quiet_step (fail))
   refine wpQuiet_nil ?_
   intro _ hw'
   obtain⟨tq,hw''⟩:=hw';subst hw''
   go_wp2_with (fail)
   refine bodyPost_ret (v:=L #[R #[l F 0,l F 0],Y false]) (by simp[results,Tryz.results75,go_sem]) rfl (RetE.mkN HR.out ?_)
   exact stw (stw (blw HF0.out (Nat.le_refl _)) (by omega)) (by omega)
theorem cX(p c h xn yn:Int)(s xd yd:Nat)(w:World)(hs1:1<=s)(hs6:s<=6)(hx:Val (sq s) ⟨xn,xd⟩)(hy:Val (sq s) ⟨yn,yd⟩):
  Calls Tryz.prog 75 #[R #[l F p,l F c,l F h,l F s],R #[l F xn,l F xd],R #[l F yn,l F yd]] w (RetE w (addE (sq s) ⟨xn,xd⟩ ⟨yn,yd⟩)):=by
 by_cases h':(xd:Int)<yd
 ·exact l09Add_lt p c h xn yn s xd yd w hs1 hs6 hx hy h'
 ·exact l09Add_ge p c h xn yn s xd yd w hs1 hs6 hx hy (by omega)
end Go.Proofs.YtcmeoenkgmghkaaGreat

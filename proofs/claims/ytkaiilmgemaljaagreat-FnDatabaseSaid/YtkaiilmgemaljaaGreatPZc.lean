/- Joined texts of one proof: N1, N2, N3, N4, N5. Each part tells what it shows. There are no conditions. -/
import Derived.Test.YtkaiilmgemaljaaGreatPZa
import Derived.Test.YtkaiilmgemaljaaGreatPZp
import Derived.Test.YtkaiilmgemaljaaGreatPZb
set_option linter.unusedVariables false
set_option linter.unusedSimpArgs false
/- Contracts of counting: binomial coefficients, how many positions there are; the base and the scales of exact numbers. There are no conditions. -/
namespace Go.Proofs.YtkaiilmgemaljaaGreat
open Go.RowKit Ps Ra Ex
theorem wys_bd {k m:Nat} (hk:k≤25) (hm:m≤15):(wys k m:Int)≤50000000000:=by
 have h1:=wys_fact 25 15;have h2:=wys_mono hk hm
 have h3:wys 25 15≤50000000000:=by
  apply Nat.le_of_not_lt
  intro h
  have h4:50000000001*(fact 25*fact 15)≤wys 25 15*(fact 25*fact 15):=Nat.mul_le_mul_right _ h;rw[h1]at h4
  exact absurd h4 (by decide)
 omega
theorem choose_any (k m:Nat) (w:World) (hk:k≤25) (hm:m≤15):
  Calls Tryz.prog 239 #[.int .i64 ((k:Int)+m),.int .i64 k] w fun e w'=>e = .returned (.int .i64 (wys k m))∧w=w':=by
 go_enter Tryz.func239,Tryz.ntmps239
 go_wp2
 go_loop [5,6] (fun o i=>∃j:Nat,j≤k∧i = .int .i64 ((j:Int)+1)∧o = .int .i64 (wys j m)) (fun _ i=>k+1-(intOf i).toNat)
 case atStart=>exact⟨0,by omega,rfl,rfl⟩
 case round=>
  obtain⟨j,hj,rfl,rfl⟩:=hrel
  by_cases hlt:j<k
  ·have h1:=wys_bd (show j≤25 by omega) hm
   have h0:(0:Int)≤(wys j m:Int):=Int.natCast_nonneg _
   have e1:(wys j m:Int)*((k:Int)+m-k+(j+1))=((wys j m*(m+j+1):Nat):Int):=by
    rw[show (k:Int)+m-k+(j+1)=((m+j+1:Nat):Int) by omega,← Int.natCast_mul]
   have h2:(wys j m:Int)*((k:Int)+m-k+(j+1))≤50000000000*41:=Int.mul_le_mul h1 (by omega) (by omega) (by omega)
   have h3:0≤(wys j m:Int)*((k:Int)+m-k+(j+1)):=by rw[e1];exact Int.natCast_nonneg _
   have E:Hid ((wys j m:Int)*((k:Int)+m-k+(j+1)) / ((j:Int)+1)=(wys (j+1) m:Int)):=by
    show _=_
    rw[e1,← wys_div,Int.natCast_ediv];rfl
   clear e1
   go_wp2
   go_round
   case rel=>exact⟨j+1,by omega,by go_num,by rw[E.out]⟩
   case measure=>simp[intOf];omega
  ·obtain rfl:j=k:=by omega
   go_wp2
   go_ret
   exact⟨rfl,rfl⟩
theorem listsUpTo_any (k m:Nat) (w:World) (hk:k≤25) (hm:m≤15):
  Calls Tryz.prog 216 #[.int .i64 k,.int .i64 m] w fun e w'=>e = .returned (.int .i64 (wys k m))∧w=w':=by
 go_enter Tryz.func216,Tryz.ntmps216
 go_wp2_with (go_at_call 239;refine (choose_any k m _ hk hm).mono ?_;rintro e w' ⟨rfl,rfl⟩)
 go_ret
 exact⟨rfl,rfl⟩
def wysC (k m:Nat):Int:=if wys k m≤1000000 then (wys k m:Int) else -1
theorem wysC_ok {k m:Nat} (h:wys k m≤1000000):wysC k m=(wys k m:Int):=if_pos h
theorem wysC_no {k m:Nat} (h:¬wys k m≤1000000):wysC k m = -1:=if_neg h
theorem l10Ways_any (k m:Nat) (w:World) (hk:k≤25) (hm:m≤15):
  Calls Tryz.prog 167 #[.int .i64 m,.int .i64 k] w fun e w'=>e = .returned (.int .i64 (wysC k m))∧w=w':=by
 go_enter Tryz.func167,Tryz.ntmps167
 go_wp2
 go_loop [5,6] (fun o i=>∃j:Nat,j≤k∧i = .int .i64 ((j:Int)+1)∧o = .int .i64 (wys j m)∧(wys j m:Int)≤1000000) (fun _ i=>k+1-(intOf i).toNat)
 case atStart=>exact⟨0,by omega,rfl,rfl,by rw[wys_zero];omega⟩
 case round=>
  obtain⟨j,hj,rfl,rfl,h1⟩:=hrel
  by_cases hlt:j<k
  ·have h0:(0:Int)≤(wys j m:Int):=Int.natCast_nonneg _
   have e1:(wys j m:Int)*((m:Int)+(j+1))=((wys j m*(m+j+1):Nat):Int):=by
    rw[show (m:Int)+(j+1)=((m+j+1:Nat):Int) by omega,← Int.natCast_mul]
   have h2:(wys j m:Int)*((m:Int)+(j+1))≤1000000*41:=Int.mul_le_mul h1 (by omega) (by omega) (by omega)
   have h3:0≤(wys j m:Int)*((m:Int)+(j+1)):=by rw[e1];exact Int.natCast_nonneg _
   have e2:(wys j m:Int)*((m:Int)+(j+1)) / ((j:Int)+1)=(wys (j+1) m:Int):=by
    rw[e1,← wys_div,Int.natCast_ediv];rfl
   have E:=Lib.hid e2
   have hmono:=wys_mono (show j+1≤k by omega) (Nat.le_refl m)
   clear e1
   by_cases hbig:(wys (j+1) m:Int)≤1000000
   ·have hb:(wys j m:Int)*((m:Int)+(j+1)) / ((j:Int)+1)≤1000000:=by rw[e2];exact hbig
    clear e2
    go_wp2
    go_round
    case rel=>exact⟨j+1,by omega,by go_num,by rw[E.out],hbig⟩
    case measure=>simp[intOf];omega
   ·have hb:1000000<(wys j m:Int)*((m:Int)+(j+1)) / ((j:Int)+1):=by rw[e2];omega
    have hF:=Lib.hid (wysC_no (k:=k) (m:=m) (by omega))
    clear e2
    go_wp2
    go_ret
    exact⟨by rw[hF.out];rfl,rfl⟩
  ·obtain rfl:j=k:=by omega
   have hF:=Lib.hid (wysC_ok (k:=j) (m:=m) (by omega))
   go_wp2
   go_ret
   exact⟨by rw[hF.out];rfl,rfl⟩
theorem BearoffCount_any (p s:Int) (c h:Nat) (w:World) (hv:isVar p c h s=true):
  Calls Tryz.prog 164 #[.agg #[.int .i64 p,.int .i64 c,.int .i64 h,.int .i64 s]] w fun e w'=>e = .returned (.int .i64 (wysC h c))∧Below w.heap.size w w':=by
 have HB:Hid (Below w.heap.size w (w.alloc (.cells #[.int .i64 p,.int .i64 c,.int .i64 h,.int .i64 s] 25))):=(Below.refl _ _).alloc (Nat.le_refl _) _;obtain⟨hp0,hp24,hc0,hc15,hh1,hhp,_⟩:=isVar_yes hv
 have hh:h≤25:=by omega
 have hc:c≤15:=by omega
 have hb:=wys_bd hh hc
 by_cases hbig:(wys h c:Int)≤1000000
 ·have HF:=Lib.hid (wysC_ok (k:=h) (m:=c) (by omega))
  go_enter Tryz.func164,Tryz.ntmps164
  go_wp2_with (first|(go_at_call 145;refine (more_first (IsVariant_any _ _ _ _ _)).mono ?_;rintro e w' ⟨rfl,t,rfl⟩)|(go_at_call 216;refine (listsUpTo_any h c _ hh hc).mono ?_;rintro e w' ⟨rfl,rfl⟩))
  go_ret
  exact⟨by rw[HF.out];rfl,HB.out.trans ((below_more _ _).mono HB.out.size)⟩
 ·have HF:=Lib.hid (wysC_no (k:=h) (m:=c) (by omega))
  go_enter Tryz.func164,Tryz.ntmps164
  go_wp2_with (first|(go_at_call 145;refine (more_first (IsVariant_any _ _ _ _ _)).mono ?_;rintro e w' ⟨rfl,t,rfl⟩)|(go_at_call 216;refine (listsUpTo_any h c _ hh hc).mono ?_;rintro e w' ⟨rfl,rfl⟩))
  go_ret
  exact⟨by rw[HF.out];rfl,HB.out.trans ((below_more _ _).mono HB.out.size)⟩
theorem sBearoffCount_any (p s:Int) (c h:Nat) (w:World) (hv:isVar p c h s=true):
  Calls Tryz.prog 140 #[.agg #[.int .i64 p,.int .i64 c,.int .i64 h,.int .i64 s]] w fun e w'=>e = .returned (.int .i64 (wysC h c))∧Below w.heap.size w w':=by
 have HB:Hid (Below w.heap.size w (w.alloc (.cells #[.int .i64 p,.int .i64 c,.int .i64 h,.int .i64 s] 25))):=(Below.refl _ _).alloc (Nat.le_refl _) _;obtain⟨hp0,hp24,hc0,hc15,hh1,hhp,_⟩:=isVar_yes hv
 have hh:h≤25:=by omega
 have hc:c≤15:=by omega
 have hb:=wys_bd hh hc
 by_cases hbig:(wys h c:Int)≤1000000
 ·have HF:=Lib.hid (wysC_ok (k:=h) (m:=c) (by omega))
  go_enter Tryz.func140,Tryz.ntmps140
  go_wp2_with (first|(go_at_call 80;refine (more_first (sIsVariant_any _ _ _ _ _)).mono ?_;rintro e w' ⟨rfl,t,rfl⟩)|(go_at_call 167;refine (l10Ways_any h c _ hh hc).mono ?_;rintro e w' ⟨rfl,rfl⟩))
  go_ret
  exact⟨by rw[HF.out];rfl,HB.out.trans ((below_more _ _).mono HB.out.size)⟩
 ·have HF:=Lib.hid (wysC_no (k:=h) (m:=c) (by omega))
  go_enter Tryz.func140,Tryz.ntmps140
  go_wp2_with (first|(go_at_call 80;refine (more_first (sIsVariant_any _ _ _ _ _)).mono ?_;rintro e w' ⟨rfl,t,rfl⟩)|(go_at_call 167;refine (l10Ways_any h c _ hh hc).mono ?_;rintro e w' ⟨rfl,rfl⟩))
  go_ret
  exact⟨by rw[HF.out];rfl,HB.out.trans ((below_more _ _).mono HB.out.size)⟩
/-! ### the base and scales -/
theorem baseOf_any (p c h:Int) (s:Nat) (w:World) (hs:s≤6):
  Calls Tryz.prog 203 #[.agg #[.int .i64 p,.int .i64 c,.int .i64 h,.int .i64 s]] w fun e w'=>e = .returned (.int .i64 (sq s))∧Below w.heap.size w w':=by
 have h1:0≤(s:Int)*s:=by rw[← Int.natCast_mul];exact Int.natCast_nonneg _
 have h2:(s:Int)*s≤6*6:=Int.mul_le_mul (by omega) (by omega) (by omega) (by omega)
 go_enter Tryz.func203,Tryz.ntmps203
 go_wp2
 go_ret
 exact⟨rfl,(Below.refl _ _).alloc (Nat.le_refl _) _⟩
theorem l09Base_any (p c h:Int) (s:Nat) (w:World) (hs:s≤6):
  Calls Tryz.prog 172 #[.agg #[.int .i64 p,.int .i64 c,.int .i64 h,.int .i64 s]] w fun e w'=>e = .returned (.int .i64 (sq s))∧Below w.heap.size w w':=by
 have h1:0≤(s:Int)*s:=by rw[← Int.natCast_mul];exact Int.natCast_nonneg _
 have h2:(s:Int)*s≤6*6:=Int.mul_le_mul (by omega) (by omega) (by omega) (by omega)
 go_enter Tryz.func172,Tryz.ntmps172
 go_wp2
 go_ret
 exact⟨rfl,(Below.refl _ _).alloc (Nat.le_refl _) _⟩
end Go.Proofs.YtkaiilmgemaljaaGreat
/- Contracts of the scales of exact numbers, the program's and the reference's. There are no conditions. -/
namespace Go.Proofs.YtkaiilmgemaljaaGreat
open Go.RowKit Ps Ra Ex
def scl (B:Int) (d:Nat):Int:=if pw B d≤maxScale then pw B d else 0
def sclB (B:Int) (d:Nat):Bool:=decide (pw B d≤maxScale)
theorem scl_ok {B:Int} {d:Nat} (h:pw B d≤1000000000000000):scl B d=pw B d∧sclB B d=true:=⟨if_pos h,decide_eq_true h⟩
theorem scl_no {B:Int} {d:Nat} (h:1000000000000000<pw B d):scl B d=0∧sclB B d=false:=⟨if_neg (by show ¬_≤(1000000000000000:Int);omega),decide_eq_false (by show ¬_≤(1000000000000000:Int);omega)⟩
set_option maxRecDepth 10000 in
theorem scaleOf_any (p c h:Int) (s d:Nat) (w:World) (hs1:1≤s) (hs6:s≤6) (hd:d≤1000):
  Calls Tryz.prog 217 #[.agg #[.int .i64 p,.int .i64 c,.int .i64 h,.int .i64 s],.int .i64 d] w fun e w'=>e = .returned (.tuple #[.int .i64 (scl (sq s) d),.bool (sclB (sq s) d)])∧Below w.heap.size w w':=by
 have HB:Hid (Below w.heap.size w (w.alloc (.cells #[.int .i64 p,.int .i64 c,.int .i64 h,.int .i64 s] 25))):=(Below.refl _ _).alloc (Nat.le_refl _) _;obtain⟨hq1,hq36,hq4⟩:=sq_bd hs1 hs6
 have CB:=Lib.hid fun (W:World)=>baseOf_any p c h s W hs6
 by_cases hone:sq s=1
 ·have b1:(sq s == 1)=true:=by simp[hone]
  have HF:Hid (scl (sq s) d=1∧sclB (sq s) d=true):=by
   have:=scl_ok (B:=sq s) (d:=d) (by rw[hone,pw_one];decide)
   rw[hone,pw_one]at this;rw[hone];exact this
  clear hone hq4
  go_enter Tryz.func217,Tryz.ntmps217
  go_wp2_with (go_at_call 203;refine (more_first (CB.out _)).mono ?_;rintro e w' ⟨rfl,t,rfl⟩)
  go_ret2
  exact⟨by rw[HF.out.1,HF.out.2];rfl,HB.out.trans ((below_more _ _).mono HB.out.size)⟩
 ·have b1:(sq s == 1)=false:=by simp[hone]
  have hq:4≤sq s:=by omega
  clear hone hq4
  go_enter Tryz.func217,Tryz.ntmps217
  go_wp2_with (go_at_call 203;refine (more_first (CB.out _)).mono ?_;rintro e w' ⟨rfl,t,rfl⟩)
  go_loopw [6,11] (fun sc i wr=>∃k:Nat,k≤d∧i = .int .i64 k∧sc = .int .i64 (pw (sq s) k)∧pw (sq s) k≤1000000000000000∧Below (w.heap.size+1) (w.alloc (.cells #[.int .i64 p,.int .i64 c,.int .i64 h,.int .i64 s] 25)) wr) (fun _ i _=>d-(intOf i).toNat)
  case atStart=>exact⟨0,by omega,rfl,rfl,by rw[pw_zero];omega,(below_more _ _).mono (by simp)⟩
  case round=>
   obtain⟨k,hk,rfl,rfl,hle,hb⟩:=hrel
   have hb0:Below w.heap.size w wr:=HB.out.trans (hb.mono (by omega))
   have hz:w.heap.size<wr.heap.size:=by have:=hb.size;simp at this;omega
   have c0:wr.cell? ⟨w.heap.size,0,none⟩=some (.int .i64 p):=by rw[hb.cell (by simp)];simp[go_sem]
   have c1:wr.cell? ⟨w.heap.size,1,none⟩=some (.int .i64 c):=by rw[hb.cell (by simp)];simp[go_sem]
   have c2:wr.cell? ⟨w.heap.size,2,none⟩=some (.int .i64 h):=by rw[hb.cell (by simp)];simp[go_sem]
   have c3:wr.cell? ⟨w.heap.size,3,none⟩=some (.int .i64 s):=by rw[hb.cell (by simp)];simp[go_sem]
   have HBk:=Lib.hid hb;have HB0:=Lib.hid hb0;have hp:=pw_pos hq1 k
   have g1:pw (sq s) k*sq s≤1000000000000000*36:=Int.mul_le_mul hle hq36 (by omega) (by omega)
   have g0:0≤pw (sq s) k*sq s:=Int.mul_nonneg (by omega) (by omega)
   clear hb hb0
   by_cases hlt:k<d
   ·by_cases hbig:pw (sq s) k*sq s≤1000000000000000
    ·go_wp2_with (go_at_call 203;refine (more_first (CB.out _)).mono ?_;rintro e w' ⟨rfl,t,rfl⟩)
     go_roundw
     case rel=>exact⟨k+1,by omega,by go_num,rfl,hbig,HBk.out.trans ((below_more _ _).mono (by omega))⟩
     case measure=>simp[intOf];omega
    ·have HF:Hid (scl (sq s) d=0∧sclB (sq s) d=false):=scl_no (by have:=pw_mono hq1 (show k+1≤d by omega);rw[pw_succ]at this;omega)
     have hbig':1000000000000000<pw (sq s) k*sq s:=by omega
     clear hbig
     go_wp2_with (go_at_call 203;refine (more_first (CB.out _)).mono ?_;rintro e w' ⟨rfl,t,rfl⟩)
     go_ret2
     exact⟨by rw[HF.out.1,HF.out.2];rfl,HB0.out.trans ((below_more _ _).mono (by omega))⟩
   ·obtain rfl:k=d:=by omega
    have HF:Hid (scl (sq s) k=pw (sq s) k∧sclB (sq s) k=true):=scl_ok hle
    go_wp2
    go_ret2
    exact⟨by rw[HF.out.1,HF.out.2];rfl,HB0.out⟩
set_option maxRecDepth 10000 in
theorem l09Scale_any (p c h:Int) (s d:Nat) (w:World) (hs1:1≤s) (hs6:s≤6) (hd:d≤1000):
  Calls Tryz.prog 171 #[.agg #[.int .i64 p,.int .i64 c,.int .i64 h,.int .i64 s],.int .i64 d] w fun e w'=>e = .returned (.tuple #[.int .i64 (scl (sq s) d),.bool (sclB (sq s) d)])∧Below w.heap.size w w':=by
 have HB:Hid (Below w.heap.size w (w.alloc (.cells #[.int .i64 p,.int .i64 c,.int .i64 h,.int .i64 s] 25))):=(Below.refl _ _).alloc (Nat.le_refl _) _;obtain⟨hq1,hq36,hq4⟩:=sq_bd hs1 hs6
 have CB:=Lib.hid fun (W:World)=>l09Base_any p c h s W hs6
 go_enter Tryz.func171,Tryz.ntmps171
 go_wp2
 go_loopw [6,7] (fun sc i wr=>∃k:Nat,k≤d∧i = .int .i64 k∧sc = .int .i64 (pw (sq s) k)∧pw (sq s) k≤1000000000000000∧Below (w.heap.size+1) (w.alloc (.cells #[.int .i64 p,.int .i64 c,.int .i64 h,.int .i64 s] 25)) wr) (fun _ i _=>d-(intOf i).toNat)
 case atStart=>exact⟨0,by omega,rfl,rfl,by rw[pw_zero];omega,Below.refl _ _⟩
 case round=>
  obtain⟨k,hk,rfl,rfl,hle,hb⟩:=hrel
  have hb0:Below w.heap.size w wr:=HB.out.trans (hb.mono (by omega))
  have hz:w.heap.size<wr.heap.size:=by have:=hb.size;simp at this;omega
  have c0:wr.cell? ⟨w.heap.size,0,none⟩=some (.int .i64 p):=by rw[hb.cell (by simp)];simp[go_sem]
  have c1:wr.cell? ⟨w.heap.size,1,none⟩=some (.int .i64 c):=by rw[hb.cell (by simp)];simp[go_sem]
  have c2:wr.cell? ⟨w.heap.size,2,none⟩=some (.int .i64 h):=by rw[hb.cell (by simp)];simp[go_sem]
  have c3:wr.cell? ⟨w.heap.size,3,none⟩=some (.int .i64 s):=by rw[hb.cell (by simp)];simp[go_sem]
  have HBk:=Lib.hid hb;have HB0:=Lib.hid hb0;have hp:=pw_pos hq1 k
  have g1:pw (sq s) k*sq s≤1000000000000000*36:=Int.mul_le_mul hle hq36 (by omega) (by omega)
  have g0:0≤pw (sq s) k*sq s:=Int.mul_nonneg (by omega) (by omega)
  clear hb hb0
  by_cases hlt:k<d
  ·by_cases hone:sq s=1
   ·have HF:Hid (scl (sq s) d=pw (sq s) k∧sclB (sq s) d=true):=by
     have:=scl_ok (B:=sq s) (d:=d) (by rw[hone,pw_one];decide)
     rw[hone,pw_one]at this;rw[hone,pw_one];exact this
    have b1:decide (1<sq s)=false:=by simp[hone]
    clear hone hq4
    go_wp2_with (go_at_call 172;refine (more_first (CB.out _)).mono ?_;rintro e w' ⟨rfl,t,rfl⟩)
    go_ret2
    exact⟨by rw[HF.out.1,HF.out.2];rfl,HB0.out.trans ((below_more _ _).mono (by omega))⟩
   ·have b1:1<sq s:=by omega
    clear hone hq4
    by_cases hbig:pw (sq s) k*sq s≤1000000000000000
    ·go_wp2_with (go_at_call 172;refine (more_first (CB.out _)).mono ?_;rintro e w' ⟨rfl,t,rfl⟩)
     go_roundw
     case rel=>exact⟨k+1,by omega,by go_num,rfl,hbig,blw (blw HBk.out (by simp)) (by simp)⟩
     case measure=>simp[intOf];omega
    ·have HF:Hid (scl (sq s) d=0∧sclB (sq s) d=false):=scl_no (by have:=pw_mono hq1 (show k+1≤d by omega);rw[pw_succ]at this;omega)
     have hbig':1000000000000000<pw (sq s) k*sq s:=by omega
     clear hbig
     go_wp2_with (go_at_call 172;refine (more_first (CB.out _)).mono ?_;rintro e w' ⟨rfl,t,rfl⟩)
     go_ret2
     exact⟨by rw[HF.out.1,HF.out.2];rfl,blw (blw HB0.out (Nat.le_refl _)) (Nat.le_refl _)⟩
  ·obtain rfl:k=d:=by omega
   have HF:Hid (scl (sq s) k=pw (sq s) k∧sclB (sq s) k=true):=scl_ok hle
   go_wp2
   go_ret2
   exact⟨by rw[HF.out.1,HF.out.2];rfl,HB0.out⟩
end Go.Proofs.YtkaiilmgemaljaaGreat
/- Contracts of what is a valid exact number, the program's and the reference's. There are no conditions. -/
namespace Go.Proofs.YtkaiilmgemaljaaGreat
open Go.RowKit Ps Ra Ex
theorem absolute_any (n:Int) (w:World) (h1 : -9000000000000000000≤n) (h2:n≤9000000000000000000):
  Calls Tryz.prog 205 #[.int .i64 n] w fun e w'=>e = .returned (.int .i64 (n.natAbs:Int))∧w=w':=by
 by_cases h:n<0
 ·have HF:Hid ((n.natAbs:Int) = -n):=by unfold Hid;omega
  go_enter Tryz.func205,Tryz.ntmps205
  go_wp2
  go_ret
  exact⟨by rw[HF.out];rfl,rfl⟩
 ·have HF:Hid ((n.natAbs:Int)=n):=by unfold Hid;omega
  go_enter Tryz.func205,Tryz.ntmps205
  go_wp2
  go_ret
  exact⟨by rw[HF.out];rfl,rfl⟩
set_option maxRecDepth 10000 in
theorem isExact_any (p c h n:Int) (s d:Nat) (w:World) (hs1:1≤s) (hs6:s≤6) (hd:d≤1000):
  Calls Tryz.prog 215 #[.agg #[.int .i64 p,.int .i64 c,.int .i64 h,.int .i64 s],.agg #[.int .i64 n,.int .i64 d]] w fun e w'=>e = .returned (.bool (valB (sq s) n d))∧Below w.heap.size w w':=by
 have HB:Hid (Below w.heap.size w ((w.alloc (.cells #[.int .i64 p,.int .i64 c,.int .i64 h,.int .i64 s] 25)).alloc (.cells #[.int .i64 n,.int .i64 d] 35))):=((Below.refl _ _).alloc (Nat.le_refl _) _).alloc (by simp) _
 obtain⟨hq1,hq36,hq4⟩:=sq_bd hs1 hs6
 have CB:=Lib.hid fun (W:World)=>baseOf_any p c h s W hs6
 have CB':=Lib.hid fun (W:World)=>l09Base_any p c h s W hs6
 have CS:=Lib.hid fun (W:World)=>scaleOf_any p c h s d W hs1 hs6 hd
 have CS':=Lib.hid fun (W:World)=>l09Scale_any p c h s d W hs1 hs6 hd
 by_cases hn : -1000000000000000000≤n∧n≤1000000000000000000
 ·have e1:=inB_yes hn
  by_cases hd0:d=0
  ·have HF:Hid (valB (sq s) n d=true):=by subst hd0;exact valB_zero (by show -(1000000000000000000:Int)≤n;omega) hn.2
   have b0:((d:Int) == 0)=true:=by simp[hd0]
   clear hd0 hq4
   go_enter Tryz.func215,Tryz.ntmps215
   go_wp2_with (first|(go_at_call 116;refine (within_any _ _ _ _).mono ?_;rintro e w' ⟨rfl,rfl⟩)|(go_at_call 203;refine (more_first (CB.out _)).mono ?_;rintro e w' ⟨rfl,t,rfl⟩)|(go_at_call 217;first|(refine (more_call (CS.out _)).mono ?_;rintro e w' ⟨rfl,t,rfl⟩)|(refine (more_first (CS.out _)).mono ?_;rintro e w' ⟨rfl,t,rfl⟩)))
   go_ret
   refine⟨by rw[HF.out];rfl,?_⟩
   first|exact HB.out|exact blw HB.out (Nat.le_refl _)|exact blw (blw HB.out (Nat.le_refl _)) (Nat.le_refl _)|exact blw (blw (blw HB.out (Nat.le_refl _)) (Nat.le_refl _)) (Nat.le_refl _)
  ·have b0:((d:Int) == 0)=false:=by simp[hd0]
   have hd1:1≤(d:Int):=by omega
   by_cases hone:sq s=1
   ·have HF:Hid (valB (sq s) n d=false):=by rw[hone];exact valB_one hd0
    have b1:(sq s == 1)=true:=by simp[hone]
    have b2:decide (1<sq s)=false:=by simp[hone]
    have HS:Hid (scl (sq s) d=1∧sclB (sq s) d=true):=by
     have:=scl_ok (B:=sq s) (d:=d) (by rw[hone,pw_one];decide)
     rw[hone,pw_one]at this;rw[hone];exact this
    have eS:=HS.out.2;clear hone hd0 hq4
    go_enter Tryz.func215,Tryz.ntmps215
    go_wp2_with (first|(go_at_call 116;refine (within_any _ _ _ _).mono ?_;rintro e w' ⟨rfl,rfl⟩)|(go_at_call 203;refine (more_first (CB.out _)).mono ?_;rintro e w' ⟨rfl,t,rfl⟩)|(go_at_call 217;first|(refine (more_call (CS.out _)).mono ?_;rintro e w' ⟨rfl,t,rfl⟩)|(refine (more_first (CS.out _)).mono ?_;rintro e w' ⟨rfl,t,rfl⟩)))
    go_ret
    refine⟨by rw[HF.out];rfl,?_⟩
    first|exact HB.out|exact blw HB.out (Nat.le_refl _)|exact blw (blw HB.out (Nat.le_refl _)) (Nat.le_refl _)|exact blw (blw (blw HB.out (Nat.le_refl _)) (Nat.le_refl _)) (Nat.le_refl _)
   ·have b1:(sq s == 1)=false:=by simp[hone]
    have b2:1<sq s:=by omega
    have b2':decide (1<sq s)=true:=by simp;omega
    by_cases hbig:pw (sq s) d≤1000000000000000
    ·have eS:=(scl_ok hbig).2
     have h60:¬60<(d:Int):=by
      intro h60
      have:=pw_big (B:=sq s) (by omega) (d:=d) (by omega)
      have e:maxScale=1000000000000000:=rfl
      omega
     have hdv:∀P:Prop,(sq s ∣ n→P)→(¬sq s ∣ n→P)→P:=fun P h1 h2=>(Decidable.em (sq s ∣ n)).elim h1 h2
     have hw:IntKind.i64.wrap (n.tmod (sq s))=n.tmod (sq s):=IntWalk.i64_in _ (by
      have h1:=Int.tmod_lt_of_pos n (show 0<sq s by omega)
      have h2:=Int.lt_tmod_of_pos n (show 0<sq s by omega)
      omega)
     apply hdv
     ·intro hdiv
      have HF:Hid (valB (sq s) n d=false):=valB_dvd hd0 hdiv
      have b3:(n.tmod (sq s) != 0)=false:=by simp[tmod_zero.2 hdiv]
      clear hdv hdiv hone hd0 hq4
      go_enter Tryz.func215,Tryz.ntmps215
      go_wp2_with (first|(go_at_call 116;refine (within_any _ _ _ _).mono ?_;rintro e w' ⟨rfl,rfl⟩)|(go_at_call 203;refine (more_first (CB.out _)).mono ?_;rintro e w' ⟨rfl,t,rfl⟩)|(go_at_call 217;first|(refine (more_call (CS.out _)).mono ?_;rintro e w' ⟨rfl,t,rfl⟩)|(refine (more_first (CS.out _)).mono ?_;rintro e w' ⟨rfl,t,rfl⟩)))
      first|refine wp_region_more2 (by kernel_rfl) (by kernel_rfl) ?_|refine wp_region_more (by kernel_rfl) (by kernel_rfl) ?_
      repeat (first|go_big_quiet_step ((go_at_call 203;exact more_call (CB.out _)))|quiet_step ((go_at_call 203;exact more_call (CB.out _))))
      refine wpQuiet_nil ?_
      intro _ hw'
      obtain⟨tq,hw''⟩:=hw';subst hw''
      go_wp2
      go_ret
      refine⟨by rw[HF.out];rfl,?_⟩
      first|exact HB.out|exact blw HB.out (Nat.le_refl _)|exact blw (blw HB.out (Nat.le_refl _)) (Nat.le_refl _)|exact blw (blw (blw HB.out (Nat.le_refl _)) (Nat.le_refl _)) (Nat.le_refl _)
     ·intro hdiv
      have HF:Hid (valB (sq s) n d=true):=valB_mk (by show -(1000000000000000000:Int)≤n;omega) hn.2 hbig hdiv hone
      have b3:(n.tmod (sq s) != 0)=true:=by simp[tmod_zero,hdiv]
      clear hdv hdiv hone hd0 hq4
      go_enter Tryz.func215,Tryz.ntmps215
      go_wp2_with (first|(go_at_call 116;refine (within_any _ _ _ _).mono ?_;rintro e w' ⟨rfl,rfl⟩)|(go_at_call 203;refine (more_first (CB.out _)).mono ?_;rintro e w' ⟨rfl,t,rfl⟩)|(go_at_call 217;first|(refine (more_call (CS.out _)).mono ?_;rintro e w' ⟨rfl,t,rfl⟩)|(refine (more_first (CS.out _)).mono ?_;rintro e w' ⟨rfl,t,rfl⟩)))
      first|refine wp_region_more2 (by kernel_rfl) (by kernel_rfl) ?_|refine wp_region_more (by kernel_rfl) (by kernel_rfl) ?_
      repeat (first|go_big_quiet_step ((go_at_call 203;exact more_call (CB.out _)))|quiet_step ((go_at_call 203;exact more_call (CB.out _))))
      refine wpQuiet_nil ?_
      intro _ hw'
      obtain⟨tq,hw''⟩:=hw';subst hw''
      go_wp2
      go_ret
      refine⟨by rw[HF.out];rfl,?_⟩
      first|exact HB.out|exact blw HB.out (Nat.le_refl _)|exact blw (blw HB.out (Nat.le_refl _)) (Nat.le_refl _)|exact blw (blw (blw HB.out (Nat.le_refl _)) (Nat.le_refl _)) (Nat.le_refl _)
    ·have HF:Hid (valB (sq s) n d=false):=valB_deep (by show (1000000000000000:Int)<_;omega)
     have eS:=(scl_no (B:=sq s) (d:=d) (by omega)).2
     clear hone hd0 hq4
     by_cases h60:60<(d:Int)
     ·
      go_enter Tryz.func215,Tryz.ntmps215
      go_wp2_with (first|(go_at_call 116;refine (within_any _ _ _ _).mono ?_;rintro e w' ⟨rfl,rfl⟩)|(go_at_call 203;refine (more_first (CB.out _)).mono ?_;rintro e w' ⟨rfl,t,rfl⟩)|(go_at_call 217;first|(refine (more_call (CS.out _)).mono ?_;rintro e w' ⟨rfl,t,rfl⟩)|(refine (more_first (CS.out _)).mono ?_;rintro e w' ⟨rfl,t,rfl⟩)))
      go_ret
      refine⟨by rw[HF.out];rfl,?_⟩
      first|exact HB.out|exact blw HB.out (Nat.le_refl _)|exact blw (blw HB.out (Nat.le_refl _)) (Nat.le_refl _)|exact blw (blw (blw HB.out (Nat.le_refl _)) (Nat.le_refl _)) (Nat.le_refl _)
     ·
      go_enter Tryz.func215,Tryz.ntmps215
      go_wp2_with (first|(go_at_call 116;refine (within_any _ _ _ _).mono ?_;rintro e w' ⟨rfl,rfl⟩)|(go_at_call 203;refine (more_first (CB.out _)).mono ?_;rintro e w' ⟨rfl,t,rfl⟩)|(go_at_call 217;first|(refine (more_call (CS.out _)).mono ?_;rintro e w' ⟨rfl,t,rfl⟩)|(refine (more_first (CS.out _)).mono ?_;rintro e w' ⟨rfl,t,rfl⟩)))
      first|refine wp_region_more2 (by kernel_rfl) (by kernel_rfl) ?_|refine wp_region_more (by kernel_rfl) (by kernel_rfl) ?_
      repeat (first|go_big_quiet_step ((go_at_call 203;exact more_call (CB.out _)))|quiet_step ((go_at_call 203;exact more_call (CB.out _))))
      refine wpQuiet_nil ?_
      intro _ hw'
      obtain⟨tq,hw''⟩:=hw';subst hw''
      go_wp2
      go_ret
      refine⟨by rw[HF.out];rfl,?_⟩
      first|exact HB.out|exact blw HB.out (Nat.le_refl _)|exact blw (blw HB.out (Nat.le_refl _)) (Nat.le_refl _)|exact blw (blw (blw HB.out (Nat.le_refl _)) (Nat.le_refl _)) (Nat.le_refl _)
 ·have HF:Hid (valB (sq s) n d=false):=valB_far (by show n < -(1000000000000000000:Int)∨(1000000000000000000:Int)<n;omega)
  have e1:=inB_no hn;clear hq4
  go_enter Tryz.func215,Tryz.ntmps215
  go_wp2_with (first|(go_at_call 116;refine (within_any _ _ _ _).mono ?_;rintro e w' ⟨rfl,rfl⟩)|(go_at_call 203;refine (more_first (CB.out _)).mono ?_;rintro e w' ⟨rfl,t,rfl⟩)|(go_at_call 217;first|(refine (more_call (CS.out _)).mono ?_;rintro e w' ⟨rfl,t,rfl⟩)|(refine (more_first (CS.out _)).mono ?_;rintro e w' ⟨rfl,t,rfl⟩)))
  go_ret
  refine⟨by rw[HF.out];rfl,?_⟩
  first|exact HB.out|exact blw HB.out (Nat.le_refl _)|exact blw (blw HB.out (Nat.le_refl _)) (Nat.le_refl _)|exact blw (blw (blw HB.out (Nat.le_refl _)) (Nat.le_refl _)) (Nat.le_refl _)
set_option maxRecDepth 10000 in
theorem l09Valid_any (p c h n:Int) (s d:Nat) (w:World) (hs1:1≤s) (hs6:s≤6) (hd:d≤1000):
  Calls Tryz.prog 86 #[.agg #[.int .i64 p,.int .i64 c,.int .i64 h,.int .i64 s],.agg #[.int .i64 n,.int .i64 d]] w fun e w'=>e = .returned (.bool (valB (sq s) n d))∧Below w.heap.size w w':=by
 have HB:Hid (Below w.heap.size w ((w.alloc (.cells #[.int .i64 p,.int .i64 c,.int .i64 h,.int .i64 s] 25)).alloc (.cells #[.int .i64 n,.int .i64 d] 35))):=((Below.refl _ _).alloc (Nat.le_refl _) _).alloc (by simp) _
 obtain⟨hq1,hq36,hq4⟩:=sq_bd hs1 hs6
 have CB:=Lib.hid fun (W:World)=>baseOf_any p c h s W hs6
 have CB':=Lib.hid fun (W:World)=>l09Base_any p c h s W hs6
 have CS:=Lib.hid fun (W:World)=>scaleOf_any p c h s d W hs1 hs6 hd
 have CS':=Lib.hid fun (W:World)=>l09Scale_any p c h s d W hs1 hs6 hd
 by_cases hn : -1000000000000000000≤n∧n≤1000000000000000000
 ·have e1:=inB_yes hn
  by_cases hd0:d=0
  ·have HF:Hid (valB (sq s) n d=true):=by subst hd0;exact valB_zero (by show -(1000000000000000000:Int)≤n;omega) hn.2
   have b0:((d:Int) == 0)=true:=by simp[hd0]
   clear hd0 hq4
   go_enter Tryz.func86,Tryz.ntmps86
   go_wp2_with (first|(go_at_call 134;refine (l01In_any _ _ _ _).mono ?_;rintro e w' ⟨rfl,rfl⟩)|(go_at_call 171;refine (more_first (CS'.out _)).mono ?_;rintro e w' ⟨rfl,t,rfl⟩))
   go_ret
   refine⟨by rw[HF.out];rfl,?_⟩
   first|exact HB.out|exact blw HB.out (Nat.le_refl _)|exact blw (blw HB.out (Nat.le_refl _)) (Nat.le_refl _)|exact blw (blw (blw HB.out (Nat.le_refl _)) (Nat.le_refl _)) (Nat.le_refl _)
  ·have b0:((d:Int) == 0)=false:=by simp[hd0]
   have hd1:1≤(d:Int):=by omega
   by_cases hone:sq s=1
   ·have HF:Hid (valB (sq s) n d=false):=by rw[hone];exact valB_one hd0
    have b1:(sq s == 1)=true:=by simp[hone]
    have b2:decide (1<sq s)=false:=by simp[hone]
    have HS:Hid (scl (sq s) d=1∧sclB (sq s) d=true):=by
     have:=scl_ok (B:=sq s) (d:=d) (by rw[hone,pw_one];decide)
     rw[hone,pw_one]at this;rw[hone];exact this
    have eS:=HS.out.2;clear hone hd0 hq4
    go_enter Tryz.func86,Tryz.ntmps86
    go_wp2_with (first|(go_at_call 134;refine (l01In_any _ _ _ _).mono ?_;rintro e w' ⟨rfl,rfl⟩)|(go_at_call 171;refine (more_first (CS'.out _)).mono ?_;rintro e w' ⟨rfl,t,rfl⟩))
    first|refine wp_region_more2 (by kernel_rfl) (by kernel_rfl) ?_|refine wp_region_more (by kernel_rfl) (by kernel_rfl) ?_
    repeat (first|go_big_quiet_step ((go_at_call 172;exact more_call (CB'.out _)))|quiet_step ((go_at_call 172;exact more_call (CB'.out _))))
    refine wpQuiet_nil ?_
    intro _ hw'
    obtain⟨tq,hw''⟩:=hw';subst hw''
    go_wp2
    go_ret
    refine⟨by rw[HF.out];rfl,?_⟩
    first|exact HB.out|exact blw HB.out (Nat.le_refl _)|exact blw (blw HB.out (Nat.le_refl _)) (Nat.le_refl _)|exact blw (blw (blw HB.out (Nat.le_refl _)) (Nat.le_refl _)) (Nat.le_refl _)
   ·have b1:(sq s == 1)=false:=by simp[hone]
    have b2:1<sq s:=by omega
    have b2':decide (1<sq s)=true:=by simp;omega
    by_cases hbig:pw (sq s) d≤1000000000000000
    ·have eS:=(scl_ok hbig).2
     have h60:¬60<(d:Int):=by
      intro h60
      have:=pw_big (B:=sq s) (by omega) (d:=d) (by omega)
      have e:maxScale=1000000000000000:=rfl
      omega
     have hdv:∀P:Prop,(sq s ∣ n→P)→(¬sq s ∣ n→P)→P:=fun P h1 h2=>(Decidable.em (sq s ∣ n)).elim h1 h2
     have hw:IntKind.i64.wrap (n.tmod (sq s))=n.tmod (sq s):=IntWalk.i64_in _ (by
      have h1:=Int.tmod_lt_of_pos n (show 0<sq s by omega)
      have h2:=Int.lt_tmod_of_pos n (show 0<sq s by omega)
      omega)
     apply hdv
     ·intro hdiv
      have HF:Hid (valB (sq s) n d=false):=valB_dvd hd0 hdiv
      have b3:(n.tmod (sq s) != 0)=false:=by simp[tmod_zero.2 hdiv]
      clear hdv hdiv hone hd0 hq4
      go_enter Tryz.func86,Tryz.ntmps86
      go_wp2_with (first|(go_at_call 134;refine (l01In_any _ _ _ _).mono ?_;rintro e w' ⟨rfl,rfl⟩)|(go_at_call 171;refine (more_first (CS'.out _)).mono ?_;rintro e w' ⟨rfl,t,rfl⟩))
      first|refine wp_region_more2 (by kernel_rfl) (by kernel_rfl) ?_|refine wp_region_more (by kernel_rfl) (by kernel_rfl) ?_
      repeat (first|go_big_quiet_step ((go_at_call 172;exact more_call (CB'.out _)))|quiet_step ((go_at_call 172;exact more_call (CB'.out _))))
      refine wpQuiet_nil ?_
      intro _ hw'
      obtain⟨tq,hw''⟩:=hw';subst hw''
      go_wp2
      go_ret
      refine⟨by rw[HF.out];rfl,?_⟩
      first|exact HB.out|exact blw HB.out (Nat.le_refl _)|exact blw (blw HB.out (Nat.le_refl _)) (Nat.le_refl _)|exact blw (blw (blw HB.out (Nat.le_refl _)) (Nat.le_refl _)) (Nat.le_refl _)
     ·intro hdiv
      have HF:Hid (valB (sq s) n d=true):=valB_mk (by show -(1000000000000000000:Int)≤n;omega) hn.2 hbig hdiv hone
      have b3:(n.tmod (sq s) != 0)=true:=by simp[tmod_zero,hdiv]
      clear hdv hdiv hone hd0 hq4
      go_enter Tryz.func86,Tryz.ntmps86
      go_wp2_with (first|(go_at_call 134;refine (l01In_any _ _ _ _).mono ?_;rintro e w' ⟨rfl,rfl⟩)|(go_at_call 171;refine (more_first (CS'.out _)).mono ?_;rintro e w' ⟨rfl,t,rfl⟩))
      first|refine wp_region_more2 (by kernel_rfl) (by kernel_rfl) ?_|refine wp_region_more (by kernel_rfl) (by kernel_rfl) ?_
      repeat (first|go_big_quiet_step ((go_at_call 172;exact more_call (CB'.out _)))|quiet_step ((go_at_call 172;exact more_call (CB'.out _))))
      refine wpQuiet_nil ?_
      intro _ hw'
      obtain⟨tq,hw''⟩:=hw';subst hw''
      go_wp2
      go_ret
      refine⟨by rw[HF.out];rfl,?_⟩
      first|exact HB.out|exact blw HB.out (Nat.le_refl _)|exact blw (blw HB.out (Nat.le_refl _)) (Nat.le_refl _)|exact blw (blw (blw HB.out (Nat.le_refl _)) (Nat.le_refl _)) (Nat.le_refl _)
    ·have HF:Hid (valB (sq s) n d=false):=valB_deep (by show (1000000000000000:Int)<_;omega)
     have eS:=(scl_no (B:=sq s) (d:=d) (by omega)).2
     clear hone hd0 hq4
     by_cases h60:60<(d:Int)
     ·
      go_enter Tryz.func86,Tryz.ntmps86
      go_wp2_with (first|(go_at_call 134;refine (l01In_any _ _ _ _).mono ?_;rintro e w' ⟨rfl,rfl⟩)|(go_at_call 171;refine (more_first (CS'.out _)).mono ?_;rintro e w' ⟨rfl,t,rfl⟩))
      first|refine wp_region_more2 (by kernel_rfl) (by kernel_rfl) ?_|refine wp_region_more (by kernel_rfl) (by kernel_rfl) ?_
      repeat (first|go_big_quiet_step ((go_at_call 172;exact more_call (CB'.out _)))|quiet_step ((go_at_call 172;exact more_call (CB'.out _))))
      refine wpQuiet_nil ?_
      intro _ hw'
      obtain⟨tq,hw''⟩:=hw';subst hw''
      go_wp2
      go_ret
      refine⟨by rw[HF.out];rfl,?_⟩
      first|exact HB.out|exact blw HB.out (Nat.le_refl _)|exact blw (blw HB.out (Nat.le_refl _)) (Nat.le_refl _)|exact blw (blw (blw HB.out (Nat.le_refl _)) (Nat.le_refl _)) (Nat.le_refl _)
     ·
      go_enter Tryz.func86,Tryz.ntmps86
      go_wp2_with (first|(go_at_call 134;refine (l01In_any _ _ _ _).mono ?_;rintro e w' ⟨rfl,rfl⟩)|(go_at_call 171;refine (more_first (CS'.out _)).mono ?_;rintro e w' ⟨rfl,t,rfl⟩))
      first|refine wp_region_more2 (by kernel_rfl) (by kernel_rfl) ?_|refine wp_region_more (by kernel_rfl) (by kernel_rfl) ?_
      repeat (first|go_big_quiet_step ((go_at_call 172;exact more_call (CB'.out _)))|quiet_step ((go_at_call 172;exact more_call (CB'.out _))))
      refine wpQuiet_nil ?_
      intro _ hw'
      obtain⟨tq,hw''⟩:=hw';subst hw''
      go_wp2
      go_ret
      refine⟨by rw[HF.out];rfl,?_⟩
      first|exact HB.out|exact blw HB.out (Nat.le_refl _)|exact blw (blw HB.out (Nat.le_refl _)) (Nat.le_refl _)|exact blw (blw (blw HB.out (Nat.le_refl _)) (Nat.le_refl _)) (Nat.le_refl _)
 ·have HF:Hid (valB (sq s) n d=false):=valB_far (by show n < -(1000000000000000000:Int)∨(1000000000000000000:Int)<n;omega)
  have e1:=inB_no hn;clear hq4
  go_enter Tryz.func86,Tryz.ntmps86
  go_wp2_with (first|(go_at_call 134;refine (l01In_any _ _ _ _).mono ?_;rintro e w' ⟨rfl,rfl⟩)|(go_at_call 171;refine (more_first (CS'.out _)).mono ?_;rintro e w' ⟨rfl,t,rfl⟩))
  go_ret
  refine⟨by rw[HF.out];rfl,?_⟩
  first|exact HB.out|exact blw HB.out (Nat.le_refl _)|exact blw (blw HB.out (Nat.le_refl _)) (Nat.le_refl _)|exact blw (blw (blw HB.out (Nat.le_refl _)) (Nat.le_refl _)) (Nat.le_refl _)
end Go.Proofs.YtkaiilmgemaljaaGreat
/- Contract of the program's normal form of a number over a power of the base. There are no conditions. -/
namespace Go.Proofs.YtkaiilmgemaljaaGreat
open Go.RowKit Ps Ra Ex
def RetE (w:World) (r:Option E) (e:Ending) (w':World):Prop:=e = .returned (.tuple #[.agg #[.int .i64 (r.getD ⟨0,0⟩).num,.int .i64 ((r.getD ⟨0,0⟩).depth:Int)],.bool r.isSome])∧Below w.heap.size w w'
theorem RetE.mkY {w w':World} {r:Option E} {m:Int} {d:Nat} (hr:r=some ⟨m,d⟩) (hb:Below w.heap.size w w'):RetE w r (.returned (.tuple #[.agg #[.int .i64 m,.int .i64 (d:Int)],.bool true])) w':=by subst hr;exact⟨rfl,hb⟩
theorem RetE.mkN {w w':World} {r:Option E} (hr:r=none) (hb:Below w.heap.size w w'):RetE w r (.returned (.tuple #[.agg #[.int .i64 0,.int .i64 0],.bool false])) w':=by subst hr;exact⟨rfl,hb⟩
set_option maxHeartbeats 1000000 in
set_option maxRecDepth 10000 in
theorem makeExact_any (p c h n:Int) (s d:Nat) (w:World) (hs1:1≤s) (hs6:s≤6) (hd:d≤1000) (hn1 : -9000000000000000000≤n) (hn2:n≤9000000000000000000):
  Calls Tryz.prog 207 #[.agg #[.int .i64 p,.int .i64 c,.int .i64 h,.int .i64 s],.int .i64 n,.int .i64 d] w (RetE w (mk (sq s) n d)):=by
 have HB:Hid (Below w.heap.size w ((w.alloc (.cells #[.int .i64 p,.int .i64 c,.int .i64 h,.int .i64 s] 25)).alloc (.cells #[.int .i64 0,.int .i64 0] 35))):=((Below.refl _ _).alloc (Nat.le_refl _) _).alloc (by simp) _
 obtain⟨hq1,hq36,hq4⟩:=sq_bd hs1 hs6
 have CB:=Lib.hid fun (W:World)=>baseOf_any p c h s W hs6
 have HQ4:=Lib.hid hq4
 by_cases hone:sq s=1
 ·have b1:(sq s == 1)=true:=by simp[hone]
  have H0:Hid (mk (sq s) n d=mk (sq s) n 0):=by rw[hone];exact mk_one n d
  clear hone hq4
  go_enter Tryz.func207,Tryz.ntmps207
  go_wp2_with (first|(go_at_call 203;refine (more_first (CB.out _)).mono ?_;rintro e w' ⟨rfl,t,rfl⟩))
  go_loopw [1,2] (fun vn vd wr=>∃(k:Nat) (m:Int),k≤d∧vn = .int .i64 m∧vd = .int .i64 k∧-9000000000000000000≤m∧m≤9000000000000000000∧Hid (mk (sq s) n d=mk (sq s) m k)∧Hid (sq s=1→k=0)∧Below (w.heap.size+2) ((w.alloc (.cells #[.int .i64 p,.int .i64 c,.int .i64 h,.int .i64 s] 25)).alloc (.cells #[.int .i64 0,.int .i64 0] 35)) wr) (fun _ vd _=>(intOf vd).toNat)
  case atStart=>exact⟨0,n,by omega,rfl,rfl,hn1,hn2,H0,fun _=>rfl,(below_more _ _).mono (by simp)⟩
  case round=>
   have hq4:=HQ4.out;obtain⟨k,m,hk,rfl,rfl,hm1,hm2,hst,h1k,hb⟩:=hrel
   have HB0:Hid (Below w.heap.size w wr):=HB.out.trans (hb.mono (by omega))
   have hz:w.heap.size+1<wr.heap.size:=by have:=hb.size;simp at this;omega
   have hz0:w.heap.size<wr.heap.size:=by omega
   have c0:wr.cell? ⟨w.heap.size,0,none⟩=some (.int .i64 p):=by rw[hb.cell (by simp)];simp[go_sem]
   have c1:wr.cell? ⟨w.heap.size,1,none⟩=some (.int .i64 c):=by rw[hb.cell (by simp)];simp[go_sem]
   have c2:wr.cell? ⟨w.heap.size,2,none⟩=some (.int .i64 h):=by rw[hb.cell (by simp)];simp[go_sem]
   have c3:wr.cell? ⟨w.heap.size,3,none⟩=some (.int .i64 s):=by rw[hb.cell (by simp)];simp[go_sem]
   have r0:wr.cell? ⟨w.heap.size+1,0,none⟩=some (.int .i64 0):=by rw[hb.cell (by simp)];simp[go_sem]
   have r1:wr.cell? ⟨w.heap.size+1,1,none⟩=some (.int .i64 0):=by rw[hb.cell (by simp)];simp[go_sem]
   have f0:wr.frozen? ⟨w.heap.size+1,0,none⟩=false:=by rw[hb.frozen (by simp)];simp[go_sem]
   have f1:wr.frozen? ⟨w.heap.size+1,1,none⟩=false:=by rw[hb.frozen (by simp)];simp[go_sem]
   have HBk:=Lib.hid hb;clear hb
   by_cases hk0:k=0
   ·
    have HS:Hid (mk (sq s) n d=if valB (sq s) m k then some ⟨m,k⟩ else none):=(hst.out).trans (mk_strip (by rw[hk0];rfl))
    have g0:¬0<(k:Int):=by omega
    have g0':decide (0<(k:Int))=false:=by simp;omega
    clear hk0
    have CI:=Lib.hid fun (W:World)=>isExact_any p c h m s k W hs1 hs6 (by omega)
    go_wp2_with (first|(go_at_call 203;refine (more_first (CB.out _)).mono ?_;rintro e w' ⟨rfl,t,rfl⟩))
    obtain⟨W1,hW1⟩:∃W1,W1=wr:=⟨_,rfl⟩
    try rw[← hW1]
    have HB1:Hid (Below w.heap.size w W1):=by
     rw[hW1]
     repeat (first|exact HB0.out|exact HB.out|refine blw ?_ (Nat.le_refl _)|refine alw ?_ (Nat.le_refl _)|refine stw ?_ (by omega)|refine drw ?_)
    have z1:w.heap.size+1<W1.heap.size:=by rw[hW1];exact hz
    have y0:W1.cell? ⟨w.heap.size+1,0,none⟩=some (.int .i64 0):=by rw[hW1];assumption
    have y1:W1.cell? ⟨w.heap.size+1,1,none⟩=some (.int .i64 0):=by rw[hW1];assumption
    have y2:W1.frozen? ⟨w.heap.size+1,0,none⟩=false:=by rw[hW1];assumption
    have y3:W1.frozen? ⟨w.heap.size+1,1,none⟩=false:=by rw[hW1];assumption
    clear hW1 c0 c1 c2 c3 r0 r1 f0 f1
    refine (CI.out _).mono ?_
    rintro e w2 ⟨rfl,hb2⟩
    have r0:w2.cell? ⟨w.heap.size+1,0,none⟩=some (.int .i64 0):=keep_cell ((cell_alloc_lt _ _ _ z1).trans y0) hb2;have r1:w2.cell? ⟨w.heap.size+1,1,none⟩=some (.int .i64 0):=keep_cell ((cell_alloc_lt _ _ _ z1).trans y1) hb2;have f0:w2.frozen? ⟨w.heap.size+1,0,none⟩=false:=keep_froz ((frozen_alloc_lt _ _ _ z1).trans y2) ((cell_alloc_lt _ _ _ z1).trans y0) hb2;have f1:w2.frozen? ⟨w.heap.size+1,1,none⟩=false:=keep_froz ((frozen_alloc_lt _ _ _ z1).trans y3) ((cell_alloc_lt _ _ _ z1).trans y1) hb2
    have x0:w2.cell? ⟨W1.heap.size,0,none⟩=some (.int .i64 m):=keep_cell (by simp[go_sem]) hb2
    have x1:w2.cell? ⟨W1.heap.size,1,none⟩=some (.int .i64 k):=keep_cell (by simp[go_sem]) hb2
    replace HB1:=Lib.hid ((HB1.out.alloc HB1.out.size _).trans (hb2.mono (by have:=HB1.out.size;simp;omega)))
    clear hb2 y0 y1 y2 y3
    by_cases hval:valB (sq s) m k=true
    ·
     have HR:=Lib.hid ((HS.out).trans (if_pos hval))
     go_wp2_with (fail)
     refine bodyPost_ret (v:=.tuple #[.agg #[.int .i64 m,.int .i64 (k:Int)],.bool true]) (by simp[results,Tryz.results207,go_sem,r0,r1]) rfl (RetE.mkY HR.out ?_)
     exact stw (stw HB1.out (by omega)) (by omega)
    ·
     have HR:=Lib.hid ((HS.out).trans (if_neg hval))
     replace hval:valB (sq s) m k=false:=by simpa using hval
     go_wp2_with (fail)
     refine bodyPost_ret (v:=.tuple #[.agg #[.int .i64 0,.int .i64 0],.bool false]) (by simp[results,Tryz.results207,go_sem,r0,r1]) rfl (RetE.mkN HR.out ?_)
     exact stw (stw HB1.out (by omega)) (by omega)
   ·
    have g0:0<(k:Int):=by omega
    have g00:1≤k:=by omega
    have hq:4≤sq s:=by
     rcases hq4 with h'|h'
     ·exact absurd (h1k.out h') hk0
     ·exact h'
    clear hk0
    by_cases hdiv:sq s ∣ m
    ·
     have b3:(m.tmod (sq s) == 0)=true:=by simp[tmod_zero.2 hdiv]
     have e4:m.tdiv (sq s)=m / sq s:=tdiv_dvd hdiv
     have hst':Hid (mk (sq s) n d=mk (sq s) (m.tdiv (sq s)) (k-1)):=by
      have e:mk (sq s) m k=mk (sq s) (m / sq s) (k-1):=by
       unfold mk
       rw[show k=(k-1)+1 by omega,strip_go hdiv];rfl
      rw[e4];exact (hst.out).trans e
     have q1 : -9000000000000000000≤m.tdiv (sq s):=by
      obtain⟨u,hu⟩:=hdiv
      rw[e4,hu,Int.mul_ediv_cancel_left _ (by omega)]
      have:u≤0→sq s*u≤u:=fun hu0=>by have:=Int.mul_le_mul_of_nonpos_right hq1 hu0;omega
      omega
     have q2:m.tdiv (sq s)≤9000000000000000000:=by
      obtain⟨u,hu⟩:=hdiv
      rw[e4,hu,Int.mul_ediv_cancel_left _ (by omega)]
      have:0≤u→u≤sq s*u:=fun hu0=>by have:=Int.mul_le_mul_of_nonneg_right hq1 hu0;omega
      omega
     have h1k':Hid (sq s=1→k-1=0):=fun h'=>by omega
     clear e4 hdiv hq4
     go_wp2_with (first|(go_at_call 203;refine (more_first (CB.out _)).mono ?_;rintro e w' ⟨rfl,t,rfl⟩))
     go_roundw
     case rel=>exact⟨k-1,m.tdiv (sq s),by omega,by go_num,by go_num,q1,q2,hst',h1k',blw (blw HBk.out (by simp)) (by simp)⟩
     case measure=>simp[intOf];omega
    ·
     have b3:(m.tmod (sq s) == 0)=false:=by simp[tmod_zero,hdiv]
     have HS:Hid (mk (sq s) n d=if valB (sq s) m k then some ⟨m,k⟩ else none):=(hst.out).trans (mk_strip (by rw[show k=(k-1)+1 by omega,strip_stop hdiv]))
     clear hdiv hq4
     have CI:=Lib.hid fun (W:World)=>isExact_any p c h m s k W hs1 hs6 (by omega)
     go_wp2_with (first|(go_at_call 203;refine (more_first (CB.out _)).mono ?_;rintro e w' ⟨rfl,t,rfl⟩))
     obtain⟨W1,hW1⟩:∃W1,W1=more wr t:=⟨_,rfl⟩
     try rw[← hW1]
     have HB1:Hid (Below w.heap.size w W1):=by
      rw[hW1]
      repeat (first|exact HB0.out|exact HB.out|refine blw ?_ (Nat.le_refl _)|refine alw ?_ (Nat.le_refl _)|refine stw ?_ (by omega)|refine drw ?_)
     have z1:w.heap.size+1<W1.heap.size:=by rw[hW1];have:=size_more wr t;omega
     have y0:W1.cell? ⟨w.heap.size+1,0,none⟩=some (.int .i64 0):=by rw[hW1];simp[go_sem, *]
     have y1:W1.cell? ⟨w.heap.size+1,1,none⟩=some (.int .i64 0):=by rw[hW1];simp[go_sem, *]
     have y2:W1.frozen? ⟨w.heap.size+1,0,none⟩=false:=by rw[hW1];simp[go_sem, *]
     have y3:W1.frozen? ⟨w.heap.size+1,1,none⟩=false:=by rw[hW1];simp[go_sem, *]
     clear hW1 c0 c1 c2 c3 r0 r1 f0 f1
     refine (CI.out _).mono ?_
     rintro e w2 ⟨rfl,hb2⟩
     have r0:w2.cell? ⟨w.heap.size+1,0,none⟩=some (.int .i64 0):=keep_cell ((cell_alloc_lt _ _ _ z1).trans y0) hb2;have r1:w2.cell? ⟨w.heap.size+1,1,none⟩=some (.int .i64 0):=keep_cell ((cell_alloc_lt _ _ _ z1).trans y1) hb2;have f0:w2.frozen? ⟨w.heap.size+1,0,none⟩=false:=keep_froz ((frozen_alloc_lt _ _ _ z1).trans y2) ((cell_alloc_lt _ _ _ z1).trans y0) hb2;have f1:w2.frozen? ⟨w.heap.size+1,1,none⟩=false:=keep_froz ((frozen_alloc_lt _ _ _ z1).trans y3) ((cell_alloc_lt _ _ _ z1).trans y1) hb2
     have x0:w2.cell? ⟨W1.heap.size,0,none⟩=some (.int .i64 m):=keep_cell (by simp[go_sem]) hb2
     have x1:w2.cell? ⟨W1.heap.size,1,none⟩=some (.int .i64 k):=keep_cell (by simp[go_sem]) hb2
     replace HB1:=Lib.hid ((HB1.out.alloc HB1.out.size _).trans (hb2.mono (by have:=HB1.out.size;simp;omega)))
     clear hb2 y0 y1 y2 y3
     by_cases hval:valB (sq s) m k=true
     ·
      have HR:=Lib.hid ((HS.out).trans (if_pos hval))
      go_wp2_with (fail)
      refine bodyPost_ret (v:=.tuple #[.agg #[.int .i64 m,.int .i64 (k:Int)],.bool true]) (by simp[results,Tryz.results207,go_sem,r0,r1]) rfl (RetE.mkY HR.out ?_)
      exact stw (stw HB1.out (by omega)) (by omega)
     ·
      have HR:=Lib.hid ((HS.out).trans (if_neg hval))
      replace hval:valB (sq s) m k=false:=by simpa using hval
      go_wp2_with (fail)
      refine bodyPost_ret (v:=.tuple #[.agg #[.int .i64 0,.int .i64 0],.bool false]) (by simp[results,Tryz.results207,go_sem,r0,r1]) rfl (RetE.mkN HR.out ?_)
      exact stw (stw HB1.out (by omega)) (by omega)
 ·have b1:(sq s == 1)=false:=by simp[hone]
  have H1:Hid (sq s=1→d=0):=fun h'=>absurd h' hone
  clear hone hq4
  go_enter Tryz.func207,Tryz.ntmps207
  go_wp2_with (first|(go_at_call 203;refine (more_first (CB.out _)).mono ?_;rintro e w' ⟨rfl,t,rfl⟩))
  go_loopw [1,2] (fun vn vd wr=>∃(k:Nat) (m:Int),k≤d∧vn = .int .i64 m∧vd = .int .i64 k∧-9000000000000000000≤m∧m≤9000000000000000000∧Hid (mk (sq s) n d=mk (sq s) m k)∧Hid (sq s=1→k=0)∧Below (w.heap.size+2) ((w.alloc (.cells #[.int .i64 p,.int .i64 c,.int .i64 h,.int .i64 s] 25)).alloc (.cells #[.int .i64 0,.int .i64 0] 35)) wr) (fun _ vd _=>(intOf vd).toNat)
  case atStart=>exact⟨d,n,Nat.le_refl _,rfl,rfl,hn1,hn2,rfl,H1,(below_more _ _).mono (by simp)⟩
  case round=>
   have hq4:=HQ4.out;obtain⟨k,m,hk,rfl,rfl,hm1,hm2,hst,h1k,hb⟩:=hrel
   have HB0:Hid (Below w.heap.size w wr):=HB.out.trans (hb.mono (by omega))
   have hz:w.heap.size+1<wr.heap.size:=by have:=hb.size;simp at this;omega
   have hz0:w.heap.size<wr.heap.size:=by omega
   have c0:wr.cell? ⟨w.heap.size,0,none⟩=some (.int .i64 p):=by rw[hb.cell (by simp)];simp[go_sem]
   have c1:wr.cell? ⟨w.heap.size,1,none⟩=some (.int .i64 c):=by rw[hb.cell (by simp)];simp[go_sem]
   have c2:wr.cell? ⟨w.heap.size,2,none⟩=some (.int .i64 h):=by rw[hb.cell (by simp)];simp[go_sem]
   have c3:wr.cell? ⟨w.heap.size,3,none⟩=some (.int .i64 s):=by rw[hb.cell (by simp)];simp[go_sem]
   have r0:wr.cell? ⟨w.heap.size+1,0,none⟩=some (.int .i64 0):=by rw[hb.cell (by simp)];simp[go_sem]
   have r1:wr.cell? ⟨w.heap.size+1,1,none⟩=some (.int .i64 0):=by rw[hb.cell (by simp)];simp[go_sem]
   have f0:wr.frozen? ⟨w.heap.size+1,0,none⟩=false:=by rw[hb.frozen (by simp)];simp[go_sem]
   have f1:wr.frozen? ⟨w.heap.size+1,1,none⟩=false:=by rw[hb.frozen (by simp)];simp[go_sem]
   have HBk:=Lib.hid hb;clear hb
   by_cases hk0:k=0
   ·
    have HS:Hid (mk (sq s) n d=if valB (sq s) m k then some ⟨m,k⟩ else none):=(hst.out).trans (mk_strip (by rw[hk0];rfl))
    have g0:¬0<(k:Int):=by omega
    have g0':decide (0<(k:Int))=false:=by simp;omega
    clear hk0
    have CI:=Lib.hid fun (W:World)=>isExact_any p c h m s k W hs1 hs6 (by omega)
    go_wp2_with (first|(go_at_call 203;refine (more_first (CB.out _)).mono ?_;rintro e w' ⟨rfl,t,rfl⟩))
    obtain⟨W1,hW1⟩:∃W1,W1=wr:=⟨_,rfl⟩
    try rw[← hW1]
    have HB1:Hid (Below w.heap.size w W1):=by
     rw[hW1]
     repeat (first|exact HB0.out|exact HB.out|refine blw ?_ (Nat.le_refl _)|refine alw ?_ (Nat.le_refl _)|refine stw ?_ (by omega)|refine drw ?_)
    have z1:w.heap.size+1<W1.heap.size:=by rw[hW1];exact hz
    have y0:W1.cell? ⟨w.heap.size+1,0,none⟩=some (.int .i64 0):=by rw[hW1];assumption
    have y1:W1.cell? ⟨w.heap.size+1,1,none⟩=some (.int .i64 0):=by rw[hW1];assumption
    have y2:W1.frozen? ⟨w.heap.size+1,0,none⟩=false:=by rw[hW1];assumption
    have y3:W1.frozen? ⟨w.heap.size+1,1,none⟩=false:=by rw[hW1];assumption
    clear hW1 c0 c1 c2 c3 r0 r1 f0 f1
    refine (CI.out _).mono ?_
    rintro e w2 ⟨rfl,hb2⟩
    have r0:w2.cell? ⟨w.heap.size+1,0,none⟩=some (.int .i64 0):=keep_cell ((cell_alloc_lt _ _ _ z1).trans y0) hb2;have r1:w2.cell? ⟨w.heap.size+1,1,none⟩=some (.int .i64 0):=keep_cell ((cell_alloc_lt _ _ _ z1).trans y1) hb2;have f0:w2.frozen? ⟨w.heap.size+1,0,none⟩=false:=keep_froz ((frozen_alloc_lt _ _ _ z1).trans y2) ((cell_alloc_lt _ _ _ z1).trans y0) hb2;have f1:w2.frozen? ⟨w.heap.size+1,1,none⟩=false:=keep_froz ((frozen_alloc_lt _ _ _ z1).trans y3) ((cell_alloc_lt _ _ _ z1).trans y1) hb2
    have x0:w2.cell? ⟨W1.heap.size,0,none⟩=some (.int .i64 m):=keep_cell (by simp[go_sem]) hb2
    have x1:w2.cell? ⟨W1.heap.size,1,none⟩=some (.int .i64 k):=keep_cell (by simp[go_sem]) hb2
    replace HB1:=Lib.hid ((HB1.out.alloc HB1.out.size _).trans (hb2.mono (by have:=HB1.out.size;simp;omega)))
    clear hb2 y0 y1 y2 y3
    by_cases hval:valB (sq s) m k=true
    ·
     have HR:=Lib.hid ((HS.out).trans (if_pos hval))
     go_wp2_with (fail)
     refine bodyPost_ret (v:=.tuple #[.agg #[.int .i64 m,.int .i64 (k:Int)],.bool true]) (by simp[results,Tryz.results207,go_sem,r0,r1]) rfl (RetE.mkY HR.out ?_)
     exact stw (stw HB1.out (by omega)) (by omega)
    ·
     have HR:=Lib.hid ((HS.out).trans (if_neg hval))
     replace hval:valB (sq s) m k=false:=by simpa using hval
     go_wp2_with (fail)
     refine bodyPost_ret (v:=.tuple #[.agg #[.int .i64 0,.int .i64 0],.bool false]) (by simp[results,Tryz.results207,go_sem,r0,r1]) rfl (RetE.mkN HR.out ?_)
     exact stw (stw HB1.out (by omega)) (by omega)
   ·
    have g0:0<(k:Int):=by omega
    have g00:1≤k:=by omega
    have hq:4≤sq s:=by
     rcases hq4 with h'|h'
     ·exact absurd (h1k.out h') hk0
     ·exact h'
    clear hk0
    by_cases hdiv:sq s ∣ m
    ·
     have b3:(m.tmod (sq s) == 0)=true:=by simp[tmod_zero.2 hdiv]
     have e4:m.tdiv (sq s)=m / sq s:=tdiv_dvd hdiv
     have hst':Hid (mk (sq s) n d=mk (sq s) (m.tdiv (sq s)) (k-1)):=by
      have e:mk (sq s) m k=mk (sq s) (m / sq s) (k-1):=by
       unfold mk
       rw[show k=(k-1)+1 by omega,strip_go hdiv];rfl
      rw[e4];exact (hst.out).trans e
     have q1 : -9000000000000000000≤m.tdiv (sq s):=by
      obtain⟨u,hu⟩:=hdiv
      rw[e4,hu,Int.mul_ediv_cancel_left _ (by omega)]
      have:u≤0→sq s*u≤u:=fun hu0=>by have:=Int.mul_le_mul_of_nonpos_right hq1 hu0;omega
      omega
     have q2:m.tdiv (sq s)≤9000000000000000000:=by
      obtain⟨u,hu⟩:=hdiv
      rw[e4,hu,Int.mul_ediv_cancel_left _ (by omega)]
      have:0≤u→u≤sq s*u:=fun hu0=>by have:=Int.mul_le_mul_of_nonneg_right hq1 hu0;omega
      omega
     have h1k':Hid (sq s=1→k-1=0):=fun h'=>by omega
     clear e4 hdiv hq4
     go_wp2_with (first|(go_at_call 203;refine (more_first (CB.out _)).mono ?_;rintro e w' ⟨rfl,t,rfl⟩))
     go_roundw
     case rel=>exact⟨k-1,m.tdiv (sq s),by omega,by go_num,by go_num,q1,q2,hst',h1k',blw (blw HBk.out (by simp)) (by simp)⟩
     case measure=>simp[intOf];omega
    ·
     have b3:(m.tmod (sq s) == 0)=false:=by simp[tmod_zero,hdiv]
     have HS:Hid (mk (sq s) n d=if valB (sq s) m k then some ⟨m,k⟩ else none):=(hst.out).trans (mk_strip (by rw[show k=(k-1)+1 by omega,strip_stop hdiv]))
     clear hdiv hq4
     have CI:=Lib.hid fun (W:World)=>isExact_any p c h m s k W hs1 hs6 (by omega)
     go_wp2_with (first|(go_at_call 203;refine (more_first (CB.out _)).mono ?_;rintro e w' ⟨rfl,t,rfl⟩))
     obtain⟨W1,hW1⟩:∃W1,W1=more wr t:=⟨_,rfl⟩
     try rw[← hW1]
     have HB1:Hid (Below w.heap.size w W1):=by
      rw[hW1]
      repeat (first|exact HB0.out|exact HB.out|refine blw ?_ (Nat.le_refl _)|refine alw ?_ (Nat.le_refl _)|refine stw ?_ (by omega)|refine drw ?_)
     have z1:w.heap.size+1<W1.heap.size:=by rw[hW1];have:=size_more wr t;omega
     have y0:W1.cell? ⟨w.heap.size+1,0,none⟩=some (.int .i64 0):=by rw[hW1];simp[go_sem, *]
     have y1:W1.cell? ⟨w.heap.size+1,1,none⟩=some (.int .i64 0):=by rw[hW1];simp[go_sem, *]
     have y2:W1.frozen? ⟨w.heap.size+1,0,none⟩=false:=by rw[hW1];simp[go_sem, *]
     have y3:W1.frozen? ⟨w.heap.size+1,1,none⟩=false:=by rw[hW1];simp[go_sem, *]
     clear hW1 c0 c1 c2 c3 r0 r1 f0 f1
     refine (CI.out _).mono ?_
     rintro e w2 ⟨rfl,hb2⟩
     have r0:w2.cell? ⟨w.heap.size+1,0,none⟩=some (.int .i64 0):=keep_cell ((cell_alloc_lt _ _ _ z1).trans y0) hb2;have r1:w2.cell? ⟨w.heap.size+1,1,none⟩=some (.int .i64 0):=keep_cell ((cell_alloc_lt _ _ _ z1).trans y1) hb2;have f0:w2.frozen? ⟨w.heap.size+1,0,none⟩=false:=keep_froz ((frozen_alloc_lt _ _ _ z1).trans y2) ((cell_alloc_lt _ _ _ z1).trans y0) hb2;have f1:w2.frozen? ⟨w.heap.size+1,1,none⟩=false:=keep_froz ((frozen_alloc_lt _ _ _ z1).trans y3) ((cell_alloc_lt _ _ _ z1).trans y1) hb2
     have x0:w2.cell? ⟨W1.heap.size,0,none⟩=some (.int .i64 m):=keep_cell (by simp[go_sem]) hb2
     have x1:w2.cell? ⟨W1.heap.size,1,none⟩=some (.int .i64 k):=keep_cell (by simp[go_sem]) hb2
     replace HB1:=Lib.hid ((HB1.out.alloc HB1.out.size _).trans (hb2.mono (by have:=HB1.out.size;simp;omega)))
     clear hb2 y0 y1 y2 y3
     by_cases hval:valB (sq s) m k=true
     ·
      have HR:=Lib.hid ((HS.out).trans (if_pos hval))
      go_wp2_with (fail)
      refine bodyPost_ret (v:=.tuple #[.agg #[.int .i64 m,.int .i64 (k:Int)],.bool true]) (by simp[results,Tryz.results207,go_sem,r0,r1]) rfl (RetE.mkY HR.out ?_)
      exact stw (stw HB1.out (by omega)) (by omega)
     ·
      have HR:=Lib.hid ((HS.out).trans (if_neg hval))
      replace hval:valB (sq s) m k=false:=by simpa using hval
      go_wp2_with (fail)
      refine bodyPost_ret (v:=.tuple #[.agg #[.int .i64 0,.int .i64 0],.bool false]) (by simp[results,Tryz.results207,go_sem,r0,r1]) rfl (RetE.mkN HR.out ?_)
      exact stw (stw HB1.out (by omega)) (by omega)
end Go.Proofs.YtkaiilmgemaljaaGreat
/- Contract of the program's sum of two exact numbers. There are no conditions. -/
namespace Go.Proofs.YtkaiilmgemaljaaGreat
open Go.RowKit Ps Ra Ex
theorem far_mul {B m:Int} (hB:1≤B) (h:4000000000000000000 / B<(m.natAbs:Int)):4*maxNum<m*B∨m*B < -(4*maxNum):=by
 have h1:=(Int.ediv_lt_iff_lt_mul (by omega)).1 h
 have e:maxNum=1000000000000000000:=rfl
 rcases Int.le_total 0 m with h2|h2
 ·left;rw[show (m.natAbs:Int)=m by omega]at h1;omega
 ·right;rw[show (m.natAbs:Int) = -m by omega,Int.neg_mul]at h1;omega
theorem near_mul {B m:Int} (hB:1≤B) (h:(m.natAbs:Int)≤4000000000000000000 / B) : -4000000000000000000≤m*B∧m*B≤4000000000000000000:=by
 have h1:=Int.mul_le_of_le_ediv (by omega) h
 rcases Int.le_total 0 m with h2|h2
 ·have:0≤m*B:=Int.mul_nonneg h2 (by omega)
  rw[show (m.natAbs:Int)=m by omega]at h1;omega
 ·have:m*B≤0:=Int.mul_nonpos_of_nonpos_of_nonneg h2 (by omega)
  rw[show (m.natAbs:Int) = -m by omega,Int.neg_mul]at h1;omega
set_option maxHeartbeats 1000000 in
set_option maxRecDepth 10000 in
theorem addExact_any (p c h xn yn:Int) (s xd yd:Nat) (w:World) (hs1:1≤s) (hs6:s≤6) (hx:Val (sq s) ⟨xn,xd⟩) (hy:Val (sq s) ⟨yn,yd⟩):
  Calls Tryz.prog 130 #[.agg #[.int .i64 p,.int .i64 c,.int .i64 h,.int .i64 s],.agg #[.int .i64 xn,.int .i64 xd],.agg #[.int .i64 yn,.int .i64 yd]] w (RetE w (addE (sq s) ⟨xn,xd⟩ ⟨yn,yd⟩)):=by
 obtain⟨hq1,hq36,_⟩:=sq_bd hs1 hs6
 have CB:=Lib.hid fun (W:World)=>baseOf_any p c h s W hs6
 have hxd:xd<50:=depth_lt hq1 hx;have hyd:yd<50:=depth_lt hq1 hy;have hx1 : -1000000000000000000≤xn:=hx.1;have hx2:xn≤1000000000000000000:=hx.2.1;have hy1 : -1000000000000000000≤yn:=hy.1;have hy2:yn≤1000000000000000000:=hy.2.1;have HX:=Lib.hid hx;have HY:=Lib.hid hy;clear hx hy
 have HF0:∀a b c' d:Int,Hid (Fr w ((((w.alloc (.cells #[.int .i64 p,.int .i64 c,.int .i64 h,.int .i64 s] 25)).alloc (.cells #[.int .i64 a,.int .i64 b] 35)).alloc (.cells #[.int .i64 c',.int .i64 d] 35)).alloc (.cells #[.int .i64 0,.int .i64 0] 35)) [[.int .i64 p,.int .i64 c,.int .i64 h,.int .i64 s],[.int .i64 a,.int .i64 b],[.int .i64 c',.int .i64 d],[.int .i64 0,.int .i64 0]]):=
  fun a b c' d=>((((Fr.start w).allocT (by simp) _ _).allocT (by simp) _ _).allocT (by simp) _ _).allocT (by simp) _ _
 by_cases hsw:(yd:Int)<xd
 ·go_enter Tryz.func130,Tryz.ntmps130
  go_wp2_with (fail)
  go_loopw [20] (fun i wr=>∃j:Nat,(j:Int)≤(xd:Int)-yd∧i = .int .i64 j∧-4000000000000000000≤yn*pw (sq s) j∧yn*pw (sq s) j≤4000000000000000000∧Fr w wr [[.int .i64 p,.int .i64 c,.int .i64 h,.int .i64 s],[.int .i64 (yn*pw (sq s) j),.int .i64 yd],[.int .i64 xn,.int .i64 xd],[.int .i64 0,.int .i64 0]]) (fun i _=>xd-yd-(intOf i).toNat)
  case atStart=>exact⟨0,by omega,rfl,by rw[pw_zero];omega,by rw[pw_zero];omega,by rw[pw_zero,Int.mul_one];exact (HF0 yn yd xn xd).out⟩
  case round=>
   obtain⟨j,hj,rfl,hm1,hm2,hF⟩:=hrel;have HF:=Lib.hid hF
   have HS:Hid (∀_:Int,pw (sq s) (j+1)=pw (sq s) j*sq s):=fun _=>rfl
   clear hF
   by_cases hlt:(j:Int)<(xd:Int)-yd
   ·
    obtain⟨m,hm⟩:∃m,yn*pw (sq s) j=m:=⟨_,rfl⟩;have HM:=Lib.hid hm;rw[hm]at HF hm1 hm2;clear hm
    have z0:=HF.out.l0 (by simp)
    have c00:=HF.out.c0 0 rfl;have f00:=HF.out.f0 0 rfl;have c01:=HF.out.c0 1 rfl;have f01:=HF.out.f0 1 rfl;have c02:=HF.out.c0 2 rfl;have f02:=HF.out.f0 2 rfl;have c03:=HF.out.c0 3 rfl;have f03:=HF.out.f0 3 rfl
    have z1:=HF.out.l1 (by simp)
    have c10:=HF.out.c1 0 rfl;have f10:=HF.out.f1 0 rfl;have c11:=HF.out.c1 1 rfl;have f11:=HF.out.f1 1 rfl
    have z2:=HF.out.l2 (by simp)
    have c20:=HF.out.c2 0 rfl;have f20:=HF.out.f2 0 rfl;have c21:=HF.out.c2 1 rfl;have f21:=HF.out.f2 1 rfl
    have z3:=HF.out.l3 (by simp)
    have c30:=HF.out.c3 0 rfl;have f30:=HF.out.f3 0 rfl;have c31:=HF.out.c3 1 rfl;have f31:=HF.out.f3 1 rfl
    by_cases hfar:4000000000000000000 / sq s<(m.natAbs:Int)
    ·
     have HR:Hid (addE (sq s) ⟨xn,xd⟩ ⟨yn,yd⟩=none):=by
      have:=addE_far (B:=sq s) hq1 (x:=⟨yn,yd⟩) (y:=⟨xn,xd⟩) HX.out (j:=j) (by show j<xd-yd;omega) (by show 4*maxNum<yn*pw (sq s) j*sq s∨yn*pw (sq s) j*sq s < -(4*maxNum);rw[HM.out];exact far_mul hq1 hfar)
      rw[addE_comm];exact this
     go_wp2_with (fail)
     first|refine wp_region_more2 (by kernel_rfl) (by kernel_rfl) ?_|refine wp_region_more (by kernel_rfl) (by kernel_rfl) ?_
     repeat (first|go_big_quiet_step (first|(go_at_call 205;exact more_same (absolute_any m _ (by omega) (by omega)))|(go_at_call 203;exact more_call (CB.out _)))|quiet_step (first|(go_at_call 205;exact more_same (absolute_any m _ (by omega) (by omega)))|(go_at_call 203;exact more_call (CB.out _))))
     refine wpQuiet_nil ?_
     intro _ hw'
     obtain⟨tq,hw''⟩:=hw';subst hw''
     go_wp2_with (fail)
     refine bodyPost_ret (v:=.tuple #[.agg #[.int .i64 0,.int .i64 0],.bool false]) (by simp[results,Tryz.results130,go_sem, *]) rfl (RetE.mkN HR.out ?_)
     exact stw (stw (HF.out.more _).b (by omega)) (by omega)
    ·
     have hnear:=near_mul (m:=m) hq1 (by omega)
     have hdq:decide (4000000000000000000 / sq s<(m.natAbs:Int))=false:=by simp;omega
     have HN:=Lib.hid hnear;obtain⟨hn1,hn2⟩:=hnear;clear hfar
     go_wp2_with (fail)
     first|refine wp_region_more2 (by kernel_rfl) (by kernel_rfl) ?_|refine wp_region_more (by kernel_rfl) (by kernel_rfl) ?_
     repeat (first|go_big_quiet_step (first|(go_at_call 205;exact more_same (absolute_any m _ (by omega) (by omega)))|(go_at_call 203;exact more_call (CB.out _)))|quiet_step (first|(go_at_call 205;exact more_same (absolute_any m _ (by omega) (by omega)))|(go_at_call 203;exact more_call (CB.out _))))
     refine wpQuiet_nil ?_
     intro _ hw'
     obtain⟨tq,hw''⟩:=hw';subst hw''
     go_wp2_with (fail)
     first|refine wp_region_tail_more2 6 (by kernel_rfl) (by kernel_rfl) ?_|refine wp_region_tail_more 6 (by kernel_rfl) (by kernel_rfl) ?_
     simp only[List.take_succ_cons,List.take_zero,List.drop_succ_cons,List.drop_zero]
     repeat (first|go_big_quiet_step ((go_at_call 203;exact more_call (CB.out _)))|quiet_step ((go_at_call 203;exact more_call (CB.out _))))
     refine wpQuiet_nil ?_
     intro _ hw'
     obtain⟨t2,hw''⟩:=hw';subst hw''
     go_wp2_with (fail)
     go_roundw
     case rel=>exact⟨j+1,by omega,by go_num,by rw[HS.out 0,← Int.mul_assoc,HM.out];exact HN.out.1,by rw[HS.out 0,← Int.mul_assoc,HM.out];exact HN.out.2,by rw[HS.out 0,← Int.mul_assoc,HM.out];exact (HF.out.more _).set (b:=w.heap.size+1) 1 0 rfl rfl _⟩
     case measure=>simp[intOf];omega
   ·
    have hjj:j=xd-yd:=by omega
    subst hjj;obtain⟨m,hm⟩:∃m,yn*pw (sq s) (xd-yd)=m:=⟨_,rfl⟩;have HM:=Lib.hid hm;rw[hm]at HF hm1 hm2;clear hm
    have HR:Hid (addE (sq s) ⟨xn,xd⟩ ⟨yn,yd⟩=mk (sq s) (m+xn) xd):=by
     have:=addE_le (B:=sq s) (x:=⟨yn,yd⟩) (y:=⟨xn,xd⟩) (by show yd≤xd;omega)
     rw[show (⟨yn,yd⟩:E).num*pw (sq s) ((⟨xn,xd⟩:E).depth-(⟨yn,yd⟩:E).depth)=m from HM.out]at this
     rw[addE_comm];exact this
    have z0:=HF.out.l0 (by simp)
    have c00:=HF.out.c0 0 rfl;have f00:=HF.out.f0 0 rfl;have c01:=HF.out.c0 1 rfl;have f01:=HF.out.f0 1 rfl;have c02:=HF.out.c0 2 rfl;have f02:=HF.out.f0 2 rfl;have c03:=HF.out.c0 3 rfl;have f03:=HF.out.f0 3 rfl
    have z1:=HF.out.l1 (by simp)
    have c10:=HF.out.c1 0 rfl;have f10:=HF.out.f1 0 rfl;have c11:=HF.out.c1 1 rfl;have f11:=HF.out.f1 1 rfl
    have z2:=HF.out.l2 (by simp)
    have c20:=HF.out.c2 0 rfl;have f20:=HF.out.f2 0 rfl;have c21:=HF.out.c2 1 rfl;have f21:=HF.out.f2 1 rfl
    have z3:=HF.out.l3 (by simp)
    have c30:=HF.out.c3 0 rfl;have f30:=HF.out.f3 0 rfl;have c31:=HF.out.c3 1 rfl;have f31:=HF.out.f3 1 rfl
    have CM:=fun (W:World)=>makeExact_any p c h (m+xn) s xd W hs1 hs6 (by omega) (by omega) (by omega)
    rcases hmk:mk (sq s) (m+xn) xd with _|⟨num,dep⟩
    ·
     rw[hmk]at CM HR;have CM':=Lib.hid CM;clear CM hmk
     go_wp2_with (go_at_call 207;refine (more_first (CM'.out _)).mono ?_;rintro e w' ⟨rfl,t,rfl⟩)
     refine bodyPost_ret (v:=.tuple #[.agg #[.int .i64 0,.int .i64 0],.bool false]) (by simp[results,Tryz.results130,go_sem, *]) rfl (RetE.mkN HR.out ?_)
     exact stw (stw (HF.out.more _).b (by omega)) (by omega)
    ·
     rw[hmk]at CM HR;have CM':=Lib.hid CM;clear CM hmk
     go_wp2_with (go_at_call 207;refine (more_first (CM'.out _)).mono ?_;rintro e w' ⟨rfl,t,rfl⟩)
     refine bodyPost_ret (v:=.tuple #[.agg #[.int .i64 num,.int .i64 dep],.bool true]) (by simp[results,Tryz.results130,go_sem, *]) rfl (RetE.mkY HR.out ?_)
     exact stw (stw (HF.out.more _).b (by omega)) (by omega)
 ·go_enter Tryz.func130,Tryz.ntmps130
  go_wp2_with (fail)
  go_loopw [20] (fun i wr=>∃j:Nat,(j:Int)≤(yd:Int)-xd∧i = .int .i64 j∧-4000000000000000000≤xn*pw (sq s) j∧xn*pw (sq s) j≤4000000000000000000∧Fr w wr [[.int .i64 p,.int .i64 c,.int .i64 h,.int .i64 s],[.int .i64 (xn*pw (sq s) j),.int .i64 xd],[.int .i64 yn,.int .i64 yd],[.int .i64 0,.int .i64 0]]) (fun i _=>yd-xd-(intOf i).toNat)
  case atStart=>exact⟨0,by omega,rfl,by rw[pw_zero];omega,by rw[pw_zero];omega,by rw[pw_zero,Int.mul_one];exact (HF0 xn xd yn yd).out⟩
  case round=>
   obtain⟨j,hj,rfl,hm1,hm2,hF⟩:=hrel;have HF:=Lib.hid hF
   have HS:Hid (∀_:Int,pw (sq s) (j+1)=pw (sq s) j*sq s):=fun _=>rfl
   clear hF
   by_cases hlt:(j:Int)<(yd:Int)-xd
   ·
    obtain⟨m,hm⟩:∃m,xn*pw (sq s) j=m:=⟨_,rfl⟩;have HM:=Lib.hid hm;rw[hm]at HF hm1 hm2;clear hm
    have z0:=HF.out.l0 (by simp)
    have c00:=HF.out.c0 0 rfl;have f00:=HF.out.f0 0 rfl;have c01:=HF.out.c0 1 rfl;have f01:=HF.out.f0 1 rfl;have c02:=HF.out.c0 2 rfl;have f02:=HF.out.f0 2 rfl;have c03:=HF.out.c0 3 rfl;have f03:=HF.out.f0 3 rfl
    have z1:=HF.out.l1 (by simp)
    have c10:=HF.out.c1 0 rfl;have f10:=HF.out.f1 0 rfl;have c11:=HF.out.c1 1 rfl;have f11:=HF.out.f1 1 rfl
    have z2:=HF.out.l2 (by simp)
    have c20:=HF.out.c2 0 rfl;have f20:=HF.out.f2 0 rfl;have c21:=HF.out.c2 1 rfl;have f21:=HF.out.f2 1 rfl
    have z3:=HF.out.l3 (by simp)
    have c30:=HF.out.c3 0 rfl;have f30:=HF.out.f3 0 rfl;have c31:=HF.out.c3 1 rfl;have f31:=HF.out.f3 1 rfl
    by_cases hfar:4000000000000000000 / sq s<(m.natAbs:Int)
    ·
     have HR:Hid (addE (sq s) ⟨xn,xd⟩ ⟨yn,yd⟩=none):=by
      have:=addE_far (B:=sq s) hq1 (x:=⟨xn,xd⟩) (y:=⟨yn,yd⟩) HY.out (j:=j) (by show j<yd-xd;omega) (by show 4*maxNum<xn*pw (sq s) j*sq s∨xn*pw (sq s) j*sq s < -(4*maxNum);rw[HM.out];exact far_mul hq1 hfar)
      exact this
     go_wp2_with (fail)
     first|refine wp_region_more2 (by kernel_rfl) (by kernel_rfl) ?_|refine wp_region_more (by kernel_rfl) (by kernel_rfl) ?_
     repeat (first|go_big_quiet_step (first|(go_at_call 205;exact more_same (absolute_any m _ (by omega) (by omega)))|(go_at_call 203;exact more_call (CB.out _)))|quiet_step (first|(go_at_call 205;exact more_same (absolute_any m _ (by omega) (by omega)))|(go_at_call 203;exact more_call (CB.out _))))
     refine wpQuiet_nil ?_
     intro _ hw'
     obtain⟨tq,hw''⟩:=hw';subst hw''
     go_wp2_with (fail)
     refine bodyPost_ret (v:=.tuple #[.agg #[.int .i64 0,.int .i64 0],.bool false]) (by simp[results,Tryz.results130,go_sem, *]) rfl (RetE.mkN HR.out ?_)
     exact stw (stw (HF.out.more _).b (by omega)) (by omega)
    ·
     have hnear:=near_mul (m:=m) hq1 (by omega)
     have hdq:decide (4000000000000000000 / sq s<(m.natAbs:Int))=false:=by simp;omega
     have HN:=Lib.hid hnear;obtain⟨hn1,hn2⟩:=hnear;clear hfar
     go_wp2_with (fail)
     first|refine wp_region_more2 (by kernel_rfl) (by kernel_rfl) ?_|refine wp_region_more (by kernel_rfl) (by kernel_rfl) ?_
     repeat (first|go_big_quiet_step (first|(go_at_call 205;exact more_same (absolute_any m _ (by omega) (by omega)))|(go_at_call 203;exact more_call (CB.out _)))|quiet_step (first|(go_at_call 205;exact more_same (absolute_any m _ (by omega) (by omega)))|(go_at_call 203;exact more_call (CB.out _))))
     refine wpQuiet_nil ?_
     intro _ hw'
     obtain⟨tq,hw''⟩:=hw';subst hw''
     go_wp2_with (fail)
     first|refine wp_region_tail_more2 6 (by kernel_rfl) (by kernel_rfl) ?_|refine wp_region_tail_more 6 (by kernel_rfl) (by kernel_rfl) ?_
     simp only[List.take_succ_cons,List.take_zero,List.drop_succ_cons,List.drop_zero]
     repeat (first|go_big_quiet_step ((go_at_call 203;exact more_call (CB.out _)))|quiet_step ((go_at_call 203;exact more_call (CB.out _))))
     refine wpQuiet_nil ?_
     intro _ hw'
     obtain⟨t2,hw''⟩:=hw';subst hw''
     go_wp2_with (fail)
     go_roundw
     case rel=>exact⟨j+1,by omega,by go_num,by rw[HS.out 0,← Int.mul_assoc,HM.out];exact HN.out.1,by rw[HS.out 0,← Int.mul_assoc,HM.out];exact HN.out.2,by rw[HS.out 0,← Int.mul_assoc,HM.out];exact (HF.out.more _).set (b:=w.heap.size+1) 1 0 rfl rfl _⟩
     case measure=>simp[intOf];omega
   ·
    have hjj:j=yd-xd:=by omega
    subst hjj;obtain⟨m,hm⟩:∃m,xn*pw (sq s) (yd-xd)=m:=⟨_,rfl⟩;have HM:=Lib.hid hm;rw[hm]at HF hm1 hm2;clear hm
    have HR:Hid (addE (sq s) ⟨xn,xd⟩ ⟨yn,yd⟩=mk (sq s) (m+yn) yd):=by
     have:=addE_le (B:=sq s) (x:=⟨xn,xd⟩) (y:=⟨yn,yd⟩) (by show xd≤yd;omega)
     rw[show (⟨xn,xd⟩:E).num*pw (sq s) ((⟨yn,yd⟩:E).depth-(⟨xn,xd⟩:E).depth)=m from HM.out]at this
     exact this
    have z0:=HF.out.l0 (by simp)
    have c00:=HF.out.c0 0 rfl;have f00:=HF.out.f0 0 rfl;have c01:=HF.out.c0 1 rfl;have f01:=HF.out.f0 1 rfl;have c02:=HF.out.c0 2 rfl;have f02:=HF.out.f0 2 rfl;have c03:=HF.out.c0 3 rfl;have f03:=HF.out.f0 3 rfl
    have z1:=HF.out.l1 (by simp)
    have c10:=HF.out.c1 0 rfl;have f10:=HF.out.f1 0 rfl;have c11:=HF.out.c1 1 rfl;have f11:=HF.out.f1 1 rfl
    have z2:=HF.out.l2 (by simp)
    have c20:=HF.out.c2 0 rfl;have f20:=HF.out.f2 0 rfl;have c21:=HF.out.c2 1 rfl;have f21:=HF.out.f2 1 rfl
    have z3:=HF.out.l3 (by simp)
    have c30:=HF.out.c3 0 rfl;have f30:=HF.out.f3 0 rfl;have c31:=HF.out.c3 1 rfl;have f31:=HF.out.f3 1 rfl
    have CM:=fun (W:World)=>makeExact_any p c h (m+yn) s yd W hs1 hs6 (by omega) (by omega) (by omega)
    rcases hmk:mk (sq s) (m+yn) yd with _|⟨num,dep⟩
    ·
     rw[hmk]at CM HR;have CM':=Lib.hid CM;clear CM hmk
     go_wp2_with (go_at_call 207;refine (more_first (CM'.out _)).mono ?_;rintro e w' ⟨rfl,t,rfl⟩)
     refine bodyPost_ret (v:=.tuple #[.agg #[.int .i64 0,.int .i64 0],.bool false]) (by simp[results,Tryz.results130,go_sem, *]) rfl (RetE.mkN HR.out ?_)
     exact stw (stw (HF.out.more _).b (by omega)) (by omega)
    ·
     rw[hmk]at CM HR;have CM':=Lib.hid CM;clear CM hmk
     go_wp2_with (go_at_call 207;refine (more_first (CM'.out _)).mono ?_;rintro e w' ⟨rfl,t,rfl⟩)
     refine bodyPost_ret (v:=.tuple #[.agg #[.int .i64 num,.int .i64 dep],.bool true]) (by simp[results,Tryz.results130,go_sem, *]) rfl (RetE.mkY HR.out ?_)
     exact stw (stw (HF.out.more _).b (by omega)) (by omega)
end Go.Proofs.YtkaiilmgemaljaaGreat

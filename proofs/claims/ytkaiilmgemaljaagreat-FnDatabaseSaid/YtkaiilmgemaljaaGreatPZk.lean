/- Joined texts of one proof: N8, N10, N9. Each part tells what it shows. There are no conditions. -/
import Derived.Test.YtkaiilmgemaljaaGreatPZc
import Derived.Test.YtkaiilmgemaljaaGreatPZb
set_option linter.unusedVariables false
set_option linter.unusedSimpArgs false
/- Contracts of the reference's greatest common divisor, product, fraction. There are no conditions. -/
namespace Go.Proofs.YtkaiilmgemaljaaGreat
open Go.RowKit Ps Ra Ex
theorem l09Gcd_any (a b:Int) (w:World) (ha1 : -9000000000000000000≤a) (ha2:a≤9000000000000000000) (hb1 : -9000000000000000000≤b) (hb2:b≤9000000000000000000):
  Calls Tryz.prog 208 #[.int .i64 a,.int .i64 b] w fun e w'=>e = .returned (.int .i64 (Int.gcd a b:Int))∧w=w':=by
 go_enter Tryz.func208,Tryz.ntmps208
 go_wp2
 all_goals
  go_loop [0,1] (fun u v=>∃x y:Nat,u = .int .i64 x∧v = .int .i64 y∧(x:Int)≤9000000000000000000∧(y:Int)≤9000000000000000000∧Hid (Nat.gcd x y=Int.gcd a b)) (fun _ v=>(intOf v).toNat)
  case atStart=>exact⟨a.natAbs,b.natAbs,by congr 1;omega,by congr 1;omega,by omega,by omega,rfl⟩
  case round=>
   obtain⟨x,y,rfl,rfl,hx,hy,hg⟩:=hrel
   by_cases h0:y=0
   ·subst h0
    have e:Hid (x=Int.gcd a b):=by have:=hg.out;rw[Nat.gcd_zero_right]at this;exact this
    clear hg
    go_wp2
    go_ret
    exact⟨ret_int (by rw[← e.out]),rfl⟩
   ·have b1:((y:Int) != 0)=true:=by simp;omega
    have hy1:1≤(y:Int):=by omega
    have hlt:(x:Int) % y<y:=Int.emod_lt_of_pos _ (by omega)
    have hnn:0≤(x:Int) % y:=Int.emod_nonneg _ (by omega)
    have hg':Hid (Nat.gcd y (x % y)=Int.gcd a b):=by rw[Hid,gcd_step];exact hg.out
    have E:Hid ((x:Int) % y=((x % y:Nat):Int)):=by rw[Hid,Int.natCast_emod]
    clear h0
    go_wp2
    go_round
    case rel=>exact⟨y,x % y,rfl,by rw[E.out],hy,by rw[← E.out];omega,hg'⟩
    case measure=>simp[intOf];omega
theorem l09Times_ok (a b:Int) (w:World) (ha1 : -9000000000000000000≤a) (ha2:a≤9000000000000000000) (hb1:1≤b) (hb2:b≤9000000000000000000) (hok:prodOk a b=true):
  Calls Tryz.prog 209 #[.int .i64 a,.int .i64 b] w fun e w'=>e = .returned (.tuple #[.int .i64 (a*b),.bool true])∧w=w':=by
 have hm:=maxNum_val;obtain⟨hp1,hp2⟩:=of_decide_eq_true hok;rw[hm]at hp1 hp2
 by_cases ha0:a=0
 ·have e1:(a != 0)=false:=by simp[ha0]
  clear ha0 hok
  go_enter Tryz.func209,Tryz.ntmps209
  go_wp2
  go_ret2
  exact⟨rfl,rfl⟩
 ·have hb0:b≠0:=by omega
  have e1:(a != 0)=true:=by simp[ha0]
  have e2:(b != 0)=true:=by simp[hb0]
  obtain⟨A,hA⟩:∃A:Int,(a.natAbs:Int)=A:=⟨_,rfl⟩;obtain⟨B,hB⟩:∃B:Int,(b.natAbs:Int)=B:=⟨_,rfl⟩
  have hq:¬1000000000000000000 / B<A:=fun hq=>by
   have:=prodOk_no (a:=a) hb0 (by rw[hA,hB,hm];exact hq)
   rw[hok]at this;cases this
  clear hok ha0
  obtain rfl:B=b:=by omega
  rcases Int.lt_or_le a 0 with h3|h3
  ·obtain rfl:A = -a:=by omega
   have hqd:decide (1000000000000000000 / B < -a)=false:=decide_eq_false hq;clear hb0 hA hB hm
   go_enter Tryz.func209,Tryz.ntmps209
   go_wp2
   go_ret2
   exact⟨rfl,rfl⟩
  ·obtain rfl:A=a:=by omega
   have hqd:decide (1000000000000000000 / B<A)=false:=decide_eq_false hq;clear hb0 hA hB hm
   go_enter Tryz.func209,Tryz.ntmps209
   go_wp2
   go_ret2
   exact⟨rfl,rfl⟩
theorem l09Times_no (a b:Int) (w:World) (ha1 : -9000000000000000000≤a) (ha2:a≤9000000000000000000) (hb1:1≤b) (hb2:b≤9000000000000000000) (hno:prodOk a b=false):
  Calls Tryz.prog 209 #[.int .i64 a,.int .i64 b] w fun e w'=>e = .returned (.tuple #[.int .i64 0,.bool false])∧w=w':=by
 have hm:=maxNum_val
 have ha0:a≠0:=fun h=>by rw[prodOk_zero (.inl h)]at hno;cases hno
 have hb0:b≠0:=by omega
 have e1:(a != 0)=true:=by simp[ha0]
 have e2:(b != 0)=true:=by simp[hb0]
 obtain⟨A,hA⟩:∃A:Int,(a.natAbs:Int)=A:=⟨_,rfl⟩;obtain⟨B,hB⟩:∃B:Int,(b.natAbs:Int)=B:=⟨_,rfl⟩
 have hq:1000000000000000000 / B<A:=by
  apply Int.not_le.1
  intro hq
  rw[prodOk_yes (a:=a) hb0 (by rw[hA,hB,hm];exact hq)]at hno
  cases hno
 clear hno ha0
 obtain rfl:B=b:=by omega
 rcases Int.lt_or_le a 0 with h3|h3
 ·obtain rfl:A = -a:=by omega
  clear hb0 hA hB hm
  go_enter Tryz.func209,Tryz.ntmps209
  go_wp2
  go_ret2
  exact⟨rfl,rfl⟩
 ·obtain rfl:A=a:=by omega
  clear hb0 hA hB hm
  go_enter Tryz.func209,Tryz.ntmps209
  go_wp2
  go_ret2
  exact⟨rfl,rfl⟩
theorem least_dvd {B q:Int}:∀{D:Nat},q ∣ pw B D→∃d,d≤D∧q ∣ pw B d∧∀k,k<d→¬q ∣ pw B k
 | 0,h=>⟨0,Nat.le_refl _,h,fun k hk=>absurd hk (by omega)⟩
 | D + 1, h => by
   by_cases hD : ∃ k, k < D + 1 ∧ q ∣ pw B k
   · obtain ⟨k, hk, hd⟩ := hD
     have := least_below k hd; obtain ⟨d, h1, h2, h3⟩ := this
     exact ⟨d, by omega, h2, h3⟩
   · exact ⟨D + 1, Nat.le_refl _, h, fun k hk hd => hD ⟨k, hk, hd⟩⟩
where
 least_below:∀(k:Nat),q ∣ pw B k→∃d,d≤k∧q ∣ pw B d∧∀j,j<d→¬q ∣ pw B j:=by
  intro k
  induction k using Nat.strongRecOn with
  | _ k ih =>
    intro hd
    by_cases hk : ∃ j, j < k ∧ q ∣ pw B j
    · obtain ⟨j, hj, hjd⟩ := hk
      obtain ⟨d, h1, h2, h3⟩ := ih j hj hjd
      exact ⟨d, by omega, h2, h3⟩
    · exact ⟨k, Nat.le_refl _, hd, fun j hj hjd => hk ⟨j, hj, hjd⟩⟩
set_option maxHeartbeats 1000000 in
set_option maxRecDepth 10000 in
theorem l09Fit_hit (p c h a b:Int) (s d:Nat) (w:World) (hs1:1≤s) (hs6:s≤6) (hD:d≤50) (hb1:1≤b) (hb2:b≤9000000000000000000) (ha1 : -9000000000000000000≤a) (ha2:a≤9000000000000000000)
  (h1:b / (Int.gcd a b:Int) ∣ pw (sq s) d) (h2:Hid (∀k,k<d→¬b / (Int.gcd a b:Int) ∣ pw (sq s) k)) (h3:pw (sq s) d≤1000000000000000) (hok:prodOk (a / (Int.gcd a b:Int)) (pw (sq s) d / (b / (Int.gcd a b:Int)))=true):
  Calls Tryz.prog 210 #[.agg #[.int .i64 p,.int .i64 c,.int .i64 h,.int .i64 s],.int .i64 a,.int .i64 b] w fun e w'=>e = .returned (.tuple #[.agg #[.int .i64 (a / (Int.gcd a b:Int)*(pw (sq s) d / (b / (Int.gcd a b:Int)))),.int .i64 d],.bool true])∧Below w.heap.size w w':=by
 obtain⟨hq1,hq36,_⟩:=sq_bd hs1 hs6;obtain⟨g1,g2,g3,g4,g5⟩:=gcd_facts (a:=a) hb1
 have CG:Hid (∀W:World,Calls Tryz.prog 208 #[.int .i64 a,.int .i64 b] W fun e w'=>e = .returned (.int .i64 (Int.gcd a b:Int))∧W=w'):=fun W=>l09Gcd_any a b W ha1 ha2 (by omega) hb2
 have hP:a.tdiv (Int.gcd a b:Int)=a / (Int.gcd a b:Int):=tdiv_dvd (Int.gcd_dvd_left a b)
 have hPb : -9000000000000000000≤a / (Int.gcd a b:Int)∧a / (Int.gcd a b:Int)≤9000000000000000000:=by
  generalize (Int.gcd a b:Int)=g at *;generalize a / g=u at *
  rcases Int.le_total 0 u with h0|h0
  ·have:=Int.mul_le_mul_of_nonneg_left g1 h0;omega
  ·have:=Int.mul_le_mul_of_nonpos_left h0 g1;omega
 have hQb:b / (Int.gcd a b:Int)≤9000000000000000000:=Int.le_trans (Int.ediv_le_self _ (by omega)) hb2
 have hgb:(Int.gcd a b:Int)≤9000000000000000000:=Int.le_trans (Int.le_of_dvd (by omega) (Int.gcd_dvd_right a b)) hb2
 generalize (Int.gcd a b:Int)=g at *;generalize a / g=P at *;generalize hQ:b / g=q at *;clear g2 g3 g5;obtain⟨hP1,hP2⟩:=hPb
 have HF0:Hid (Fr w ((w.alloc (.cells #[.int .i64 p,.int .i64 c,.int .i64 h,.int .i64 s] 25)).alloc (.cells #[.int .i64 0,.int .i64 0] 35)) [[.int .i64 p,.int .i64 c,.int .i64 h,.int .i64 s],[.int .i64 0,.int .i64 0]]):=
  ((Fr.start w).allocT (by simp) _ _).allocT (by simp) _ _
 have CS:Hid (∀(W:World) (j:Nat),j≤1000→pw (sq s) j≤1000000000000000→Calls Tryz.prog 171 #[.agg #[.int .i64 p,.int .i64 c,.int .i64 h,.int .i64 s],.int .i64 j] W fun e w'=>e = .returned (.tuple #[.int .i64 (pw (sq s) j),.bool true])∧Below W.heap.size W w'):=fun W j hj hp=>by
  have:=l09Scale_any p c h s j W hs1 hs6 hj
  rwa [(scl_ok hp).1,(scl_ok hp).2]at this
 have CN:Hid (∀(W:World) (j:Nat),j≤1000→1000000000000000<pw (sq s) j→Calls Tryz.prog 171 #[.agg #[.int .i64 p,.int .i64 c,.int .i64 h,.int .i64 s],.int .i64 j] W fun e w'=>e = .returned (.tuple #[.int .i64 0,.bool false])∧Below W.heap.size W w'):=fun W j hj hp=>by
  have:=l09Scale_any p c h s j W hs1 hs6 hj
  rwa [(scl_no hp).1,(scl_no hp).2]at this
 go_enter Tryz.func210,Tryz.ntmps210
 go_wp2_with (go_at_call 208;refine (CG.out _).mono ?_;rintro e w' ⟨rfl,rfl⟩)
 simp only[hQ]
 go_loopw [9] (fun v wr=>∃j:Nat,v = .int .i64 j∧j≤d∧Fr w wr [[.int .i64 p,.int .i64 c,.int .i64 h,.int .i64 s],[.int .i64 0,.int .i64 0]]) (fun v _=>d-(intOf v).toNat)
 case atStart=>exact⟨0,rfl,Nat.zero_le _,HF0.out⟩
 case round=>
  obtain⟨j,rfl,hj,hF⟩:=hrel;have HF:=Lib.hid hF;clear hF;obtain⟨z0,c00,f00,c01,f01,c02,f02,c03,f03,z1,c10,f10,c11,f11⟩:=HF.out.xf0
  by_cases hjd:j=d
  ·subst hjd
   have hp0:=pw_pos hq1 j
   have b1:(pw (sq s) j % q == 0)=true:=by simp[Int.emod_eq_zero_of_dvd h1]
   have hm1:1≤pw (sq s) j / q:=Int.le_ediv_of_mul_le (by omega) (by have:=Int.le_of_dvd (by omega) h1;omega)
   have hm2:pw (sq s) j / q≤1000000000000000:=Int.le_trans (Int.ediv_le_self _ (by omega)) h3
   clear h1;have HOK:=Lib.hid hok;have HPW:=Lib.hid h3;clear hok
   have CT:Hid (∀W:World,Calls Tryz.prog 209 #[.int .i64 P,.int .i64 (pw (sq s) j / q)] W _):=fun W=>l09Times_ok P (pw (sq s) j / q) W hP1 hP2 hm1 (by omega) HOK.out
   have e1:=inB_yes (of_decide_eq_true HOK.out : -1000000000000000000≤P*(pw (sq s) j / q)∧P*(pw (sq s) j / q)≤1000000000000000000)
   go_wp2_with (first|(go_at_call 171;refine (more_first (CS.out _ j (by omega) HPW.out)).mono ?_;rintro e w' ⟨rfl,t,rfl⟩)|(go_at_call 209;refine (CT.out _).mono ?_;rintro e w' ⟨rfl,rfl⟩)|(go_at_call 134;refine (l01In_any _ _ _ _).mono ?_;rintro e w' ⟨rfl,rfl⟩))
   refine bodyPost_ret (v:=.tuple #[.agg #[.int .i64 (P*(pw (sq s) j / q)),.int .i64 j],.bool true]) (by simp[results,Tryz.results210,go_sem,c10,c11,z1,f10,f11]) rfl ⟨rfl,?_⟩
   exact stw (stw (HF.out.more _).b (by omega)) (by omega)
  ·
   have hp3:pw (sq s) j≤1000000000000000:=(Int.le_trans (pw_mono hq1 (by omega)) h3)
   have hp0:=pw_pos hq1 j
   have hnd:=h2.out j (by omega)
   have b1:(pw (sq s) j % q == 0)=false:=by simp;intro h';exact hnd (Int.dvd_of_emod_eq_zero h')
   clear hnd
   go_wp2_with (go_at_call 171;refine (more_first (CS.out _ j (by omega) hp3)).mono ?_;rintro e w' ⟨rfl,t,rfl⟩)
   go_roundw
   case rel=>exact⟨j+1,by go_num,by omega,HF.out.more _⟩
   case measure=>simp[intOf];omega
set_option maxHeartbeats 1000000 in
set_option maxRecDepth 10000 in
theorem l09Fit_far (p c h a b:Int) (s d:Nat) (w:World) (hs1:1≤s) (hs6:s≤6) (hD:d≤50) (hb1:1≤b) (hb2:b≤9000000000000000000) (ha1 : -9000000000000000000≤a) (ha2:a≤9000000000000000000)
  (h1:b / (Int.gcd a b:Int) ∣ pw (sq s) d) (h2:Hid (∀k,k<d→¬b / (Int.gcd a b:Int) ∣ pw (sq s) k)) (h3:pw (sq s) d≤1000000000000000) (hok:prodOk (a / (Int.gcd a b:Int)) (pw (sq s) d / (b / (Int.gcd a b:Int)))=false):
  Calls Tryz.prog 210 #[.agg #[.int .i64 p,.int .i64 c,.int .i64 h,.int .i64 s],.int .i64 a,.int .i64 b] w fun e w'=>e = .returned (.tuple #[.agg #[.int .i64 (0),.int .i64 d],.bool false])∧Below w.heap.size w w':=by
 obtain⟨hq1,hq36,_⟩:=sq_bd hs1 hs6;obtain⟨g1,g2,g3,g4,g5⟩:=gcd_facts (a:=a) hb1
 have CG:Hid (∀W:World,Calls Tryz.prog 208 #[.int .i64 a,.int .i64 b] W fun e w'=>e = .returned (.int .i64 (Int.gcd a b:Int))∧W=w'):=fun W=>l09Gcd_any a b W ha1 ha2 (by omega) hb2
 have hP:a.tdiv (Int.gcd a b:Int)=a / (Int.gcd a b:Int):=tdiv_dvd (Int.gcd_dvd_left a b)
 have hPb : -9000000000000000000≤a / (Int.gcd a b:Int)∧a / (Int.gcd a b:Int)≤9000000000000000000:=by
  generalize (Int.gcd a b:Int)=g at *;generalize a / g=u at *
  rcases Int.le_total 0 u with h0|h0
  ·have:=Int.mul_le_mul_of_nonneg_left g1 h0;omega
  ·have:=Int.mul_le_mul_of_nonpos_left h0 g1;omega
 have hQb:b / (Int.gcd a b:Int)≤9000000000000000000:=Int.le_trans (Int.ediv_le_self _ (by omega)) hb2
 have hgb:(Int.gcd a b:Int)≤9000000000000000000:=Int.le_trans (Int.le_of_dvd (by omega) (Int.gcd_dvd_right a b)) hb2
 generalize (Int.gcd a b:Int)=g at *;generalize a / g=P at *;generalize hQ:b / g=q at *;clear g2 g3 g5;obtain⟨hP1,hP2⟩:=hPb
 have HF0:Hid (Fr w ((w.alloc (.cells #[.int .i64 p,.int .i64 c,.int .i64 h,.int .i64 s] 25)).alloc (.cells #[.int .i64 0,.int .i64 0] 35)) [[.int .i64 p,.int .i64 c,.int .i64 h,.int .i64 s],[.int .i64 0,.int .i64 0]]):=
  ((Fr.start w).allocT (by simp) _ _).allocT (by simp) _ _
 have CS:Hid (∀(W:World) (j:Nat),j≤1000→pw (sq s) j≤1000000000000000→Calls Tryz.prog 171 #[.agg #[.int .i64 p,.int .i64 c,.int .i64 h,.int .i64 s],.int .i64 j] W fun e w'=>e = .returned (.tuple #[.int .i64 (pw (sq s) j),.bool true])∧Below W.heap.size W w'):=fun W j hj hp=>by
  have:=l09Scale_any p c h s j W hs1 hs6 hj
  rwa [(scl_ok hp).1,(scl_ok hp).2]at this
 have CN:Hid (∀(W:World) (j:Nat),j≤1000→1000000000000000<pw (sq s) j→Calls Tryz.prog 171 #[.agg #[.int .i64 p,.int .i64 c,.int .i64 h,.int .i64 s],.int .i64 j] W fun e w'=>e = .returned (.tuple #[.int .i64 0,.bool false])∧Below W.heap.size W w'):=fun W j hj hp=>by
  have:=l09Scale_any p c h s j W hs1 hs6 hj
  rwa [(scl_no hp).1,(scl_no hp).2]at this
 go_enter Tryz.func210,Tryz.ntmps210
 go_wp2_with (go_at_call 208;refine (CG.out _).mono ?_;rintro e w' ⟨rfl,rfl⟩)
 simp only[hQ]
 go_loopw [9] (fun v wr=>∃j:Nat,v = .int .i64 j∧j≤d∧Fr w wr [[.int .i64 p,.int .i64 c,.int .i64 h,.int .i64 s],[.int .i64 0,.int .i64 0]]) (fun v _=>d-(intOf v).toNat)
 case atStart=>exact⟨0,rfl,Nat.zero_le _,HF0.out⟩
 case round=>
  obtain⟨j,rfl,hj,hF⟩:=hrel;have HF:=Lib.hid hF;clear hF;obtain⟨z0,c00,f00,c01,f01,c02,f02,c03,f03,z1,c10,f10,c11,f11⟩:=HF.out.xf0
  by_cases hjd:j=d
  ·subst hjd
   have hp0:=pw_pos hq1 j
   have b1:(pw (sq s) j % q == 0)=true:=by simp[Int.emod_eq_zero_of_dvd h1]
   have hm1:1≤pw (sq s) j / q:=Int.le_ediv_of_mul_le (by omega) (by have:=Int.le_of_dvd (by omega) h1;omega)
   have hm2:pw (sq s) j / q≤1000000000000000:=Int.le_trans (Int.ediv_le_self _ (by omega)) h3
   clear h1;have HOK:=Lib.hid hok;have HPW:=Lib.hid h3;clear hok
   have CT:Hid (∀W:World,Calls Tryz.prog 209 #[.int .i64 P,.int .i64 (pw (sq s) j / q)] W _):=fun W=>l09Times_no P (pw (sq s) j / q) W hP1 hP2 hm1 (by omega) HOK.out
   skip
   go_wp2_with (first|(go_at_call 171;refine (more_first (CS.out _ j (by omega) HPW.out)).mono ?_;rintro e w' ⟨rfl,t,rfl⟩)|(go_at_call 209;refine (CT.out _).mono ?_;rintro e w' ⟨rfl,rfl⟩)|(go_at_call 134;refine (l01In_any _ _ _ _).mono ?_;rintro e w' ⟨rfl,rfl⟩))
   refine bodyPost_ret (v:=.tuple #[.agg #[.int .i64 (0),.int .i64 j],.bool false]) (by simp[results,Tryz.results210,go_sem,c10,c11,z1,f10,f11]) rfl ⟨rfl,?_⟩
   exact stw (stw (HF.out.more _).b (by omega)) (by omega)
  ·
   have hp3:pw (sq s) j≤1000000000000000:=(Int.le_trans (pw_mono hq1 (by omega)) h3)
   have hp0:=pw_pos hq1 j
   have hnd:=h2.out j (by omega)
   have b1:(pw (sq s) j % q == 0)=false:=by simp;intro h';exact hnd (Int.dvd_of_emod_eq_zero h')
   clear hnd
   go_wp2_with (go_at_call 171;refine (more_first (CS.out _ j (by omega) hp3)).mono ?_;rintro e w' ⟨rfl,t,rfl⟩)
   go_roundw
   case rel=>exact⟨j+1,by go_num,by omega,HF.out.more _⟩
   case measure=>simp[intOf];omega
set_option maxHeartbeats 1000000 in
set_option maxRecDepth 10000 in
theorem l09Fit_miss (p c h a b:Int) (s d:Nat) (w:World) (hs1:1≤s) (hs6:s≤6) (hD:d≤50) (hb1:1≤b) (hb2:b≤9000000000000000000) (ha1 : -9000000000000000000≤a) (ha2:a≤9000000000000000000)
  (h2:Hid (∀k,k<d→¬b / (Int.gcd a b:Int) ∣ pw (sq s) k)) (h3:1000000000000000<pw (sq s) d):
  Calls Tryz.prog 210 #[.agg #[.int .i64 p,.int .i64 c,.int .i64 h,.int .i64 s],.int .i64 a,.int .i64 b] w fun e w'=>e = .returned (.tuple #[.agg #[.int .i64 0,.int .i64 0],.bool false])∧Below w.heap.size w w':=by
 obtain⟨hq1,hq36,_⟩:=sq_bd hs1 hs6;obtain⟨g1,g2,g3,g4,g5⟩:=gcd_facts (a:=a) hb1
 have CG:Hid (∀W:World,Calls Tryz.prog 208 #[.int .i64 a,.int .i64 b] W fun e w'=>e = .returned (.int .i64 (Int.gcd a b:Int))∧W=w'):=fun W=>l09Gcd_any a b W ha1 ha2 (by omega) hb2
 have hP:a.tdiv (Int.gcd a b:Int)=a / (Int.gcd a b:Int):=tdiv_dvd (Int.gcd_dvd_left a b)
 have hPb : -9000000000000000000≤a / (Int.gcd a b:Int)∧a / (Int.gcd a b:Int)≤9000000000000000000:=by
  generalize (Int.gcd a b:Int)=g at *;generalize a / g=u at *
  rcases Int.le_total 0 u with h0|h0
  ·have:=Int.mul_le_mul_of_nonneg_left g1 h0;omega
  ·have:=Int.mul_le_mul_of_nonpos_left h0 g1;omega
 have hQb:b / (Int.gcd a b:Int)≤9000000000000000000:=Int.le_trans (Int.ediv_le_self _ (by omega)) hb2
 have hgb:(Int.gcd a b:Int)≤9000000000000000000:=Int.le_trans (Int.le_of_dvd (by omega) (Int.gcd_dvd_right a b)) hb2
 generalize (Int.gcd a b:Int)=g at *;generalize a / g=P at *;generalize hQ:b / g=q at *;clear g2 g3 g5;obtain⟨hP1,hP2⟩:=hPb
 have HF0:Hid (Fr w ((w.alloc (.cells #[.int .i64 p,.int .i64 c,.int .i64 h,.int .i64 s] 25)).alloc (.cells #[.int .i64 0,.int .i64 0] 35)) [[.int .i64 p,.int .i64 c,.int .i64 h,.int .i64 s],[.int .i64 0,.int .i64 0]]):=
  ((Fr.start w).allocT (by simp) _ _).allocT (by simp) _ _
 have CS:Hid (∀(W:World) (j:Nat),j≤1000→pw (sq s) j≤1000000000000000→Calls Tryz.prog 171 #[.agg #[.int .i64 p,.int .i64 c,.int .i64 h,.int .i64 s],.int .i64 j] W fun e w'=>e = .returned (.tuple #[.int .i64 (pw (sq s) j),.bool true])∧Below W.heap.size W w'):=fun W j hj hp=>by
  have:=l09Scale_any p c h s j W hs1 hs6 hj
  rwa [(scl_ok hp).1,(scl_ok hp).2]at this
 have CN:Hid (∀(W:World) (j:Nat),j≤1000→1000000000000000<pw (sq s) j→Calls Tryz.prog 171 #[.agg #[.int .i64 p,.int .i64 c,.int .i64 h,.int .i64 s],.int .i64 j] W fun e w'=>e = .returned (.tuple #[.int .i64 0,.bool false])∧Below W.heap.size W w'):=fun W j hj hp=>by
  have:=l09Scale_any p c h s j W hs1 hs6 hj
  rwa [(scl_no hp).1,(scl_no hp).2]at this
 go_enter Tryz.func210,Tryz.ntmps210
 go_wp2_with (go_at_call 208;refine (CG.out _).mono ?_;rintro e w' ⟨rfl,rfl⟩)
 simp only[hQ]
 go_loopw [9] (fun v wr=>∃j:Nat,v = .int .i64 j∧j≤d∧Fr w wr [[.int .i64 p,.int .i64 c,.int .i64 h,.int .i64 s],[.int .i64 0,.int .i64 0]]) (fun v _=>d-(intOf v).toNat)
 case atStart=>exact⟨0,rfl,Nat.zero_le _,HF0.out⟩
 case round=>
  obtain⟨j,rfl,hj,hF⟩:=hrel;have HF:=Lib.hid hF;clear hF;obtain⟨z0,c00,f00,c01,f01,c02,f02,c03,f03,z1,c10,f10,c11,f11⟩:=HF.out.xf0
  by_cases hbig:1000000000000000<pw (sq s) j
  ·go_wp2_with (go_at_call 171;refine (more_first (CN.out _ j (by omega) hbig)).mono ?_;rintro e w' ⟨rfl,t,rfl⟩)
   refine bodyPost_ret (v:=.tuple #[.agg #[.int .i64 0,.int .i64 0],.bool false]) (by simp[results,Tryz.results210,go_sem,c10,c11,z1,f10,f11]) rfl ⟨rfl,?_⟩
   exact stw (stw (HF.out.more _).b (by omega)) (by omega)
  ·have hjd:j≠d:=fun h'=>hbig (by rw[h'];exact h3)
   have hp3:pw (sq s) j≤1000000000000000:=(by omega)
   have hp0:=pw_pos hq1 j
   have hnd:=h2.out j (by omega)
   have b1:(pw (sq s) j % q == 0)=false:=by simp;intro h';exact hnd (Int.dvd_of_emod_eq_zero h')
   clear hnd
   go_wp2_with (go_at_call 171;refine (more_first (CS.out _ j (by omega) hp3)).mono ?_;rintro e w' ⟨rfl,t,rfl⟩)
   go_roundw
   case rel=>exact⟨j+1,by go_num,by omega,HF.out.more _⟩
   case measure=>simp[intOf];omega
theorem l09Fit_some (p c h a b:Int) (s D:Nat) (hs1:1≤s) (hs6:s≤6) (hD:D≤50) (hb1:1≤b) (hb2:b≤9000000000000000000) (ha1 : -9000000000000000000≤a) (ha2:a≤9000000000000000000) (hdv:b ∣ pw (sq s) D):
  ∃ (n : Int) (d : Nat) (f : Bool), (∀ w : World, Calls Tryz.prog 210 #[.agg #[.int .i64 p, .int .i64 c, .int .i64 h, .int .i64 s], .int .i64 a, .int .i64 b] w fun e w' => e = .returned (.tuple #[.agg #[.int .i64 n, .int .i64 d], .bool f]) ∧ Below w.heap.size w w') ∧
    mk (sq s) (a * (pw (sq s) D / b)) D = if f then some ⟨n, d⟩ else none := by
 obtain⟨hq1,hq36,_⟩:=sq_bd hs1 hs6;obtain⟨g1,g2,g3,g4,g5⟩:=gcd_facts (a:=a) hb1;obtain⟨r1,r2⟩:=fit_reduce (a:=a) hq1 hb1 hdv;obtain⟨d,d1,d2,d3⟩:=least_dvd r1;have em:maxScale=1000000000000000:=rfl;rw[r2]
 change ∃(n:Int) (d:Nat) (f:Bool),_∧fitE (sq s) (a / (Int.gcd a b:Int)) (b / (Int.gcd a b:Int)) D=_
 by_cases hsc:pw (sq s) d≤1000000000000000
 ·rw[fit_hit hq1 g4 g5 r1 d2 d3 hsc]
  by_cases hok:prodOk (a / (Int.gcd a b:Int)) (pw (sq s) d / (b / (Int.gcd a b:Int)))=true
  ·refine⟨_,d,true,fun w=>l09Fit_hit p c h a b s d w hs1 hs6 (by omega) hb1 hb2 ha1 ha2 d2 d3 hsc hok,?_⟩
   rw[if_pos (of_decide_eq_true hok)];rfl
  ·have hno:prodOk (a / (Int.gcd a b:Int)) (pw (sq s) d / (b / (Int.gcd a b:Int)))=false:=by simpa using hok
   refine⟨_,d,false,fun w=>l09Fit_far p c h a b s d w hs1 hs6 (by omega) hb1 hb2 ha1 ha2 d2 d3 hsc hno,?_⟩
   rw[if_neg (of_decide_eq_false hno)];rfl
 ·rw[fit_miss hq1 g4 g5 r1 d3 (by omega)]
  exact⟨0,0,false,fun w=>l09Fit_miss p c h a b s d w hs1 hs6 (by omega) hb1 hb2 ha1 ha2 d3 (by omega),rfl⟩
end Go.Proofs.YtkaiilmgemaljaaGreat
/- Contract of the reference's multiple of an exact number. There are no conditions. -/
namespace Go.Proofs.YtkaiilmgemaljaaGreat
open Go.RowKit Ps Ra Ex
theorem abs_le_bd {a b m:Int} (h1 : -m≤a) (h2:a≤m) (hb:1≤b) : -m≤a / b∧a / b≤m:=by
 constructor
 ·apply Int.le_ediv_of_mul_le (by omega)
  have h0:0≤m:=by omega
  have:m*1≤m*b:=Int.mul_le_mul_of_nonneg_left hb h0
  rw[Int.neg_mul];omega
 ·rcases Int.le_total 0 a with h|h
  ·exact Int.le_trans (Int.ediv_le_self _ h) h2
  ·have h3:a / b≤0:=by
    have:=Int.ediv_le_ediv (show 0<b by omega) h
    simpa using this
   omega
set_option maxHeartbeats 2000000 in
set_option maxRecDepth 10000 in
theorem l09Mul_any (p c h xn:Int) (s d k:Nat) (w:World) (hs1:1≤s) (hs6:s≤6) (hx:Val (sq s) ⟨xn,d⟩) (hk1:1≤k) (hk9:k≤9000):
  Calls Tryz.prog 135 #[.agg #[.int .i64 p,.int .i64 c,.int .i64 h,.int .i64 s],.agg #[.int .i64 xn,.int .i64 d],.int .i64 k] w (RetE w (sclE (sq s) ⟨xn,d⟩ k)):=by
 obtain⟨hq1,hq36,_⟩:=sq_bd hs1 hs6;have hd50:d<50:=depth_lt hq1 hx;have hx1 : -1000000000000000000≤xn:=hx.1;have hx2:xn≤1000000000000000000:=hx.2.1;have hp2:pw (sq s) d≤1000000000000000:=hx.2.2.1;have hp1:=pw_pos hq1 d;obtain⟨m1,m2,m3,m4,m5,m6,m7⟩:=mul_reduce (n:=xn) (k:=(k:Int)) (d:=d) hq1
 have C:=fun (W:World)=>l09Scale_any p c h s d W hs1 hs6 (by omega)
 rw[(scl_ok hp2).1,(scl_ok hp2).2]at C;have CS:=Lib.hid C
 have G1:=Lib.hid fun (W:World)=>l09Gcd_any (k:Int) (pw (sq s) d) W (by omega) (by omega) (by omega) (by omega)
 have hDk:(Int.gcd (k:Int) (pw (sq s) d):Int) ∣ k:=Int.gcd_dvd_left _ _;have hDs:(Int.gcd (k:Int) (pw (sq s) d):Int) ∣ pw (sq s) d:=Int.gcd_dvd_right _ _
 have hDk9:(Int.gcd (k:Int) (pw (sq s) d):Int)≤k:=Int.le_of_dvd (by omega) hDk
 have hkD:1≤(k:Int) / (Int.gcd (k:Int) (pw (sq s) d):Int):=Int.le_ediv_of_mul_le (by omega) (by omega)
 have hkD2:(k:Int) / (Int.gcd (k:Int) (pw (sq s) d):Int)≤k:=Int.ediv_le_self _ (by omega)
 generalize (Int.gcd (k:Int) (pw (sq s) d):Int)=D at *
 have hsD:pw (sq s) d / D≤pw (sq s) d:=Int.ediv_le_self _ (by omega)
 generalize hSD:pw (sq s) d / D=SD at *
 have G2:=Lib.hid fun (W:World)=>l09Gcd_any xn SD W (by omega) (by omega) (by omega) (by omega)
 have hgx:(Int.gcd xn SD:Int) ∣ xn:=Int.gcd_dvd_left _ _
 have hgs:(Int.gcd xn SD:Int)≤SD:=Int.le_of_dvd (by omega) (Int.gcd_dvd_right _ _)
 generalize (Int.gcd xn SD:Int)=g at *;have hxg:xn.tdiv g=xn / g:=tdiv_dvd hgx;obtain⟨q1,q2⟩:=abs_le_bd hx1 hx2 m3
 have hqs:SD / g≤SD:=Int.ediv_le_self _ (by omega)
 generalize hK:(k:Int) / D=K at *;generalize xn / g=X at *;generalize hQ:SD / g=Q at *
 have q3 : -9000000000000000000≤X∧X≤9000000000000000000:=by omega
 have HFr:Hid (Fr w (((w.alloc (.cells #[.int .i64 p,.int .i64 c,.int .i64 h,.int .i64 s] 25)).alloc (.cells #[.int .i64 xn,.int .i64 d] 35)).alloc (.cells #[.int .i64 0,.int .i64 0] 35)) [[.int .i64 p,.int .i64 c,.int .i64 h,.int .i64 s],[.int .i64 xn,.int .i64 d],[.int .i64 0,.int .i64 0]]):=(((Fr.start w).allocT (by simp) _ _).allocT (by simp) _ _).allocT (by simp) _ _
 have HF0:Hid (Below w.heap.size w (((w.alloc (.cells #[.int .i64 p,.int .i64 c,.int .i64 h,.int .i64 s] 25)).alloc (.cells #[.int .i64 xn,.int .i64 d] 35)).alloc (.cells #[.int .i64 0,.int .i64 0] 35))):=alw (alw ((Below.refl _ _).alloc (Nat.le_refl _) _) (Nat.le_refl _)) (Nat.le_refl _);clear hx C hDk hDs hgx
 by_cases hok:prodOk X K=true
 ·have CT:=Lib.hid fun (W:World)=>l09Times_ok X K W q3.1 q3.2 hkD (by omega) hok
  obtain⟨hk3,hk4⟩:=of_decide_eq_true hok;rw[maxNum_val]at hk3 hk4
  obtain⟨n,dd,f,CF0,hmk⟩:=l09Fit_some p c h (X*K) Q s d hs1 hs6 (by omega) m4 (by omega) (by omega) (by omega) m5
  have CF:=Lib.hid CF0;rw[m7]at hmk
  have HR:Hid (sclE (sq s) ⟨xn,d⟩ k=if f then some ⟨n,dd⟩ else none):=hmk
  clear hmk CF0 hok m6 m7
  cases f with
  | true =>
    have HR' : Hid (sclE (sq s) ⟨xn, d⟩ k = some ⟨n, dd⟩) := HR.out; clear HR
    rcases (show D = 1 ∨ 1 < D by omega) with rfl | h1D
    ·
      rw [Int.ediv_one] at hSD hK; subst hSD hK
      go_enter Tryz.func135, Tryz.ntmps135
      go_wp2_with (first | (go_at_call 171; ((with_reducible refine (more_first (CS.out _)).mono ?_); rintro e w' ⟨rfl, t, rfl⟩)) | (go_at_call 208; ((with_reducible refine (G1.out _).mono ?_); rintro e w' ⟨rfl, rfl⟩)))
      first | refine wp_region_more2 (by kernel_rfl) (by kernel_rfl) ?_ | refine wp_region_more (by kernel_rfl) (by kernel_rfl) ?_
      repeat (first | go_big_quiet_step (first | (go_at_call 208; exact more_same (G2.out _)) | (go_at_call 209; exact more_same (CT.out _))) | quiet_step (first | (go_at_call 208; exact more_same (G2.out _)) | (go_at_call 209; exact more_same (CT.out _))))
      refine wpQuiet_nil ?_
      intro _ hw'
      obtain ⟨tq, hw''⟩ := hw'; subst hw''
      go_wp2_with (fail)
      generalize hW : more _ tq = W
      have HF : Hid (Fr w W [[.int .i64 p, .int .i64 c, .int .i64 h, .int .i64 s], [.int .i64 xn, .int .i64 d], [.int .i64 0, .int .i64 0]]) := by rw [← hW]; exact HFr.out.more _
      clear hW
      refine wp_region_blk 16 15 13 _ _ (.cells #[.int .i64 0, .int .i64 0] 35) (by kernel_rfl) (by kernel_rfl) rfl rfl rfl (fun _ _ => by kernel_rfl) rfl (pure_extract _ _ _ _ rfl rfl) (fun _ _ _ _ h => h) (by kernel_rfl) ?_
      apply Exists.intro
      refine ⟨fun X hX => ?_, fun t1 t2 => ?_⟩
      ·
        have HX : Hid (Fr w X [[.int .i64 p, .int .i64 c, .int .i64 h, .int .i64 s], [.int .i64 xn, .int .i64 d], [.int .i64 0, .int .i64 0]]) := by obtain ⟨t0, rfl⟩ := hX; exact HF.out.more t0
        clear hX; obtain ⟨z0, c00, f00, c01, f01, c02, f02, c03, f03, z1, c10, f10, c11, f11, z2, c20, f20, c21, f21⟩ := HX.out.xf1
        simp only [List.take_succ_cons, List.take_zero]
        repeat (first | go_big_quiet_step (first | (go_at_call 208; exact more_same (G2.out _)) | (go_at_call 210; exact more_call (CF.out _))) | quiet_step (first | (go_at_call 208; exact more_same (G2.out _)) | (go_at_call 210; exact more_call (CF.out _))))
        exact wpQuiet_nil rfl
      simp only [List.drop_succ_cons, List.drop_zero, Act.put]
      have HU : Hid (Fr w (more ((more W t1).alloc (.cells #[.int .i64 0, .int .i64 0] 35)) t2) [[.int .i64 p, .int .i64 c, .int .i64 h, .int .i64 s], [.int .i64 xn, .int .i64 d], [.int .i64 0, .int .i64 0]]) := ((HF.out.more t1).alloc _).more t2; have x0 := blk_cell W t1 t2 #[.int .i64 0, .int .i64 0] 35 0 rfl; have x1 := blk_cell W t1 t2 #[.int .i64 0, .int .i64 0] 35 1 rfl; have x0' := blk_froz W t1 t2 #[.int .i64 0, .int .i64 0] 35 0; have x1' := blk_froz W t1 t2 #[.int .i64 0, .int .i64 0] 35 1; have xz := blk_lt W t1 t2 (.cells #[.int .i64 0, .int .i64 0] 35); have xb := (HF.out.more t1).z
      simp only [List.length_cons, List.length_nil] at xb
      generalize more ((more W t1).alloc (.cells #[.int .i64 0, .int .i64 0] 35)) t2 = U at *; generalize (more W t1).heap.size = bb at *; obtain ⟨z0, c00, f00, c01, f01, c02, f02, c03, f03, z1, c10, f10, c11, f11, z2, c20, f20, c21, f21⟩ := HU.out.xf1
      go_wp2_with (fail)
      refine bodyPost_ret (v := .tuple #[.agg #[.int .i64 n, .int .i64 dd], .bool true]) (by simp [results, Tryz.results135, go_sem, c20, c21, z2, f20, f21, x0, x1, x0', x1', xz]) rfl (RetE.mkY HR'.out ?_)
      repeat (first | exact HU.out.b | refine stw ?_ (by omega))
    ·
      go_enter Tryz.func135, Tryz.ntmps135
      go_wp2_with (first | (go_at_call 171; ((with_reducible refine (more_first (CS.out _)).mono ?_); rintro e w' ⟨rfl, t, rfl⟩)) | (go_at_call 208; ((with_reducible refine (G1.out _).mono ?_); rintro e w' ⟨rfl, rfl⟩)))
      first | refine wp_region_more2 (by kernel_rfl) (by kernel_rfl) ?_ | refine wp_region_more (by kernel_rfl) (by kernel_rfl) ?_
      repeat (first | go_big_quiet_step (first | (go_at_call 208; exact more_same (G2.out _)) | (go_at_call 209; exact more_same (CT.out _))) | quiet_step (first | (go_at_call 208; exact more_same (G2.out _)) | (go_at_call 209; exact more_same (CT.out _))))
      refine wpQuiet_nil ?_
      intro _ hw'
      obtain ⟨tq, hw''⟩ := hw'; subst hw''
      go_wp2_with (fail)
      generalize hW : more _ tq = W
      have HF : Hid (Fr w W [[.int .i64 p, .int .i64 c, .int .i64 h, .int .i64 s], [.int .i64 xn, .int .i64 d], [.int .i64 0, .int .i64 0]]) := by rw [← hW]; exact HFr.out.more _
      clear hW
      refine wp_region_blk 16 15 13 _ _ (.cells #[.int .i64 0, .int .i64 0] 35) (by kernel_rfl) (by kernel_rfl) rfl rfl rfl (fun _ _ => by kernel_rfl) rfl (pure_extract _ _ _ _ rfl rfl) (fun _ _ _ _ h => h) (by kernel_rfl) ?_
      apply Exists.intro
      refine ⟨fun X hX => ?_, fun t1 t2 => ?_⟩
      ·
        have HX : Hid (Fr w X [[.int .i64 p, .int .i64 c, .int .i64 h, .int .i64 s], [.int .i64 xn, .int .i64 d], [.int .i64 0, .int .i64 0]]) := by obtain ⟨t0, rfl⟩ := hX; exact HF.out.more t0
        clear hX; obtain ⟨z0, c00, f00, c01, f01, c02, f02, c03, f03, z1, c10, f10, c11, f11, z2, c20, f20, c21, f21⟩ := HX.out.xf1
        simp only [List.take_succ_cons, List.take_zero]
        repeat (first | go_big_quiet_step (first | (go_at_call 208; exact more_same (G2.out _)) | (go_at_call 210; exact more_call (CF.out _))) | quiet_step (first | (go_at_call 208; exact more_same (G2.out _)) | (go_at_call 210; exact more_call (CF.out _))))
        exact wpQuiet_nil rfl
      simp only [List.drop_succ_cons, List.drop_zero, Act.put]
      have HU : Hid (Fr w (more ((more W t1).alloc (.cells #[.int .i64 0, .int .i64 0] 35)) t2) [[.int .i64 p, .int .i64 c, .int .i64 h, .int .i64 s], [.int .i64 xn, .int .i64 d], [.int .i64 0, .int .i64 0]]) := ((HF.out.more t1).alloc _).more t2; have x0 := blk_cell W t1 t2 #[.int .i64 0, .int .i64 0] 35 0 rfl; have x1 := blk_cell W t1 t2 #[.int .i64 0, .int .i64 0] 35 1 rfl; have x0' := blk_froz W t1 t2 #[.int .i64 0, .int .i64 0] 35 0; have x1' := blk_froz W t1 t2 #[.int .i64 0, .int .i64 0] 35 1; have xz := blk_lt W t1 t2 (.cells #[.int .i64 0, .int .i64 0] 35); have xb := (HF.out.more t1).z
      simp only [List.length_cons, List.length_nil] at xb
      generalize more ((more W t1).alloc (.cells #[.int .i64 0, .int .i64 0] 35)) t2 = U at *; generalize (more W t1).heap.size = bb at *; obtain ⟨z0, c00, f00, c01, f01, c02, f02, c03, f03, z1, c10, f10, c11, f11, z2, c20, f20, c21, f21⟩ := HU.out.xf1
      go_wp2_with (fail)
      refine bodyPost_ret (v := .tuple #[.agg #[.int .i64 n, .int .i64 dd], .bool true]) (by simp [results, Tryz.results135, go_sem, c20, c21, z2, f20, f21, x0, x1, x0', x1', xz]) rfl (RetE.mkY HR'.out ?_)
      repeat (first | exact HU.out.b | refine stw ?_ (by omega))
  | false =>
    have HR' : Hid (sclE (sq s) ⟨xn, d⟩ k = none) := HR.out; clear HR
    rcases (show D = 1 ∨ 1 < D by omega) with rfl | h1D
    ·
      rw [Int.ediv_one] at hSD hK; subst hSD hK
      go_enter Tryz.func135, Tryz.ntmps135
      go_wp2_with (first | (go_at_call 171; ((with_reducible refine (more_first (CS.out _)).mono ?_); rintro e w' ⟨rfl, t, rfl⟩)) | (go_at_call 208; ((with_reducible refine (G1.out _).mono ?_); rintro e w' ⟨rfl, rfl⟩)))
      first | refine wp_region_more2 (by kernel_rfl) (by kernel_rfl) ?_ | refine wp_region_more (by kernel_rfl) (by kernel_rfl) ?_
      repeat (first | go_big_quiet_step (first | (go_at_call 208; exact more_same (G2.out _)) | (go_at_call 209; exact more_same (CT.out _))) | quiet_step (first | (go_at_call 208; exact more_same (G2.out _)) | (go_at_call 209; exact more_same (CT.out _))))
      refine wpQuiet_nil ?_
      intro _ hw'
      obtain ⟨tq, hw''⟩ := hw'; subst hw''
      go_wp2_with (fail)
      generalize hW : more _ tq = W
      have HF : Hid (Fr w W [[.int .i64 p, .int .i64 c, .int .i64 h, .int .i64 s], [.int .i64 xn, .int .i64 d], [.int .i64 0, .int .i64 0]]) := by rw [← hW]; exact HFr.out.more _
      clear hW
      refine wp_region_blk 16 15 13 _ _ (.cells #[.int .i64 0, .int .i64 0] 35) (by kernel_rfl) (by kernel_rfl) rfl rfl rfl (fun _ _ => by kernel_rfl) rfl (pure_extract _ _ _ _ rfl rfl) (fun _ _ _ _ h => h) (by kernel_rfl) ?_
      apply Exists.intro
      refine ⟨fun X hX => ?_, fun t1 t2 => ?_⟩
      ·
        have HX : Hid (Fr w X [[.int .i64 p, .int .i64 c, .int .i64 h, .int .i64 s], [.int .i64 xn, .int .i64 d], [.int .i64 0, .int .i64 0]]) := by obtain ⟨t0, rfl⟩ := hX; exact HF.out.more t0
        clear hX; obtain ⟨z0, c00, f00, c01, f01, c02, f02, c03, f03, z1, c10, f10, c11, f11, z2, c20, f20, c21, f21⟩ := HX.out.xf1
        simp only [List.take_succ_cons, List.take_zero]
        repeat (first | go_big_quiet_step (first | (go_at_call 208; exact more_same (G2.out _)) | (go_at_call 210; exact more_call (CF.out _))) | quiet_step (first | (go_at_call 208; exact more_same (G2.out _)) | (go_at_call 210; exact more_call (CF.out _))))
        exact wpQuiet_nil rfl
      simp only [List.drop_succ_cons, List.drop_zero, Act.put]
      have HU : Hid (Fr w (more ((more W t1).alloc (.cells #[.int .i64 0, .int .i64 0] 35)) t2) [[.int .i64 p, .int .i64 c, .int .i64 h, .int .i64 s], [.int .i64 xn, .int .i64 d], [.int .i64 0, .int .i64 0]]) := ((HF.out.more t1).alloc _).more t2; have x0 := blk_cell W t1 t2 #[.int .i64 0, .int .i64 0] 35 0 rfl; have x1 := blk_cell W t1 t2 #[.int .i64 0, .int .i64 0] 35 1 rfl; have x0' := blk_froz W t1 t2 #[.int .i64 0, .int .i64 0] 35 0; have x1' := blk_froz W t1 t2 #[.int .i64 0, .int .i64 0] 35 1; have xz := blk_lt W t1 t2 (.cells #[.int .i64 0, .int .i64 0] 35); have xb := (HF.out.more t1).z
      simp only [List.length_cons, List.length_nil] at xb
      generalize more ((more W t1).alloc (.cells #[.int .i64 0, .int .i64 0] 35)) t2 = U at *; generalize (more W t1).heap.size = bb at *; obtain ⟨z0, c00, f00, c01, f01, c02, f02, c03, f03, z1, c10, f10, c11, f11, z2, c20, f20, c21, f21⟩ := HU.out.xf1
      go_wp2_with (fail)
      refine bodyPost_ret (v := .tuple #[.agg #[.int .i64 0, .int .i64 0], .bool false]) (by simp [results, Tryz.results135, go_sem, c20, c21, z2, f20, f21, x0, x1, x0', x1', xz]) rfl (RetE.mkN HR'.out ?_)
      repeat (first | exact HU.out.b | refine stw ?_ (by omega))
    ·
      go_enter Tryz.func135, Tryz.ntmps135
      go_wp2_with (first | (go_at_call 171; ((with_reducible refine (more_first (CS.out _)).mono ?_); rintro e w' ⟨rfl, t, rfl⟩)) | (go_at_call 208; ((with_reducible refine (G1.out _).mono ?_); rintro e w' ⟨rfl, rfl⟩)))
      first | refine wp_region_more2 (by kernel_rfl) (by kernel_rfl) ?_ | refine wp_region_more (by kernel_rfl) (by kernel_rfl) ?_
      repeat (first | go_big_quiet_step (first | (go_at_call 208; exact more_same (G2.out _)) | (go_at_call 209; exact more_same (CT.out _))) | quiet_step (first | (go_at_call 208; exact more_same (G2.out _)) | (go_at_call 209; exact more_same (CT.out _))))
      refine wpQuiet_nil ?_
      intro _ hw'
      obtain ⟨tq, hw''⟩ := hw'; subst hw''
      go_wp2_with (fail)
      generalize hW : more _ tq = W
      have HF : Hid (Fr w W [[.int .i64 p, .int .i64 c, .int .i64 h, .int .i64 s], [.int .i64 xn, .int .i64 d], [.int .i64 0, .int .i64 0]]) := by rw [← hW]; exact HFr.out.more _
      clear hW
      refine wp_region_blk 16 15 13 _ _ (.cells #[.int .i64 0, .int .i64 0] 35) (by kernel_rfl) (by kernel_rfl) rfl rfl rfl (fun _ _ => by kernel_rfl) rfl (pure_extract _ _ _ _ rfl rfl) (fun _ _ _ _ h => h) (by kernel_rfl) ?_
      apply Exists.intro
      refine ⟨fun X hX => ?_, fun t1 t2 => ?_⟩
      ·
        have HX : Hid (Fr w X [[.int .i64 p, .int .i64 c, .int .i64 h, .int .i64 s], [.int .i64 xn, .int .i64 d], [.int .i64 0, .int .i64 0]]) := by obtain ⟨t0, rfl⟩ := hX; exact HF.out.more t0
        clear hX; obtain ⟨z0, c00, f00, c01, f01, c02, f02, c03, f03, z1, c10, f10, c11, f11, z2, c20, f20, c21, f21⟩ := HX.out.xf1
        simp only [List.take_succ_cons, List.take_zero]
        repeat (first | go_big_quiet_step (first | (go_at_call 208; exact more_same (G2.out _)) | (go_at_call 210; exact more_call (CF.out _))) | quiet_step (first | (go_at_call 208; exact more_same (G2.out _)) | (go_at_call 210; exact more_call (CF.out _))))
        exact wpQuiet_nil rfl
      simp only [List.drop_succ_cons, List.drop_zero, Act.put]
      have HU : Hid (Fr w (more ((more W t1).alloc (.cells #[.int .i64 0, .int .i64 0] 35)) t2) [[.int .i64 p, .int .i64 c, .int .i64 h, .int .i64 s], [.int .i64 xn, .int .i64 d], [.int .i64 0, .int .i64 0]]) := ((HF.out.more t1).alloc _).more t2; have x0 := blk_cell W t1 t2 #[.int .i64 0, .int .i64 0] 35 0 rfl; have x1 := blk_cell W t1 t2 #[.int .i64 0, .int .i64 0] 35 1 rfl; have x0' := blk_froz W t1 t2 #[.int .i64 0, .int .i64 0] 35 0; have x1' := blk_froz W t1 t2 #[.int .i64 0, .int .i64 0] 35 1; have xz := blk_lt W t1 t2 (.cells #[.int .i64 0, .int .i64 0] 35); have xb := (HF.out.more t1).z
      simp only [List.length_cons, List.length_nil] at xb
      generalize more ((more W t1).alloc (.cells #[.int .i64 0, .int .i64 0] 35)) t2 = U at *; generalize (more W t1).heap.size = bb at *; obtain ⟨z0, c00, f00, c01, f01, c02, f02, c03, f03, z1, c10, f10, c11, f11, z2, c20, f20, c21, f21⟩ := HU.out.xf1
      go_wp2_with (fail)
      refine bodyPost_ret (v := .tuple #[.agg #[.int .i64 0, .int .i64 0], .bool false]) (by simp [results, Tryz.results135, go_sem, c20, c21, z2, f20, f21, x0, x1, x0', x1', xz]) rfl (RetE.mkN HR'.out ?_)
      repeat (first | exact HU.out.b | refine stw ?_ (by omega))
 ·have hno:prodOk X K=false:=by simpa using hok
  have CT:=Lib.hid fun (W:World)=>l09Times_no X K W q3.1 q3.2 hkD (by omega) hno
  have HR:Hid (sclE (sq s) ⟨xn,d⟩ k=none):=by
   have:=fit_far (B:=sq s) (p:=X*K) (q:=Q) (D:=d) hq1 m4 m6 m5 (by have:=of_decide_eq_false hno;omega)
   unfold fitE at this;rw[m7]at this
   exact this
  clear hok hno m7
  rcases (show D=1∨1<D by omega) with rfl|h1D
  ·
   rw[Int.ediv_one]at hSD hK;subst hSD hK
   go_enter Tryz.func135,Tryz.ntmps135
   go_wp2_with (first|(go_at_call 171;((with_reducible refine (more_first (CS.out _)).mono ?_);rintro e w' ⟨rfl,t,rfl⟩))|(go_at_call 208;((with_reducible refine (G1.out _).mono ?_);rintro e w' ⟨rfl,rfl⟩)))
   first|refine wp_region_more2 (by kernel_rfl) (by kernel_rfl) ?_|refine wp_region_more (by kernel_rfl) (by kernel_rfl) ?_
   repeat (first|go_big_quiet_step (first|(go_at_call 208;exact more_same (G2.out _))|(go_at_call 209;exact more_same (CT.out _)))|quiet_step (first|(go_at_call 208;exact more_same (G2.out _))|(go_at_call 209;exact more_same (CT.out _))))
   refine wpQuiet_nil ?_
   intro _ hw'
   obtain⟨tq,hw''⟩:=hw';subst hw''
   go_wp2_with (fail)
   refine bodyPost_ret (v:=.tuple #[.agg #[.int .i64 0,.int .i64 0],.bool false]) (by simp[results,Tryz.results135,go_sem]) rfl (RetE.mkN HR.out ?_)
   repeat (first|exact HF0.out|refine blw ?_ (Nat.le_refl _)|refine alw ?_ (Nat.le_refl _)|refine stw ?_ (by omega)|refine drw ?_)
  ·
   go_enter Tryz.func135,Tryz.ntmps135
   go_wp2_with (first|(go_at_call 171;((with_reducible refine (more_first (CS.out _)).mono ?_);rintro e w' ⟨rfl,t,rfl⟩))|(go_at_call 208;((with_reducible refine (G1.out _).mono ?_);rintro e w' ⟨rfl,rfl⟩)))
   first|refine wp_region_more2 (by kernel_rfl) (by kernel_rfl) ?_|refine wp_region_more (by kernel_rfl) (by kernel_rfl) ?_
   repeat (first|go_big_quiet_step (first|(go_at_call 208;exact more_same (G2.out _))|(go_at_call 209;exact more_same (CT.out _)))|quiet_step (first|(go_at_call 208;exact more_same (G2.out _))|(go_at_call 209;exact more_same (CT.out _))))
   refine wpQuiet_nil ?_
   intro _ hw'
   obtain⟨tq,hw''⟩:=hw';subst hw''
   go_wp2_with (fail)
   refine bodyPost_ret (v:=.tuple #[.agg #[.int .i64 0,.int .i64 0],.bool false]) (by simp[results,Tryz.results135,go_sem]) rfl (RetE.mkN HR.out ?_)
   repeat (first|exact HF0.out|refine blw ?_ (Nat.le_refl _)|refine alw ?_ (Nat.le_refl _)|refine stw ?_ (by omega)|refine drw ?_)
end Go.Proofs.YtkaiilmgemaljaaGreat
/- Contracts of the reference's sum and multiple of exact numbers. There are no conditions. -/
namespace Go.Proofs.YtkaiilmgemaljaaGreat
open Go.RowKit Ps Ra Ex
theorem addE_far2 {B:Int} {x y:E} (hy:Val B y) (hd:x.depth<y.depth) (hB:1≤B) (hf:2*maxNum<x.num*pw B (y.depth-x.depth)∨x.num*pw B (y.depth-x.depth) < -(2*maxNum)):addE B x y=none:=by
 rw[addE_le (by omega)]
 obtain⟨h1,h2,_,h4,_⟩:=hy
 have hdv:B ∣ x.num*pw B (y.depth-x.depth):=by
  obtain⟨k,hk⟩:∃k,y.depth-x.depth=k+1:=⟨y.depth-x.depth-1,by omega⟩
  rw[hk,pw_succ,← Int.mul_assoc];exact Int.dvd_mul_left _ _
 have hn:¬B ∣ x.num*pw B (y.depth-x.depth)+y.num:=by
  intro h
  have:B ∣ y.num:=(Int.dvd_add_right hdv).1 h
  rcases h4 with h4|h4
  ·omega
  ·exact h4 this
 have hs:strip B y.depth (x.num*pw B (y.depth-x.depth)+y.num)=⟨_,y.depth⟩:=strip_of_low (.inr hn);rw[mk_strip hs,if_neg];rw[Bool.not_eq_true]
 apply valB_far
 omega
theorem far_abs {m o:Int} (ho:1≤o) (h:2000000000000000000 / o<(m.natAbs:Int)):2*maxNum<m*o∨m*o < -(2*maxNum):=by
 have h1:=(Int.ediv_lt_iff_lt_mul (by omega)).1 h
 have e:=maxNum_val
 rcases Int.le_total 0 m with h2|h2
 ·left;rw[show (m.natAbs:Int)=m by omega]at h1;omega
 ·right;rw[show (m.natAbs:Int) = -m by omega,Int.neg_mul]at h1;omega
theorem near_abs {m o:Int} (ho:1≤o) (h:(m.natAbs:Int)≤2000000000000000000 / o) : -2000000000000000000≤m*o∧m*o≤2000000000000000000:=by
 have h1:=Int.mul_le_of_le_ediv (by omega) h
 rcases Int.le_total 0 m with h2|h2
 ·have:0≤m*o:=Int.mul_nonneg h2 (by omega)
  rw[show (m.natAbs:Int)=m by omega]at h1;omega
 ·have:m*o≤0:=Int.mul_nonpos_of_nonpos_of_nonneg h2 (by omega)
  rw[show (m.natAbs:Int) = -m by omega,Int.neg_mul]at h1;omega
set_option maxHeartbeats 2000000 in
set_option maxRecDepth 10000 in
theorem l09Add_lt (p c h xn yn:Int) (s xd yd:Nat) (w:World) (hs1:1≤s) (hs6:s≤6) (hx:Val (sq s) ⟨xn,xd⟩) (hy:Val (sq s) ⟨yn,yd⟩) (hlt:(xd:Int)<yd):
  Calls Tryz.prog 136 #[.agg #[.int .i64 p,.int .i64 c,.int .i64 h,.int .i64 s],.agg #[.int .i64 xn,.int .i64 xd],.agg #[.int .i64 yn,.int .i64 yd]] w (RetE w (addE (sq s) ⟨xn,xd⟩ ⟨yn,yd⟩)):=by
 have hsw:Hid (addE (sq s) ⟨xn,xd⟩ ⟨yn,yd⟩=addE (sq s) ⟨xn,xd⟩ ⟨yn,yd⟩):=by first|rfl|exact addE_comm _ _ _
 obtain⟨hq1,hq36,_⟩:=sq_bd hs1 hs6;have hxd:xd<50:=depth_lt hq1 hx;have hyd:yd<50:=depth_lt hq1 hy;have hx1 : -1000000000000000000≤xn:=hx.1;have hx2:xn≤1000000000000000000:=hx.2.1;have hy1 : -1000000000000000000≤yn:=hy.1;have hy2:yn≤1000000000000000000:=hy.2.1;have px2:pw (sq s) xd≤1000000000000000:=hx.2.2.1;have py2:pw (sq s) yd≤1000000000000000:=hy.2.2.1
 have ph2:pw (sq s) yd≤1000000000000000:=by first|exact px2|exact py2
 have po2:pw (sq s) (yd-xd)≤1000000000000000:=Int.le_trans (pw_mono hq1 (by omega)) ph2
 have po1:=pw_pos hq1 (yd-xd)
 have C:=fun (W:World) (d:Nat) (hd:d≤1000)=>l09Scale_any p c h s d W hs1 hs6 hd
 have C1:Hid (∀W:World,Calls Tryz.prog 171 #[.agg #[.int .i64 p,.int .i64 c,.int .i64 h,.int .i64 s],.int .i64 yd] W fun e w'=>e = .returned (.tuple #[.int .i64 (pw (sq s) yd),.bool true])∧Below W.heap.size W w'):=fun W=>by
  have:=C W yd (by omega);rwa [(scl_ok ph2).1,(scl_ok ph2).2]at this
 have C2:Hid (∀W:World,Calls Tryz.prog 171 #[.agg #[.int .i64 p,.int .i64 c,.int .i64 h,.int .i64 s],.int .i64 ((yd:Int)-xd)] W fun e w'=>e = .returned (.tuple #[.int .i64 (pw (sq s) (yd-xd)),.bool true])∧Below W.heap.size W w'):=fun W=>by
  have:=C W (yd-xd) (by omega);rwa [(scl_ok po2).1,(scl_ok po2).2,show ((yd-xd:Nat):Int)=(yd:Int)-xd by omega]at this
 have C3:Hid (∀W:World,Calls Tryz.prog 171 #[.agg #[.int .i64 p,.int .i64 c,.int .i64 h,.int .i64 s],.int .i64 0] W fun e w'=>e = .returned (.tuple #[.int .i64 1,.bool true])∧Below W.heap.size W w'):=fun W=>by
  have:=C W 0 (by omega)
  have h1:pw (sq s) 0≤1000000000000000:=by rw[pw_zero];omega
  rw[(scl_ok h1).1,(scl_ok h1).2,pw_zero]at this
  exact this
 have HH:Hid (Val (sq s) ⟨yn,yd⟩):=by first|exact hx|exact hy
 have HF0:Hid (Below w.heap.size w ((((w.alloc (.cells #[.int .i64 p,.int .i64 c,.int .i64 h,.int .i64 s] 25)).alloc (.cells #[.int .i64 xn,.int .i64 xd] 35)).alloc (.cells #[.int .i64 yn,.int .i64 yd] 35)).alloc (.cells #[.int .i64 0,.int .i64 0] 35))):=alw (alw (alw ((Below.refl _ _).alloc (Nat.le_refl _) _) (Nat.le_refl _)) (Nat.le_refl _)) (Nat.le_refl _)
 have hO1:Hid (yd=xd→pw (sq s) (yd-xd)=1):=fun e=>by rw[e,Nat.sub_self,pw_zero]
 obtain⟨O,hO⟩:∃O,pw (sq s) (yd-xd)=O:=⟨_,rfl⟩;rw[hO]at po2 po1 C2 hO1;have HO:=Lib.hid hO;clear hx hy C hO
 by_cases hfar:2000000000000000000 / O<(xn.natAbs:Int)
 ·have hst:xd<yd:=by
   rcases Nat.lt_or_ge xd yd with h'|h'
   ·exact h'
   ·have:=hO1.out (by omega);rw[this]at hfar;omega
  have HR:Hid (addE (sq s) ⟨xn,xd⟩ ⟨yn,yd⟩=none):=hsw.out.trans (addE_far2 HH.out (by show xd<yd;exact hst) hq1 (by show 2*maxNum<xn*pw (sq s) (yd-xd)∨xn*pw (sq s) (yd-xd) < -(2*maxNum);rw[HO.out];exact far_abs po1 hfar))
  have d3:decide (2000000000000000000<yn)=false:=decide_eq_false (by omega)
  have d4:decide (2000000000000000000 < -yn)=false:=decide_eq_false (by omega)
  clear hst
  by_cases h0:xn < -xn
  ·have g1:2000000000000000000 / O < -xn:=by rw[show (xn.natAbs:Int) = -xn by omega]at hfar;exact hfar
   clear hfar
   rcases Int.lt_or_le yn (-yn) with hsy|hsy
   all_goals
    go_enter Tryz.func136,Tryz.ntmps136
    go_wp2_with (first|(go_at_call 171;first|((with_reducible refine (more_first (C1.out _)).mono ?_);rintro e w' ⟨rfl,t,rfl⟩)|((with_reducible refine (more_call (C2.out _)).mono ?_);rintro e w' ⟨rfl,t,rfl⟩)|((with_reducible refine (more_call (C3.out _)).mono ?_);rintro e w' ⟨rfl,t,rfl⟩)))
    first|refine wp_region_more2 (by kernel_rfl) (by kernel_rfl) ?_|refine wp_region_more (by kernel_rfl) (by kernel_rfl) ?_
    repeat (first|go_big_quiet_step (fail)|quiet_step (fail))
    refine wpQuiet_nil ?_
    intro _ hw'
    obtain⟨tq,hw''⟩:=hw';subst hw''
    go_wp2_with (fail)
    refine bodyPost_ret (v:=.tuple #[.agg #[.int .i64 0,.int .i64 0],.bool false]) (by simp[results,Tryz.results136,go_sem]) rfl (RetE.mkN HR.out ?_)
    exact stw (stw (blw HF0.out (Nat.le_refl _)) (by omega)) (by omega)
  ·replace h0 : -xn≤xn:=by omega
   have g1:2000000000000000000 / O<xn:=by rw[show (xn.natAbs:Int)=xn by omega]at hfar;exact hfar
   clear hfar
   rcases Int.lt_or_le yn (-yn) with hsy|hsy
   all_goals
    go_enter Tryz.func136,Tryz.ntmps136
    go_wp2_with (first|(go_at_call 171;first|((with_reducible refine (more_first (C1.out _)).mono ?_);rintro e w' ⟨rfl,t,rfl⟩)|((with_reducible refine (more_call (C2.out _)).mono ?_);rintro e w' ⟨rfl,t,rfl⟩)|((with_reducible refine (more_call (C3.out _)).mono ?_);rintro e w' ⟨rfl,t,rfl⟩)))
    first|refine wp_region_more2 (by kernel_rfl) (by kernel_rfl) ?_|refine wp_region_more (by kernel_rfl) (by kernel_rfl) ?_
    repeat (first|go_big_quiet_step (fail)|quiet_step (fail))
    refine wpQuiet_nil ?_
    intro _ hw'
    obtain⟨tq,hw''⟩:=hw';subst hw''
    go_wp2_with (fail)
    refine bodyPost_ret (v:=.tuple #[.agg #[.int .i64 0,.int .i64 0],.bool false]) (by simp[results,Tryz.results136,go_sem]) rfl (RetE.mkN HR.out ?_)
    exact stw (stw (blw HF0.out (Nat.le_refl _)) (by omega)) (by omega)
 ·have hnear:=near_abs (m:=xn) po1 (by omega)
  have hq0:0≤2000000000000000000 / O:=Int.ediv_nonneg (by omega) (by omega)
  have d1:decide (2000000000000000000 / O<xn)=false:=decide_eq_false (by omega)
  have d2:decide (2000000000000000000 / O < -xn)=false:=decide_eq_false (by omega)
  have d3:decide (2000000000000000000<yn)=false:=decide_eq_false (by omega)
  have d4:decide (2000000000000000000 < -yn)=false:=decide_eq_false (by omega)
  obtain⟨m,hm⟩:∃m,xn*O=m:=⟨_,rfl⟩;rw[hm]at hnear;obtain⟨hn1,hn2⟩:=hnear
  obtain⟨n,d,f,CF0,hmk⟩:=l09Fit_some p c h (m+yn) (pw (sq s) yd) s yd hs1 hs6 (by omega) (pw_pos hq1 yd) (by omega) (by omega) (by omega) (Int.dvd_refl _)
  have CF:=Lib.hid CF0
  have HR:Hid (addE (sq s) ⟨xn,xd⟩ ⟨yn,yd⟩=if f then some ⟨n,d⟩ else none):=by
   rw[Hid,hsw.out,← hmk,addE_le (by show xd≤yd;omega),Int.ediv_self (by have:=pw_pos hq1 yd;omega),Int.mul_one]
   show mk _ (xn*pw (sq s) (yd-xd)+yn) yd=_
   rw[HO.out,hm]
   all_goals rw[Int.add_comm]
  clear hmk CF0 hfar hq0
  cases f with
  | true =>
    have HR' : Hid (addE (sq s) ⟨xn, xd⟩ ⟨yn, yd⟩ = some ⟨n, d⟩) := HR.out; clear HR
    rcases Int.lt_or_le xn (-xn) with hsx | hsx <;> rcases Int.lt_or_le yn (-yn) with hsy | hsy
    all_goals
      go_enter Tryz.func136, Tryz.ntmps136
      go_wp2_with (first | (go_at_call 171; first | ((with_reducible refine (more_first (C1.out _)).mono ?_); rintro e w' ⟨rfl, t, rfl⟩) | ((with_reducible refine (more_call (C2.out _)).mono ?_); rintro e w' ⟨rfl, t, rfl⟩) | ((with_reducible refine (more_call (C3.out _)).mono ?_); rintro e w' ⟨rfl, t, rfl⟩)))
      first | refine wp_region_more2 (by kernel_rfl) (by kernel_rfl) ?_ | refine wp_region_more (by kernel_rfl) (by kernel_rfl) ?_
      repeat (first | go_big_quiet_step (fail) | quiet_step (fail))
      refine wpQuiet_nil ?_
      intro _ hw'
      obtain ⟨tq, hw''⟩ := hw'; subst hw''
      go_wp2_with (go_at_call 210; ((with_reducible refine (more_call (CF.out _)).mono ?_); rintro e w' ⟨rfl, t2, rfl⟩))
      refine bodyPost_ret (v := .tuple #[.agg #[.int .i64 n, .int .i64 d], .bool true]) (by simp [results, Tryz.results136, go_sem]) rfl (RetE.mkY HR'.out ?_)
      repeat (first | exact HF0.out | refine blw ?_ (Nat.le_refl _) | refine alw ?_ (Nat.le_refl _) | refine stw ?_ (by omega) | refine drw ?_)
  | false =>
    have HR' : Hid (addE (sq s) ⟨xn, xd⟩ ⟨yn, yd⟩ = none) := HR.out; clear HR
    rcases Int.lt_or_le xn (-xn) with hsx | hsx <;> rcases Int.lt_or_le yn (-yn) with hsy | hsy
    all_goals
      go_enter Tryz.func136, Tryz.ntmps136
      go_wp2_with (first | (go_at_call 171; first | ((with_reducible refine (more_first (C1.out _)).mono ?_); rintro e w' ⟨rfl, t, rfl⟩) | ((with_reducible refine (more_call (C2.out _)).mono ?_); rintro e w' ⟨rfl, t, rfl⟩) | ((with_reducible refine (more_call (C3.out _)).mono ?_); rintro e w' ⟨rfl, t, rfl⟩)))
      first | refine wp_region_more2 (by kernel_rfl) (by kernel_rfl) ?_ | refine wp_region_more (by kernel_rfl) (by kernel_rfl) ?_
      repeat (first | go_big_quiet_step (fail) | quiet_step (fail))
      refine wpQuiet_nil ?_
      intro _ hw'
      obtain ⟨tq, hw''⟩ := hw'; subst hw''
      go_wp2_with (go_at_call 210; ((with_reducible refine (more_call (CF.out _)).mono ?_); rintro e w' ⟨rfl, t2, rfl⟩))
      refine bodyPost_ret (v := .tuple #[.agg #[.int .i64 0, .int .i64 0], .bool false]) (by simp [results, Tryz.results136, go_sem]) rfl (RetE.mkN HR'.out ?_)
      repeat (first | exact HF0.out | refine blw ?_ (Nat.le_refl _) | refine alw ?_ (Nat.le_refl _) | refine stw ?_ (by omega) | refine drw ?_)
set_option maxHeartbeats 2000000 in
set_option maxRecDepth 10000 in
theorem l09Add_ge (p c h xn yn:Int) (s xd yd:Nat) (w:World) (hs1:1≤s) (hs6:s≤6) (hx:Val (sq s) ⟨xn,xd⟩) (hy:Val (sq s) ⟨yn,yd⟩) (hlt:(yd:Int)≤xd):
  Calls Tryz.prog 136 #[.agg #[.int .i64 p,.int .i64 c,.int .i64 h,.int .i64 s],.agg #[.int .i64 xn,.int .i64 xd],.agg #[.int .i64 yn,.int .i64 yd]] w (RetE w (addE (sq s) ⟨xn,xd⟩ ⟨yn,yd⟩)):=by
 have hsw:Hid (addE (sq s) ⟨xn,xd⟩ ⟨yn,yd⟩=addE (sq s) ⟨yn,yd⟩ ⟨xn,xd⟩):=by first|rfl|exact addE_comm _ _ _
 obtain⟨hq1,hq36,_⟩:=sq_bd hs1 hs6;have hxd:xd<50:=depth_lt hq1 hx;have hyd:yd<50:=depth_lt hq1 hy;have hx1 : -1000000000000000000≤xn:=hx.1;have hx2:xn≤1000000000000000000:=hx.2.1;have hy1 : -1000000000000000000≤yn:=hy.1;have hy2:yn≤1000000000000000000:=hy.2.1;have px2:pw (sq s) xd≤1000000000000000:=hx.2.2.1;have py2:pw (sq s) yd≤1000000000000000:=hy.2.2.1
 have ph2:pw (sq s) xd≤1000000000000000:=by first|exact px2|exact py2
 have po2:pw (sq s) (xd-yd)≤1000000000000000:=Int.le_trans (pw_mono hq1 (by omega)) ph2
 have po1:=pw_pos hq1 (xd-yd)
 have C:=fun (W:World) (d:Nat) (hd:d≤1000)=>l09Scale_any p c h s d W hs1 hs6 hd
 have C1:Hid (∀W:World,Calls Tryz.prog 171 #[.agg #[.int .i64 p,.int .i64 c,.int .i64 h,.int .i64 s],.int .i64 xd] W fun e w'=>e = .returned (.tuple #[.int .i64 (pw (sq s) xd),.bool true])∧Below W.heap.size W w'):=fun W=>by
  have:=C W xd (by omega);rwa [(scl_ok ph2).1,(scl_ok ph2).2]at this
 have C2:Hid (∀W:World,Calls Tryz.prog 171 #[.agg #[.int .i64 p,.int .i64 c,.int .i64 h,.int .i64 s],.int .i64 ((xd:Int)-yd)] W fun e w'=>e = .returned (.tuple #[.int .i64 (pw (sq s) (xd-yd)),.bool true])∧Below W.heap.size W w'):=fun W=>by
  have:=C W (xd-yd) (by omega);rwa [(scl_ok po2).1,(scl_ok po2).2,show ((xd-yd:Nat):Int)=(xd:Int)-yd by omega]at this
 have C3:Hid (∀W:World,Calls Tryz.prog 171 #[.agg #[.int .i64 p,.int .i64 c,.int .i64 h,.int .i64 s],.int .i64 0] W fun e w'=>e = .returned (.tuple #[.int .i64 1,.bool true])∧Below W.heap.size W w'):=fun W=>by
  have:=C W 0 (by omega)
  have h1:pw (sq s) 0≤1000000000000000:=by rw[pw_zero];omega
  rw[(scl_ok h1).1,(scl_ok h1).2,pw_zero]at this
  exact this
 have HH:Hid (Val (sq s) ⟨xn,xd⟩):=by first|exact hx|exact hy
 have HF0:Hid (Below w.heap.size w ((((w.alloc (.cells #[.int .i64 p,.int .i64 c,.int .i64 h,.int .i64 s] 25)).alloc (.cells #[.int .i64 xn,.int .i64 xd] 35)).alloc (.cells #[.int .i64 yn,.int .i64 yd] 35)).alloc (.cells #[.int .i64 0,.int .i64 0] 35))):=alw (alw (alw ((Below.refl _ _).alloc (Nat.le_refl _) _) (Nat.le_refl _)) (Nat.le_refl _)) (Nat.le_refl _)
 have hO1:Hid (xd=yd→pw (sq s) (xd-yd)=1):=fun e=>by rw[e,Nat.sub_self,pw_zero]
 obtain⟨O,hO⟩:∃O,pw (sq s) (xd-yd)=O:=⟨_,rfl⟩;rw[hO]at po2 po1 C2 hO1;have HO:=Lib.hid hO;clear hx hy C hO
 by_cases hfar:2000000000000000000 / O<(yn.natAbs:Int)
 ·have hst:yd<xd:=by
   rcases Nat.lt_or_ge yd xd with h'|h'
   ·exact h'
   ·have:=hO1.out (by omega);rw[this]at hfar;omega
  have HR:Hid (addE (sq s) ⟨xn,xd⟩ ⟨yn,yd⟩=none):=hsw.out.trans (addE_far2 HH.out (by show yd<xd;exact hst) hq1 (by show 2*maxNum<yn*pw (sq s) (xd-yd)∨yn*pw (sq s) (xd-yd) < -(2*maxNum);rw[HO.out];exact far_abs po1 hfar))
  have d3:decide (2000000000000000000<xn)=false:=decide_eq_false (by omega)
  have d4:decide (2000000000000000000 < -xn)=false:=decide_eq_false (by omega)
  clear hst
  by_cases h0:yn < -yn
  ·have g1:2000000000000000000 / O < -yn:=by rw[show (yn.natAbs:Int) = -yn by omega]at hfar;exact hfar
   clear hfar
   rcases Int.lt_or_le xn (-xn) with hsy|hsy
   all_goals
    go_enter Tryz.func136,Tryz.ntmps136
    go_wp2_with (first|(go_at_call 171;first|((with_reducible refine (more_first (C1.out _)).mono ?_);rintro e w' ⟨rfl,t,rfl⟩)|((with_reducible refine (more_call (C2.out _)).mono ?_);rintro e w' ⟨rfl,t,rfl⟩)|((with_reducible refine (more_call (C3.out _)).mono ?_);rintro e w' ⟨rfl,t,rfl⟩)))
    first|refine wp_region_more2 (by kernel_rfl) (by kernel_rfl) ?_|refine wp_region_more (by kernel_rfl) (by kernel_rfl) ?_
    repeat (first|go_big_quiet_step (fail)|quiet_step (fail))
    refine wpQuiet_nil ?_
    intro _ hw'
    obtain⟨tq,hw''⟩:=hw';subst hw''
    go_wp2_with (fail)
    refine bodyPost_ret (v:=.tuple #[.agg #[.int .i64 0,.int .i64 0],.bool false]) (by simp[results,Tryz.results136,go_sem]) rfl (RetE.mkN HR.out ?_)
    exact stw (stw (blw HF0.out (Nat.le_refl _)) (by omega)) (by omega)
  ·replace h0 : -yn≤yn:=by omega
   have g1:2000000000000000000 / O<yn:=by rw[show (yn.natAbs:Int)=yn by omega]at hfar;exact hfar
   clear hfar
   rcases Int.lt_or_le xn (-xn) with hsy|hsy
   all_goals
    go_enter Tryz.func136,Tryz.ntmps136
    go_wp2_with (first|(go_at_call 171;first|((with_reducible refine (more_first (C1.out _)).mono ?_);rintro e w' ⟨rfl,t,rfl⟩)|((with_reducible refine (more_call (C2.out _)).mono ?_);rintro e w' ⟨rfl,t,rfl⟩)|((with_reducible refine (more_call (C3.out _)).mono ?_);rintro e w' ⟨rfl,t,rfl⟩)))
    first|refine wp_region_more2 (by kernel_rfl) (by kernel_rfl) ?_|refine wp_region_more (by kernel_rfl) (by kernel_rfl) ?_
    repeat (first|go_big_quiet_step (fail)|quiet_step (fail))
    refine wpQuiet_nil ?_
    intro _ hw'
    obtain⟨tq,hw''⟩:=hw';subst hw''
    go_wp2_with (fail)
    refine bodyPost_ret (v:=.tuple #[.agg #[.int .i64 0,.int .i64 0],.bool false]) (by simp[results,Tryz.results136,go_sem]) rfl (RetE.mkN HR.out ?_)
    exact stw (stw (blw HF0.out (Nat.le_refl _)) (by omega)) (by omega)
 ·have hnear:=near_abs (m:=yn) po1 (by omega)
  have hq0:0≤2000000000000000000 / O:=Int.ediv_nonneg (by omega) (by omega)
  have d1:decide (2000000000000000000 / O<yn)=false:=decide_eq_false (by omega)
  have d2:decide (2000000000000000000 / O < -yn)=false:=decide_eq_false (by omega)
  have d3:decide (2000000000000000000<xn)=false:=decide_eq_false (by omega)
  have d4:decide (2000000000000000000 < -xn)=false:=decide_eq_false (by omega)
  obtain⟨m,hm⟩:∃m,yn*O=m:=⟨_,rfl⟩;rw[hm]at hnear;obtain⟨hn1,hn2⟩:=hnear
  obtain⟨n,d,f,CF0,hmk⟩:=l09Fit_some p c h (xn+m) (pw (sq s) xd) s xd hs1 hs6 (by omega) (pw_pos hq1 xd) (by omega) (by omega) (by omega) (Int.dvd_refl _)
  have CF:=Lib.hid CF0
  have HR:Hid (addE (sq s) ⟨xn,xd⟩ ⟨yn,yd⟩=if f then some ⟨n,d⟩ else none):=by
   rw[Hid,hsw.out,← hmk,addE_le (by show yd≤xd;omega),Int.ediv_self (by have:=pw_pos hq1 xd;omega),Int.mul_one]
   show mk _ (yn*pw (sq s) (xd-yd)+xn) xd=_
   rw[HO.out,hm]
   all_goals rw[Int.add_comm]
  clear hmk CF0 hfar hq0
  cases f with
  | true =>
    have HR' : Hid (addE (sq s) ⟨xn, xd⟩ ⟨yn, yd⟩ = some ⟨n, d⟩) := HR.out; clear HR
    rcases Int.lt_or_le xn (-xn) with hsx | hsx <;> rcases Int.lt_or_le yn (-yn) with hsy | hsy
    all_goals
      go_enter Tryz.func136, Tryz.ntmps136
      go_wp2_with (first | (go_at_call 171; first | ((with_reducible refine (more_first (C1.out _)).mono ?_); rintro e w' ⟨rfl, t, rfl⟩) | ((with_reducible refine (more_call (C2.out _)).mono ?_); rintro e w' ⟨rfl, t, rfl⟩) | ((with_reducible refine (more_call (C3.out _)).mono ?_); rintro e w' ⟨rfl, t, rfl⟩)))
      first | refine wp_region_more2 (by kernel_rfl) (by kernel_rfl) ?_ | refine wp_region_more (by kernel_rfl) (by kernel_rfl) ?_
      repeat (first | go_big_quiet_step (fail) | quiet_step (fail))
      refine wpQuiet_nil ?_
      intro _ hw'
      obtain ⟨tq, hw''⟩ := hw'; subst hw''
      go_wp2_with (go_at_call 210; ((with_reducible refine (more_call (CF.out _)).mono ?_); rintro e w' ⟨rfl, t2, rfl⟩))
      refine bodyPost_ret (v := .tuple #[.agg #[.int .i64 n, .int .i64 d], .bool true]) (by simp [results, Tryz.results136, go_sem]) rfl (RetE.mkY HR'.out ?_)
      repeat (first | exact HF0.out | refine blw ?_ (Nat.le_refl _) | refine alw ?_ (Nat.le_refl _) | refine stw ?_ (by omega) | refine drw ?_)
  | false =>
    have HR' : Hid (addE (sq s) ⟨xn, xd⟩ ⟨yn, yd⟩ = none) := HR.out; clear HR
    rcases Int.lt_or_le xn (-xn) with hsx | hsx <;> rcases Int.lt_or_le yn (-yn) with hsy | hsy
    all_goals
      go_enter Tryz.func136, Tryz.ntmps136
      go_wp2_with (first | (go_at_call 171; first | ((with_reducible refine (more_first (C1.out _)).mono ?_); rintro e w' ⟨rfl, t, rfl⟩) | ((with_reducible refine (more_call (C2.out _)).mono ?_); rintro e w' ⟨rfl, t, rfl⟩) | ((with_reducible refine (more_call (C3.out _)).mono ?_); rintro e w' ⟨rfl, t, rfl⟩)))
      first | refine wp_region_more2 (by kernel_rfl) (by kernel_rfl) ?_ | refine wp_region_more (by kernel_rfl) (by kernel_rfl) ?_
      repeat (first | go_big_quiet_step (fail) | quiet_step (fail))
      refine wpQuiet_nil ?_
      intro _ hw'
      obtain ⟨tq, hw''⟩ := hw'; subst hw''
      go_wp2_with (go_at_call 210; ((with_reducible refine (more_call (CF.out _)).mono ?_); rintro e w' ⟨rfl, t2, rfl⟩))
      refine bodyPost_ret (v := .tuple #[.agg #[.int .i64 0, .int .i64 0], .bool false]) (by simp [results, Tryz.results136, go_sem]) rfl (RetE.mkN HR'.out ?_)
      repeat (first | exact HF0.out | refine blw ?_ (Nat.le_refl _) | refine alw ?_ (Nat.le_refl _) | refine stw ?_ (by omega) | refine drw ?_)
theorem l09Add_any (p c h xn yn:Int) (s xd yd:Nat) (w:World) (hs1:1≤s) (hs6:s≤6) (hx:Val (sq s) ⟨xn,xd⟩) (hy:Val (sq s) ⟨yn,yd⟩):
  Calls Tryz.prog 136 #[.agg #[.int .i64 p,.int .i64 c,.int .i64 h,.int .i64 s],.agg #[.int .i64 xn,.int .i64 xd],.agg #[.int .i64 yn,.int .i64 yd]] w (RetE w (addE (sq s) ⟨xn,xd⟩ ⟨yn,yd⟩)):=by
 by_cases h':(xd:Int)<yd
 ·exact l09Add_lt p c h xn yn s xd yd w hs1 hs6 hx hy h'
 ·exact l09Add_ge p c h xn yn s xd yd w hs1 hs6 hx hy (by omega)
end Go.Proofs.YtkaiilmgemaljaaGreat

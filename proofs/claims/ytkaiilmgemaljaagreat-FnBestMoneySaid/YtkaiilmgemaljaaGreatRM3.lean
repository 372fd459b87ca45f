/- Part of one proof. There are no conditions. -/
import Derived.Test.YtkaiilmgemaljaaGreatRZp
import Derived.Test.YtkaiilmgemaljaaGreatRZa
set_option linter.unusedVariables false
set_option linter.unusedSimpArgs false
set_option maxHeartbeats 0
namespace Go.Proofs.YtkaiilmgemaljaaGreat.Mo
open Go.Proofs.YtkaiilmgemaljaaGreat.Ex Go.Proofs.YtkaiilmgemaljaaGreat.Ps Go.Proofs.YtkaiilmgemaljaaGreat.Ra
abbrev Cb:=Int×Int
def swp (c:Cb):Cb:=if c.2=1 then (c.1,2) else if c.2=2 then (c.1,1) else c
structure Ru where
 most:Int
 bv:Bool
def may (r:Ru) (c:Cb):Bool:=decide (c.2≠2/\2*c.1<=r.most)
def bvr (r:Ru) (c:Cb):Bool:=may r c&&r.bv&&decide (4*c.1<=r.most)
def rcn (r:Ru) (c:Cb):Bool:=may r c&&r.bv&&decide (8*c.1<=r.most)
def whl (n:Int):E:=⟨n,0⟩
abbrev RF:=List Int->List Int->Cb->Option E
section
variable (B:Int) (r:Ru) (R:RF) (own other:List Int) (c:Cb)
def bevG:Option (E×Bool):=(R own other (4*c.1,2)).bind fun x=>if rcn r c then (R own other (8*c.1,2)).map fun y=>if ltE B x y then (y,true) else (x,false) else some (x,false)
def dblG:Option (E×Int):=(R own other (2*c.1,2)).bind fun x=>
 if bvr r c then (bevG B r R own other c).map fun y=>
  if ltE B y.1 (if ltE B x (whl c.1) then x else whl c.1) then (y.1,if y.2 then 4 else 3) else (if ltE B x (whl c.1) then (x,1) else (whl c.1,2))
 else some (if ltE B x (whl c.1) then (x,1) else (whl c.1,2))
def eqG:Option E:=if own.sum=0 then some (whl c.1) else if other.sum=0 then some (whl (-c.1)) else
 (R own other c).bind fun x=>if may r c then (dblG B r R own other c).map fun y=>if ltE B x y.1 then y.1 else x else some x
end
theorem bevG_congr {B:Int} {r:Ru} {R R':RF} {own other:List Int} {c:Cb} (h:∀c,R own other c=R' own other c):bevG B r R own other c=bevG B r R' own other c:=by unfold bevG;rw[h,h]
theorem dblG_congr {B:Int} {r:Ru} {R R':RF} {own other:List Int} {c:Cb} (h:∀c,R own other c=R' own other c):dblG B r R own other c=dblG B r R' own other c:=by unfold dblG;rw[h,bevG_congr h]
theorem eqG_congr {B:Int} {r:Ru} {R R':RF} {own other:List Int} {c:Cb} (h:own.sum≠0->other.sum≠0->∀c,R own other c=R' own other c):eqG B r R own other c=eqG B r R' own other c:=by
 unfold eqG
 by_cases h0:own.sum=0
 ·rw[if_pos h0,if_pos h0]
 ·rw[if_neg h0,if_neg h0]
  by_cases h1:other.sum=0
  ·rw[if_pos h1,if_pos h1]
  ·rw[if_neg h1,if_neg h1,h h0 h1,dblG_congr (h h0 h1)]
noncomputable def rolF (s:Nat) (r:Ru):Nat->RF
 | 0=>fun _ _ _=>none
 | f+1=>fun own other c=>(allS (fun ro=>(bestS (sq s) (fun q=>(eqG (sq s) r (rolF s r f) other q (swp c)).map negE) (resultsL own ro.1 ro.2)).map fun t=>t.2.2) (ad s)).bind (meanE (sq s) (ad s))
theorem rolF_fuel {h c s:Nat} {r:Ru}:∀(f g:Nat) {own other:List Int} (cb:Cb),PosP h c own->PosP h c other->own.sum≠0->pips own+pips other<f->pips own+pips other<g->rolF s r f own other cb=rolF s r g own other cb
 | 0,_,own,other,cb,ho,ht,_,h1,_=>by have:=aC ho.2.1;have:=aC ht.2.1;omega
 | _+1,0,own,other,cb,ho,ht,_,_,h2=>by have:=aC ho.2.1;have:=aC ht.2.1;omega
 | f + 1, g + 1, own, other, cb, ho, ht, h0, h1, h2 => by
   unfold rolF
   congr 1
   refine jR fun ro hr => ?_
   obtain ⟨r1, r2, r3⟩ := bJ.1 hr
   congr 1
   refine jg fun q hq => ?_
   obtain ⟨q1, q2, q3⟩ := aN (by omega) r1 ho q hq
   have := q3 h0
   congr 1
   exact eqG_congr fun k0 k1 cc => rolF_fuel f g cc ht q1 k0 (by omega) (by omega)
noncomputable def rol (s:Nat) (r:Ru):RF:=fun own other c=>rolF s r (fuel own other) own other c
noncomputable def eqv (s:Nat) (r:Ru) (own other:List Int) (c:Cb):Option E:=eqG (sq s) r (rol s r) own other c
noncomputable def neqv (s:Nat) (r:Ru) (other:List Int) (c:Cb) (q:List Int):Option E:=(eqv s r other q (swp c)).map negE
noncomputable def mbest (s:Nat) (r:Ru) (own other:List Int) (c:Cb) (ro:Nat×Nat):Option (Nat×Nat×E):=bestS (sq s) (neqv s r other c) (resultsL own ro.1 ro.2)
noncomputable def mroll (s:Nat) (r:Ru) (own other:List Int) (c:Cb) (ro:Nat×Nat):Option E:=(mbest s r own other c ro).map fun t=>t.2.2
theorem rol_eq {h c s:Nat} {r:Ru} {own other:List Int} (cb:Cb) (ho:PosP h c own) (ht:PosP h c other) (h0:own.sum≠0):
  rol s r own other cb=(allS (mroll s r own other cb) (ad s)).bind (meanE (sq s) (ad s)):=by
 have hp:=aC ho.2.1;have hq:=aC ht.2.1;unfold rol fuel rolF
 congr 1
 refine jR fun ro hr=>?_
 obtain⟨r1,r2,r3⟩:=bJ.1 hr;unfold mroll mbest
 congr 1
 refine jg fun q hq=>?_
 obtain⟨q1,q2,q3⟩:=aN (by omega) r1 ho q hq
 have:=q3 h0;have:=aC q1.2.1;unfold neqv eqv
 congr 1
 refine eqG_congr fun k0 k1 cc=>?_
 unfold rol
 exact rolF_fuel _ (fuel other q) cc ht q1 k0 (by omega) (by unfold fuel;omega)
def two (k:Nat):Int:=2 ^ k
theorem de (k:Nat):two (k+1)=2*two k:=by unfold two;rw[Int.pow_succ,Int.mul_comm]
theorem dr (k:Nat):1<=two k:=by
 induction k with
 | zero=>decide
 | succ k ih=>rw[de];omega
theorem bP {a b:Nat} (h:a<=b):two a<=two b:=by
 induction b with
 | zero => obtain rfl : a = 0 := by omega
           exact Int.le_refl _
 | succ b ih =>
   have := dr b
   by_cases e : a <= b
   · have := ih e; rw [de]; omega
   · obtain rfl : a = b + 1 := by omega
     exact Int.le_refl _
def CbOk (K:Nat) (c:Cb):Prop:=∃k,k<=K/\c.1=two k/\((k=0/\c.2=0)\/(1<=k/\(c.2=1\/c.2=2)))
theorem CbOk.swp {K:Nat} {c:Cb} (h:CbOk K c):CbOk K (swp c):=by
 obtain⟨k,h1,h2,h3⟩:=h;unfold Mo.swp
 rcases h3 with⟨h3,h4⟩|⟨h3,h4|h4⟩
 ·rw[if_neg (by omega),if_neg (by omega)];exact⟨k,h1,h2,.inl ⟨h3,h4⟩⟩
 ·rw[if_pos h4];exact⟨k,h1,h2,.inr ⟨h3,.inr rfl⟩⟩
 ·rw[if_neg (by omega),if_pos h4];exact⟨k,h1,h2,.inr ⟨h3,.inl rfl⟩⟩
theorem CbOk.up {K j:Nat} {c:Cb} (h:CbOk K c) (hj:1<=j) (hm:two j*c.1<=two K):CbOk K (two j*c.1,2):=by
 obtain⟨k,h1,h2,_⟩:=h
 have e:two j*c.1=two (k+j):=by rw[h2];unfold two;rw[Int.pow_add,Int.mul_comm]
 refine⟨k+j,?_,e,.inr ⟨by omega,.inr rfl⟩⟩
 rw[e]at hm
 apply Classical.byContradiction
 intro hn
 have:=bP (show K+1<=k+j by omega)
 have:=dr K;rw[de]at *
 omega
theorem CbOk.v0 {K:Nat} {c:Cb} (h:CbOk K c):1<=c.1/\c.1<=two K/\0<=c.2/\c.2<=2:=by
 obtain⟨k,h1,h2,h3⟩:=h;have:=bP h1;have:=dr k
 omega
theorem whl_val {B:Int} {n:Int} (h1 : -aA<=n) (h2:n<=aA):Val B (whl n):=⟨h1,h2,by show (1:Int)<=bL;decide,.inl rfl,fun _=>rfl⟩
end Go.Proofs.YtkaiilmgemaljaaGreat.Mo
namespace Go.Proofs.YtkaiilmgemaljaaGreat
open Go.RowKit Mo
def pwU (x m:Int):Bool:=(List.range 11).any fun k=>decide (x=two k/\two k<=m)
theorem cG {x m:Int}:pwU x m=true↔∃k,k<=10/\x=two k/\two k<=m:=by
 unfold pwU;rw[List.any_eq_true]
 constructor
 ·rintro⟨k,h1,h2⟩
  exact⟨k,by have:=List.mem_range.1 h1;omega,of_decide_eq_true h2⟩
 ·rintro⟨k,h1,h2⟩
  exact⟨k,List.mem_range.2 (by omega),decide_eq_true h2⟩
theorem gU {k:Nat} (h:k<=10):1<=two k/\two k<=1024:=⟨dr k,bP (b:=10) h⟩
theorem pwU_bd {x m:Int} (h:pwU x m=true):1<=x/\x<=m/\x<=1024:=by
 obtain⟨k,h1,h2,h3⟩:=cG.1 h;have:=gU h1
 omega
def andZ (x:Int):Int:=bits .and .i64 x (x-1)
theorem andZ_all:(List.range 1024).all (fun n=>decide ((andZ (n+1:Nat)=0)↔pwU (n+1:Nat) 1024=true))=true:=by decide +kernel
theorem andZ_pw {x:Int} (h1:1<=x) (h2:x<=1024):andZ x=0↔pwU x 1024=true:=by
 have h:=List.all_eq_true.1 andZ_all (x.toNat-1) (List.mem_range.2 (by omega))
 have e:((x.toNat-1+1:Nat):Int)=x:=by omega
 have h':=of_decide_eq_true h;rw[e]at h'
 exact h'
theorem pwU_le {x m:Int} (h1:1<=x) (h2:x<=m) (h3:m<=1024):pwU x m=pwU x 1024:=by
 rw[Bool.eq_iff_iff,cG,cG]
 constructor
 ·rintro⟨k,a,b,c⟩;exact⟨k,a,b,by omega⟩
 ·rintro⟨k,a,b,c⟩;exact⟨k,a,b,by omega⟩
theorem pwU_out {x m:Int} (h:¬(1<=x/\x<=m)):pwU x m=false:=by
 cases hp:pwU x m with
 | false=>rfl
 | true=>exact absurd (pwU_bd hp) (by omega)
theorem powerUpTo_any (x m:Int) (w:World) (hm:m<=1024):
  Calls Tryz.prog 199 #[.int .i64 x,.int .i64 m] w fun e w'=>e = .returned (.bool (pwU x m))/\w=w':=by
 by_cases hb:1<=x/\x<=m
 focus
  obtain⟨h1,h2⟩:=hb
  have e1:=aS (x:=x) (lo:=1) (hi:=m) ⟨h1,h2⟩
  have hx4:x<=1024:=by omega
  have hz:=andZ_pw h1 hx4;have hle:=pwU_le h1 h2 hm
  by_cases hp:pwU x 1024=true
  focus
   have ez:(bits .and .i64 x (x-1) == 0)=true:=by
    have:bits .and .i64 x (x-1)=0:=hz.2 hp
    rw[this];rfl
   have H:Hid (pwU x m=true):=by unfold Hid;rw[hle,hp]
   clear hz hle hp
   refine ?zb
  rotate_left
  focus
   have hp':pwU x 1024=false:=by simpa using hp
   have ez:(bits .and .i64 x (x-1) == 0)=false:=by
    have:bits .and .i64 x (x-1)≠0:=fun h=>hp (hz.1 h)
    simpa using this
   have H:Hid (pwU x m=false):=by unfold Hid;rw[hle,hp']
   clear hz hle hp hp'
   refine ?za
 rotate_left 2
 focus
  have e1:=bF hb
  have H:=h_ (pwU_out hb);clear hb
  refine ?zc
 rotate_left
 case za|zb|zc=>
  go_enter Tryz.func199,Tryz.ntmps199
  go_wp2_with (go_at_call 116;refine (within_any _ _ _ _).mono ?_;rintro e w' ⟨rfl,rfl⟩)
  go_ret
  exact⟨by rw[H.out]<;>rfl,rfl⟩
theorem l16Power_any (x m:Int) (w:World) (hm:m<=1024):
  Calls Tryz.prog 230 #[.int .i64 x,.int .i64 m] w fun e w'=>e = .returned (.bool (pwU x m))/\w=w':=by
 have HT:Hid (∀k,two (k+1)=2*two k):=de
 have HB:Hid (∀k,k<=10->1<=two k/\two k<=1024):=fun k h=>gU h
 have H11:Hid (two 11=2048):=rfl
 go_enter Tryz.func230,Tryz.ntmps230
 go_wp2
 go_loop [5] (fun v5=>∃(k:Nat) (p:Int),k<=11/\v5 = .int .i64 p/\Hid (p=two k)/\Hid (∀j,j<k->x≠two j)) (fun v5=>(2048-intOf v5).toNat)
 case atStart=>exact⟨0,1,by omega,rfl,rfl,fun j h=>absurd h (by omega)⟩
 case round=>
  obtain⟨k,p,hk,rfl,hp,hj⟩:=hrel
  have hp0:1<=p:=by rw[hp.out];exact dr k
  by_cases h11:k=11
  ·have hp2:p=2048:=by rw[hp.out,h11];exact H11.out
   have H:Hid (pwU x m=false):=by
    unfold Hid
    cases h:pwU x m with
    | false=>rfl
    | true =>
      obtain ⟨j, a, b, c⟩ := cG.1 h
      exact absurd b (hj.out j (by omega))
   have hlt:¬p<=m:=by omega
   clear hp2 hp
   go_wp2
   go_ret
   exact⟨by rw[H.out]<;>rfl,rfl⟩
  ·have hb:=HB.out k (by omega)
   rw[<- hp.out]at hb
   by_cases hle:p<=m
   ·by_cases hx:p=x
    ·subst hx
     have H:Hid (pwU p m=true):=cG.2 ⟨k,by omega,hp.out,by rw[<- hp.out];exact hle⟩
     go_wp2
     go_ret
     exact⟨by rw[H.out]<;>rfl,rfl⟩
    ·have bx:(p == x)=false:=by simpa using hx
     have HX:Hid (x≠p):=Ne.symm hx;clear hx
     go_wp2
     go_round
     case rel=>exact⟨k+1,2*p,by omega,rfl,by unfold Hid;rw[HT.out,hp.out],fun j hjk=>by
      by_cases e:j=k
      ·rw[e,<- hp.out];exact HX.out
      ·exact hj.out j (by omega)⟩
     case measure=>simp[intOf];omega
   ·have H:Hid (pwU x m=false):=by
     unfold Hid
     cases h:pwU x m with
     | false=>rfl
     | true =>
       obtain ⟨j, a, b, c⟩ := cG.1 h
       have hjk : ¬ j < k := fun h => hj.out j h b
       have := bP (show k <= j by omega)
       rw [<- hp.out] at this
       omega
    go_wp2
    go_ret
    exact⟨by rw[H.out]<;>rfl,rfl⟩
def rulB (m:Int):Bool:=pwU m 1024
theorem rulB_bd {m:Int} (h:rulB m=true):1<=m/\m<=1024:=by have:=pwU_bd h;omega
def cubB (m v o:Int):Bool:=rulB m&&pwU v m&&(if v=1 then decide (o=0) else decide (1<=o/\o<=2))
theorem IsCubeRules_any (m:Int) (b j:Bool) (w:World):
  Calls Tryz.prog 186 #[.agg #[.int .i64 m,.bool b,.bool j]] w fun e w'=>e = .returned (.bool (rulB m))/\Below w.heap.size w w':=by
 go_enter Tryz.func186,Tryz.ntmps186
 go_wp2_with (go_at_call 199;refine (powerUpTo_any _ _ _ (by omega)).mono ?_;rintro e w' ⟨rfl,rfl⟩)
 go_ret
 exact⟨rfl,(Below.refl _ _).alloc (Nat.le_refl _) _⟩
theorem sIsCubeRules_any (m:Int) (b j:Bool) (w:World):
  Calls Tryz.prog 188 #[.agg #[.int .i64 m,.bool b,.bool j]] w fun e w'=>e = .returned (.bool (rulB m))/\Below w.heap.size w w':=by
 go_enter Tryz.func188,Tryz.ntmps188
 go_wp2_with (go_at_call 230;refine (l16Power_any _ _ _ (by omega)).mono ?_;rintro e w' ⟨rfl,rfl⟩)
 go_ret
 exact⟨rfl,(Below.refl _ _).alloc (Nat.le_refl _) _⟩
theorem cubB_no1 {m v o:Int} (h:rulB m=false):cubB m v o=false:=by unfold cubB;rw[h];rfl
theorem cubB_no2 {m v o:Int} (h:pwU v m=false):cubB m v o=false:=by unfold cubB;rw[h];cases rulB m<;>rfl
theorem cubB_at {m v o:Int} (h1:rulB m=true) (h2:pwU v m=true):cubB m v o=if v=1 then decide (o=0) else decide (1<=o/\o<=2):=by unfold cubB;rw[h1,h2];rfl
theorem jU (m:Int) (b j:Bool) (v o:Int) (w:World):
  Calls Tryz.prog 119 #[.agg #[.int .i64 m,.bool b,.bool j],.agg #[.int .i64 v,.int .i64 o]] w fun e w'=>e = .returned (.bool (cubB m v o))/\Below w.heap.size w w':=by
 have HB:Hid (Below w.heap.size w ((w.alloc (.cells #[.int .i64 m,.bool b,.bool j] 53)).alloc (.cells #[.int .i64 v,.int .i64 o] 55))):=((Below.refl _ _).alloc (Nat.le_refl _) _).alloc (by simp) _
 by_cases h1:rulB m=true
 focus
  have hm:=rulB_bd h1
  by_cases h2:pwU v m=true
  focus
   have hc:=cubB_at (o:=o) h1 h2
   by_cases hv:v=1
   focus
    have bv:(v == 1)=true:=by simp[hv]
    rw[if_pos hv]at hc
    have H:Hid (cubB m v o=(o == 0)):=by unfold Hid;rw[hc];rfl
    clear hv hc
    refine ?za
   rotate_left
   focus
    have bv:(v == 1)=false:=by simp[hv]
    rw[if_neg hv]at hc;have H:Hid (cubB m v o=inB o 1 2):=hc;clear hv hc
    refine ?zb
  rotate_left 2
  focus
   replace h2:pwU v m=false:=by simpa using h2
   have H:=h_ (cubB_no2 (o:=o) h2)
   refine ?zc
 rotate_left 3
 focus
  replace h1:rulB m=false:=by simpa using h1
  have H:=h_ (cubB_no1 (v:=v) (o:=o) h1)
  refine ?zd
 rotate_left
 case za|zb|zc|zd=>
  go_enter Tryz.func119,Tryz.ntmps119
  go_wp2_with (first|(go_at_call 186;refine (more_first (IsCubeRules_any _ _ _ _)).mono ?_;rintro e w' ⟨rfl,t,rfl⟩)|(go_at_call 199;refine (powerUpTo_any _ _ _ (by omega)).mono ?_;rintro e w' ⟨rfl,rfl⟩)|(go_at_call 116;refine (within_any _ _ _ _).mono ?_;rintro e w' ⟨rfl,rfl⟩))
  go_ret
  exact⟨by rw[H.out]<;>rfl,HB.out.trans ((aa _ _).mono HB.out.size)⟩
theorem iN (m:Int) (b j:Bool) (v o:Int) (w:World):
  Calls Tryz.prog 189 #[.agg #[.int .i64 m,.bool b,.bool j],.agg #[.int .i64 v,.int .i64 o]] w fun e w'=>e = .returned (.bool (cubB m v o))/\Below w.heap.size w w':=by
 have HB:Hid (Below w.heap.size w ((w.alloc (.cells #[.int .i64 m,.bool b,.bool j] 53)).alloc (.cells #[.int .i64 v,.int .i64 o] 55))):=((Below.refl _ _).alloc (Nat.le_refl _) _).alloc (by simp) _
 by_cases h1:rulB m=true
 focus
  have hm:=rulB_bd h1
  by_cases h2:pwU v m=true
  focus
   have hc:=cubB_at (o:=o) h1 h2
   by_cases hv:v=1
   focus
    have bv:(v == 1)=true:=by simp[hv]
    rw[if_pos hv]at hc
    have H:Hid (cubB m v o=(o == 0)):=by unfold Hid;rw[hc];rfl
    clear hv hc
    refine ?za
   rotate_left
   focus
    have bv:(v == 1)=false:=by simp[hv]
    rw[if_neg hv]at hc
    by_cases ho:o=1
    focus
     have H:Hid (cubB m v o=true):=by unfold Hid;rw[hc];exact decide_eq_true (by omega)
     have bo:(o == 1)=true:=by simp[ho]
     clear hv hc ho
     refine ?zb
    rotate_left
    focus
     have H:Hid (cubB m v o=(o == 2)):=by
      unfold Hid;rw[hc]
      by_cases h:o=2
      ·simp[h]
      ·have:(o == 2)=false:=by simpa using h
       rw[this];exact decide_eq_false (by omega)
     have bo:(o == 1)=false:=by simp[ho]
     clear hv hc ho
     refine ?zc
  rotate_left 3
  focus
   replace h2:pwU v m=false:=by simpa using h2
   have H:=h_ (cubB_no2 (o:=o) h2)
   refine ?zd
 rotate_left 4
 focus
  replace h1:rulB m=false:=by simpa using h1
  have H:=h_ (cubB_no1 (v:=v) (o:=o) h1)
  refine ?ze
 rotate_left
 case za|zb|zc|zd|ze=>
  go_enter Tryz.func189,Tryz.ntmps189
  go_wp2_with (first|(go_at_call 188;refine (more_first (sIsCubeRules_any _ _ _ _)).mono ?_;rintro e w' ⟨rfl,t,rfl⟩)|(go_at_call 230;refine (l16Power_any _ _ _ (by omega)).mono ?_;rintro e w' ⟨rfl,rfl⟩))
  go_ret
  exact⟨by rw[H.out]<;>rfl,HB.out.trans ((aa _ _).mono HB.out.size)⟩
theorem dh {m:Int} (h:rulB m=true):∃K,K<=10/\m=two K:=by
 obtain⟨k,h1,h2,_⟩:=cG.1 h
 exact⟨k,h1,h2⟩
theorem gN {K:Nat} {v o:Int} (h:cubB (two K) v o=true):CbOk K (v,o):=by
 unfold cubB at h
 simp only[Bool.and_eq_true]at h
 obtain⟨⟨_,h2⟩,h3⟩:=h;obtain⟨k,a,b,c⟩:=cG.1 h2
 have hk:k<=K:=by
  apply Classical.byContradiction
  intro hn
  have:=bP (show K+1<=k by omega)
  have:=dr K;rw[de]at *
  omega
 refine⟨k,hk,b,?_⟩
 by_cases k0:k=0
 ·subst k0
  have:v=1:=b;rw[if_pos this]at h3
  exact .inl ⟨rfl,of_decide_eq_true h3⟩
 ·have:v≠1:=by
   have:=bP (show 1<=k by omega)
   have e:two 1=2:=rfl
   omega
  rw[if_neg this]at h3;have:=of_decide_eq_true h3
  exact .inr ⟨by omega,by show o=1\/o=2;omega⟩
end Go.Proofs.YtkaiilmgemaljaaGreat

/- Contract of the program's test of a database's form, where it has the right form. There are no conditions beyond those that it states. -/
import Derived.Test.YtkaiilmgemaljaaGreatPR9
import Derived.Test.YtkaiilmgemaljaaGreatPR12
import Derived.Test.YtkaiilmgemaljaaGreatPR8
import Derived.Test.YtkaiilmgemaljaaGreatPZn
set_option linter.unusedVariables false
set_option linter.unusedSimpArgs false
namespace Go.Proofs.YtkaiilmgemaljaaGreat
open Go.RowKit Ps Ra Ex
set_option maxRecDepth 100000 in
set_option maxHeartbeats 4000000 in
theorem IsDatabase_yes (p kk:Int) (c h s n cv:Nat) (A:Option Addr) (xs:List E) (w:World) (hv:isVar p c h s=true) (hk:kk=1∨kk=2) (hok:dbOk h c kk) (hn:dbN h c kk=n) (hx:EL (fun _=>False) w A n xs) (hval:∀x∈xs,Val (sq s) x):
  Calls Tryz.prog 155 #[.agg #[.int .i64 p,.int .i64 c,.int .i64 h,.int .i64 s,.int .i64 kk,.slice A n cv]] w fun e w'=>e = .returned (.bool true)∧Below w.heap.size w w':=by
 have hvv:=isVar_yes hv
 have hs1:1≤s:=by omega
 have hs6:s≤6:=by omega
 have hn25:n≤2500:=by rw[← hn];exact hok.2
 have HF0:Hid (FrS (fun _=>False) w (w.alloc (.cells #[.int .i64 p,.int .i64 c,.int .i64 h,.int .i64 s,.int .i64 kk,.slice A n cv] 85)) [[.int .i64 p,.int .i64 c,.int .i64 h,.int .i64 s,.int .i64 kk,.slice A n cv]]):=(FrS.start w (fun _ h=>h.elim)).allocT (by simp) _ _
 have CV:Hid (∀W:World,Calls Tryz.prog 145 #[.agg #[.int .i64 p,.int .i64 c,.int .i64 h,.int .i64 s]] W fun e w'=>e = .returned (.bool true)∧Below W.heap.size W w'):=fun W=>by have:=IsVariant_any p c h s W;rwa [hv]at this
 have CE:Hid (∀W:World,Calls Tryz.prog 146 #[.agg #[.int .i64 p,.int .i64 c,.int .i64 h,.int .i64 s],.int .i64 kk] W fun e w'=>e = .returned (.tuple #[.int .i64 (n:Int),.bool true])∧Below W.heap.size W w'):=fun W=>(entryCount_any p kk c h s W hv hk).mono fun e w' hh=>⟨hh.1.elim (fun h1=>by rw[← hn];exact h1.2) fun h1=>absurd hok h1.1,hh.2⟩
 have HX:=Lib.hid hx
 have CX:Hid (∀(m:Int) (d:Nat) (W:World),Val (sq s) ⟨m,d⟩→Calls Tryz.prog 215 #[.agg #[.int .i64 p,.int .i64 c,.int .i64 h,.int .i64 s],.agg #[.int .i64 m,.int .i64 (d:Int)]] W fun e w'=>e = .returned (.bool true)∧Below W.heap.size W w'):=fun m d W hm=>by
  have:=isExact_any p c h m s d W hs1 hs6 (by have:=depth_lt (sq_bd hs1 hs6).1 hm;simp only at this;omega)
  rwa [valB_yes.2 hm]at this
 have HVL:=Lib.hid hval;clear hv hvv hok hn hx hval
 go_enter Tryz.func155,Tryz.ntmps155
 obtain⟨z0,c00,f00,c01,f01,c02,f02,c03,f03,c04,f04,c05,f05⟩:=HF0.out.xf7
 have bk:(kk != 1)=true→(kk != 2)=false:=fun h1=>by rcases hk with rfl|rfl<;>first|rfl|cases h1
 rcases hk with rfl|rfl
 ·have b0:((1:Int) != 1)=false:=rfl
  clear bk
  go_wp2_with (fail)
  clear z0 c00 f00 c01 f01 c02 f02 c03 f03 c04 f04 c05 f05
  refine (CV.out _).mono ?_
  rintro e w1 ⟨rfl,hb⟩
  have HF1:=Lib.hid (HF0.out.below hb);clear hb HF0;obtain⟨z0,c00,f00,c01,f01,c02,f02,c03,f03,c04,f04,c05,f05⟩:=HF1.out.xf7
  go_wp2_with (fail)
  clear z0 c00 f00 c01 f01 c02 f02 c03 f03 c04 f04 c05 f05
  refine (CE.out _).mono ?_
  rintro e w2 ⟨rfl,hb⟩
  have HF2:=Lib.hid (HF1.out.below hb);clear hb HF1;obtain⟨z0,c00,f00,c01,f01,c02,f02,c03,f03,c04,f04,c05,f05⟩:=HF2.out.xf7
  go_wp2_with (fail)
  clear z0 c00 f00 c01 f01 c02 f02 c03 f03 c04 f04 c05 f05
  go_loopw [41] (fun v41 wr=>∃k:Nat,k≤n∧v41 = .int .i64 k∧Hid (FrS (fun _=>False) w wr [[.int .i64 p,.int .i64 c,.int .i64 h,.int .i64 s,.int .i64 1,.slice A n cv]])) (fun v41 _=>n-(intOf v41).toNat)
  case atStart=>exact⟨0,by omega,rfl,HF2.out⟩
  case round=>
   clear HF2;obtain⟨k,hk,rfl,HF⟩:=hrel
   by_cases hlt:k<n
   ·have hki:(k:Int)<(n:Int):=by omega
    have hel:=HX.out.frm HF.out.f;obtain⟨b,off,hA,hbl,q1,q2⟩:=hel.at hlt;subst hA
    have hm:=HVL.out _ (getD_mem' xs ⟨0,0⟩ (k:=k) (by rw[hel.1];exact hlt))
    rcases hab:xs.getD k ⟨0,0⟩with⟨m,d⟩
    rw[hab]at q1 q2 hm
    simp only at q1 q2
    have CX2:=Lib.hid fun (W:World)=>CX.out m d W hm
    have HFa:=Lib.hid (HF.out.alloc (.cells #[.int .i64 m,.int .i64 (d:Int)] 35));clear hab hm hel;obtain⟨z0,c00,f00,c01,f01,c02,f02,c03,f03,c04,f04,c05,f05⟩:=HF.out.xf7
    go_wp2_with (fail)
    clear z0 c00 f00 c01 f01 c02 f02 c03 f03 c04 f04 c05 f05
    refine (CX2.out _).mono ?_
    rintro e w3 ⟨rfl,hb⟩
    have HF3:=Lib.hid (HFa.out.below hb);clear hb HF HFa
    go_wp2_with (fail)
    go_roundw
    case rel=>exact⟨k+1,by omega,by go_num,HF3.out⟩
    case measure=>(simp[intOf])<;>omega
   ·have hke:k=n:=by omega
    go_wp2_with (fail)
    go_ret
    exact⟨rfl,HF.out.belowW⟩
 ·have b0:((2:Int) != 1)=true:=rfl
  have b1:((2:Int) != 2)=false:=rfl;clear bk
  go_wp2_with (fail)
  clear z0 c00 f00 c01 f01 c02 f02 c03 f03 c04 f04 c05 f05
  refine (CV.out _).mono ?_
  rintro e w1 ⟨rfl,hb⟩
  have HF1:=Lib.hid (HF0.out.below hb);clear hb HF0;obtain⟨z0,c00,f00,c01,f01,c02,f02,c03,f03,c04,f04,c05,f05⟩:=HF1.out.xf7
  go_wp2_with (fail)
  clear z0 c00 f00 c01 f01 c02 f02 c03 f03 c04 f04 c05 f05
  refine (CE.out _).mono ?_
  rintro e w2 ⟨rfl,hb⟩
  have HF2:=Lib.hid (HF1.out.below hb);clear hb HF1;obtain⟨z0,c00,f00,c01,f01,c02,f02,c03,f03,c04,f04,c05,f05⟩:=HF2.out.xf7
  go_wp2_with (fail)
  clear z0 c00 f00 c01 f01 c02 f02 c03 f03 c04 f04 c05 f05
  go_loopw [41] (fun v41 wr=>∃k:Nat,k≤n∧v41 = .int .i64 k∧Hid (FrS (fun _=>False) w wr [[.int .i64 p,.int .i64 c,.int .i64 h,.int .i64 s,.int .i64 2,.slice A n cv]])) (fun v41 _=>n-(intOf v41).toNat)
  case atStart=>exact⟨0,by omega,rfl,HF2.out⟩
  case round=>
   clear HF2;obtain⟨k,hk,rfl,HF⟩:=hrel
   by_cases hlt:k<n
   ·have hki:(k:Int)<(n:Int):=by omega
    have hel:=HX.out.frm HF.out.f;obtain⟨b,off,hA,hbl,q1,q2⟩:=hel.at hlt;subst hA
    have hm:=HVL.out _ (getD_mem' xs ⟨0,0⟩ (k:=k) (by rw[hel.1];exact hlt))
    rcases hab:xs.getD k ⟨0,0⟩with⟨m,d⟩
    rw[hab]at q1 q2 hm
    simp only at q1 q2
    have CX2:=Lib.hid fun (W:World)=>CX.out m d W hm
    have HFa:=Lib.hid (HF.out.alloc (.cells #[.int .i64 m,.int .i64 (d:Int)] 35));clear hab hm hel;obtain⟨z0,c00,f00,c01,f01,c02,f02,c03,f03,c04,f04,c05,f05⟩:=HF.out.xf7
    go_wp2_with (fail)
    clear z0 c00 f00 c01 f01 c02 f02 c03 f03 c04 f04 c05 f05
    refine (CX2.out _).mono ?_
    rintro e w3 ⟨rfl,hb⟩
    have HF3:=Lib.hid (HFa.out.below hb);clear hb HF HFa
    go_wp2_with (fail)
    go_roundw
    case rel=>exact⟨k+1,by omega,by go_num,HF3.out⟩
    case measure=>(simp[intOf])<;>omega
   ·have hke:k=n:=by omega
    go_wp2_with (fail)
    go_ret
    exact⟨rfl,HF.out.belowW⟩
noncomputable def tRollX (c s:Nat) (ent:Nat→E) (p:List Int) (r:Nat×Nat):Option E:=(lstS (sq s) (fun q=>some (ent (num c q))) (resultsL p r.1 r.2)).map fun t=>t.2.2
noncomputable def tX (c s:Nat) (ent:Nat→E) (p:List Int):Option E:=((allS (tRollX c s ent p) (rollsN s)).bind (meanE (sq s) (rollsN s))).bind fun m=>addE (sq s) m oneE
noncomputable def tRollW (h c s:Nat) (ent:Nat→E) (p:List Int) (b:Nat) (r:Nat×Nat):Option E:=(bestS (sq s) (fun q=>oneM (sq s) (ent (b*wys h c+num c q))) (resultsL p r.1 r.2)).map fun t=>t.2.2
noncomputable def tW (h c s:Nat) (ent:Nat→E) (p:List Int) (b:Nat):Option E:=(allS (tRollW h c s ent p b) (rollsN s)).bind (meanE (sq s) (rollsN s))
noncomputable def trueE (h c s:Nat) (k:Int) (ent:Nat→E) (i:Nat):Option E:=
 if k=2 then (if i / wys h c=0∧0<i % wys h c then some oneE else if i % wys h c=0 then some zeroE' else tW h c s ent (atP h c (i / wys h c)) (i % wys h c))
 else if i=0 then some zeroE' else tX c s ent (atP h c i)
theorem tX_true {h c s:Nat} {ent:Nat→E} {p:List Int} (hp:PosP h c p) (h0:p.sum≠0) (hent:∀q,PosP h c q→pips q<pips p→xp s q=some (ent (num c q))):tX c s ent p=xp s p:=by
 rw[xp_eq hp h0];unfold tX
 have he:allS (tRollX c s ent p) (rollsN s)=allS (rollL s p) (rollsN s):=by
  refine allS_congr fun r hr=>?_
  obtain⟨r1,r2,r3⟩:=mem_rollsN.1 hr;unfold tRollX rollL
  have hl:lstS (sq s) (fun q=>some (ent (num c q))) (resultsL p r.1 r.2)=lstS (s*s) (xp s) (resultsL p r.1 r.2):=by
   refine lstS_congr fun q hq=>?_
   obtain⟨q1,q2,q3⟩:=results_pos (by omega) r1 hp q hq
   exact (hent q q1 (q3 h0)).symm
  rw[hl]
 rw[he];rfl
theorem tW_true {h c s:Nat} {ent:Nat→E} {p r:List Int} (hp:PosP h c p) (hr:PosP h c r) (h0:p.sum≠0) (h1:r.sum≠0) (hent:∀q,PosP h c q→pips q<pips p→win s r q=some (ent (num c r*wys h c+num c q))):tW h c s ent p (num c r)=win s p r:=by
 rw[win_eq hp hr h0 h1];unfold tW
 have he:allS (tRollW h c s ent p (num c r)) (rollsN s)=allS (fun x=>(best s p r x).map fun t=>t.2.2) (rollsN s):=by
  refine allS_congr fun x hx=>?_
  obtain⟨r1,r2,r3⟩:=mem_rollsN.1 hx;unfold tRollW best
  have hl:bestS (sq s) (fun q=>oneM (sq s) (ent (num c r*wys h c+num c q))) (resultsL p x.1 x.2)=bestS (s*s) (sec s r) (resultsL p x.1 x.2):=by
   refine bestS_congr fun q hq=>?_
   obtain⟨q1,q2,q3⟩:=results_pos (by omega) r1 hp q hq
   unfold sec
   rw[hent q q1 (q3 h0)];rfl
  rw[hl]
 rw[he];rfl
noncomputable def famD (h c s:Nat) (k:Int):Nat→Option E:=if k=2 then winsF h c s else rollsF h c s
theorem atP_num {h c:Nat} {q:List Int} (hq:PosP h c q):atP h c (num c q)=q:=num_inj (atP_pos (num_lt hq)).1 hq (atP_pos (num_lt hq)).2
theorem atP_zero {h c:Nat}:(atP h c 0).sum=0:=by
 have h1:=atP_pos (h:=h) (c:=c) (n:=0) (wys_pos _ _)
 exact Decidable.byContradiction fun h0=>num_nz h1.1 h0 h1.2
theorem atP_nz {h c n:Nat} (hn:n<wys h c) (h0:n≠0):(atP h c n).sum≠0:=fun e=>h0 (by rw[← (atP_pos hn).2];exact num_zero (atP_pos hn).1 e)
theorem trueE_right {h c s n i:Nat} {k:Int} {ent:Nat→E} (hk:k=1∨k=2) (hn:dbN h c k=n) (hi:i<n) (hent:∀j,j<n→j≠i→famD h c s k j=some (ent j)):trueE h c s k ent i=famD h c s k i:=by
 rcases hk with rfl|rfl
 ·have hn':wys h c=n:=by rw[← hn];unfold dbN;rw[if_neg (by omega)]
  unfold trueE famD;unfold famD at hent
  rw[if_neg (show ¬(1:Int)=2 by omega),if_neg (show ¬(1:Int)=2 by omega)]
  by_cases h0:i=0
  ·subst h0
   rw[if_pos rfl];unfold rollsF;rw[xp_zero atP_zero]
  ·rw[if_neg h0]
   have hiw:i<wys h c:=by omega
   obtain⟨hp,hpn⟩:=atP_pos hiw;unfold rollsF
   refine tX_true hp (atP_nz hiw h0) fun q hq hpq=>?_
   have h1:=hent (num c q) (by rw[← hn'];exact num_lt hq) (fun e=>by
    have:q=atP h c i:=num_inj hq hp (by rw[e,hpn])
    rw[this]at hpq
    omega)
   rw[if_neg (show ¬(1:Int)=2 by omega)]at h1
   unfold rollsF at h1
   rwa [atP_num hq]at h1
 ·have hn':wys h c*wys h c=n:=by rw[← hn];unfold dbN;rw[if_pos rfl]
  have hN0:0<wys h c:=wys_pos _ _
  have hla:i / wys h c<wys h c:=Nat.div_lt_of_lt_mul (by rw[hn'];exact hi)
  have hlb:i % wys h c<wys h c:=Nat.mod_lt _ hN0;have hdm:wys h c*(i / wys h c)+i % wys h c=i:=Nat.div_add_mod i (wys h c);unfold trueE famD;unfold famD at hent;rw[if_pos rfl,if_pos rfl];unfold winsF;generalize ha:i / wys h c=a at *;generalize hb:i % wys h c=b at *
  by_cases h1:a=0∧0<b
  ·rw[if_pos h1,if_neg (fun e=>by rw[e]at hdm;omega)]
   rw[h1.1,win_own atP_zero]
  ·rw[if_neg h1]
   by_cases h2:b=0
   ·rw[if_pos h2]
    by_cases h3:a=0
    ·have h4:i=0:=by rw[← hdm,h2,h3];simp
     rw[if_pos h4]
    ·have h4:i≠0:=fun e=>by
      rw[e]at ha;simp at ha;exact h3 ha.symm
     rw[if_neg h4,h2,win_other (atP_nz hla h3) atP_zero]
   ·rw[if_neg h2]
    have h3:a≠0:=fun e=>h1 ⟨e,by omega⟩
    have h4:i≠0:=fun e=>by rw[e]at ha;simp at ha;exact h3 ha.symm
    rw[if_neg h4];obtain⟨hp,hpn⟩:=atP_pos hla;obtain⟨hr,hrn⟩:=atP_pos hlb
    have hw:=tW_true (ent:=ent) (s:=s) hp hr (atP_nz hla h3) (atP_nz hlb h2) (fun q hq hpq=>?_)
    ·rw[hrn]at hw;exact hw
    ·rw[hrn]
     have hqn:=num_lt hq
     have hj:b*wys h c+num c q<n:=by rw[← hn'];exact pair_lt hlb hqn
     have hji:b*wys h c+num c q≠i:=fun e=>by
      have he2:b*wys h c+num c q=a*wys h c+b:=by rw[e,← hdm,Nat.mul_comm]
      obtain⟨e1,e2⟩:=pair_inj hqn hlb he2
      have:q=atP h c a:=num_inj hq hp (by rw[e2,hpn,e1])
      rw[this]at hpq
      omega
     have h5:=hent _ hj hji;rw[if_pos rfl]at h5;unfold winsF at h5
     have h6:b*wys h c+num c q≠0:=fun e=>by
      have:b*wys h c=0:=by omega
      rcases Nat.mul_eq_zero.1 this with h|h<;>omega
     rw[if_neg h6,show (b*wys h c+num c q) / wys h c=b from by rw[Nat.add_comm,Nat.add_mul_div_right _ _ hN0,Nat.div_eq_of_lt hqn,Nat.zero_add],
      show (b*wys h c+num c q) % wys h c=num c q from by rw[Nat.add_comm,Nat.add_mul_mod_self_right,Nat.mod_eq_of_lt hqn],atP_num hq]at h5
     exact h5
open Classical in
noncomputable def badD (h c s:Nat) (k:Int) (ent:Nat→E):Nat→Option Nat
 | 0=>none
 | n + 1 => match badD h c s k ent n with
   | some j => some j
   | none => if trueE h c s k ent n = some (ent n) then none else some n
section
variable {h c s:Nat} {k:Int} {ent:Nat→E}
theorem badD_go {n:Nat} (h0:badD h c s k ent n=none) (h1:trueE h c s k ent n=some (ent n)):badD h c s k ent (n+1)=none:=by
 unfold badD;rw[h0];simp only;rw[if_pos h1]
theorem badD_stop {n:Nat} (h0:badD h c s k ent n=none) (h1:trueE h c s k ent n≠some (ent n)):badD h c s k ent (n+1)=some n:=by
 unfold badD;rw[h0];simp only;rw[if_neg h1]
theorem badD_keep {n j:Nat} (h0:badD h c s k ent n=some j):∀m,badD h c s k ent (n+m)=some j
 | 0=>h0
 | m + 1 => by
   rw [← Nat.add_assoc]; unfold badD; rw [badD_keep h0 m]
theorem badD_all:∀n,(∀i,i<n→trueE h c s k ent i=some (ent i))→badD h c s k ent n=none
 | 0,_=>rfl
 | n+1,hh=>badD_go (badD_all n fun i hi=>hh i (by omega)) (hh n (by omega))
theorem badD_some {i:Nat} (h1:trueE h c s k ent i≠some (ent i)):∀n,i<n→∃j,j<n∧badD h c s k ent n=some j
 | 0,hi=>by omega
 | n + 1, hi => by
   cases hb : badD h c s k ent n with
   | some j =>
     refine ⟨j, ?_, by have := badD_keep hb 1; exact this⟩
     by_cases e : i < n
     · obtain ⟨j', h2, h3⟩ := badD_some h1 n e
       rw [hb] at h3; injection h3 with h3
       omega
     · have hle : ∀ m j, badD h c s k ent m = some j → j < m := fun m => by
         induction m with
         | zero => intro j hj; cases hj
         | succ m ih =>
           intro j hj
           cases hm : badD h c s k ent m with
           | some l =>
             have := badD_keep hm 1; rw [hj] at this; injection this with this; have := ih l hm
             omega
           | none =>
             unfold badD at hj; rw [hm] at hj
             simp only at hj
             split at hj
             · cases hj
             · injection hj with hj; omega
       have := hle n j hb
       omega
   | none =>
     by_cases e : i = n
     · subst e; exact ⟨i, by omega, badD_stop hb h1⟩
     · obtain ⟨j', h2, h3⟩ := badD_some h1 n (by omega)
       rw [hb] at h3; cases h3
end
theorem badD_true {h c s n:Nat} {k:Int} {ent:Nat→E} (hk:k=1∨k=2) (hn:dbN h c k=n) (hent:∀j,j<n→famD h c s k j=some (ent j)):badD h c s k ent n=none:=
 badD_all n fun i hi=>(trueE_right hk hn hi fun j hj _=>hent j hj).trans (hent i hi)
theorem badD_changed {h c s n i:Nat} {k:Int} {ent:Nat→E} {y:E} (hk:k=1∨k=2) (hn:dbN h c k=n) (hi:i<n) (hent:∀j,j<n→j≠i→famD h c s k j=some (ent j)) (hy:famD h c s k i=some y) (hne:y≠ent i):∃j,j<n∧badD h c s k ent n=some j:=
 badD_some (i:=i) (fun e=>by rw[trueE_right hk hn hi hent,hy]at e;injection e with e;exact hne e) n hi
open Go.RowKit Ps Ra Ex
theorem FrS.outs {S O:Nat→Prop} {w wr w2:World} {L:List (List Value)} (h:FrS S w wr L) (hf:Frm O wr w2) (hO:∀k,O k→w.heap.size+L.length≤k):FrS S w w2 L:=
 ⟨h.f.outs hf fun k hk=>by have:=hO k hk;omega,h.low,Nat.le_trans h.z hf.size,
  fun i j u hu=>hf.cell' (h.cell i j u hu) (fun e=>by have h2:w.heap.size+L.length≤w.heap.size+i:=hO _ e;have:=frAt_ix hu;omega),
  fun i j u hu=>(frm_froz hf (World.block_lt_of_cell? wr _ (h.cell i j u hu)) (fun e=>by have h2:w.heap.size+L.length≤w.heap.size+i:=hO _ e;have:=frAt_ix hu;omega)).trans (h.froz i j u hu)⟩
end Go.Proofs.YtkaiilmgemaljaaGreat

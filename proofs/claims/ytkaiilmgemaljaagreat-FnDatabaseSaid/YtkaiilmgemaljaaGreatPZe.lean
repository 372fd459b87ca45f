/- Joined texts of one proof: N18, N19, N20. Each part tells what it shows. There are no conditions. -/
import Derived.Test.YtkaiilmgemaljaaGreatPZb
import Derived.Test.YtkaiilmgemaljaaGreatPZa
import Derived.Test.YtkaiilmgemaljaaGreatPZp
set_option linter.unusedVariables false
set_option linter.unusedSimpArgs false
/- Contracts of the order of bear-off positions, the program's and the reference's, and of the highest place. There are no conditions. -/
namespace Go.Proofs.YtkaiilmgemaljaaGreat
open Go.RowKit Ps
def cmpAt (p q:List Int):Nat→Int
 | 0=>0
 | k+1=>if p.getD k 0=q.getD k 0 then cmpAt p q k else p.getD k 0-q.getD k 0
def cmpI (p q:List Int):Int:=cmpAt p q p.length
theorem cmpAt_eq {p q:List Int} {k:Nat} (h:p.getD k 0=q.getD k 0):cmpAt p q (k+1)=cmpAt p q k:=if_pos h
theorem cmpAt_ne {p q:List Int} {k:Nat} (h:¬p.getD k 0=q.getD k 0):cmpAt p q (k+1)=p.getD k 0-q.getD k 0:=if_neg h
theorem cmpAt_lt (p q:List Int):∀k,cmpAt p q k<0↔∃i,i<k∧p.getD i 0<q.getD i 0∧∀j,i<j→j<k→p.getD j 0=q.getD j 0
 | 0=>⟨fun h=>absurd h (by show ¬(0:Int)<0;omega),fun⟨i,h,_⟩=>by omega⟩
 | k + 1 => by
   by_cases h : p.getD k 0 = q.getD k 0
   · rw [cmpAt_eq h, cmpAt_lt p q k]
     constructor
     · rintro ⟨i, h1, h2, h3⟩
       exact ⟨i, by omega, h2, fun j h4 h5 => by
         by_cases e : j = k
         · rw [e]; exact h
         · exact h3 j h4 (by omega)⟩
     · rintro ⟨i, h1, h2, h3⟩
       refine ⟨i, ?_, h2, fun j h4 h5 => h3 j h4 (by omega)⟩
       by_cases e : i = k
       · subst e; omega
       · omega
   · rw [cmpAt_ne h]
     constructor
     · intro h1; exact ⟨k, by omega, by omega, fun j h2 h3 => by omega⟩
     · rintro ⟨i, h1, h2, h3⟩
       by_cases e : i = k
       · subst e; omega
       · exact absurd (h3 k (by omega) (by omega)) h
theorem cmpI_lt {p q:List Int}:cmpI p q<0↔Bef p q:=cmpAt_lt p q p.length
theorem cmpI_bef (p q:List Int):decide (cmpI p q<0)=befB p q:=by
 cases h:befB p q with
 | true=>exact decide_eq_true (cmpI_lt.2 (befB_yes.1 h))
 | false=>exact decide_eq_false fun h'=>befB_no.1 h (cmpI_lt.1 h')
theorem drw_ex {w wr:World} {k:Nat} (h:∃m,wr=w.drewN m):∃m,wr.drewN k=w.drewN m:=by obtain⟨m,rfl⟩:=h;exact⟨m+k,World.drewN_drewN ..⟩
set_option maxRecDepth 10000 in
theorem compareBearoffs_any (A B:Option Addr) (n ca cb:Nat) (p q:List Int) (w:World) (hx:SL w A n p) (hy:SL w B n q) (hn:n≤2000) (hp:∀x∈p,0≤x∧x≤1000) (hq:∀x∈q,0≤x∧x≤1000):
  Calls Tryz.prog 224 #[.slice A n ca,.slice B n cb] w fun e w'=>e = .returned (.int .i64 (cmpI p q))∧∃m,w'=w.drewN m:=by
 have HX:=Lib.hid hx;have HY:=Lib.hid hy;have HP:=Lib.hid hp;have HQ:=Lib.hid hq;have hl1:=Lib.hid hx.1;have hl2:=Lib.hid hy.1;clear hx hy hp hq
 have hst:Hid (cmpI p q=cmpAt p q n):=by unfold Hid cmpI;rw[hl1.out]
 go_enter Tryz.func224,Tryz.ntmps224
 go_wp2
 go_loopw [5] (fun i wr=>∃k:Nat,k≤n∧i = .int .i64 ((k:Int)-1)∧Hid (cmpI p q=cmpAt p q k)∧Hid (∃m,wr=w.drewN m)) (fun i _=>(intOf i+1).toNat)
 case atStart=>exact⟨n,by omega,rfl,hst.out,0,rfl⟩
 case round=>
  obtain⟨k,hk,hi,hc,hw⟩:=hrel
  rcases k with _|j
  ·rw[show ((0:Nat):Int)-1 = -1 from rfl]at hi
   subst hi;have HR:Hid (cmpI p q=0):=hc.out
   go_wp2_with (fail)
   go_ret
   exact⟨by rw[HR.out];rfl,hw.out⟩
  ·rw[show ((j+1:Nat):Int)-1=(j:Int) by omega]at hi
   subst hi;obtain⟨m,hm⟩:=hw.out
   have HX2:SL wr A n p:=by rw[hm];exact HX.out
   have HY2:SL wr B n q:=by rw[hm];exact HY.out
   obtain⟨b1,o1,rfl,z1,c1⟩:=HX2.2 (by omega)
   obtain⟨b2,o2,rfl,z2,c2⟩:=HY2.2 (by omega)
   have c1:=c1 j (by omega)
   have c2:=c2 j (by omega)
   have d1:=HP.out _ (getD_mem p j (by rw[hl1.out];omega))
   have d2:=HQ.out _ (getD_mem q j (by rw[hl2.out];omega))
   have E1:Hid (p.getD j 0=q.getD j 0→cmpI p q=cmpAt p q j):=fun e=>hc.out.trans (cmpAt_eq e)
   have E2:Hid (¬p.getD j 0=q.getD j 0→cmpI p q=p.getD j 0-q.getD j 0):=fun e=>hc.out.trans (cmpAt_ne e)
   clear HX2 HY2 hc hm;generalize p.getD j 0=x at *;generalize q.getD j 0=y at *
   by_cases hxy:x=y
   ·have b0:(x != y)=false:=by simp[hxy]
    have HR:=Lib.hid (E1.out hxy);clear hxy
    go_wp2_with (fail)
    go_quiet (fail)
    go_wp2_with (fail)
    go_roundw
    case rel=>exact⟨j,by omega,by go_num,HR.out,drw_ex hw.out⟩
    case measure=>(simp[intOf])<;>omega
   ·have b0:(x != y)=true:=by simp[hxy]
    have HR:=Lib.hid (E2.out hxy);clear hxy
    go_wp2_with (fail)
    go_quiet (fail)
    go_wp2_with (fail)
    go_quiet (fail)
    go_wp2_with (fail)
    go_ret
    exact⟨by rw[HR.out];rfl,by first|exact drw_ex (drw_ex hw.out)|(have:=drw_ex (drw_ex hw.out);simpa using this)⟩
set_option maxRecDepth 10000 in
theorem l10Before_any (A B:Option Addr) (n ca cb:Nat) (p q:List Int) (w:World) (hx:SL w A n p) (hy:SL w B n q) (hn:n≤2000) (hp:∀x∈p,0≤x∧x≤1000) (hq:∀x∈q,0≤x∧x≤1000):
  Calls Tryz.prog 219 #[.slice A n ca,.slice B n cb] w fun e w'=>e = .returned (.bool (befB p q))∧∃m,w'=w.drewN m:=by
 have HX:=Lib.hid hx;have HY:=Lib.hid hy;have HP:=Lib.hid hp;have HQ:=Lib.hid hq;have hl1:=Lib.hid hx.1;have hl2:=Lib.hid hy.1;clear hx hy hp hq
 have hst:Hid (cmpI p q=cmpAt p q n):=by unfold Hid cmpI;rw[hl1.out]
 go_enter Tryz.func219,Tryz.ntmps219
 go_wp2
 go_loopw [5] (fun i wr=>∃k:Nat,k≤n∧i = .int .i64 ((k:Int)-1)∧Hid (cmpI p q=cmpAt p q k)∧Hid (∃m,wr=w.drewN m)) (fun i _=>(intOf i+1).toNat)
 case atStart=>exact⟨n,by omega,rfl,hst.out,0,rfl⟩
 case round=>
  obtain⟨k,hk,hi,hc,hw⟩:=hrel
  rcases k with _|j
  ·rw[show ((0:Nat):Int)-1 = -1 from rfl]at hi
   subst hi;have HR:Hid (cmpI p q=0):=hc.out
   go_wp2_with (fail)
   go_ret
   exact⟨by rw[← cmpI_bef,HR.out];rfl,hw.out⟩
  ·rw[show ((j+1:Nat):Int)-1=(j:Int) by omega]at hi
   subst hi;obtain⟨m,hm⟩:=hw.out
   have HX2:SL wr A n p:=by rw[hm];exact HX.out
   have HY2:SL wr B n q:=by rw[hm];exact HY.out
   obtain⟨b1,o1,rfl,z1,c1⟩:=HX2.2 (by omega)
   obtain⟨b2,o2,rfl,z2,c2⟩:=HY2.2 (by omega)
   have c1:=c1 j (by omega)
   have c2:=c2 j (by omega)
   have d1:=HP.out _ (getD_mem p j (by rw[hl1.out];omega))
   have d2:=HQ.out _ (getD_mem q j (by rw[hl2.out];omega))
   have E1:Hid (p.getD j 0=q.getD j 0→cmpI p q=cmpAt p q j):=fun e=>hc.out.trans (cmpAt_eq e)
   have E2:Hid (¬p.getD j 0=q.getD j 0→cmpI p q=p.getD j 0-q.getD j 0):=fun e=>hc.out.trans (cmpAt_ne e)
   clear HX2 HY2 hc hm;generalize p.getD j 0=x at *;generalize q.getD j 0=y at *
   by_cases hxy:x=y
   ·have b0:(x != y)=false:=by simp[hxy]
    have HR:=Lib.hid (E1.out hxy);clear hxy
    go_wp2_with (fail)
    go_quiet (fail)
    go_wp2_with (fail)
    go_roundw
    case rel=>exact⟨j,by omega,by go_num,HR.out,drw_ex hw.out⟩
    case measure=>(simp[intOf])<;>omega
   ·have b0:(x != y)=true:=by simp[hxy]
    have HR:=Lib.hid (E2.out hxy);clear hxy
    go_wp2_with (fail)
    go_quiet (fail)
    go_wp2_with (fail)
    go_quiet (fail)
    go_wp2_with (fail)
    go_ret
    exact⟨by rw[← cmpI_bef,HR.out,show decide (x-y<0)=decide (x<y) from decide_eq_decide.2 (by omega)];rfl,by first|exact drw_ex (drw_ex hw.out)|(have:=drw_ex (drw_ex hw.out);simpa using this)⟩
def topI (p:List Int):Nat→Int
 | 0=>-1
 | k+1=>if 0<p.getD k 0 then (k:Int) else topI p k
set_option maxRecDepth 10000 in
theorem highest_any (A:Option Addr) (n c:Nat) (p:List Int) (w:World) (hx:SL w A n p) (hn:n≤2000):
  Calls Tryz.prog 222 #[.slice A n c] w fun e w'=>e = .returned (.int .i64 (topI p n))∧w=w':=by
 have HX:=Lib.hid hx;clear hx
 go_enter Tryz.func222,Tryz.ntmps222
 go_wp2
 go_loop [3] (fun i=>∃k:Nat,k≤n∧i = .int .i64 ((k:Int)-1)∧Hid (topI p n=topI p k)) (fun i=>(intOf i+1).toNat)
 case atStart=>exact⟨n,by omega,rfl,rfl⟩
 case round=>
  obtain⟨k,hk,hi,hc⟩:=hrel
  rcases k with _|j
  ·rw[show ((0:Nat):Int)-1 = -1 from rfl]at hi
   subst hi
   go_wp2_with (fail)
   go_ret
   exact⟨by rw[hc.out];rfl,rfl⟩
  ·rw[show ((j+1:Nat):Int)-1=(j:Int) by omega]at hi
   subst hi
   obtain⟨b,off,rfl,_,hcl⟩:=HX.out.2 (by omega)
   have hcell:=hcl j (by omega)
   have E:Hid (topI p n=if 0<p.getD j 0 then (j:Int) else topI p j):=hc.out
   clear hcl hc;generalize p.getD j 0=x at *
   by_cases h0:0<x
   ·have HR:Hid (topI p n=j):=by have:=E.out;rwa [if_pos h0]at this
    go_wp2_with (fail)
    go_ret
    exact⟨by rw[HR.out];rfl,rfl⟩
   ·have HR:Hid (topI p n=topI p j):=by have:=E.out;rwa [if_neg h0]at this
    go_wp2_with (fail)
    go_round
    case rel=>exact⟨j,by omega,by go_num,HR.out⟩
    case measure=>(simp[intOf])<;>omega
theorem topI_spec {p:List Int}:∀{k:Nat},(topI p k = -1∧∀j,j<k→p.getD j 0≤0)∨(∃i:Nat,topI p k=i∧i<k∧0<p.getD i 0∧∀j,i<j→j<k→p.getD j 0≤0)
 | 0=>.inl ⟨rfl,fun j h=>by omega⟩
 | k + 1 => by
   by_cases h : 0 < p.getD k 0
   · exact .inr ⟨k, by unfold topI; rw [if_pos h], by omega, h, fun j h1 h2 => by omega⟩
   · have e : topI p (k + 1) = topI p k := by rw [topI, if_neg h]
     rw [e]
     rcases topI_spec (p := p) (k := k) with ⟨h1, h2⟩ | ⟨i, h1, h2, h3, h4⟩
     · refine .inl ⟨h1, fun j hj => ?_⟩
       by_cases e : j = k
       · rw [e]; omega
       · exact h2 j (by omega)
     · refine .inr ⟨i, h1, by omega, h3, fun j hj hj2 => ?_⟩
       by_cases e : j = k
       · rw [e]; omega
       · exact h4 j hj (by omega)
theorem getD_dropI (p:List Int) (k j:Nat):(p.drop k).getD j 0=p.getD (k+j) 0:=by simp[List.getD]
theorem topI_last {p:List Int} {i:Nat} (h0:∀x∈p,0≤x) (hi:i<p.length) (hc:p.getD i 0≠0):topI p p.length=i↔(p.drop (i+1)).sum=0:=by
 have hpos:0<p.getD i 0:=by have:=getD_nonneg h0 i;omega
 have hd:∀x∈p.drop (i+1),0≤x:=fun x hx=>h0 x (List.mem_of_mem_drop hx)
 rcases topI_spec (p:=p) (k:=p.length) with⟨h1,h2⟩|⟨t,h1,h2,h3,h4⟩
 ·have:=h2 i hi;omega
 ·rw[h1]
  constructor
  ·intro e
   have e:t=i:=by omega
   subst e
   refine getD_zero_sum fun j hj=>?_
   rw[getD_dropI]
   have:=h4 (t+1+j) (by omega) (by simp at hj;omega)
   have:=getD_nonneg h0 (t+1+j)
   omega
  ·intro hs
   by_cases e:t=i
   ·rw[e]
   ·exfalso
    have hti:i<t:=by
     rcases Nat.lt_or_ge i t with h|h
     ·exact h
     ·have:=h4 i (by omega) hi;omega
    have:=sum_zero_getD hd hs (t-(i+1))
    rw[getD_dropI,show i+1+(t-(i+1))=t by omega]at this
    omega
end Go.Proofs.YtkaiilmgemaljaaGreat
/- Contracts of the positions after a step, the program's. There are no conditions. -/
namespace Go.Proofs.YtkaiilmgemaljaaGreat
open Go.RowKit Ps
theorem Tryz.infoL:(Tryz.prog.info? 26).map (fun i=>(i.zero,i.size,i.bytes))=some (some (.slice none 0 0),1,24):=by kernel_rfl
theorem PV.own {S:Nat→Prop} {W:World} {base:Nat} {e:TypeId} {v:Value} {xs:List Int} (h:OwnS W base e v xs) (hS:∀k,base≤k→¬S k):PV S W v xs:=by
 obtain⟨A,c,hv,hs,hc⟩:=h.read
 refine⟨A,_,c,hv,⟨hs,fun hn b off s hA=>?_⟩,hc⟩
 refine hS b (h.lt b ?_).1
 rw[hv,hA];rfl
theorem OP.lt {S:Nat→Prop} {w:World} {base:Nat} {e:TypeId} {v:Value} {ps:List (List Int)} (h:OP S w base e v ps):∀k,v.ownBlock=some k→base≤k∧k<w.heap.size:=let ⟨_,h1,_⟩:=h;World.ownsRow.lt h1
theorem slice_cell (A:Option Addr) (n c:Nat):∀u∈[Value.slice A n c],u.oneCell'=true:=fun u hu=>by simp at hu;subst hu;rfl
theorem Clone_full (A:Option Addr) (n c:Nat) (xs:List Int) (w:World) (hx:SL w A n xs) (hn:n≤2000000) (hn0:0<n):
  Calls Tryz.prog 90 #[.slice A n c] w fun e w'=>∃g c',e = .returned (.slice (some ⟨g,0,none⟩) n c')∧OwnS w' w.heap.size 2 (.slice (some ⟨g,0,none⟩) n c') xs∧w.heap.size≤g∧g<w'.heap.size∧
   (∀j,j<n→w'.cell? ⟨g,j,none⟩=some (.int .i64 (xs.getD j 0)))∧(∀j,w'.frozen? ⟨g,j,none⟩=false)∧Below w.heap.size w w':=by
 refine (Clone_any A n c xs w hx hn).mono ?_
 rintro e w' ⟨A',c',he,ho,hb⟩
 have hl:=hx.1;rw[hl]at he ho;obtain⟨g,hA,h1,h2,h3,h4⟩:=own_form ho hn0;subst hA
 exact⟨g,c',he,ho,h1,h2,h3,h4,hb⟩
theorem stepsN_no {p:List Int} {d k:Nat} (h:¬canP p k d):stepsN p d (k+1)=stepsN p d k:=by rw[stepsN,if_neg h,List.append_nil]
theorem stepsN_yes {p:List Int} {d k:Nat} (h:canP p k d):stepsN p d (k+1)=stepsN p d k++[stepTo p k d]:=by rw[stepsN,if_pos h]
theorem stepTo_in {p:List Int} {k d:Nat} (h:d≤k):stepTo p k d=(p.set k (p.getD k 0-1)).set (k-d) (p.getD (k-d) 0+1):=if_pos h
theorem stepTo_off {p:List Int} {k d:Nat} (h:¬d≤k):stepTo p k d=p.set k (p.getD k 0-1):=if_neg h
theorem stepsN_len {p:List Int} {d:Nat}:∀k,(stepsN p d k).length≤k
 | 0=>Nat.le_refl _
 | k + 1 => by
   have := stepsN_len (p := p) (d := d) k
   rw [stepsN]; split <;> simp <;> omega
theorem getD_le_sum {p:List Int} (k:Nat) (h0:∀x∈p,0≤x):p.getD k 0≤p.sum:=by
 by_cases hk:k<p.length
 ·have h1:=sum_take_succ p k hk
  have h2:=sum_take_nonneg p k h0;have h3:=sum_take_le p (k+1) h0
  omega
 ·have h1:p.getD k 0=0:=by simp[List.getD,List.getElem?_eq_none (by omega:p.length≤k)]
  have h2:=sum_nn h0
  omega
set_option maxRecDepth 100000 in
set_option maxHeartbeats 2000000 in
theorem bearoffSteps_any (S:Nat→Prop) (A:Option Addr) (n c d:Nat) (p:List Int) (w:World) (hx:SL w A n p) (h0:∀x∈p,0≤x) (hs:p.sum≤15) (hn:n≤24) (hn0:0<n) (hd1:1≤d) (hd6:d≤6) (hS:∀k,w.heap.size≤k→¬S k):
  Calls Tryz.prog 179 #[.slice A n c,.int .i64 d] w fun e w'=>∃v,e = .returned v∧OP S w' w.heap.size 26 v (stepsL p d)∧Below w.heap.size w w':=by
 obtain⟨i0,hi,hz0,hz1,hz2⟩:=info_parts Tryz.infoL;have HX:=Lib.hid hx;have HL:=Lib.hid hx.1;have H0:=Lib.hid h0;have HS:=Lib.hid hs;have HSS:=Lib.hid hS
 have HTOP:Hid (∀k,k<n→p.getD k 0≠0→(topI p n=(k:Int)↔(p.drop (k+1)).sum=0)):=fun k hk hc=>by
  have:=topI_last h0 (show k<p.length by rw[HL.out];exact hk) hc
  rwa [HL.out]at this
 clear hx h0 hs hS
 go_enter Tryz.func179,Tryz.ntmps179
 go_wp2_with (fail)
 refine (highest_any A n c p _ (by exact HX.out) (by omega)).mono ?_
 rintro e w' ⟨rfl,rfl⟩
 have ht : -1≤topI p n∧topI p n≤24:=by
  rcases topI_spec (p:=p) (k:=n) with⟨h1,_⟩|⟨i,h1,h2,_⟩<;>omega
 generalize topI p n=top at *
 go_wp2_with (fail)
 go_loopw [5,14] (fun vo vi wr=>∃k:Nat,k≤n∧vi = .int .i64 k∧(∃vx,vx=vo∧OP S wr w.heap.size 26 vx (stepsN p d k))∧Below w.heap.size w wr) (fun _ vi _=>n-(intOf vi).toNat)
 case atStart=>exact⟨0,by omega,rfl,⟨_,rfl,OP.nil_ _ _ _ _⟩,Below.refl _ _⟩
 case round=>
  obtain⟨k,hk,rfl,⟨vx,rfl,hO⟩,hb⟩:=hrel;have HO:=Lib.hid hO;have HB:=Lib.hid hb;clear hO hb
  by_cases hlt:k<n
  ·have hki:(k:Int)<(n:Int):=by omega
   have HXr:Hid (SL wr A n p):=HX.out.below HB.out
   obtain⟨b,off,rfl,_,hcl⟩:=HXr.out.2 (by omega)
   have hcell:=hcl k hlt
   have hpx:=H0.out _ (getD_mem p k (by rw[HL.out];exact hlt))
   have hpm:=getD_le_sum k H0.out;have hps:=HS.out
   have HLN:Hid ((stepsN p d k).length≤24):=by unfold Hid;have:=stepsN_len (p:=p) (d:=d) k;omega
   clear hcl;obtain⟨x,hx⟩:∃x:Int,p.getD k 0=x:=⟨_,rfl⟩;rw[hx]at hcell hpx hpm
   have hx15:x≤15:=by omega
   clear hpm hps
   by_cases hx0:x=0
   ·have HST:Hid (stepsN p d (k+1)=stepsN p d k):=stepsN_no fun h=>h.1 (by rw[hx,hx0])
    subst hx0
    go_wp2_with (fail)
    go_roundw
    case rel=>exact⟨k+1,by omega,by go_num,⟨_,rfl,by rw[HST.out];exact HO.out⟩,HB.out⟩
    case measure=>(simp[intOf])<;>omega
   ·have b0:(x == 0)=false:=by simp[hx0]
    have HT:Hid (top=(k:Int)↔(p.drop (k+1)).sum=0):=HTOP.out k hlt (by rw[hx];exact hx0)
    by_cases hdk:(k:Int)+1<d
    ·have b1:decide ((k:Int)+1<(d:Int))=true:=decide_eq_true hdk
     by_cases htk:top=k
     ·have b2:((k:Int) != top)=false:=by simp[htk]
      have hcan:canP p k d:=⟨by rw[hx];exact hx0,.inr (HT.out.1 htk)⟩
      have b3:decide ((d:Int)≤k)=false:=decide_eq_false (by omega)
      have HST:Hid (stepsN p d (k+1)=stepsN p d k++[stepTo p k d]):=stepsN_yes hcan
      have HSP:Hid (stepTo p k d=p.set k (x-1)):=by rw[← hx];exact stepTo_off (by omega)
      clear htk
      go_wp2_with (fail)
      refine (Clone_full _ n c p wr (by exact HXr.out) (by omega) (by omega)).mono ?_
      rintro e w1 ⟨g,c1,rfl,ho,hg1,hg2,hcl,hfz,hb⟩
      have d1:=hcl k (by omega)
      have d2:=hfz k;rw[hx]at d1;have HOW:=Lib.hid (ho.stored k (x-1));clear hcl hfz;have HW:Hid (Below wr.heap.size wr (w1.setCell ⟨g,k,none⟩ (.int .i64 (x-1)))):=stw hb hg1
      have HOS:Hid (OwnS (w1.setCell ⟨g,k,none⟩ (.int .i64 (x-1))) wr.heap.size 2 (.slice (some ⟨g,0,none⟩) n c1) (stepTo p k d)):=by rw[HSP.out];exact HOW.out
      obtain⟨cs,hrow,hpv,hv3⟩:=HO.out;have HROW:=Lib.hid (row_alloc (own_below hrow HW.out) (.cells #[.slice (some ⟨g,0,none⟩) n c1] 26));have HPV:=Lib.hid ((hpv.frm (Frm.of_below' _ HW.out)).frm ((Frm.refl (wth S vx) _).alloc (.cells #[.slice (some ⟨g,0,none⟩) n c1] 26)));have hlt:=Lib.hid (HO.out.lt)
      have HPE:Hid (PVs (wth S vx) ((w1.setCell ⟨g,k,none⟩ (.int .i64 (x-1))).alloc (.cells #[.slice (some ⟨g,0,none⟩) n c1] 26)) [.slice (some ⟨g,0,none⟩) n c1] [stepTo p k d]):=
       PVs.one ((PV.own (HOS.out.alloc' _) fun q hq=>by
        rintro (h'|h')
        ·exact HSS.out q (by have:=HB.out.size;omega) h'
        ·have:=(hlt.out q h').2;omega))
      have HNW:Hid (∀j u,[Value.slice (some ⟨g,0,none⟩) n c1][j]? = some u→((w1.setCell ⟨g,k,none⟩ (.int .i64 (x-1))).alloc (.cells #[.slice (some ⟨g,0,none⟩) n c1] 26)).cell? ((⟨w1.heap.size,0,none⟩:Addr).add j)=some u):=by
       have h:=one_new (w1.setCell ⟨g,k,none⟩ (.int .i64 (x-1))) (.slice (some ⟨g,0,none⟩) n c1) 26
       rw[show (w1.setCell ⟨g,k,none⟩ (.int .i64 (x-1))).heap.size=w1.heap.size by simp]at h
       exact h
      clear hrow hpv hv3
      go_wp2_with (at_builtin;(refine wpList_append_own_at _ rfl _ _ 48 rfl w.heap.size 26 i0 (.slice none 0 0) 1 24 Tryz.underlying48 hi hz0 hz1 hz2 rfl (by decide) _ _ _ rfl HROW.out ⟨w1.heap.size,0,none⟩ 1 1 [.slice (some ⟨g,0,none⟩) n c1] rfl rfl HNW.out (slice_cell _ _ _) (by have:=HLN.out;unfold maxLen;omega) (by have:=HLN.out;omega) (by have h1:=HB.out.size;have h2:=HW.out.size;simp;omega) ?_;intro v' w2 hown hgrow _ hat))
      have HO2:Hid (OP S w2 w.heap.size 26 v' (stepsN p d k++[stepTo p k d])):=OP.grew HPV.out HPE.out hown rfl hgrow hat HSS.out
      have HB2:Hid (Below w.heap.size w w2):=((HB.out.trans (HW.out.mono HB.out.size)).alloc (by have h1:=HB.out.size;have h2:=HW.out.size;omega) _).grown hgrow (by have h1:=HB.out.size;have h2:=HW.out.size;simp;omega) (fun q hq=>by have:=HROW.out;exact (World.ownsRow.lt this q hq).1)
      clear hown hgrow hat
      go_wp2_with (fail)
      go_roundw
      case rel=>exact⟨k+1,by omega,by go_num,⟨_,rfl,by rw[HST.out];exact HO2.out⟩,HB2.out⟩
      case measure=>(simp[intOf])<;>omega
     ·have b2:((k:Int) != top)=true:=by simp;omega
      have HST:Hid (stepsN p d (k+1)=stepsN p d k):=stepsN_no fun h=>by
       rcases h.2 with h'|h'
       ·omega
       ·exact htk (HT.out.2 h')
      go_wp2_with (fail)
      go_roundw
      case rel=>exact⟨k+1,by omega,by go_num,⟨_,rfl,by rw[HST.out];exact HO.out⟩,HB.out⟩
      case measure=>(simp[intOf])<;>omega
    ·have b1:decide ((k:Int)+1<(d:Int))=false:=decide_eq_false hdk
     have hcan:canP p k d:=⟨by rw[hx];exact hx0,.inl (by omega)⟩
     have HST:Hid (stepsN p d (k+1)=stepsN p d k++[stepTo p k d]):=stepsN_yes hcan
     by_cases hle:d≤k
     ·have b3:decide ((d:Int)≤k)=true:=decide_eq_true (by omega)
      have HSP:Hid (stepTo p k d=(p.set k (x-1)).set (k-d) (p.getD (k-d) 0+1)):=by rw[← hx];exact stepTo_in hle
      have hsub:((k:Int)-(d:Int))=((k-d:Nat):Int):=by omega
      have hy0:=H0.out _ (getD_mem p (k-d) (by rw[HL.out];omega))
      have hy1:=getD_le_sum (k-d) H0.out;have hps:=HS.out
      go_wp2_with (fail)
      refine (Clone_full _ n c p wr (by exact HXr.out) (by omega) (by omega)).mono ?_
      rintro e w1 ⟨g,c1,rfl,ho,hg1,hg2,hcl,hfz,hb⟩
      have d1:=hcl k (by omega)
      have d2:=hfz k;rw[hx]at d1
      have d3:=hcl (k-d) (by omega)
      have d4:=hfz (k-d);generalize p.getD (k-d) 0=y at *
      have hy15:y≤15:=by omega
      have hne:¬k-d=k:=by omega
      have hne2:¬k=k-d:=by omega
      have HOW:=Lib.hid ((ho.stored k (x-1)).stored (k-d) (y+1));clear hcl hfz;have HW:Hid (Below wr.heap.size wr ((w1.setCell ⟨g,k,none⟩ (.int .i64 (x-1))).setCell ⟨g,k-d,none⟩ (.int .i64 (y+1)))):=stw (stw hb hg1) hg1
      have HOS:Hid (OwnS ((w1.setCell ⟨g,k,none⟩ (.int .i64 (x-1))).setCell ⟨g,k-d,none⟩ (.int .i64 (y+1))) wr.heap.size 2 (.slice (some ⟨g,0,none⟩) n c1) (stepTo p k d)):=by rw[HSP.out];exact HOW.out
      obtain⟨cs,hrow,hpv,hv3⟩:=HO.out;have HROW:=Lib.hid (row_alloc (own_below hrow HW.out) (.cells #[.slice (some ⟨g,0,none⟩) n c1] 26));have HPV:=Lib.hid ((hpv.frm (Frm.of_below' _ HW.out)).frm ((Frm.refl (wth S vx) _).alloc (.cells #[.slice (some ⟨g,0,none⟩) n c1] 26)));have hlt:=Lib.hid (HO.out.lt)
      have HPE:Hid (PVs (wth S vx) (((w1.setCell ⟨g,k,none⟩ (.int .i64 (x-1))).setCell ⟨g,k-d,none⟩ (.int .i64 (y+1))).alloc (.cells #[.slice (some ⟨g,0,none⟩) n c1] 26)) [.slice (some ⟨g,0,none⟩) n c1] [stepTo p k d]):=
       PVs.one ((PV.own (HOS.out.alloc' _) fun q hq=>by
        rintro (h'|h')
        ·exact HSS.out q (by have:=HB.out.size;omega) h'
        ·have:=(hlt.out q h').2;omega))
      have HNW:Hid (∀j u,[Value.slice (some ⟨g,0,none⟩) n c1][j]? = some u→(((w1.setCell ⟨g,k,none⟩ (.int .i64 (x-1))).setCell ⟨g,k-d,none⟩ (.int .i64 (y+1))).alloc (.cells #[.slice (some ⟨g,0,none⟩) n c1] 26)).cell? ((⟨w1.heap.size,0,none⟩:Addr).add j)=some u):=by
       have h:=one_new ((w1.setCell ⟨g,k,none⟩ (.int .i64 (x-1))).setCell ⟨g,k-d,none⟩ (.int .i64 (y+1))) (.slice (some ⟨g,0,none⟩) n c1) 26
       rw[show ((w1.setCell ⟨g,k,none⟩ (.int .i64 (x-1))).setCell ⟨g,k-d,none⟩ (.int .i64 (y+1))).heap.size=w1.heap.size by simp]at h
       exact h
      clear hrow hpv hv3
      go_wp2_with (at_builtin;(refine wpList_append_own_at _ rfl _ _ 48 rfl w.heap.size 26 i0 (.slice none 0 0) 1 24 Tryz.underlying48 hi hz0 hz1 hz2 rfl (by decide) _ _ _ rfl HROW.out ⟨w1.heap.size,0,none⟩ 1 1 [.slice (some ⟨g,0,none⟩) n c1] rfl rfl HNW.out (slice_cell _ _ _) (by have:=HLN.out;unfold maxLen;omega) (by have:=HLN.out;omega) (by have h1:=HB.out.size;have h2:=HW.out.size;simp;omega) ?_;intro v' w2 hown hgrow _ hat))
      have HO2:Hid (OP S w2 w.heap.size 26 v' (stepsN p d k++[stepTo p k d])):=OP.grew HPV.out HPE.out hown rfl hgrow hat HSS.out
      have HB2:Hid (Below w.heap.size w w2):=((HB.out.trans (HW.out.mono HB.out.size)).alloc (by have h1:=HB.out.size;have h2:=HW.out.size;omega) _).grown hgrow (by have h1:=HB.out.size;have h2:=HW.out.size;simp;omega) (fun q hq=>by have:=HROW.out;exact (World.ownsRow.lt this q hq).1)
      clear hown hgrow hat
      go_wp2_with (fail)
      go_roundw
      case rel=>exact⟨k+1,by omega,by go_num,⟨_,rfl,by rw[HST.out];exact HO2.out⟩,HB2.out⟩
      case measure=>(simp[intOf])<;>omega
     ·have b3:decide ((d:Int)≤k)=false:=decide_eq_false (by omega)
      have HSP:Hid (stepTo p k d=p.set k (x-1)):=by rw[← hx];exact stepTo_off hle
      go_wp2_with (fail)
      refine (Clone_full _ n c p wr (by exact HXr.out) (by omega) (by omega)).mono ?_
      rintro e w1 ⟨g,c1,rfl,ho,hg1,hg2,hcl,hfz,hb⟩
      have d1:=hcl k (by omega)
      have d2:=hfz k;rw[hx]at d1;have HOW:=Lib.hid (ho.stored k (x-1));clear hcl hfz;have HW:Hid (Below wr.heap.size wr (w1.setCell ⟨g,k,none⟩ (.int .i64 (x-1)))):=stw hb hg1
      have HOS:Hid (OwnS (w1.setCell ⟨g,k,none⟩ (.int .i64 (x-1))) wr.heap.size 2 (.slice (some ⟨g,0,none⟩) n c1) (stepTo p k d)):=by rw[HSP.out];exact HOW.out
      obtain⟨cs,hrow,hpv,hv3⟩:=HO.out;have HROW:=Lib.hid (row_alloc (own_below hrow HW.out) (.cells #[.slice (some ⟨g,0,none⟩) n c1] 26));have HPV:=Lib.hid ((hpv.frm (Frm.of_below' _ HW.out)).frm ((Frm.refl (wth S vx) _).alloc (.cells #[.slice (some ⟨g,0,none⟩) n c1] 26)));have hlt:=Lib.hid (HO.out.lt)
      have HPE:Hid (PVs (wth S vx) ((w1.setCell ⟨g,k,none⟩ (.int .i64 (x-1))).alloc (.cells #[.slice (some ⟨g,0,none⟩) n c1] 26)) [.slice (some ⟨g,0,none⟩) n c1] [stepTo p k d]):=
       PVs.one ((PV.own (HOS.out.alloc' _) fun q hq=>by
        rintro (h'|h')
        ·exact HSS.out q (by have:=HB.out.size;omega) h'
        ·have:=(hlt.out q h').2;omega))
      have HNW:Hid (∀j u,[Value.slice (some ⟨g,0,none⟩) n c1][j]? = some u→((w1.setCell ⟨g,k,none⟩ (.int .i64 (x-1))).alloc (.cells #[.slice (some ⟨g,0,none⟩) n c1] 26)).cell? ((⟨w1.heap.size,0,none⟩:Addr).add j)=some u):=by
       have h:=one_new (w1.setCell ⟨g,k,none⟩ (.int .i64 (x-1))) (.slice (some ⟨g,0,none⟩) n c1) 26
       rw[show (w1.setCell ⟨g,k,none⟩ (.int .i64 (x-1))).heap.size=w1.heap.size by simp]at h
       exact h
      clear hrow hpv hv3
      go_wp2_with (at_builtin;(refine wpList_append_own_at _ rfl _ _ 48 rfl w.heap.size 26 i0 (.slice none 0 0) 1 24 Tryz.underlying48 hi hz0 hz1 hz2 rfl (by decide) _ _ _ rfl HROW.out ⟨w1.heap.size,0,none⟩ 1 1 [.slice (some ⟨g,0,none⟩) n c1] rfl rfl HNW.out (slice_cell _ _ _) (by have:=HLN.out;unfold maxLen;omega) (by have:=HLN.out;omega) (by have h1:=HB.out.size;have h2:=HW.out.size;simp;omega) ?_;intro v' w2 hown hgrow _ hat))
      have HO2:Hid (OP S w2 w.heap.size 26 v' (stepsN p d k++[stepTo p k d])):=OP.grew HPV.out HPE.out hown rfl hgrow hat HSS.out
      have HB2:Hid (Below w.heap.size w w2):=((HB.out.trans (HW.out.mono HB.out.size)).alloc (by have h1:=HB.out.size;have h2:=HW.out.size;omega) _).grown hgrow (by have h1:=HB.out.size;have h2:=HW.out.size;simp;omega) (fun q hq=>by have:=HROW.out;exact (World.ownsRow.lt this q hq).1)
      clear hown hgrow hat
      go_wp2_with (fail)
      go_roundw
      case rel=>exact⟨k+1,by omega,by go_num,⟨_,rfl,by rw[HST.out];exact HO2.out⟩,HB2.out⟩
      case measure=>(simp[intOf])<;>omega
  ·have hkn:k=n:=by omega
   subst hkn
   go_wp2_with (fail)
   go_ret
   exact⟨_,rfl,by unfold stepsL;rw[HL.out];exact HO.out,HB.out⟩
end Go.Proofs.YtkaiilmgemaljaaGreat
/- Contracts of the positions after a step, the reference's. There are no conditions. -/
namespace Go.Proofs.YtkaiilmgemaljaaGreat
open Go.RowKit Ps
theorem l10Sum_any (A:Option Addr) (n c:Nat) (xs:List Int) (w:World) (h:SL w A n xs) (hp:∀x∈xs,0≤x) (hs:xs.sum≤2000000) (hn:n≤2000000):
  Calls Tryz.prog 162 #[.slice A n c] w fun e w'=>e = .returned (.int .i64 xs.sum)∧w=w':=by
 have hlen:=h.1
 have hp':∀k,0≤(xs.take k).sum:=fun k=>sum_take_nonneg xs k hp
 have hs':∀k,(xs.take k).sum≤2000000:=fun k=>by have:=sum_take_le xs k hp;omega
 have HP:=Lib.hid hp';have HS:=Lib.hid hs';have HH:=Lib.hid h;have HL:=Lib.hid hlen;have HP0:=Lib.hid hp;clear hp' hs' h hlen hs hp
 go_enter Tryz.func162,Tryz.ntmps162
 go_wp2
 go_loop [3,4] (fun s i=>∃k:Nat,k≤n∧i = .int .i64 k∧s = .int .i64 (xs.take k).sum) (fun _ i=>n-(intOf i).toNat)
 case atStart=>exact⟨0,by omega,rfl,by simp⟩
 case round=>
  obtain⟨k,hk,rfl,rfl⟩:=hrel
  by_cases hlt:k<n
  ·obtain⟨b,off,rfl,_,hc⟩:=HH.out.2 (by omega)
   have hcell:=hc k hlt;have h1:=HP.out k;have h2:=HS.out k
   have h3:=HP0.out _ (getD_mem xs k (by rw[HL.out];exact hlt))
   have h4:=HS.out (k+1)
   have e:=sum_take_succ xs k (by rw[HL.out];exact hlt)
   have h5:(xs.take k).sum+xs.getD k 0≤2000000:=by omega
   have E:=Lib.hid e;clear hc e h4;generalize xs.getD k 0=x at *
   go_wp2
   go_round
   case rel=>exact⟨k+1,by omega,by go_num,by rw[E.out]⟩
   case measure=>simp[intOf];omega
  ·go_wp2
   go_ret
   exact⟨ret_int (by rw[List.take_of_length_le (by rw[HL.out];omega)]),rfl⟩
theorem own_copy {w w1:World} {v:Value} {xs:List Int} {n:Nat} (hown:w1.ownsRow w.heap.size 2 1 v (0+n) ([]++xs.map (Value.int .i64))) (hg:(w.alloc (.cells #[] 2)).grownBy w1 (Value.ownBlock (.slice (some ⟨w.heap.size,0,none⟩) 0 0))) (hl:xs.length=n) (hn:0<n):
  ∃ g c', v = .slice (some ⟨g, 0, none⟩) n c' ∧ OwnS w1 w.heap.size 2 (.slice (some ⟨g, 0, none⟩) n c') xs ∧ w.heap.size ≤ g ∧ g < w1.heap.size ∧
    (∀ j, j < n → w1.cell? ⟨g, j, none⟩ = some (.int .i64 (xs.getD j 0))) ∧ (∀ j, w1.frozen? ⟨g, j, none⟩ = false) ∧ Below w.heap.size w w1 := by
 have hb:Below w.heap.size w w1:=((Below.refl _ _).alloc (Nat.le_refl _) _).grown hg (by simp) (by simp[Value.ownBlock])
 have ho:OwnS w1 w.heap.size 2 v xs:=by
  unfold OwnS;rw[hl]
  simpa using hown
 obtain⟨A,c',rfl,_⟩:=ho.read;rw[hl]at ho;obtain⟨g,hA,h1,h2,h3,h4⟩:=own_form ho hn;subst hA
 exact⟨g,c',by rw[hl],ho,h1,h2,h3,h4,hb⟩
set_option maxRecDepth 100000 in
set_option maxHeartbeats 2000000 in
theorem l10Steps_any (S:Nat→Prop) (A:Option Addr) (n c d:Nat) (p:List Int) (w:World) (hx:SL w A n p) (hc:n≤c) (h0:∀x∈p,0≤x) (hs:p.sum≤15) (hn:n≤24) (hn0:0<n) (hd1:1≤d) (hd6:d≤6) (hS:∀k,w.heap.size≤k→¬S k):
  Calls Tryz.prog 218 #[.slice A n c,.int .i64 d] w fun e w'=>∃v,e = .returned v∧OP S w' w.heap.size 26 v (stepsL p d)∧Below w.heap.size w w':=by
 obtain⟨i0,hi,hz0,hz1,hz2⟩:=info_parts Tryz.infoL;obtain⟨i1,hj,hy0,hy1,hy2⟩:=info_parts Tryz.infoI;have HX:=Lib.hid hx;have HL:=Lib.hid hx.1;have H0:=Lib.hid h0;have HS:=Lib.hid hs;have HSS:=Lib.hid hS
 have HC1:Hid ((p.map (Value.int .i64)).length=n*1):=by unfold Hid;rw[List.length_map,HL.out,Nat.mul_one]
 have HOE:Hid (OP S (w.alloc (.cells #[] 26)) w.heap.size 26 (.slice (some ⟨w.heap.size,0,none⟩) 0 0) []):=OP.made (cs:=[]) w (Nat.le_refl _) hS (PVs.nil_ _ _) (by decide)
 have HBE:Hid (Below w.heap.size w (w.alloc (.cells #[] 26))):=(Below.refl _ _).alloc (Nat.le_refl _) _;clear hx h0 hs hS
 go_enter Tryz.func218,Tryz.ntmps218
 go_wp2_with (fail)
 go_loopw [5,6] (fun vo vi wr=>∃k:Nat,k≤n∧vi = .int .i64 k∧(∃vx,vx=vo∧OP S wr w.heap.size 26 vx (stepsN p d k))∧Below w.heap.size w wr) (fun _ vi _=>n-(intOf vi).toNat)
 case atStart=>exact⟨0,by omega,rfl,⟨_,rfl,HOE.out⟩,HBE.out⟩
 case round=>
  obtain⟨k,hk,rfl,⟨vx,rfl,hO⟩,hb⟩:=hrel;have HO:=Lib.hid hO;have HB:=Lib.hid hb;clear hO hb
  by_cases hlt:k<n
  ·have hki:(k:Int)<(n:Int):=by omega
   have HXr:Hid (SL wr A n p):=HX.out.below HB.out
   obtain⟨b,off,rfl,_,hcl⟩:=HXr.out.2 (by omega)
   have hcell:=hcl k hlt
   have hpx:=H0.out _ (getD_mem p k (by rw[HL.out];exact hlt))
   have hpm:=getD_le_sum k H0.out;have hps:=HS.out
   have HLN:Hid ((stepsN p d k).length≤24):=by unfold Hid;have:=stepsN_len (p:=p) (d:=d) k;omega
   have HCN:Hid (∀j u,(p.map (Value.int .i64))[j]? = some u→(wr.alloc (.cells #[] 2)).cell? ((⟨b,off,none⟩:Addr).add j)=some u):=by
    intro j u hu
    have hj:j<p.length:=by have:=(List.getElem?_eq_some_iff.1 hu).1;simpa using this
    have h1:wr.cell? ⟨b,off+j,none⟩=some u:=by rw[hcl j (by have:=HL.out;omega),← getD_map_int p j hj,hu]
    rw[Addr.add_lit]
    exact (World.cell?_alloc_lt wr _ _ (World.block_lt_of_cell? wr _ h1)).trans h1
   have HCO:Hid ((wr.alloc (.cells #[] 2)).ownsRow wr.heap.size 2 1 (.slice (some ⟨wr.heap.size,0,none⟩) 0 0) 0 []):=World.ownsRow_made wr #[] 0 (Nat.le_refl _) (by decide) rfl
   clear hcl;obtain⟨x,hx⟩:∃x:Int,p.getD k 0=x:=⟨_,rfl⟩;rw[hx]at hcell hpx hpm
   have hx15:x≤15:=by omega
   clear hpm hps
   by_cases hx0:x=0
   ·have HST:Hid (stepsN p d (k+1)=stepsN p d k):=stepsN_no fun h=>h.1 (by rw[hx,hx0])
    subst hx0
    go_wp2_with (fail)
    go_roundw
    case rel=>exact⟨k+1,by omega,by go_num,⟨_,rfl,by rw[HST.out];exact HO.out⟩,HB.out⟩
    case measure=>(simp[intOf])<;>omega
   ·have b0:(x == 0)=false:=by simp[hx0]
    by_cases hdk:(k:Int)+1<d
    ·have b1:decide ((k:Int)+1<(d:Int))=true:=decide_eq_true hdk
     have hd0:∀y∈p.drop (k+1),0≤y:=fun y hy=>H0.out y (List.mem_of_mem_drop hy)
     have hsn:=sum_nn hd0
     have hsm:(p.drop (k+1)).sum≤2000000:=by
      have h1:=sum_take_nonneg p (k+1) H0.out;have h2:=List.sum_append (l₁:=p.take (k+1)) (l₂:=p.drop (k+1));rw[List.take_append_drop]at h2;have h3:=HS.out
      omega
     have b3:decide ((d:Int)≤k)=false:=decide_eq_false (by omega)
     by_cases hck:c=k+1
     ·subst hck
      have hz:(p.drop (k+1)).sum=0:=by rw[List.drop_of_length_le (by rw[HL.out];omega)];rfl
      have CS:=Lib.hid (show Calls Tryz.prog 162 #[.slice (some ⟨b,off,none⟩) 0 0] wr (fun e w'=>e = .returned (.int .i64 0)∧wr=w') from l10Sum_any (some ⟨b,off,none⟩) 0 0 [] wr (SL.empty wr _) (by simp) (by simp) (by omega))
      have hcan:canP p k d:=⟨by rw[hx];exact hx0,.inr hz⟩
      have HST:Hid (stepsN p d (k+1)=stepsN p d k++[stepTo p k d]):=stepsN_yes hcan
      have HSP:Hid (stepTo p k d=p.set k (x-1)):=by rw[← hx];exact stepTo_off (by omega)
      clear hd0 hsm hz hsn
      go_wp2_with (first
       | (go_at_call 162;((with_reducible refine CS.out.mono ?_);rintro e w' ⟨rfl,rfl⟩))
       | (at_builtin
          have _t1 := HCO
          (refine wpList_append_own _ rfl _ _ 26 rfl wr.heap.size 2 i1 (.int .i64 0) 1 8 Tryz.underlying26 hj hy0 hy1 hy2 rfl (by decide) _ 0 [] rfl HCO.out ⟨b, off, none⟩ n (k + 1) (p.map (Value.int .i64)) rfl HC1.out HCN.out (ints_oneCell _ _) (by unfold maxLen; omega) (by omega) (by simp) ?_)
          intro v1 w1 hcown hcgrow _
          obtain ⟨g, c1, hv1, ho, hg1, hg2, hcl, hfz, hb⟩ := own_copy hcown hcgrow HL.out (by omega)
          subst hv1; clear hcown hcgrow
          have d1 := hcl k (by omega)
          have d2 := hfz k; rw [hx] at d1
          skip
          clear hcl hfz; have HOW := Lib.hid (ho.stored k (x - 1)); have HW : Hid (Below wr.heap.size wr (w1.setCell ⟨g, k, none⟩ (.int .i64 (x - 1)))) := stw hb hg1
          have HOS : Hid (OwnS (w1.setCell ⟨g, k, none⟩ (.int .i64 (x - 1))) wr.heap.size 2 (.slice (some ⟨g, 0, none⟩) n c1) (stepTo p k d)) := by rw [HSP.out]; exact HOW.out
          obtain ⟨cs, hrow, hpv, hv3⟩ := HO.out; have HROW := Lib.hid (row_alloc (own_below hrow HW.out) (.cells #[.slice (some ⟨g, 0, none⟩) n c1] 26)); have HPV := Lib.hid ((hpv.frm (Frm.of_below' _ HW.out)).frm ((Frm.refl (wth S vx) _).alloc (.cells #[.slice (some ⟨g, 0, none⟩) n c1] 26))); have hlt2 := Lib.hid (HO.out.lt)
          have HPE : Hid (PVs (wth S vx) ((w1.setCell ⟨g, k, none⟩ (.int .i64 (x - 1))).alloc (.cells #[.slice (some ⟨g, 0, none⟩) n c1] 26)) [.slice (some ⟨g, 0, none⟩) n c1] [stepTo p k d]) :=
            PVs.one ((PV.own (HOS.out.alloc' _) fun q hq => by
              rintro (h' | h')
              · exact HSS.out q (by have := HB.out.size; omega) h'
              · have := (hlt2.out q h').2; omega))
          have HNW : Hid (∀ j u, [Value.slice (some ⟨g, 0, none⟩) n c1][j]? = some u → ((w1.setCell ⟨g, k, none⟩ (.int .i64 (x - 1))).alloc (.cells #[.slice (some ⟨g, 0, none⟩) n c1] 26)).cell? ((⟨w1.heap.size, 0, none⟩ : Addr).add j) = some u) := by
            have h := one_new (w1.setCell ⟨g, k, none⟩ (.int .i64 (x - 1))) (.slice (some ⟨g, 0, none⟩) n c1) 26
            rw [show (w1.setCell ⟨g, k, none⟩ (.int .i64 (x - 1))).heap.size = w1.heap.size by simp] at h
            exact h
          clear hrow hpv hv3 ho HCO _t1)
       | (at_builtin
          have _t2 := HROW
          (refine wpList_append_own_at _ rfl _ _ 48 rfl w.heap.size 26 i0 (.slice none 0 0) 1 24 Tryz.underlying48 hi hz0 hz1 hz2 rfl (by decide) _ _ _ rfl HROW.out ⟨w1.heap.size, 0, none⟩ 1 1 [.slice (some ⟨g, 0, none⟩) n c1] rfl rfl HNW.out (slice_cell _ _ _) (by have := HLN.out; unfold maxLen; omega) (by have := HLN.out; omega) (by have h1 := HB.out.size; have h2 := HW.out.size; simp; omega) ?_)
          intro v' w2 hown hgrow _ hat
          have HO2 : Hid (OP S w2 w.heap.size 26 v' (stepsN p d k ++ [stepTo p k d])) := OP.grew HPV.out HPE.out hown rfl hgrow hat HSS.out
          have HB2 : Hid (Below w.heap.size w w2) := ((HB.out.trans (HW.out.mono HB.out.size)).alloc (by have h1 := HB.out.size; have h2 := HW.out.size; omega) _).grown hgrow (by have h1 := HB.out.size; have h2 := HW.out.size; simp; omega) (fun q hq => by have := HROW.out; exact (World.ownsRow.lt this q hq).1)
          clear hown hgrow hat))
      go_roundw
      case rel=>exact⟨k+1,by omega,by go_num,⟨_,rfl,by rw[HST.out];exact HO2.out⟩,HB2.out⟩
      case measure=>(simp[intOf])<;>omega
     ·have CS:=l10Sum_any (some ⟨b,off+(k+1),none⟩) (n-(k+1)) (c-(k+1)) _ wr (by have:=HXr.out.cut (k:=k+1) (cap:=c) (by omega) hc;rw[if_neg hck]at this;simpa[Addr.add_lit]using this) hd0 hsm (by omega)
      by_cases hz:(p.drop (k+1)).sum=0
      ·rw[hz]at CS
       have CS:=Lib.hid CS
       have hcan:canP p k d:=⟨by rw[hx];exact hx0,.inr hz⟩
       have HST:Hid (stepsN p d (k+1)=stepsN p d k++[stepTo p k d]):=stepsN_yes hcan
       have HSP:Hid (stepTo p k d=p.set k (x-1)):=by rw[← hx];exact stepTo_off (by omega)
       clear hd0 hsm hz hsn
       go_wp2_with (first
        | (go_at_call 162;refine CS.out.mono ?_;rintro e w' ⟨rfl,rfl⟩)
        | (at_builtin
           have _t1 := HCO
           (refine wpList_append_own _ rfl _ _ 26 rfl wr.heap.size 2 i1 (.int .i64 0) 1 8 Tryz.underlying26 hj hy0 hy1 hy2 rfl (by decide) _ 0 [] rfl HCO.out ⟨b, off, none⟩ n c (p.map (Value.int .i64)) rfl HC1.out HCN.out (ints_oneCell _ _) (by unfold maxLen; omega) (by omega) (by simp) ?_)
           intro v1 w1 hcown hcgrow _
           obtain ⟨g, c1, hv1, ho, hg1, hg2, hcl, hfz, hb⟩ := own_copy hcown hcgrow HL.out (by omega)
           subst hv1; clear hcown hcgrow
           have d1 := hcl k (by omega)
           have d2 := hfz k; rw [hx] at d1
           skip
           clear hcl hfz; have HOW := Lib.hid (ho.stored k (x - 1)); have HW : Hid (Below wr.heap.size wr (w1.setCell ⟨g, k, none⟩ (.int .i64 (x - 1)))) := stw hb hg1
           have HOS : Hid (OwnS (w1.setCell ⟨g, k, none⟩ (.int .i64 (x - 1))) wr.heap.size 2 (.slice (some ⟨g, 0, none⟩) n c1) (stepTo p k d)) := by rw [HSP.out]; exact HOW.out
           obtain ⟨cs, hrow, hpv, hv3⟩ := HO.out; have HROW := Lib.hid (row_alloc (own_below hrow HW.out) (.cells #[.slice (some ⟨g, 0, none⟩) n c1] 26)); have HPV := Lib.hid ((hpv.frm (Frm.of_below' _ HW.out)).frm ((Frm.refl (wth S vx) _).alloc (.cells #[.slice (some ⟨g, 0, none⟩) n c1] 26))); have hlt2 := Lib.hid (HO.out.lt)
           have HPE : Hid (PVs (wth S vx) ((w1.setCell ⟨g, k, none⟩ (.int .i64 (x - 1))).alloc (.cells #[.slice (some ⟨g, 0, none⟩) n c1] 26)) [.slice (some ⟨g, 0, none⟩) n c1] [stepTo p k d]) :=
             PVs.one ((PV.own (HOS.out.alloc' _) fun q hq => by
               rintro (h' | h')
               · exact HSS.out q (by have := HB.out.size; omega) h'
               · have := (hlt2.out q h').2; omega))
           have HNW : Hid (∀ j u, [Value.slice (some ⟨g, 0, none⟩) n c1][j]? = some u → ((w1.setCell ⟨g, k, none⟩ (.int .i64 (x - 1))).alloc (.cells #[.slice (some ⟨g, 0, none⟩) n c1] 26)).cell? ((⟨w1.heap.size, 0, none⟩ : Addr).add j) = some u) := by
             have h := one_new (w1.setCell ⟨g, k, none⟩ (.int .i64 (x - 1))) (.slice (some ⟨g, 0, none⟩) n c1) 26
             rw [show (w1.setCell ⟨g, k, none⟩ (.int .i64 (x - 1))).heap.size = w1.heap.size by simp] at h
             exact h
           clear hrow hpv hv3 ho HCO _t1)
        | (at_builtin
           have _t2 := HROW
           (refine wpList_append_own_at _ rfl _ _ 48 rfl w.heap.size 26 i0 (.slice none 0 0) 1 24 Tryz.underlying48 hi hz0 hz1 hz2 rfl (by decide) _ _ _ rfl HROW.out ⟨w1.heap.size, 0, none⟩ 1 1 [.slice (some ⟨g, 0, none⟩) n c1] rfl rfl HNW.out (slice_cell _ _ _) (by have := HLN.out; unfold maxLen; omega) (by have := HLN.out; omega) (by have h1 := HB.out.size; have h2 := HW.out.size; simp; omega) ?_)
           intro v' w2 hown hgrow _ hat
           have HO2 : Hid (OP S w2 w.heap.size 26 v' (stepsN p d k ++ [stepTo p k d])) := OP.grew HPV.out HPE.out hown rfl hgrow hat HSS.out
           have HB2 : Hid (Below w.heap.size w w2) := ((HB.out.trans (HW.out.mono HB.out.size)).alloc (by have h1 := HB.out.size; have h2 := HW.out.size; omega) _).grown hgrow (by have h1 := HB.out.size; have h2 := HW.out.size; simp; omega) (fun q hq => by have := HROW.out; exact (World.ownsRow.lt this q hq).1)
           clear hown hgrow hat))
       go_roundw
       case rel=>exact⟨k+1,by omega,by go_num,⟨_,rfl,by rw[HST.out];exact HO2.out⟩,HB2.out⟩
       case measure=>(simp[intOf])<;>omega
      ·have HST:Hid (stepsN p d (k+1)=stepsN p d k):=stepsN_no fun h=>by
        rcases h.2 with h'|h'
        ·omega
        ·exact hz h'
       have b4:decide (0<(p.drop (k+1)).sum)=true:=decide_eq_true (by omega)
       have CS:=Lib.hid CS;clear hd0;generalize (p.drop (k+1)).sum=s0 at *
       go_wp2_with ((go_at_call 162;refine CS.out.mono ?_;rintro e w' ⟨rfl,rfl⟩))
       go_roundw
       case rel=>exact⟨k+1,by omega,by go_num,⟨_,rfl,by rw[HST.out];exact HO.out⟩,HB.out⟩
       case measure=>(simp[intOf])<;>omega
    ·have b1:decide ((k:Int)+1<(d:Int))=false:=decide_eq_false hdk
     have hcan:canP p k d:=⟨by rw[hx];exact hx0,.inl (by omega)⟩
     have HST:Hid (stepsN p d (k+1)=stepsN p d k++[stepTo p k d]):=stepsN_yes hcan
     by_cases hle:d≤k
     ·have b3:decide ((d:Int)≤k)=true:=decide_eq_true (by omega)
      have HSP:Hid (stepTo p k d=(p.set k (x-1)).set (k-d) (p.getD (k-d) 0+1)):=by rw[← hx];exact stepTo_in hle
      have hsub:((k:Int)-(d:Int))=((k-d:Nat):Int):=by omega
      have hy0':=H0.out _ (getD_mem p (k-d) (by rw[HL.out];omega))
      have hy1':=getD_le_sum (k-d) H0.out;have hps:=HS.out;obtain⟨y,hy⟩:∃y:Int,p.getD (k-d) 0=y:=⟨_,rfl⟩;rw[hy]at hy0' hy1' HSP
      have hy15:y≤15:=by omega
      have hne:¬k-d=k:=by omega
      have hne2:¬k=k-d:=by omega
      clear hy1' hps;have hy:=Lib.hid hy
      go_wp2_with (first
       | fail
       | (at_builtin
          have _t1 := HCO
          (refine wpList_append_own _ rfl _ _ 26 rfl wr.heap.size 2 i1 (.int .i64 0) 1 8 Tryz.underlying26 hj hy0 hy1 hy2 rfl (by decide) _ 0 [] rfl HCO.out ⟨b, off, none⟩ n c (p.map (Value.int .i64)) rfl HC1.out HCN.out (ints_oneCell _ _) (by unfold maxLen; omega) (by omega) (by simp) ?_)
          intro v1 w1 hcown hcgrow _
          obtain ⟨g, c1, hv1, ho, hg1, hg2, hcl, hfz, hb⟩ := own_copy hcown hcgrow HL.out (by omega)
          subst hv1; clear hcown hcgrow
          have d1 := hcl k (by omega)
          have d2 := hfz k; rw [hx] at d1
          (have d3 := hcl (k - d) (by omega); have d4 := hfz (k - d); rw [hy.out] at d3)
          clear hcl hfz; have HOW := Lib.hid ((ho.stored k (x - 1)).stored (k - d) (y + 1)); have HW : Hid (Below wr.heap.size wr ((w1.setCell ⟨g, k, none⟩ (.int .i64 (x - 1))).setCell ⟨g, k - d, none⟩ (.int .i64 (y + 1)))) := stw (stw hb hg1) hg1
          have HOS : Hid (OwnS ((w1.setCell ⟨g, k, none⟩ (.int .i64 (x - 1))).setCell ⟨g, k - d, none⟩ (.int .i64 (y + 1))) wr.heap.size 2 (.slice (some ⟨g, 0, none⟩) n c1) (stepTo p k d)) := by rw [HSP.out]; exact HOW.out
          obtain ⟨cs, hrow, hpv, hv3⟩ := HO.out; have HROW := Lib.hid (row_alloc (own_below hrow HW.out) (.cells #[.slice (some ⟨g, 0, none⟩) n c1] 26)); have HPV := Lib.hid ((hpv.frm (Frm.of_below' _ HW.out)).frm ((Frm.refl (wth S vx) _).alloc (.cells #[.slice (some ⟨g, 0, none⟩) n c1] 26))); have hlt2 := Lib.hid (HO.out.lt)
          have HPE : Hid (PVs (wth S vx) (((w1.setCell ⟨g, k, none⟩ (.int .i64 (x - 1))).setCell ⟨g, k - d, none⟩ (.int .i64 (y + 1))).alloc (.cells #[.slice (some ⟨g, 0, none⟩) n c1] 26)) [.slice (some ⟨g, 0, none⟩) n c1] [stepTo p k d]) :=
            PVs.one ((PV.own (HOS.out.alloc' _) fun q hq => by
              rintro (h' | h')
              · exact HSS.out q (by have := HB.out.size; omega) h'
              · have := (hlt2.out q h').2; omega))
          have HNW : Hid (∀ j u, [Value.slice (some ⟨g, 0, none⟩) n c1][j]? = some u → (((w1.setCell ⟨g, k, none⟩ (.int .i64 (x - 1))).setCell ⟨g, k - d, none⟩ (.int .i64 (y + 1))).alloc (.cells #[.slice (some ⟨g, 0, none⟩) n c1] 26)).cell? ((⟨w1.heap.size, 0, none⟩ : Addr).add j) = some u) := by
            have h := one_new ((w1.setCell ⟨g, k, none⟩ (.int .i64 (x - 1))).setCell ⟨g, k - d, none⟩ (.int .i64 (y + 1))) (.slice (some ⟨g, 0, none⟩) n c1) 26
            rw [show ((w1.setCell ⟨g, k, none⟩ (.int .i64 (x - 1))).setCell ⟨g, k - d, none⟩ (.int .i64 (y + 1))).heap.size = w1.heap.size by simp] at h
            exact h
          clear hrow hpv hv3 ho HCO _t1)
       | (at_builtin
          have _t2 := HROW
          (refine wpList_append_own_at _ rfl _ _ 48 rfl w.heap.size 26 i0 (.slice none 0 0) 1 24 Tryz.underlying48 hi hz0 hz1 hz2 rfl (by decide) _ _ _ rfl HROW.out ⟨w1.heap.size, 0, none⟩ 1 1 [.slice (some ⟨g, 0, none⟩) n c1] rfl rfl HNW.out (slice_cell _ _ _) (by have := HLN.out; unfold maxLen; omega) (by have := HLN.out; omega) (by have h1 := HB.out.size; have h2 := HW.out.size; simp; omega) ?_)
          intro v' w2 hown hgrow _ hat
          have HO2 : Hid (OP S w2 w.heap.size 26 v' (stepsN p d k ++ [stepTo p k d])) := OP.grew HPV.out HPE.out hown rfl hgrow hat HSS.out
          have HB2 : Hid (Below w.heap.size w w2) := ((HB.out.trans (HW.out.mono HB.out.size)).alloc (by have h1 := HB.out.size; have h2 := HW.out.size; omega) _).grown hgrow (by have h1 := HB.out.size; have h2 := HW.out.size; simp; omega) (fun q hq => by have := HROW.out; exact (World.ownsRow.lt this q hq).1)
          clear hown hgrow hat))
      go_roundw
      case rel=>exact⟨k+1,by omega,by go_num,⟨_,rfl,by rw[HST.out];exact HO2.out⟩,HB2.out⟩
      case measure=>(simp[intOf])<;>omega
     ·have b3:decide ((d:Int)≤k)=false:=decide_eq_false (by omega)
      have HSP:Hid (stepTo p k d=p.set k (x-1)):=by rw[← hx];exact stepTo_off hle
      go_wp2_with (first
       | fail
       | (at_builtin
          have _t1 := HCO
          (refine wpList_append_own _ rfl _ _ 26 rfl wr.heap.size 2 i1 (.int .i64 0) 1 8 Tryz.underlying26 hj hy0 hy1 hy2 rfl (by decide) _ 0 [] rfl HCO.out ⟨b, off, none⟩ n c (p.map (Value.int .i64)) rfl HC1.out HCN.out (ints_oneCell _ _) (by unfold maxLen; omega) (by omega) (by simp) ?_)
          intro v1 w1 hcown hcgrow _
          obtain ⟨g, c1, hv1, ho, hg1, hg2, hcl, hfz, hb⟩ := own_copy hcown hcgrow HL.out (by omega)
          subst hv1; clear hcown hcgrow
          have d1 := hcl k (by omega)
          have d2 := hfz k; rw [hx] at d1
          skip
          clear hcl hfz; have HOW := Lib.hid (ho.stored k (x - 1)); have HW : Hid (Below wr.heap.size wr (w1.setCell ⟨g, k, none⟩ (.int .i64 (x - 1)))) := stw hb hg1
          have HOS : Hid (OwnS (w1.setCell ⟨g, k, none⟩ (.int .i64 (x - 1))) wr.heap.size 2 (.slice (some ⟨g, 0, none⟩) n c1) (stepTo p k d)) := by rw [HSP.out]; exact HOW.out
          obtain ⟨cs, hrow, hpv, hv3⟩ := HO.out; have HROW := Lib.hid (row_alloc (own_below hrow HW.out) (.cells #[.slice (some ⟨g, 0, none⟩) n c1] 26)); have HPV := Lib.hid ((hpv.frm (Frm.of_below' _ HW.out)).frm ((Frm.refl (wth S vx) _).alloc (.cells #[.slice (some ⟨g, 0, none⟩) n c1] 26))); have hlt2 := Lib.hid (HO.out.lt)
          have HPE : Hid (PVs (wth S vx) ((w1.setCell ⟨g, k, none⟩ (.int .i64 (x - 1))).alloc (.cells #[.slice (some ⟨g, 0, none⟩) n c1] 26)) [.slice (some ⟨g, 0, none⟩) n c1] [stepTo p k d]) :=
            PVs.one ((PV.own (HOS.out.alloc' _) fun q hq => by
              rintro (h' | h')
              · exact HSS.out q (by have := HB.out.size; omega) h'
              · have := (hlt2.out q h').2; omega))
          have HNW : Hid (∀ j u, [Value.slice (some ⟨g, 0, none⟩) n c1][j]? = some u → ((w1.setCell ⟨g, k, none⟩ (.int .i64 (x - 1))).alloc (.cells #[.slice (some ⟨g, 0, none⟩) n c1] 26)).cell? ((⟨w1.heap.size, 0, none⟩ : Addr).add j) = some u) := by
            have h := one_new (w1.setCell ⟨g, k, none⟩ (.int .i64 (x - 1))) (.slice (some ⟨g, 0, none⟩) n c1) 26
            rw [show (w1.setCell ⟨g, k, none⟩ (.int .i64 (x - 1))).heap.size = w1.heap.size by simp] at h
            exact h
          clear hrow hpv hv3 ho HCO _t1)
       | (at_builtin
          have _t2 := HROW
          (refine wpList_append_own_at _ rfl _ _ 48 rfl w.heap.size 26 i0 (.slice none 0 0) 1 24 Tryz.underlying48 hi hz0 hz1 hz2 rfl (by decide) _ _ _ rfl HROW.out ⟨w1.heap.size, 0, none⟩ 1 1 [.slice (some ⟨g, 0, none⟩) n c1] rfl rfl HNW.out (slice_cell _ _ _) (by have := HLN.out; unfold maxLen; omega) (by have := HLN.out; omega) (by have h1 := HB.out.size; have h2 := HW.out.size; simp; omega) ?_)
          intro v' w2 hown hgrow _ hat
          have HO2 : Hid (OP S w2 w.heap.size 26 v' (stepsN p d k ++ [stepTo p k d])) := OP.grew HPV.out HPE.out hown rfl hgrow hat HSS.out
          have HB2 : Hid (Below w.heap.size w w2) := ((HB.out.trans (HW.out.mono HB.out.size)).alloc (by have h1 := HB.out.size; have h2 := HW.out.size; omega) _).grown hgrow (by have h1 := HB.out.size; have h2 := HW.out.size; simp; omega) (fun q hq => by have := HROW.out; exact (World.ownsRow.lt this q hq).1)
          clear hown hgrow hat))
      go_roundw
      case rel=>exact⟨k+1,by omega,by go_num,⟨_,rfl,by rw[HST.out];exact HO2.out⟩,HB2.out⟩
      case measure=>(simp[intOf])<;>omega
  ·have hkn:k=n:=by omega
   subst hkn
   go_wp2_with (fail)
   go_ret
   exact⟨_,rfl,by unfold stepsL;rw[HL.out];exact HO.out,HB.out⟩
end Go.Proofs.YtkaiilmgemaljaaGreat

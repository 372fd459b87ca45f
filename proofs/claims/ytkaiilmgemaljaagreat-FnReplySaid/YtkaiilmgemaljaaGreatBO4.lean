/- Part of one proof. There are no conditions. -/
import Derived.Test.YtkaiilmgemaljaaGreatBE7
import Derived.Test.YtkaiilmgemaljaaGreatBM33
import Derived.Test.YtkaiilmgemaljaaGreatBM45
import Derived.Test.YtkaiilmgemaljaaGreatBM4
import Derived.Test.YtkaiilmgemaljaaGreatBM3
import Derived.Test.YtkaiilmgemaljaaGreatBD7
import Derived.Test.YtkaiilmgemaljaaGreatBM29
set_option linter.unusedVariables false
set_option linter.unusedSimpArgs false
set_option maxHeartbeats 0
set_option maxRecDepth 100000
namespace Go.Proofs.YtkaiilmgemaljaaGreat
open Go.RowKit Mo Ps Ra Ex
theorem cmp_zero' {B:Int} (x:E):cmpE B x x=0:=by unfold cmpE;rw[if_neg (by omega),if_neg (by omega)]
theorem cmp_neg' {B:Int} {x y:E} (h:ltE B x y=true):cmpE B x y = -1:=by
 unfold cmpE;rw[if_pos (of_decide_eq_true h)]
theorem reply_facts {p c h s m:Int} {bv:Bool} {own other:List Int} {v o x d k rep k2:Int} (H:(x,d,k)=dbR p c h s m bv own other v o) (H2:(rep,k2)=bpR p c h s m bv own other v o):
  k2=k∧(k≠0→x=0∧d=0∧rep=0)∧
  (k=0→∃(s':Nat) (e:E),s=s'∧isVar p c h s'=true∧x=e.num∧d=(e.depth:Int)∧Val (sq s') e∧1≤v∧v≤1024∧cubB m v o=true∧cvR p c h s' m bv own other v o rep=(e.num,(e.depth:Int),0)∧posA ⟨m,bv⟩ (v,o) rep=true∧0≤rep∧rep<5∧
   ((cmpE (sq s') e (whl v)=0∧rep=2)∨(cmpE (sq s') e (whl v) = -1∧rep≠2))):=by
 unfold bpR at H2;rw[dbR_dg]at H;unfold dgR at H H2
 by_cases hD:codeD p c h s m bv own other v o=0
 ·rw[if_pos hD]at H H2
  obtain⟨hM,hm⟩:=zhw hD
  have hL:codeL p c h s m own other v o true=0:=by
   unfold codeM at hM
   split at hM
   ·assumption
   ·exact hM
  obtain⟨c',h',s',K,rfl,rfl,rfl,rfl,hK,hv,hs1,hs6,ho,ht,hcb,_⟩:=codeL_nat hL;have hcu:=(zci hL).2.2.2.2.1;have hB:=(sq_bd hs1 hs6).1;obtain⟨v1,v2,_⟩:=hcb.v0
  simp only at v1 v2
  have hv3:=two_1024' hK;rw[Int.toNat_natCast]at H H2
  cases hd:dbl s' ⟨two K,bv⟩ own other (v,o) with
  | none =>
    rw [hd] at H H2; unfold dgO at H H2
    simp only [Prod.mk.injEq] at H H2
    obtain ⟨rfl, rfl, rfl⟩ := H; obtain ⟨rfl, rfl⟩ := H2
    exact ⟨rfl, fun _ => ⟨rfl, rfl, rfl⟩, fun h => by cases h⟩
  | some da =>
    obtain ⟨e, a⟩ := da; rw [hd] at H H2; unfold dgO at H H2
    simp only [Prod.mk.injEq] at H H2
    obtain ⟨rfl, rfl, rfl⟩ := H; obtain ⟨rfl, rfl⟩ := H2
    refine ⟨rfl, fun h => absurd rfl h, fun _ => ⟨s', e, rfl, hv, rfl, rfl, ?_, v1, by omega, hcu, ?_⟩⟩
    · exact zhu (B := sq s') (fun c e he => zcE hB he) (zbK (by show -100000 ≤ v; omega) (by show v ≤ 100000; omega)) (y := (e, rep)) hd
    · obtain ⟨_, _, hf⟩ := zgI hB (r := ⟨two K, bv⟩) (R := rol s' ⟨two K, bv⟩) (own := own) (other := other) (c := (v, o)) (D := e) (a := rep) hd
      have cv : ∀ a, posA ⟨two K, bv⟩ (v, o) a = true → valV s' ⟨two K, bv⟩ own other (v, o) a = some e → cvR p c' h' s' (two K) bv own other v o a = (e.num, (e.depth : Int), 0) := fun a ha hvv => by
        unfold cvR codeC; rw [ha, if_pos hM, Int.toNat_natCast, hvv]
        rfl
      rcases hf with ⟨rfl, rfl⟩ | ⟨hlt, hf⟩
      · exact ⟨cv 2 hm (by unfold valV; rw [if_pos rfl]; rfl), hm, by omega, by omega, .inl ⟨cmp_zero' _, rfl⟩⟩
      · have hc := cmp_neg' hlt
        rcases hf with ⟨rfl, hr⟩ | ⟨rfl, hb, hr⟩ | ⟨rfl, hb, hr⟩
        · exact ⟨cv 1 hm hr, hm, by omega, by omega, .inr ⟨hc, by omega⟩⟩
        · exact ⟨cv 3 hb hr, hb, by omega, by omega, .inr ⟨hc, by omega⟩⟩
        · exact ⟨cv 4 hb hr, hb, by omega, by omega, .inr ⟨hc, by omega⟩⟩
 ·rw[if_neg hD]at H H2
  simp only[Prod.mk.injEq]at H H2
  obtain⟨rfl,rfl,rfl⟩:=H;obtain⟨rfl,rfl⟩:=H2
  exact⟨rfl,fun _=>⟨rfl,rfl,rfl⟩,fun h=>absurd h hD⟩
end Go.Proofs.YtkaiilmgemaljaaGreat
namespace Go.Proofs.YtkaiilmgemaljaaGreat
open Go.RowKit Mo Ps Ra Ex
def actL (r:Ru) (c:Cb):Nat→List Int
 | 0=>[]
 | k+1=>if posA r c (k:Int)=true then actL r c k++[(k:Int)] else actL r c k
theorem actL_mem {r:Ru} {c:Cb} {x:Int}:∀{k:Nat},x∈actL r c k↔0≤x∧x<k∧posA r c x=true
 | 0=>by simp[actL];intro h1 h2;omega
 | k + 1 => by
   unfold actL; have ih := actL_mem (r := r) (c := c) (x := x) (k := k)
   by_cases hk : posA r c (k : Int) = true
   · rw [if_pos hk, List.mem_append, ih, List.mem_singleton]
     constructor
     · rintro (⟨h1, h2, h3⟩ | rfl)
       · exact ⟨h1, by omega, h3⟩
       · exact ⟨by omega, by omega, hk⟩
     · rintro ⟨h1, h2, h3⟩
       by_cases e : x = k
       · exact .inr e
       · exact .inl ⟨h1, by omega, h3⟩
   · rw [if_neg hk, ih]
     constructor
     · rintro ⟨h1, h2, h3⟩; exact ⟨h1, by omega, h3⟩
     · rintro ⟨h1, h2, h3⟩
       have e : x ≠ k := fun e => hk (by rw [← e]; exact h3)
       exact ⟨h1, by omega, h3⟩
theorem zhC (r:Ru) (c:Cb):∀k,(actL r c k).length≤k
 | 0=>Nat.le_refl _
 | k + 1 => by
   have := zhC r c k; unfold actL
   split
   · rw [List.length_append]; simp; omega
   · omega
theorem zge (m:Int) (b j:Bool) (v o:Int) (w:World) (hc:cubB m v o=true) (hv1:0≤v) (hv2:v≤100000):
  Calls Tryz.prog 49 #[.agg #[.int .i64 m,.bool b,.bool j],.agg #[.int .i64 v,.int .i64 o]] w fun e w'=>∃u,e = .returned u∧OwnS w' w.heap.size 2 u (actL ⟨m,b⟩ (v,o) 5)∧Below w.heap.size w w':=by
 obtain⟨i0,hi,hz0,hz1,hz2⟩:=info_parts Tryz.infoI
 have HF:Hid (FrS (fun _=>False) w ((w.alloc (.cells #[.int .i64 m,.bool b,.bool j] 53)).alloc (.cells #[.int .i64 v,.int .i64 o] 55)) [[.int .i64 m,.bool b,.bool j],[.int .i64 v,.int .i64 o]]):=((FrS.start w (fun _ h=>h.elim)).allocT (by simp) _ _).allocT (by simp) _ _
 have CI:Hid (∀W:World,Calls Tryz.prog 119 #[.agg #[.int .i64 m,.bool b,.bool j],.agg #[.int .i64 v,.int .i64 o]] W fun e w'=>e = .returned (.bool true)∧Below W.heap.size W w'):=fun W=>by
  have:=zeP m b j v o W;rw[hc]at this;exact this
 have CP:=h_ fun (a:Int) (W:World)=>zaZ m b j v o a W hv1 hv2
 clear hc;obtain⟨r,hr⟩:∃r:Ru,r=⟨m,b⟩:=⟨_,rfl⟩;obtain⟨c,hc⟩:∃c:Cb,c=(v,o):=⟨_,rfl⟩;rw[← hr,← hc]at CP ⊢;clear hr hc
 go_enter Tryz.func49,Tryz.ntmps49
 obtain⟨z0,c00,f00,c01,f01,c02,f02,z1,c10,f10,c11,f11⟩:=HF.out.xf4
 go_wp2_with (fail)
 refine (CI.out _).mono ?_
 rintro e w1 ⟨rfl,hb⟩
 replace HF:=h_ (HF.out.below hb);clear hb CI;clear z0 c00 f00 c01 f01 c02 f02 z1 c10 f10 c11 f11
 go_wp2_with (fail)
 have HO0:Hid (OwnS w1 (w.heap.size+2) 2 (.slice none 0 0) []):=World.ownsRow_nil _ _ _ _
 go_loopw [5,6] (fun v5 v6 wr=>∃k:Nat,k≤5∧v6 = .int .i64 k∧(∃vx,vx=v5∧Hid (OwnS wr (w.heap.size+2) 2 vx (actL r c k)))∧Hid (FrS (fun _=>False) w wr [[.int .i64 m,.bool b,.bool j],[.int .i64 v,.int .i64 o]])) (fun _ v6 _=>5-(intOf v6).toNat)
 case atStart=>exact⟨0,by omega,rfl,⟨_,rfl,HO0.out⟩,HF.out⟩
 case round=>
  clear HO0 HF;obtain⟨k,hk,rfl,⟨vx,rfl,HO⟩,HF⟩:=hrel
  by_cases hlt:k<5
  ·have hki:(k:Int)≤4:=by omega
   have HL:=h_ (zhC r c k)
   by_cases hp:posA r c (k:Int)=true
   ·have HA:Hid (actL r c (k+1)=actL r c k++[(k:Int)]):=if_pos hp
    have CK:=h_ (CP.out (k:Int));rw[hp]at CK;clear hp;obtain⟨z0,c00,f00,c01,f01,c02,f02,z1,c10,f10,c11,f11⟩:=HF.out.xf4
    go_wp2_with (fail)
    refine (CK.out _).mono ?_
    rintro e w2 ⟨rfl,hb⟩
    replace HF:=h_ (HF.out.below hb);replace HO:=h_ (HO.out.below hb);clear hb CK;clear z0 c00 f00 c01 f01 c02 f02 z1 c10 f10 c11 f11;generalize actL r c k=ps at *;have hps:=HL.out
    have hw2:w.heap.size+2≤w2.heap.size:=by have:=HF.out.z;simpa using this
    have HROW:Hid ((w2.alloc (.cells #[.int .i64 k] 2)).ownsRow (w.heap.size+2) 2 1 vx ps.length (ps.map (Value.int .i64))):=row_alloc HO.out _
    have HVL:=h_ fun (j:Nat) (hj:vx.ownBlock=some j)=>HO.out.lt j hj
    have HTN:Hid (∀j u,[Value.int .i64 k][j]? = some u→(w2.alloc (.cells #[.int .i64 k] 2)).cell? ((⟨w2.heap.size,0,none⟩:Addr).add j)=some u):=one_new w2 (.int .i64 k) _;have HFA:=h_ (HF.out.alloc (.cells #[.int .i64 k] 2));clear HF HO
    go_wp2_with (at_builtin;(refine wpList_append_own_at _ rfl _ _ 26 rfl (w.heap.size+2) 2 i0 (.int .i64 0) 1 8 Tryz.underlying26 hi hz0 hz1 hz2 rfl (by decide) _ _ _ rfl HROW.out ⟨w2.heap.size,0,none⟩ 1 1 [.int .i64 k] rfl rfl HTN.out (ints_oneCell _ [(k:Int)]) (by unfold maxLen;omega) (by omega) (by simp;omega) ?_);intro v' w4 hown hgrow _ hat)
    have HF4:Hid (FrS (fun _=>False) w w4 [[.int .i64 m,.bool b,.bool j],[.int .i64 v,.int .i64 o]]):=HFA.out.out (Frm.of_grown hgrow) (fun j hj=>by have:=(HVL.out j hj.symm).1;simpa using this)
    have HO4:Hid (OwnS w4 (w.heap.size+2) 2 v' (ps++[(k:Int)])):=zhg hown;clear hown hgrow hat HROW HFA
    go_wp2_with (fail)
    go_roundw
    case rel=>exact⟨k+1,by omega,by go_num,⟨_,rfl,by rw[HA.out];exact HO4.out⟩,HF4.out⟩
    case measure=>(simp[intOf])<;>omega
   ·have HA:Hid (actL r c (k+1)=actL r c k):=if_neg hp
    have CK:=h_ (CP.out (k:Int))
    rw[show posA r c (k:Int)=false by cases h:posA r c (k:Int) with|false=>rfl|true=>exact absurd h hp]at CK
    clear hp;obtain⟨z0,c00,f00,c01,f01,c02,f02,z1,c10,f10,c11,f11⟩:=HF.out.xf4
    go_wp2_with (fail)
    refine (CK.out _).mono ?_
    rintro e w2 ⟨rfl,hb⟩
    replace HF:=h_ (HF.out.below hb);replace HO:=h_ (HO.out.below hb);clear hb CK;clear z0 c00 f00 c01 f01 c02 f02 z1 c10 f10 c11 f11
    go_wp2_with (fail)
    go_roundw
    case rel=>exact⟨k+1,by omega,by go_num,⟨_,rfl,by rw[HA.out];exact HO.out⟩,HF.out⟩
    case measure=>(simp[intOf])<;>omega
  ·obtain rfl:k=5:=by omega
   go_wp2_with (fail)
   go_ret
   exact⟨_,rfl,HO.out.base (by omega),HF.out.f.below (Nat.le_refl _) (fun _ h=>h.elim)⟩
theorem hasInt_any (A:Option Addr) (n ca:Nat) (xs:List Int) (x:Int) (w:World) (hx:SL w A n xs) (hn:n≤1000):
  Calls Tryz.prog 48 #[.slice A n ca,.int .i64 x] w fun e w'=>e = .returned (.bool (decide (x∈xs)))∧w=w':=by
 have hl:=hx.1;have HX:=h_ hx;clear hx
 go_enter Tryz.func48,Tryz.ntmps48
 go_wp2_with (fail)
 go_loop [5] (fun v5=>∃k:Nat,k≤n∧v5 = .int .i64 k∧Hid (x∉xs.take k)) (fun v5=>n-(intOf v5).toNat)
 case atStart=>exact⟨0,by omega,rfl,by simp[Hid]⟩
 case round=>
  obtain⟨k,hk,rfl,HK⟩:=hrel
  by_cases hlt:k<n
  ·have hki:(k:Int)<(n:Int):=by omega
   obtain⟨b,off,rfl,_,hcl⟩:=HX.out.2 (by omega)
   have hcell:=hcl k hlt
   by_cases he:xs.getD k 0=x
   ·have HD:Hid (decide (x∈xs)=true):=decide_eq_true (by rw[← he];exact zaN xs k (by omega))
    have b1:(xs.getD k 0 == x)=true:=beq_iff_eq.2 he;clear hcl he;generalize xs.getD k 0=y at *
    go_wp2_with (fail)
    go_ret
    exact⟨by rw[HD.out];rfl,rfl⟩
   ·have HK2:Hid (x∉xs.take (k+1)):=by
     unfold Hid
     intro hm
     rcases zcI (by omega) hm with h|h
     ·exact HK.out h
     ·exact he h.symm
    have b1:(xs.getD k 0 == x)=false:=beq_eq_false_iff_ne.2 he;clear hcl he;generalize xs.getD k 0=y at *
    go_wp2_with (fail)
    go_round
    case rel=>exact⟨k+1,by omega,by go_num,HK2.out⟩
    case measure=>(simp[intOf])<;>omega
  ·have HD:Hid (decide (x∈xs)=false):=decide_eq_false (by have:=HK.out;rwa [List.take_of_length_le (by omega)]at this)
   go_wp2_with (fail)
   go_ret
   exact⟨by rw[HD.out];rfl,rfl⟩
end Go.Proofs.YtkaiilmgemaljaaGreat
namespace Go.Proofs.YtkaiilmgemaljaaGreat
open Go.RowKit Mo Ps Ra Ex
theorem reply_law' (C:Option Addr) (n c:Nat) (bs:List Int) (w:World) (hC:SBy w C n bs):
  Calls Tryz.prog 9 #[.slice C n c] w fun e w'=>e = .returned (.bool true)∧Below w.heap.size w w':=by
 have HC:=h_ hC;clear hC
 by_cases hn:4096<n
 ·have hd:decide (4096<n)=true:=by simp[hn]
  go_enter Tryz.func9,Tryz.ntmps9
  go_wp2_with (fail)
  refine (big_any C n c w).mono ?_
  rintro e w' ⟨rfl,rfl⟩
  rw[hd]
  go_wp2_with (fail)
  go_ret
  exact⟨rfl,Bel.rfl' _⟩
 have hd:decide (4096<n)=false:=by simp[hn]
 have HD:=h_ (zeQ C n c bs w HC.out (by omega))
 clear HC
 go_enter Tryz.func9,Tryz.ntmps9
 go_wp2_with (fail)
 refine (big_any C n c w).mono ?_
 rintro e w' ⟨rfl,rfl⟩
 rw[hd]
 go_wp2_with (fail)
 refine HD.out.mono ?_
 rintro e w1 ⟨p,cv,h,s,m,ba,bj,v1,xs,v2,ys,a,b,rfl,hdv,hdm,hdc,h1,h2,hx,hy,hb⟩
 obtain⟨A1,k1,rfl,s1,m1⟩:=h1.read;obtain⟨A2,k2,rfl,s2,m2⟩:=h2.read;have H1:=h_ s1;have H2:=h_ s2;have HB:=h_ hb;have HDV:=h_ hdv;have HDM:=h_ hdm;have HDC:=h_ hdc;clear HD hb h1 h2 s1 s2 hdv hdm hdc hx hy;replace H1:=h_ (H1.out.alloc (.cells #[.int .i64 p,.int .i64 cv,.int .i64 h,.int .i64 s] 25));replace H2:=h_ (H2.out.alloc (.cells #[.int .i64 p,.int .i64 cv,.int .i64 h,.int .i64 s] 25));replace HB:=h_ (HB.out.alloc HB.out.size (.cells #[.int .i64 p,.int .i64 cv,.int .i64 h,.int .i64 s] 25));have HV:Hid (Cel (w1.alloc (.cells #[.int .i64 p,.int .i64 cv,.int .i64 h,.int .i64 s] 25)) (w1.heap.size) [.int .i64 p,.int .i64 cv,.int .i64 h,.int .i64 s]):=Cel.new w1 #[.int .i64 p,.int .i64 cv,.int .i64 h,.int .i64 s] _;replace H1:=h_ (H1.out.alloc (.cells #[.int .i64 m,.bool ba,.bool bj] 53));replace H2:=h_ (H2.out.alloc (.cells #[.int .i64 m,.bool ba,.bool bj] 53));replace HB:=h_ (HB.out.alloc HB.out.size (.cells #[.int .i64 m,.bool ba,.bool bj] 53));replace HV:=h_ (HV.out.alloc (.cells #[.int .i64 m,.bool ba,.bool bj] 53))
 have HR:Hid (Cel ((w1.alloc (.cells #[.int .i64 p,.int .i64 cv,.int .i64 h,.int .i64 s] 25)).alloc (.cells #[.int .i64 m,.bool ba,.bool bj] 53)) (w1.heap.size+1) [.int .i64 m,.bool ba,.bool bj]):=Cel.new' (w1.alloc (.cells #[.int .i64 p,.int .i64 cv,.int .i64 h,.int .i64 s] 25)) #[.int .i64 m,.bool ba,.bool bj] _ (by simp)
 replace H1:=h_ (H1.out.alloc (.cells #[.int .i64 a,.int .i64 b] 55));replace H2:=h_ (H2.out.alloc (.cells #[.int .i64 a,.int .i64 b] 55));replace HB:=h_ (HB.out.alloc HB.out.size (.cells #[.int .i64 a,.int .i64 b] 55));replace HV:=h_ (HV.out.alloc (.cells #[.int .i64 a,.int .i64 b] 55));replace HR:=h_ (HR.out.alloc (.cells #[.int .i64 a,.int .i64 b] 55))
 have HK:Hid (Cel (((w1.alloc (.cells #[.int .i64 p,.int .i64 cv,.int .i64 h,.int .i64 s] 25)).alloc (.cells #[.int .i64 m,.bool ba,.bool bj] 53)).alloc (.cells #[.int .i64 a,.int .i64 b] 55)) (w1.heap.size+1+1) [.int .i64 a,.int .i64 b]):=Cel.new' ((w1.alloc (.cells #[.int .i64 p,.int .i64 cv,.int .i64 h,.int .i64 s] 25)).alloc (.cells #[.int .i64 m,.bool ba,.bool bj] 53)) #[.int .i64 a,.int .i64 b] _ (by simp)
 go_wp2_with (fail)
 generalize (((w1.alloc (.cells #[.int .i64 p,.int .i64 cv,.int .i64 h,.int .i64 s] 25)).alloc (.cells #[.int .i64 m,.bool ba,.bool bj] 53)).alloc (.cells #[.int .i64 a,.int .i64 b] 55))=V1 at *;generalize w1.heap.size=g1 at *;obtain⟨r1,hr1⟩:∃r,r=dbR p cv h s m ba xs ys a b:=⟨_,rfl⟩;obtain⟨r2,hr2⟩:∃r,r=bpR p cv h s m ba xs ys a b:=⟨_,rfl⟩;obtain⟨x1,d1,e1⟩:=r1;obtain⟨rp,e2⟩:=r2;have E1:=h_ hr1;have E2:=h_ hr2;obtain⟨hk,hno,hyes⟩:=reply_facts hr1 hr2;subst hk;have HNO:=h_ hno;have HYES:=h_ hyes;clear hr1 hr2 hno hyes;have K:=zeR p cv h s m ba bj A1 A2 _ _ k1 k2 xs ys a b _ H1.out H2.out m1 m2;rw[← E1.out]at K
 refine (K).mono ?_
 rintro e w2 ⟨rfl,hb⟩
 replace H1:=h_ (H1.out.below hb);replace H2:=h_ (H2.out.below hb);replace HB:=h_ (HB.out.trans (hb.mono HB.out.size));replace HV:=h_ (HV.out.below hb);replace HR:=h_ (HR.out.below hb);replace HK:=h_ (HK.out.below hb);clear hb;clear K;have cHV_0:=HV.out.cell 0 _ rfl;have cHV_1:=HV.out.cell 1 _ rfl;have cHV_2:=HV.out.cell 2 _ rfl;have cHV_3:=HV.out.cell 3 _ rfl;have cHV_z:=HV.out.lt;have cHR_0:=HR.out.cell 0 _ rfl;have cHR_1:=HR.out.cell 1 _ rfl;have cHR_2:=HR.out.cell 2 _ rfl;have cHR_z:=HR.out.lt;have cHK_0:=HK.out.cell 0 _ rfl;have cHK_1:=HK.out.cell 1 _ rfl;have cHK_z:=HK.out.lt;replace H1:=h_ (H1.out.alloc (.cells #[.int .i64 x1,.int .i64 d1] 35));replace H2:=h_ (H2.out.alloc (.cells #[.int .i64 x1,.int .i64 d1] 35));replace HB:=h_ (HB.out.alloc HB.out.size (.cells #[.int .i64 x1,.int .i64 d1] 35));replace HV:=h_ (HV.out.alloc (.cells #[.int .i64 x1,.int .i64 d1] 35));replace HR:=h_ (HR.out.alloc (.cells #[.int .i64 x1,.int .i64 d1] 35));replace HK:=h_ (HK.out.alloc (.cells #[.int .i64 x1,.int .i64 d1] 35));have HX:Hid (Cel (w2.alloc (.cells #[.int .i64 x1,.int .i64 d1] 35)) (w2.heap.size) [.int .i64 x1,.int .i64 d1]):=Cel.new w2 #[.int .i64 x1,.int .i64 d1] _
 go_wp2_with (fail)
 clear cHV_0 cHV_1 cHV_2 cHV_3 cHV_z cHR_0 cHR_1 cHR_2 cHR_z cHK_0 cHK_1 cHK_z;generalize (w2.alloc (.cells #[.int .i64 x1,.int .i64 d1] 35))=V2 at *;generalize w2.heap.size=g2 at *;have K:=zhE p cv h s m ba bj A1 A2 _ _ k1 k2 xs ys a b _ H1.out H2.out m1 m2;rw[← E2.out]at K
 refine (K).mono ?_
 rintro e w3 ⟨rfl,hb⟩
 replace H1:=h_ (H1.out.below hb);replace H2:=h_ (H2.out.below hb);replace HB:=h_ (HB.out.trans (hb.mono HB.out.size));replace HV:=h_ (HV.out.below hb);replace HR:=h_ (HR.out.below hb);replace HK:=h_ (HK.out.below hb);replace HX:=h_ (HX.out.below hb);clear hb;clear K;have cHV_0:=HV.out.cell 0 _ rfl;have cHV_1:=HV.out.cell 1 _ rfl;have cHV_2:=HV.out.cell 2 _ rfl;have cHV_3:=HV.out.cell 3 _ rfl;have cHV_z:=HV.out.lt;have cHR_0:=HR.out.cell 0 _ rfl;have cHR_1:=HR.out.cell 1 _ rfl;have cHR_2:=HR.out.cell 2 _ rfl;have cHR_z:=HR.out.lt;have cHK_0:=HK.out.cell 0 _ rfl;have cHK_1:=HK.out.cell 1 _ rfl;have cHK_z:=HK.out.lt
 go_wp2_with (fail)
 clear cHV_0 cHV_1 cHV_2 cHV_3 cHV_z cHR_0 cHR_1 cHR_2 cHR_z cHK_0 cHK_1 cHK_z;have K:=zef p cv h s m ba bj A1 A2 _ _ k1 k2 xs ys a b _ H1.out H2.out m1 m2;rw[← E1.out]at K
 refine (K).mono ?_
 rintro e w4 ⟨rfl,hb⟩
 replace H1:=h_ (H1.out.below hb);replace H2:=h_ (H2.out.below hb);replace HB:=h_ (HB.out.trans (hb.mono HB.out.size));replace HV:=h_ (HV.out.below hb);replace HR:=h_ (HR.out.below hb);replace HK:=h_ (HK.out.below hb);replace HX:=h_ (HX.out.below hb);clear hb;clear K;have cHV_0:=HV.out.cell 0 _ rfl;have cHV_1:=HV.out.cell 1 _ rfl;have cHV_2:=HV.out.cell 2 _ rfl;have cHV_3:=HV.out.cell 3 _ rfl;have cHV_z:=HV.out.lt;have cHR_0:=HR.out.cell 0 _ rfl;have cHR_1:=HR.out.cell 1 _ rfl;have cHR_2:=HR.out.cell 2 _ rfl;have cHR_z:=HR.out.lt;have cHK_0:=HK.out.cell 0 _ rfl;have cHK_1:=HK.out.cell 1 _ rfl;have cHK_z:=HK.out.lt;have cHX_0:=HX.out.cell 0 _ rfl;have cHX_1:=HX.out.cell 1 _ rfl;have cHX_z:=HX.out.lt;replace H1:=h_ (H1.out.alloc (.cells #[.int .i64 x1,.int .i64 d1] 35));replace H2:=h_ (H2.out.alloc (.cells #[.int .i64 x1,.int .i64 d1] 35));replace HB:=h_ (HB.out.alloc HB.out.size (.cells #[.int .i64 x1,.int .i64 d1] 35));replace HV:=h_ (HV.out.alloc (.cells #[.int .i64 x1,.int .i64 d1] 35));replace HR:=h_ (HR.out.alloc (.cells #[.int .i64 x1,.int .i64 d1] 35));replace HK:=h_ (HK.out.alloc (.cells #[.int .i64 x1,.int .i64 d1] 35));replace HX:=h_ (HX.out.alloc (.cells #[.int .i64 x1,.int .i64 d1] 35));have HZ:Hid (Cel (w4.alloc (.cells #[.int .i64 x1,.int .i64 d1] 35)) (w4.heap.size) [.int .i64 x1,.int .i64 d1]):=Cel.new w4 #[.int .i64 x1,.int .i64 d1] _
 have b0:(e2 != e2)=false:=by simp
 by_cases h1:e2=0
 ·have b1:(e2 != 0)=false:=by simp[h1]
  obtain⟨s',u,rfl,hv,rfl,rfl,hvu,hv1,hv2,hcu,hcv,hpa,hr0,hr5,hc⟩:=HYES.out h1
  have va:Val (sq s') ⟨a,(0:Nat)⟩:=zbK (by omega) (by omega)
  have C1:=h_ fun (W:World)=>w5_any p cv h u.num a s' u.depth 0 W hv hvu va
  have CA:=h_ fun (W:World)=>zge m ba bj a b W hcu (by omega) (by omega)
  have HM:Hid (rp∈actL ⟨m,ba⟩ (a,b) 5):=actL_mem.2 ⟨hr0,hr5,hpa⟩;have HLN:=h_ (zhC ⟨m,ba⟩ (a,b) 5);have HCV:=h_ hcv;have hc':Hid ((cmpE (sq s') ⟨u.num,u.depth⟩ ⟨a,0⟩=0∧rp=2)∨(cmpE (sq s') ⟨u.num,u.depth⟩ ⟨a,0⟩ = -1∧rp≠2)):=hc;generalize cmpE (sq s') ⟨u.num,u.depth⟩ ⟨a,0⟩=n1 at *;generalize actL ⟨m,ba⟩ (a,b) 5=al at *
  have ee:∀W:World,(binOp .eql 35 (.agg #[.int .i64 u.num,.int .i64 (u.depth:Int)]) (.agg #[.int .i64 u.num,.int .i64 (u.depth:Int)])).run Tryz.prog W = .ok (.bool true) W:=fun W=>by rw[eql_exact];simp
  clear hc hcv hpa hvu va hcu E1 E2 HNO HYES
  go_wp2_with (fail)
  clear cHV_0 cHV_1 cHV_2 cHV_3 cHV_z cHR_0 cHR_1 cHR_2 cHR_z cHK_0 cHK_1 cHK_z cHX_0 cHX_1 cHX_z;generalize (w4.alloc (.cells #[.int .i64 u.num,.int .i64 (u.depth:Int)] 35))=V3 at *;generalize w4.heap.size=g3 at *;clear HZ
  refine (C1.out _).mono ?_
  rintro e w5 ⟨rfl,hb⟩
  replace H1:=h_ (H1.out.below hb);replace H2:=h_ (H2.out.below hb);replace HB:=h_ (HB.out.trans (hb.mono HB.out.size));replace HV:=h_ (HV.out.below hb);replace HR:=h_ (HR.out.below hb);replace HK:=h_ (HK.out.below hb);replace HX:=h_ (HX.out.below hb);clear hb;have cHV_0:=HV.out.cell 0 _ rfl;have cHV_1:=HV.out.cell 1 _ rfl;have cHV_2:=HV.out.cell 2 _ rfl;have cHV_3:=HV.out.cell 3 _ rfl;have cHV_z:=HV.out.lt;have cHR_0:=HR.out.cell 0 _ rfl;have cHR_1:=HR.out.cell 1 _ rfl;have cHR_2:=HR.out.cell 2 _ rfl;have cHR_z:=HR.out.lt;have cHK_0:=HK.out.cell 0 _ rfl;have cHK_1:=HK.out.cell 1 _ rfl;have cHK_z:=HK.out.lt
  go_wp2_with (fail)
  clear cHV_0 cHV_1 cHV_2 cHV_3 cHV_z cHR_0 cHR_1 cHR_2 cHR_z cHK_0 cHK_1 cHK_z;have K:=zgg p cv h s' m ba bj A1 A2 _ _ k1 k2 xs ys a b rp _ H1.out H2.out m1 m2;rw[HCV.out]at K
  refine (K).mono ?_
  rintro e w6 ⟨rfl,hb⟩
  replace H1:=h_ (H1.out.below hb);replace H2:=h_ (H2.out.below hb);replace HB:=h_ (HB.out.trans (hb.mono HB.out.size));replace HV:=h_ (HV.out.below hb);replace HR:=h_ (HR.out.below hb);replace HK:=h_ (HK.out.below hb);replace HX:=h_ (HX.out.below hb);clear hb;clear K;have cHV_0:=HV.out.cell 0 _ rfl;have cHV_1:=HV.out.cell 1 _ rfl;have cHV_2:=HV.out.cell 2 _ rfl;have cHV_3:=HV.out.cell 3 _ rfl;have cHV_z:=HV.out.lt;have cHR_0:=HR.out.cell 0 _ rfl;have cHR_1:=HR.out.cell 1 _ rfl;have cHR_2:=HR.out.cell 2 _ rfl;have cHR_z:=HR.out.lt;have cHK_0:=HK.out.cell 0 _ rfl;have cHK_1:=HK.out.cell 1 _ rfl;have cHK_z:=HK.out.lt;have cHX_0:=HX.out.cell 0 _ rfl;have cHX_1:=HX.out.cell 1 _ rfl;have cHX_z:=HX.out.lt;replace H1:=h_ (H1.out.alloc (.cells #[.int .i64 (u.num),.int .i64 ((u.depth:Int))] 35));replace H2:=h_ (H2.out.alloc (.cells #[.int .i64 (u.num),.int .i64 ((u.depth:Int))] 35));replace HB:=h_ (HB.out.alloc HB.out.size (.cells #[.int .i64 (u.num),.int .i64 ((u.depth:Int))] 35));replace HV:=h_ (HV.out.alloc (.cells #[.int .i64 (u.num),.int .i64 ((u.depth:Int))] 35));replace HR:=h_ (HR.out.alloc (.cells #[.int .i64 (u.num),.int .i64 ((u.depth:Int))] 35));replace HK:=h_ (HK.out.alloc (.cells #[.int .i64 (u.num),.int .i64 ((u.depth:Int))] 35));replace HX:=h_ (HX.out.alloc (.cells #[.int .i64 (u.num),.int .i64 ((u.depth:Int))] 35));have HY:Hid (Cel (w6.alloc (.cells #[.int .i64 (u.num),.int .i64 ((u.depth:Int))] 35)) (w6.heap.size) [.int .i64 (u.num),.int .i64 ((u.depth:Int))]):=Cel.new w6 #[.int .i64 (u.num),.int .i64 ((u.depth:Int))] _
  rcases hc'.out with⟨rfl,rfl⟩|⟨rfl,hn2⟩
  ·clear hc'
   go_wp2_with (fail)
   go_ret
   exact⟨rfl,HB.out⟩
  ·have b5:(rp != 2)=true:=by simp[hn2]
   clear hc' hn2
   go_wp2_with (fail)
   clear cHV_0 cHV_1 cHV_2 cHV_3 cHV_z cHR_0 cHR_1 cHR_2 cHR_z cHK_0 cHK_1 cHK_z cHX_0 cHX_1 cHX_z;generalize (w6.alloc (.cells #[.int .i64 (u.num),.int .i64 ((u.depth:Int))] 35))=V4 at *;generalize w6.heap.size=g4 at *;clear H1 H2 HV HR HK HX HY
   refine (CA.out _).mono ?_
   rintro e w7 ⟨ua,rfl,ho,hb⟩
   obtain⟨A3,k3,rfl,s3,m3⟩:=ho.read;have H3:=h_ s3;clear ho s3;replace HB:=h_ (HB.out.trans (hb.mono HB.out.size));clear hb
   have CH:=hasInt_any A3 al.length k3 al rp w7 H3.out (by have:=HLN.out;omega)
   rw[decide_eq_true HM.out]at CH
   go_wp2_with (fail)
   refine CH.mono ?_
   rintro e w' ⟨rfl,rfl⟩
   go_wp2_with (fail)
   go_ret
   exact⟨rfl,HB.out⟩
 ·have b1:(e2 != 0)=true:=by simp[h1]
  obtain⟨rfl,rfl,rfl⟩:=HNO.out h1
  have ee:∀W:World,(binOp .eql 35 (.agg #[.int .i64 0,.int .i64 0]) (.agg #[.int .i64 0,.int .i64 0])).run Tryz.prog W = .ok (.bool true) W:=fun W=>by rw[eql_exact];simp
  clear HNO HYES E1 E2 h1
  go_wp2_with (fail)
  go_ret
  exact⟨rfl,HB.out⟩
end Go.Proofs.YtkaiilmgemaljaaGreat

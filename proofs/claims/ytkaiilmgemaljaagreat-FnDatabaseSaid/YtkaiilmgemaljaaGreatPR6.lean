/- Joined texts of one proof: N27, N46, N47, N48, N49. Each part tells what it shows. There are no conditions. -/
import Derived.Test.YtkaiilmgemaljaaGreatPZu
import Derived.Test.YtkaiilmgemaljaaGreatPZb
import Derived.Test.YtkaiilmgemaljaaGreatPZl
import Derived.Test.YtkaiilmgemaljaaGreatPR5
import Derived.Test.YtkaiilmgemaljaaGreatPB2
set_option linter.unusedVariables false
set_option linter.unusedSimpArgs false
/- Contract of the check of a variant and positions with tables, the program's. There are no conditions. -/
namespace Go.Proofs.YtkaiilmgemaljaaGreat
open Go.RowKit Ps
def PLx (w:World) (A:Option Addr) (n:Nat) (ps:List (List Int)):Prop:=
 ps.length=n∧(0<n→∃b off,A=some ⟨b,off,none⟩∧b<w.heap.size∧∀k,k<n→∃B m c,w.cell? ⟨b,off+k,none⟩=some (.slice B m c)∧SL w B m (ps.getD k []))
theorem PLx.below {w w':World} {A:Option Addr} {n:Nat} {ps:List (List Int)} (h:PLx w A n ps) (hb:Below w.heap.size w w'):PLx w' A n ps:=by
 refine⟨h.1,fun hn=>?_⟩
 obtain⟨b,off,hA,hlt,hc⟩:=h.2 hn
 refine⟨b,off,hA,Nat.lt_of_lt_of_le hlt hb.size,fun k hk=>?_⟩
 obtain⟨B,m,c,h1,h2⟩:=hc k hk
 exact⟨B,m,c,keep_cell h1 hb,h2.below hb⟩
end Go.Proofs.YtkaiilmgemaljaaGreat
/- Contract of the program's WinChance. There are no conditions. -/
namespace Go.Proofs.YtkaiilmgemaljaaGreat
open Go.RowKit Ps Ra Ex
end Go.Proofs.YtkaiilmgemaljaaGreat
/- Contracts of the reference's check of a race and of its WinChance. There are no conditions. -/
namespace Go.Proofs.YtkaiilmgemaljaaGreat
open Go.RowKit Ps Ra Ex
end Go.Proofs.YtkaiilmgemaljaaGreat
/- Contract of the reference's WinChance. There are no conditions. -/
namespace Go.Proofs.YtkaiilmgemaljaaGreat
open Go.RowKit Ps Ra Ex
theorem l12Value_any (t:RT2) (ht:t.Ok):∀(f:Nat) {own other:List Int},PosP t.h t.c own→PosP t.h t.c other→pips own+pips other<f→ValC t own other
 | 0,own,other,hq,hq2,h=>by have:=pips_nonneg hq.2.1;have:=pips_nonneg hq2.2.1;omega
 | f+1,own,other,hq,hq2,h=>l12Value_step t ht hq hq2 fun _ q hp hlt=>l12Value_any t ht f hq2 hp (by omega)
theorem l12Value_all (t:RT2) (ht:t.Ok) {own other:List Int} (hq:PosP t.h t.c own) (hq2:PosP t.h t.c other):ValC t own other:=by
 have h1:=pips_nonneg hq.2.1;have h2:=pips_nonneg hq2.2.1
 exact l12Value_any t ht ((pips own+pips other).toNat+1) hq hq2 (by omega)
end Go.Proofs.YtkaiilmgemaljaaGreat
/- The statement FnExactWinChance, the law's walk. There are no conditions. -/
namespace Go.Proofs.YtkaiilmgemaljaaGreat
open Go.RowKit Ps Ra Ex
theorem exC_set:∀(xs:List E) (i:Nat) (m:Int) (d:Nat),((exC xs).set (i*2) (.int .i64 m)).set (i*2+1) (.int .i64 (d:Int))=exC (xs.set i ⟨m,d⟩)
 | [],i,m,d=>by simp[exC]
 | x::xs,0,m,d=>by simp[exC]
 | x :: xs, i + 1, m, d => by
   have ih := exC_set xs i m d
   rw [show (i + 1) * 2 = i * 2 + 2 by omega]
   simp only [exC, List.flatMap_cons, List.cons_append, List.nil_append, List.set_cons_succ] at ih ⊢
   rw [ih]
theorem OwnE.below {w w':World} {base:Nat} {v:Value} {xs:List E} (h:OwnE w base v xs) (hb:Below w.heap.size w w'):OwnE w' base v xs:=own_below h hb
theorem OwnE.elv {w:World} {base:Nat} {A:Option Addr} {n c:Nat} {xs:List E} (h:OwnE w base (.slice A n c) xs):EL (fun _=>False) w A n xs∧n≤c:=by
 obtain⟨A',c',hv,hel,hc⟩:=h.el;injection hv with h1 h2 h3;subst h1 h2 h3
 exact⟨hel,hc⟩
theorem own_formE {w:World} {base:Nat} {A:Option Addr} {n c:Nat} {xs:List E} (h:OwnE w base (.slice A n c) xs) (hn:0<n):∃g,A=some ⟨g,0,none⟩∧base≤g∧g<w.heap.size∧
  (∀j,j<n→w.cell? ⟨g,j*2,none⟩=some (.int .i64 (xs.getD j ⟨0,0⟩).num)∧w.cell? ⟨g,j*2+1,none⟩=some (.int .i64 (xs.getD j ⟨0,0⟩).depth))∧(∀j,w.frozen? ⟨g,j,none⟩=false):=by
 have hs:=h.elv.1;obtain⟨h1,h2⟩:=h
 rcases h2 with⟨h2,h3⟩|⟨g,cap,cur,hv,hb,hh,r⟩
 ·have:=hs.1;omega
 ·injection hv with hv1 hv2 hv3
  subst hv1
  refine⟨g,rfl,hb,(Array.getElem?_eq_some_iff.1 hh).1,fun j hj=>?_,fun j=>frozen_of_row w g j cur _ hh⟩
  obtain⟨b,off,hA,_,hc1,hc2⟩:=hs.at hj;injection hA with hA;injection hA with hA1 hA2;subst hA1 hA2
  simp only[Nat.zero_add]at hc1 hc2
  exact⟨hc1,hc2⟩
theorem OwnE.stored {w:World} {base:Nat} {g n c:Nat} {xs:List E} (h:OwnE w base (.slice (some ⟨g,0,none⟩) n c) xs) (j:Nat) (m:Int) (d:Nat):
  OwnE ((w.setCell ⟨g,j*2,none⟩ (.int .i64 m)).setCell ⟨g,j*2+1,none⟩ (.int .i64 (d:Int))) base (.slice (some ⟨g,0,none⟩) n c) (xs.set j ⟨m,d⟩):=by
 have hn:=h.elv.1.1;unfold OwnE at h ⊢;rw[hn]at h;have h1:=(World.ownsRow.stored h (j*2) (.int .i64 m)).1;have h2:=(World.ownsRow.stored h1 (j*2+1) (.int .i64 (d:Int))).1;rw[exC_set]at h2
 rw[show (xs.set j ⟨m,d⟩).length=n by rw[List.length_set,hn]]
 exact h2
theorem Frm.rowE {S:Nat→Prop} {w w':World} {base:Nat} {v:Value} {xs:List E} (h:Frm S w w') (ho:OwnE w base v xs) (hn:∀k,v.ownBlock=some k→¬S k):OwnE w' base v xs:=h.row ho hn
theorem Cel.frm {S:Nat→Prop} {W W':World} {g:Nat} {cs:List Value} (h:Cel W g cs) (hf:Frm S W W') (hn:¬S g):Cel W' g cs:=
 ⟨Nat.lt_of_lt_of_le h.lt hf.size,fun i x hx=>hf.cell' (h.cell i x hx) hn,fun i x hx=>(frm_froz hf h.lt hn).trans (h.froz i x hx)⟩
/-! ### what a drawn region's call hands back -/
noncomputable def atP (h c n:Nat):List Int:=open Classical in if hn:n<wys h c then Classical.choose (num_sur hn) else []
theorem atP_pos {h c n:Nat} (hn:n<wys h c):PosP h c (atP h c n)∧num c (atP h c n)=n:=by
 unfold atP;rw[dif_pos hn]
 exact Classical.choose_spec (num_sur hn)
def allN (f:Nat→Option E):Nat→Option (List E)
 | 0=>some []
 | n+1=>(allN f n).bind fun t=>(f n).map fun x=>t++[x]
theorem allN_len {f:Nat→Option E}:∀{n:Nat} {t:List E},allN f n=some t→t.length=n
 | 0,t,h=>by unfold allN at h;injection h with h;subst h;rfl
 | n + 1, t, h => by
   unfold allN at h
   cases hs : allN f n with
   | none => rw [hs] at h; cases h
   | some u =>
     rw [hs] at h
     cases hf : f n with
     | none => rw [hf] at h; cases h
     | some x =>
       rw [hf] at h
       simp only [Option.bind_some, Option.map_some, Option.some.injEq] at h
       subst h
       rw [List.length_append, allN_len hs]; rfl
theorem allN_none {f:Nat→Option E} {n:Nat} (h:allN f n=none):∀{m:Nat},n≤m→allN f m=none
 | 0, hm => by have : n = 0 := by omega
               subst this; exact h
 | m + 1, hm => by
   by_cases e : n = m + 1
   · subst e; exact h
   · unfold allN; rw [allN_none h (show n ≤ m by omega)]; rfl
theorem allN_stop {f:Nat→Option E} {k n:Nat} {t:List E} (hk:k<n) (h:allN f k=some t) (hf:f k=none):allN f n=none:=by
 refine allN_none (n:=k+1) ?_ hk
 unfold allN
 rw[h,hf];rfl
theorem allN_go {f:Nat→Option E} {k:Nat} {t:List E} {x:E} (h:allN f k=some t) (hf:f k=some x):allN f (k+1)=some (t++[x]):=by unfold allN;rw[h,hf];rfl
theorem fill_step {t:List E} {x:E} {k n:Nat} (ht:t.length=k) (hk:k<n):(t++List.replicate (n-k) (zeroE':E)).set k x=(t++[x])++List.replicate (n-(k+1)) zeroE':=by
 rw[List.set_append_right _ _ (by omega),ht,Nat.sub_self,List.append_assoc]
 congr 1
 obtain⟨m,hm⟩:∃m,n-k=m+1:=⟨n-k-1,by omega⟩
 rw[hm,List.replicate_succ,List.set_cons_zero,show n-(k+1)=m by omega];rfl
theorem exC_rep:∀n:Nat,exC (List.replicate n (zeroE':E))=List.replicate (n*2) (.int .i64 0)
 | 0=>rfl
 | n + 1 => by
   have ih := exC_rep n
   rw [List.replicate_succ, show (n + 1) * 2 = n * 2 + 1 + 1 by omega, List.replicate_succ, List.replicate_succ, ← ih]
   rfl
theorem made_exC (n:Nat):(madeCells #[Value.int .i64 0,.int .i64 0] (n*2)).toList=exC (List.replicate n (zeroE':E)):=by
 rw[exC_rep]
 refine List.ext_getElem? fun j=>?_
 by_cases hj:j<n*2
 ·rw[made_e n j hj,List.getElem?_replicate,if_pos hj]
 ·rw[List.getElem?_eq_none (by simp[madeCells];omega),List.getElem?_eq_none (by simp;omega)]
def RetDbs (w:World) (o:Option (List E)) (e:Ending) (w':World):Prop:=
 Below w.heap.size w w'∧match o with
  | none=>e = .returned (.tuple #[.slice none 0 0,.bool false])
  | some xs=>∃v,e = .returned (.tuple #[v,.bool true])∧OwnE w' w.heap.size v xs
noncomputable def rollsF (h c s:Nat) (i:Nat):Option E:=xp s (atP h c i)
theorem bd_set {B:Nat} {w w':World} (h:Below B w w') {b i:Nat} (hb:B≤b) (v:Value):Below B w (w'.setCell ⟨b,i,none⟩ v):=h.setCell hb v
theorem ownE_sq {S:Nat→Prop} {W:World} {base:Nat} {e:TypeId} {A:Option Addr} {c:Nat} {xs:List Int} (h:OwnS W base e (.slice A xs.length c) xs) (hS:∀j,S j→j<base):SQ S W A xs.length xs:=
 ⟨(h.sl rfl).1,fun _ b off s hA hb=>by have:=(h.lt b (by rw[hA];rfl)).1;have:=hS b hb;omega⟩
set_option maxRecDepth 100000 in
set_option maxHeartbeats 4000000 in
theorem buildRolls_any (p:Int) (c h s N:Nat) (w:World) (hv:isVar p c h s=true) (hN:wys h c≤500) (hNN:wys h c=N):
  Calls Tryz.prog 147 #[.agg #[.int .i64 p,.int .i64 c,.int .i64 h,.int .i64 s],.int .i64 (N:Int)] w (RetDbs w (allN (rollsF h c s) N)):=by
 obtain⟨i0,hi,iz0,iz1,iz2⟩:=info_parts Tryz.infoE;have hvv:=isVar_yes hv
 have hN5:N≤500:=by omega
 have HNN:=Lib.hid hNN
 have CN:=Lib.hid fun (W:World)=>newOnesided_any p c h s W hv hN
 have CAT:=Lib.hid fun (k:Nat) (W:World) (hk:k<N)=>(show Calls Tryz.prog 158 #[.agg #[.int .i64 p,.int .i64 c,.int .i64 h,.int .i64 s],.int .i64 (k:Int)] W (RetO W 2 (atP h c k)) from by have h1:=bearoffAt_any p s c h (atP h c k) W (atP_pos (by omega)).1 (by omega) (by omega) (by omega);rw[(atP_pos (by omega)).2]at h1;exact h1)
 have HPP:Hid (∀k,k<N→PosP h c (atP h c k)):=fun k hk=>(atP_pos (by omega)).1
 have HF0:Hid (Cel (w.alloc (.cells #[.int .i64 p,.int .i64 c,.int .i64 h,.int .i64 s] 25)) w.heap.size [.int .i64 p,.int .i64 c,.int .i64 h,.int .i64 s]):=Cel.new w #[.int .i64 p,.int .i64 c,.int .i64 h,.int .i64 s] _;have HB0:Hid (Below w.heap.size w (w.alloc (.cells #[.int .i64 p,.int .i64 c,.int .i64 h,.int .i64 s] 25))):=(Below.refl _ _).alloc (Nat.le_refl _) _;clear hv hN hNN hvv
 go_enter Tryz.func147,Tryz.ntmps147
 go_wp2_with (fail)
 generalize w.alloc (.cells #[.int .i64 p,.int .i64 c,.int .i64 h,.int .i64 s] 25)=W0 at *
 refine (CN.out _).mono ?_
 rintro e w1 ⟨t,rfl,rfl,rfl,rfl,rfl,hok,hI,hlow,hbt,hb⟩
 have HV:=Lib.hid (HF0.out.below hb);have HB:=Lib.hid (HB0.out.trans (hb.mono HB0.out.size));have HOK:=Lib.hid hok;have HI:=Lib.hid hI;have HSL:=Lib.hid hI.ltS
 have HSG:Hid (∀k,t.S k→w.heap.size<k):=fun k hk=>by have:=hlow k hk;have:=HF0.out.lt;omega
 have hbw:w.heap.size<t.bt:=by have:=HF0.out.lt;omega
 have HBT:Hid (t.bt<w1.heap.size):=hI.ltB;clear hok hI hlow hbt hb HF0 HB0 CN
 go_wp2_with (at_make;refine wpList_make_full _ rfl _ _ 29 rfl w.heap.size 35 i0 (.agg #[.int .i64 0,.int .i64 0]) 2 Tryz.underlying29 hi iz0 iz1 _ _ _ _ N rfl rfl (by omega) (by omega) (by rw[iz2];omega) (by unfold maxLen;omega) (by have:=HB.out.size;simp;omega) ?_;intro w2 hown hgrow)
 have hb2:Below w1.heap.size w1 w2:=(Below.refl _ _).grown hgrow (by simp) (by simp)
 have HO2:Hid (OwnE w2 w.heap.size (.slice (some ⟨w1.heap.size,0,none⟩) N N) ([]++List.replicate (N-0) zeroE')):=by
  unfold Hid OwnE;rw[List.nil_append,Nat.sub_zero,List.length_replicate,← made_exC]
  exact hown
 have hg2:w1.heap.size<w2.heap.size:=(World.ownsRow.lt hown w1.heap.size rfl).2;have HV2:=Lib.hid (HV.out.below hb2);have HI2:=Lib.hid (HI.out.below hb2);have HB2:=Lib.hid (HB.out.trans (hb2.mono HB.out.size));obtain⟨g,hg⟩:∃g,g=w1.heap.size:=⟨_,rfl⟩;rw[← hg]at HO2 hg2 HSL HBT ⊢;clear hown hgrow hb2 hg HV HI HB
 have hwg:w.heap.size<g:=by have:=HBT.out;omega
 go_wp2_with (fail)
 go_loopw [17] (fun v17 wr=>∃k:Nat,k≤N∧v17 = .int .i64 k∧Hid (∃ts,allN (rollsF t.h t.c t.s) k=some ts∧OwnE wr w.heap.size (.slice (some ⟨g,0,none⟩) N N) (ts++List.replicate (N-k) zeroE'))∧Hid (OneI t wr)∧Hid (Frm (fun j=>t.S j∨j=g) w2 wr)) (fun v17 _=>N-(intOf v17).toNat)
 case atStart=>exact⟨0,by omega,rfl,⟨[],rfl,HO2.out⟩,HI2.out,Frm.refl _ _⟩
 case round=>
  clear HO2 HI2;obtain⟨k,hk,rfl,hts,HI,HF⟩:=hrel;obtain⟨ts,hall,ho⟩:=hts.out;have HALL:=Lib.hid hall;have HO:=Lib.hid ho;have hzr:w2.heap.size≤wr.heap.size:=HF.out.size
  have HV:=Lib.hid (HV2.out.frm HF.out (by rintro (h|h);have:=HSG.out _ h;omega;omega))
  have HB:=Lib.hid (HB2.out.trans (HF.out.below HB2.out.size (fun j hj=>by rcases hj with h|h;have:=HSG.out _ h;omega;omega)))
  clear hall ho hts
  by_cases hlt:k<N
  ·have hki:(k:Int)<(N:Int):=by omega
   have hpp:=HPP.out k hlt;have HTL:=Lib.hid (allN_len HALL.out);have c0:=HV.out.cell 0 _ rfl;have c1:=HV.out.cell 1 _ rfl;have c2:=HV.out.cell 2 _ rfl;have c3:=HV.out.cell 3 _ rfl;have cz:=HV.out.lt
   go_wp2_with (fail)
   clear c0 c1 c2 c3 cz
   refine (CAT.out k wr hlt).mono ?_
   rintro e w3 ⟨A,ca,rfl,hoa,hba⟩
   have hsq:SQ t.S w3 A (atP t.h t.c k).length (atP t.h t.c k):=ownE_sq hoa (fun j hj=>by have:=HSL.out j hj;omega)
   have hca:=(hoa.sl rfl).2;rw[hpp.1]at hsq hca ⊢;have CE:=Lib.hid (expected_all t HOK.out hpp A ca w3 (HI.out.below hba) hsq hca);have HV3:=Lib.hid (HV.out.below hba);have HB3:=Lib.hid (HB.out.trans (hba.mono HB.out.size));have HO3:=Lib.hid (HO.out.below hba);have HF3:=Lib.hid (HF.out.trans (Frm.of_below' _ hba));have hz3:wr.heap.size≤w3.heap.size:=hba.size;have HXF:Hid (rollsF t.h t.c t.s k=xp t.s (atP t.h t.c k)):=rfl;clear hsq hca hoa hba hpp HI HV HB HO HF
   go_wp2_with (fail)
   refine CE.out.mono ?_
   rintro e w4 ⟨rfl,hI4,hf4⟩
   have HO4:=Lib.hid (hf4.rowE HO3.out (fun j hj h=>by have h2:g=j:=Option.some.inj hj;have:=HSL.out j h;omega))
   have HF4:=Lib.hid (HF3.out.trans (hf4.mono fun j hj=>.inl hj))
   have HI4:=Lib.hid hI4
   have HB4:=Lib.hid (HB3.out.trans (hf4.below HB3.out.size (fun j hj=>by have:=HSG.out _ hj;omega)))
   have hz4:w3.heap.size≤w4.heap.size:=hf4.size;clear hI4 hf4 CE HO3 HF3 HB3 HV3
   rcases hxo:xp t.s (atP t.h t.c k) with _|⟨m,d⟩
   ·have HRE:Hid (allN (rollsF t.h t.c t.s) N=none):=allN_stop hlt HALL.out (HXF.out.trans hxo)
    unfold exV
    simp only[Option.getD_none,Option.isSome_none]
    clear hxo
    go_wp2_with (fail)
    go_ret2
    rw[HRE.out]
    exact⟨HB4.out.alloc (by have:=HB4.out.size;omega) _,rfl⟩
   ·have HAL2:Hid (allN (rollsF t.h t.c t.s) (k+1)=some (ts++[⟨m,d⟩])):=allN_go HALL.out (HXF.out.trans hxo)
    unfold exV
    simp only[Option.getD_some,Option.isSome_some]
    have HO5:=Lib.hid (HO4.out.below ((Below.refl w4.heap.size w4).alloc (Nat.le_refl _) (.cells #[.int .i64 m,.int .i64 (d:Int)] 35)));have HF5:=Lib.hid (HF4.out.alloc (.cells #[.int .i64 m,.int .i64 (d:Int)] 35));have HI5:Hid (OneI t (w4.alloc (.cells #[.int .i64 m,.int .i64 (d:Int)] 35))):=HI4.out.alloc _
    have hx:(ts++List.replicate (N-k) (zeroE':E)).length=N:=by rw[List.length_append,List.length_replicate,HTL.out];omega
    have hgg:g<w4.heap.size:=by omega
    have g0:(w4.alloc (.cells #[.int .i64 m,.int .i64 (d:Int)] 35)).cell? ⟨w4.heap.size,0,none⟩=some (.int .i64 m):=by simp[go_sem]
    have g1:(w4.alloc (.cells #[.int .i64 m,.int .i64 (d:Int)] 35)).cell? ⟨w4.heap.size,1,none⟩=some (.int .i64 (d:Int)):=by simp[go_sem]
    have gz:w4.heap.size<(w4.alloc (.cells #[.int .i64 m,.int .i64 (d:Int)] 35)).heap.size:=by simp
    clear hxo HO4 HF4 HI4 HB4
    go_upto_region 9 with (fail)
    generalize w4.alloc (.cells #[.int .i64 m,.int .i64 (d:Int)] 35)=X at *
    obtain⟨g',hg',_,_,hcl,hfr⟩:=own_formE HO5.out (by omega)
    injection hg' with hg';injection hg' with hg' _ _;subst hg'
    obtain⟨y0,y1⟩:=hcl k (by omega)
    have f0:=hfr (k*2);have f1:=hfr (k*2+1)
    have hgX:g<X.heap.size:=by omega
    have HO6:=Lib.hid (HO5.out.stored k m d);rw[fill_step HTL.out hlt]at HO6
    have hfs:Frm (fun j=>t.S j∨j=g) X ((X.setCell ⟨g,k*2,none⟩ (.int .i64 m)).setCell ⟨g,k*2+1,none⟩ (.int .i64 (d:Int))):=((Frm.set _ g (k*2) _).trans (Frm.set _ g (k*2+1) _)).mono fun j hj=>.inr hj
    have HF6:=Lib.hid (HF5.out.trans hfs)
    have HI6:Hid (OneI t ((X.setCell ⟨g,k*2,none⟩ (.int .i64 m)).setCell ⟨g,k*2+1,none⟩ (.int .i64 (d:Int)))):=(HI5.out.stored _ (fun h=>by have:=HSL.out _ h;omega) (by have:=HBT.out;omega)).stored _ (fun h=>by have:=HSL.out _ h;omega) (by have:=HBT.out;omega)
    clear hx hcl hfr hfs HO5 HF5 HI5;generalize (ts++List.replicate (N-k) (zeroE':E)).getD k ⟨0,0⟩=el at *
    go_wp2_with (fail)
    go_roundw
    case rel=>exact⟨k+1,by omega,by go_num,⟨_,HAL2.out,HO6.out⟩,HI6.out,HF6.out⟩
    case measure=>(simp[intOf])<;>omega
  ·have hke:k=N:=by omega
   subst hke
   have HR:Hid (RetDbs w (allN (rollsF t.h t.c t.s) k) (.returned (.tuple #[.slice (some ⟨g,0,none⟩) k k,.bool true])) wr):=by
    unfold Hid;rw[HALL.out];have h:=HO.out;rw[Nat.sub_self,List.replicate_zero,List.append_nil]at h
    exact⟨HB.out,_,rfl,h⟩
   clear HO HALL
   go_wp2_with (fail)
   go_ret2
   exact HR.out
end Go.Proofs.YtkaiilmgemaljaaGreat

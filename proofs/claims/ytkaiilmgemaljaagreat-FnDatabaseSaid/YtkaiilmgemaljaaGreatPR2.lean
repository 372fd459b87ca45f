/- Plain facts on the expected numbers of rolls: the least of some positions, the number as a function of a position. No program is in sight; there are no conditions beyond those that each states. -/
import Derived.Test.YtkaiilmgemaljaaGreatPZp
import Derived.Test.YtkaiilmgemaljaaGreatPZq
set_option linter.unusedVariables false
set_option linter.unusedSimpArgs false
namespace Go.Proofs.YtkaiilmgemaljaaGreat.Ra
open Go.Proofs.YtkaiilmgemaljaaGreat.Ex Go.Proofs.YtkaiilmgemaljaaGreat.Ps
def lstS (B:Int) (f:List Int→Option E) (l:List (List Int)):Option (Nat×Nat×E):=
 l.foldl (fun s q=>s.bind fun t=>(f q).map fun x=>if t.1=0∨ltE B x t.2.2 then (t.1+1,t.1,x) else (t.1+1,t.2.1,t.2.2)) (some (0,0,zeroE'))
theorem lstS_nil (B:Int) (f:List Int→Option E):lstS B f []=some (0,0,zeroE'):=rfl
theorem lstS_snoc (B:Int) (f:List Int→Option E) (l:List (List Int)) (q:List Int):
  lstS B f (l++[q])=(lstS B f l).bind fun t=>(f q).map fun x=>if t.1=0∨ltE B x t.2.2 then (t.1+1,t.1,x) else (t.1+1,t.2.1,t.2.2):=by
 unfold lstS;rw[List.foldl_append];rfl
theorem lstS_none {B:Int} {f:List Int→Option E} {l k:List (List Int)} (h:lstS B f l=none):lstS B f (l++k)=none:=by
 unfold lstS at h ⊢;rw[List.foldl_append,h];clear h
 induction k with
 | nil=>rfl
 | cons q r ih=>exact ih
theorem lstS_count {B:Int} {f:List Int→Option E} {l:List (List Int)} {t:Nat×Nat×E} (h:lstS B f l=some t):t.1=l.length∧(t.2.1<l.length∨l=[]):=by
 induction l using snoc_ind generalizing t with
 | nil=>rw[lstS_nil]at h;injection h with h;subst h;exact⟨rfl,.inr rfl⟩
 | snoc l q ih =>
   rw [lstS_snoc] at h
   cases hs : lstS B f l with
   | none => rw [hs] at h; cases h
   | some u =>
     rw [hs] at h; obtain ⟨i1, i2⟩ := ih hs
     cases hf : f q with
     | none => rw [hf] at h; cases h
     | some x =>
       rw [hf] at h
       simp only [Option.bind_some, Option.map_some, Option.some.injEq] at h
       subst h
       split
       · simp [i1]
       · simp only [List.length_append, List.length_singleton]
         refine ⟨by omega, .inl ?_⟩
         rcases i2 with i2 | i2
         · omega
         · rename_i hc; subst i2; simp at i1; exact absurd (.inl i1) hc
theorem lstS_congr {B:Int} {f g:List Int→Option E}:∀{l:List (List Int)},(∀q∈l,f q=g q)→lstS B f l=lstS B g l:=by
 intro l
 induction l using snoc_ind with
 | nil=>intro _;rfl
 | snoc l q ih =>
   intro h
   rw [lstS_snoc, lstS_snoc, ih fun p hp => h p (by simp [hp]), h q (by simp)]
theorem lstS_val {B:Int} {f:List Int→Option E} (hf:∀q x,f q=some x→Val B x) {l:List (List Int)}:∀{t:Nat×Nat×E},lstS B f l=some t→Val B t.2.2:=by
 induction l using snoc_ind with
 | nil=>intro t h;rw[lstS_nil]at h;injection h with h;subst h;exact zero_val
 | snoc l q ih =>
   intro t h
   rw [lstS_snoc] at h
   cases hs : lstS B f l with
   | none => rw [hs] at h; cases h
   | some u =>
     rw [hs] at h
     cases hq : f q with
     | none => rw [hq] at h; cases h
     | some x =>
       rw [hq] at h
       simp only [Option.bind_some, Option.map_some, Option.some.injEq] at h
       subst h
       split
       · exact hf q x hq
       · exact ih (t := u) hs
theorem lst_snoc_getD {α:Type} (l:List α) (d:α) {k:Nat} (h:k<l.length):l.take (k+1)=l.take k++[l.getD k d]:=by
 rw[List.take_succ_eq_append_getElem h];simp[List.getD,h]
theorem lstS_stop {B:Int} {f:List Int→Option E} {l:List (List Int)} {k:Nat} (hk:k<l.length) {t:Nat×Nat×E} (hs:lstS B f (l.take k)=some t) (hq:f (l.getD k [])=none):lstS B f l=none:=by
 have h1:lstS B f (l.take (k+1))=none:=by rw[lst_snoc_getD l [] hk,lstS_snoc,hs,hq];rfl
 have:=lstS_none (k:=l.drop (k+1)) h1
 rwa [List.take_append_drop]at this
theorem lstS_go {B:Int} {f:List Int→Option E} {l:List (List Int)} {k a:Nat} {m x:E} (hk:k<l.length) (hs:lstS B f (l.take k)=some (k,a,m)) (hq:f (l.getD k [])=some x) (h:k=0∨ltE B x m=true):
  lstS B f (l.take (k+1))=some (k+1,k,x):=by
 rw[lst_snoc_getD l [] hk,lstS_snoc,hs,hq]
 simp[h]
theorem lstS_keep {B:Int} {f:List Int→Option E} {l:List (List Int)} {k a:Nat} {m x:E} (hk:k<l.length) (hs:lstS B f (l.take k)=some (k,a,m)) (hq:f (l.getD k [])=some x) (h0:k≠0) (h:ltE B x m=false):
  lstS B f (l.take (k+1))=some (k+1,a,m):=by
 rw[lst_snoc_getD l [] hk,lstS_snoc,hs,hq]
 simp[h0,h]
/-! ### the expected number of rolls -/
noncomputable def xpF (s:Nat):Nat→List Int→Option E
 | 0,_=>none
 | f+1,p=>if p.sum=0 then some zeroE' else ((allS (fun r=>(lstS (s*s) (xpF s f) (resultsL p r.1 r.2)).map fun t=>t.2.2) (rollsN s)).bind (meanE (s*s) (rollsN s))).bind fun m=>addE (s*s) m oneE
noncomputable def xp (s:Nat) (p:List Int):Option E:=xpF s ((pips p).toNat+1) p
theorem xpF_fuel {h c s:Nat}:∀(f g:Nat) {p:List Int},PosP h c p→pips p<f→pips p<g→xpF s f p=xpF s g p
 | 0,_,p,hp,h1,_=>by have:=pips_nonneg hp.2.1;omega
 | _+1,0,p,hp,_,h2=>by have:=pips_nonneg hp.2.1;omega
 | f + 1, g + 1, p, hp, h1, h2 => by
   unfold xpF
   by_cases h0 : p.sum = 0
   · rw [if_pos h0, if_pos h0]
   · rw [if_neg h0, if_neg h0]
     congr 2
     refine allS_congr fun r hr => ?_
     obtain ⟨r1, r2, r3⟩ := mem_rollsN.1 hr
     congr 1
     refine lstS_congr fun q hq => ?_
     obtain ⟨q1, q2, q3⟩ := results_pos (by omega) r1 hp q hq
     have := q3 h0
     exact xpF_fuel f g q1 (by omega) (by omega)
noncomputable def rollL (s:Nat) (p:List Int) (r:Nat×Nat):Option E:=(lstS (s*s) (xp s) (resultsL p r.1 r.2)).map fun t=>t.2.2
theorem xp_eq {h c s:Nat} {p:List Int} (hp:PosP h c p) (h0:p.sum≠0):
  xp s p=((allS (rollL s p) (rollsN s)).bind (meanE (s*s) (rollsN s))).bind fun m=>addE (s*s) m oneE:=by
 have hn:=pips_nonneg hp.2.1;unfold xp xpF;rw[if_neg h0]
 congr 2
 refine allS_congr fun r hr=>?_
 obtain⟨r1,r2,r3⟩:=mem_rollsN.1 hr;unfold rollL
 congr 1
 refine lstS_congr fun q hq=>?_
 obtain⟨q1,q2,q3⟩:=results_pos (by omega) r1 hp q hq
 have:=q3 h0;have:=pips_nonneg q1.2.1;unfold xp
 exact xpF_fuel _ _ q1 (by omega) (by omega)
theorem xp_zero {s:Nat} {p:List Int} (h0:p.sum=0):xp s p=some zeroE':=by unfold xp xpF;rw[if_pos h0]
theorem xp_val {s:Nat} (hB:1≤((s:Int)*s)) {p:List Int} {x:E} (h:xp s p=some x):Val (s*s) x:=by
 unfold xp at h;generalize (pips p).toNat+1=f at h
 cases f with
 | zero=>unfold xpF at h;cases h
 | succ f =>
   unfold xpF at h
   split at h
   · injection h with h; subst h; exact zero_val
   · cases hm : ((allS (fun r => (lstS (s * s) (xpF s f) (resultsL p r.1 r.2)).map fun t => t.2.2) (rollsN s)).bind (meanE (s * s) (rollsN s))) with
     | none => rw [hm] at h; cases h
     | some m => rw [hm] at h; exact addE_val hB h
theorem rollL_val {s:Nat} (hB:1≤((s:Int)*s)) (p:List Int) (r:Nat×Nat) (x:E) (h:rollL s p r=some x):Val (s*s) x:=by
 unfold rollL at h
 cases hb:lstS (s*s) (xp s) (resultsL p r.1 r.2) with
 | none=>rw[hb]at h;cases h
 | some u =>
   rw [hb] at h
   simp only [Option.map_some, Option.some.injEq] at h
   subst h
   exact lstS_val (fun q x h => xp_val hB h) hb
end Go.Proofs.YtkaiilmgemaljaaGreat.Ra
namespace Go.Proofs.YtkaiilmgemaljaaGreat
open Go.RowKit Ps Ra Ex Go.Maps
structure OT where
 p:Int
 c:Nat
 h:Nat
 s:Nat
 bt:Nat
 b2:Nat
 b3:Nat
def OT.S (t:OT):Nat→Prop:=fun k=>k=t.b2∨k=t.b3
def OT.N (t:OT):Nat:=wys t.h t.c
def OT.cells (t:OT):List Value:=[.int .i64 t.p,.int .i64 t.c,.int .i64 t.h,.int .i64 t.s,.bool false,.map (some t.b2),.map (some t.b3)]
structure OT.Ok (t:OT):Prop where
 v:isVar t.p t.c t.h t.s=true
 n:t.N≤500
def OT.k1 (t:OT) (q:List Int):Lit:=.int .i64 (num t.c q:Int)
def OneM (t:OT) (w:World) (f2 f3:Lit→Option Value):Prop:=
 MapV Tryz.prog 2 w t.b2 (keysU t.N) f2∧MapV Tryz.prog 2 w t.b3 (keysU t.N) f3∧
 (∀q,PosP t.h t.c q→∀u,f2 (t.k1 q)=some u→u=exV (xp t.s q)∧f3 (t.k1 q)=some (.bool (xp t.s q).isNone))
structure OneI (t:OT) (w:World):Prop where
 tb:∀j v,t.cells[j]? = some v→w.cell? ⟨t.bt,j,none⟩=some v
 nt:¬t.S t.bt
 d23:t.b2≠t.b3
 maps:∃f2 f3,OneM t w f2 f3
section
variable {t:OT} {O:Nat→Prop} {w w':World} {f2 f3:Lit→Option Value}
theorem OneM.frm (h:OneM t w f2 f3) (hf:Frm O w w') (hn:∀k,O k→¬t.S k):OneM t w' f2 f3:=by
 obtain⟨h2,h3,h5⟩:=h
 exact⟨h2.frm hf fun h=>hn _ h (.inl rfl),h3.frm hf fun h=>hn _ h (.inr rfl),h5⟩
theorem OneI.frm (h:OneI t w) (hf:Frm O w w') (hn:∀k,O k→¬t.S k) (hb:¬O t.bt):OneI t w':=
 let ⟨f2,f3,hm⟩:=h.maps
 ⟨fun j v hv=>hf.cell' (h.tb j v hv) hb,h.nt,h.d23,f2,f3,hm.frm hf hn⟩
theorem OneI.below (h:OneI t w) (hb:Below w.heap.size w w'):OneI t w':=h.frm (Frm.of_below hb) (fun _ h=>h.elim) id
theorem OneI.alloc (h:OneI t w) (o:Obj):OneI t (w.alloc o):=h.below ((Below.refl _ _).alloc (Nat.le_refl _) o)
theorem OneI.drew (h:OneI t w):OneI t w.drew:=h.below (drw (Below.refl _ _))
theorem OneI.more (h:OneI t w) (tr:World):OneI t (more w tr):=h.below (below_more w tr)
theorem OneI.stored (h:OneI t w) {b i:Nat} (v:Value) (hS:¬t.S b) (hb:t.bt≠b):OneI t (w.setCell ⟨b,i,none⟩ v):=h.frm (Frm.set w b i v) (fun k hk=>by rw[hk];exact hS) hb
theorem OneI.ltB (h:OneI t w):t.bt<w.heap.size:=World.block_lt_of_cell? w _ (h.tb 0 _ rfl)
theorem OneI.ltS (h:OneI t w):∀k,t.S k→k<w.heap.size:=by
 obtain⟨_,_,h2,h3,_⟩:=h.maps
 rintro k (rfl|rfl)
 ·exact h2.lt
 ·exact h3.lt
end
theorem ok1_inj {t:OT} {q q':List Int} (hq:PosP t.h t.c q) (hq':PosP t.h t.c q') (h:t.k1 q=t.k1 q'):q=q':=by
 unfold OT.k1 at h;injection h with _ h
 exact num_inj hq hq' (by omega)
def RetX (t:OT) (w:World) (o:Option E) (e:Ending) (w':World):Prop:=e = .returned (.tuple #[exV o,.bool o.isSome])∧OneI t w'∧Frm t.S w w'
theorem RetX.mkY {t:OT} {w w':World} {o:Option E} {m:Int} {d:Nat} (ho:o=some ⟨m,d⟩) (h1:OneI t w') (h2:Frm t.S w w'):RetX t w o (.returned (.tuple #[.agg #[.int .i64 m,.int .i64 (d:Int)],.bool true])) w':=by subst ho;exact⟨rfl,h1,h2⟩
theorem RetX.mkN {t:OT} {w w':World} {o:Option E} (ho:o=none) (h1:OneI t w') (h2:Frm t.S w w'):RetX t w o (.returned (.tuple #[.agg #[.int .i64 0,.int .i64 0],.bool false])) w':=by subst ho;exact⟨rfl,h1,h2⟩
def ExpC (t:OT) (q:List Int):Prop:=∀(A:Option Addr) (ca:Nat) (w:World),OneI t w→SQ t.S w A t.h q→t.h≤ca→
 Calls Tryz.prog 214 #[.pointer (some ⟨t.bt,0,none⟩),.slice A t.h ca] w (RetX t w (xp t.s q))
theorem OneI.put {t:OT} {w w1 w2:World} {f2 f3:Lit→Option Value} {q:List Int} (hI:OneI t w) (h:OneM t w f2 f3) (hq:PosP t.h t.c q)
  (hs2:MapV Tryz.prog 2 w1 t.b2 (keysU t.N) (putF f2 (t.k1 q) (exV (xp t.s q)))) (hg2:w.grownBy w1 (some t.b2))
  (hs3:MapV Tryz.prog 2 w2 t.b3 (keysU t.N) (putF f3 (t.k1 q) (.bool (xp t.s q).isNone))) (hg3:w1.grownBy w2 (some t.b3)):OneI t w2:=by
 have f2':Frm (fun k=>k=t.b2) w w1:=(Frm.of_grown hg2).mono fun k hk=>by injection hk
 have f3':Frm (fun k=>k=t.b3) w1 w2:=(Frm.of_grown hg3).mono fun k hk=>by injection hk
 have hf:Frm t.S w w2:=(f2'.mono fun k hk=>.inl hk).trans (f3'.mono fun k hk=>.inr hk)
 refine⟨fun j v hv=>hf.cell' (hI.tb j v hv) hI.nt,hI.nt,hI.d23,_,_,hs2.frm f3' hI.d23,hs3,fun q' hq' u hu=>?_⟩
 by_cases e:t.k1 q'=t.k1 q
 ·have:=ok1_inj hq' hq e
  subst this;rw[putF_same]at hu ⊢;injection hu with hu
  exact⟨hu.symm,rfl⟩
 ·rw[putF_other f2 e]at hu
  rw[putF_other f3 e]
  exact h.2.2 q' hq' u hu
def RetNewO (w:World) (p:Int) (c h s:Nat) (e:Ending) (w':World):Prop:=
 ∃t:OT,t.p=p∧t.c=c∧t.h=h∧t.s=s∧e = .returned (.pointer (some ⟨t.bt,0,none⟩))∧t.Ok∧OneI t w'∧(∀k,t.S k→w.heap.size≤k)∧w.heap.size≤t.bt∧Below w.heap.size w w'
set_option maxRecDepth 100000 in
set_option maxHeartbeats 1000000 in
theorem newOnesided_any (p:Int) (c h s:Nat) (w:World) (hv:isVar p c h s=true) (hN:wys h c≤500):
  Calls Tryz.prog 213 #[.agg #[.int .i64 p,.int .i64 c,.int .i64 h,.int .i64 s],.bool false] w (RetNewO w p c h s):=by
 have HR:Hid (∀W',W'=((((w.alloc (.cells #[.int .i64 p,.int .i64 c,.int .i64 h,.int .i64 s] 25)).alloc (.map #[] 0)).alloc (.map #[] 0)).alloc (.cells #[.int .i64 p,.int .i64 c,.int .i64 h,.int .i64 s,.bool false,.map (some (w.heap.size+1)),.map (some (w.heap.size+1+1))] 242))→RetNewO w p c h s (.returned (.pointer (some ⟨w.heap.size+1+1+1,0,none⟩))) W'):=fun W' hW'=>by
  subst hW'
  refine⟨⟨p,c,h,s,w.heap.size+1+1+1,w.heap.size+1,w.heap.size+1+1⟩,rfl,rfl,rfl,rfl,rfl,⟨hv,hN⟩,⟨fun j v hj=>?_,?_,by show w.heap.size+1≠w.heap.size+1+1;omega,fun _=>none,fun _=>none,?_,?_,fun q _ u hu=>by cases hu⟩,?_,by show w.heap.size≤w.heap.size+1+1+1;omega,?_⟩
  ·have:(#[.int .i64 p,.int .i64 c,.int .i64 h,.int .i64 s,.bool false,.map (some (w.heap.size+1)),.map (some (w.heap.size+1+1))]:Array Value)[j]? = some v:=by rw[← hj];simp[OT.cells]
   simp[go_sem,this]
  ·rintro (h'|h')<;>(simp at h';try omega)
  ·have h0:((w.alloc (.cells #[.int .i64 p,.int .i64 c,.int .i64 h,.int .i64 s] 25)).alloc (.map #[] 0)).heap[w.heap.size+1]? = some (Obj.map #[] 0):=by
    have:=heap_alloc_new (w.alloc (.cells #[.int .i64 p,.int .i64 c,.int .i64 h,.int .i64 s] 25)) (.map #[] 0)
    simpa using this
   exact ((mapV_empty Tryz.prog 2 (keysU (wys h c)) h0).alloc _).alloc _
  ·have h0:(((w.alloc (.cells #[.int .i64 p,.int .i64 c,.int .i64 h,.int .i64 s] 25)).alloc (.map #[] 0)).alloc (.map #[] 0)).heap[w.heap.size+1+1]? = some (Obj.map #[] 0):=by
    have:=heap_alloc_new ((w.alloc (.cells #[.int .i64 p,.int .i64 c,.int .i64 h,.int .i64 s] 25)).alloc (.map #[] 0)) (.map #[] 0)
    simpa using this
   exact (mapV_empty Tryz.prog 2 (keysU (wys h c)) h0).alloc _
  ·rintro k (hk|hk)<;>(simp only at hk;omega)
  ·exact ((((Below.refl _ _).alloc (Nat.le_refl _) _).alloc (by simp) _).alloc (by simp;omega) _).alloc (by simp;omega) _
 clear hv hN;have hmm:=@run_makeMap Tryz.prog
 go_enter Tryz.func213,Tryz.ntmps213
 go_wp2_with (fail)
 go_ret
 exact HR.out _ rfl
end Go.Proofs.YtkaiilmgemaljaaGreat

/- Part of one proof. There are no conditions. -/
import Derived.Test.YtkaiilmgemaljaaGreatTN55
import Derived.Test.YtkaiilmgemaljaaGreatTN69
import Derived.Test.YtkaiilmgemaljaaGreatTQJ
import Derived.Test.YtkaiilmgemaljaaGreatTZl
import Derived.Test.YtkaiilmgemaljaaGreatTZa
import Derived.Test.YtkaiilmgemaljaaGreatTL6
set_option maxHeartbeats 0
set_option linter.unusedVariables false
set_option linter.unusedSimpArgs false
set_option maxRecDepth 100000
namespace Go.Proofs.YtkaiilmgemaljaaGreat
open Go.RowKit Ps Ra Ex Go.Maps
noncomputable def bstR (p c h s ra rb:Int) (own other:List Int):List Int×Int:=if codeK p c h s ra rb own other true=0 then (match bestS (sq s.toNat) (sec s.toNat other) (resultsL own ra.toNat rb.toNat) with
 | none=>([],3)
 | some (_,at',_)=>((resultsL own ra.toNat rb.toNat).getD at' [],0)) else ([],codeK p c h s ra rb own other true)
def RetIs (w:World) (r:List Int×Int) (e:Ending) (w':World):Prop:=∃v base,e = .returned (.tuple #[v,.int .i64 r.2])/\w.heap.size<=base/\OwnS w' base 2 v r.1/\Below w.heap.size w w'
theorem RetIs.no {w w':World} {r:List Int×Int} {k:Int} (hr:r=([],k)) (hb:Below w.heap.size w w'):RetIs w r (.returned (.tuple #[.slice none 0 0,.int .i64 k])) w':=by
 subst hr;exact⟨_,w.heap.size,rfl,Nat.le_refl _,World.ownsRow_nil _ _ _ _,hb⟩
theorem RetIs.yes {w w':World} {r:List Int×Int} {xs:List Int} {v:Value} {base:Nat} (hr:r=(xs,0)) (h0:w.heap.size<=base) (ho:OwnS w' base 2 v xs) (hb:Below w.heap.size w w'):RetIs w r (.returned (.tuple #[v,.int .i64 0])) w':=by
 subst hr;exact⟨_,base,rfl,h0,ho,hb⟩
theorem map_cell {P:Program} {k:TypeId} {w:World} {b i:Nat} {U:List Lit} {f:Lit->Option Value} (h:MapV P k w b U f):w.cell? ⟨b,i,none⟩=none:=by
 obtain⟨D,⟨es,clock,hb,_⟩,_⟩:=h
 simp[World.cell?,hb]
theorem race_cell {t:RT} {T:Nat->Prop} {W:World} {g:Nat} {x:Value} {cs:List Value} (h:RaceI t T W) (hc:Cel W g (x::cs)):¬t.S g:=by
 obtain⟨f1,f2,f3,h1,h2,h3,_⟩:=h.maps;have hx:=hc.cell 0 x rfl
 rintro (rfl|rfl|rfl)
 ·rw[map_cell h1]at hx;cases hx
 ·rw[map_cell h2]at hx;cases hx
 ·rw[map_cell h3]at hx;cases hx
def BP (o:Option (Nat×Nat×E)) (h:Nat) (l:List (List Int)):RP:=fun v W=>match o with
 | none=>v = .slice none 0 0
 | some (_,a,_)=>∃b off c,v = .slice (some ⟨b,off,none⟩) h c/\h<=c/\SL W (some ⟨b,off,none⟩) h (l.getD a [])
theorem stb_bp (o:Option (Nat×Nat×E)) (h:Nat) (l:List (List Int)):Stb (BP o h l):=fun v W W' hp hb=>by
 unfold BP at *
 split at hp
 ·exact hp
 ·obtain⟨b,off,c,h1,h2,h3⟩:=hp;exact⟨b,off,c,h1,h2,h3.below hb⟩
theorem BP.lt {o:Option (Nat×Nat×E)} {h:Nat} {l:List (List Int)} {u:Value} {W:World} {b off n m:Nat} (hp:BP o h l u W) (h0:0<h) (hu:u = .slice (some ⟨b,off,none⟩) n m):b<W.heap.size:=by
 unfold BP at hp
 split at hp
 ·rw[hp]at hu;cases hu
 ·obtain⟨b',off',c,h1,_,h3⟩:=hp
  rw[h1]at hu;injection hu with hu;injection hu with hu;injection hu with hu;obtain⟨b2,o2,h4,h5,_⟩:=h3.2 h0;injection h4 with h4;injection h4 with h4
  omega
def oN:Option (Nat×Nat×E)->Int
 | none=>0
 | some (_,_,x)=>x.num
def oD:Option (Nat×Nat×E)->Int
 | none=>0
 | some (_,_,x)=>(x.depth:Int)
def oB:Option (Nat×Nat×E)->Bool
 | none=>false
 | some _=>true
def dsBest:Nat->Nat
 | 0=>23
 | 1=>24
 | 2=>25
 | 3=>26
 | 4=>27
 | 5=>28
 | 6=>29
 | 7=>30
 | 8=>22
 | 9=>31
 | 10=>32
 | 11=>33
 | 12=>12
 | _=>0
def evBest (va ra x y n o k:Value):Nat->Option Value
 | 0=>some va
 | 2=>some x
 | 3=>some y
 | 4=>some va
 | 5=>some ra
 | 6=>some n
 | 10=>some o
 | 11=>some k
 | _=>none
structure JB (V:World) (c h s:Nat) (o:Option (Nat×Nat×E)) (l:List (List Int)) (x ok:Value) (ev:Nat->Option Value) (L:Nat->Bool) (vs:Nat->Value) (W:World):Prop where
 b:Below V.heap.size V W
 cl:(L 8=true->L 7=true)/\(L 9=true->L 8=true)
 eq:∀i y,i<13->L i=true->ev i=some y->vs i=y
 al:L 12=true->∃g,vs 12 = .pointer (some ⟨g,0,none⟩)/\V.heap.size<=g/\Cel W g [.int .i64 0,.int .i64 0]
 ra:L 1=true->L 7=false->∃(t:RT) (l1 hi:Nat),vs 1 = .pointer (some ⟨t.bt,0,none⟩)/\t.c=c/\t.h=h/\t.s=s/\t.Ok/\RaceI t (fun k=>t.S k\/(V.heap.size<=k/\k<l1)\/hi<=k) W/\hi<=W.heap.size/\V.heap.size<=l1/\l1<=hi/\(∀k,t.S k->l1<=k)/\
  ∀g,L 12=true->vs 12 = .pointer (some ⟨g,0,none⟩)->g<l1\/hi<=g
 bt:∀i,i=7\/i=8\/i=9->L i=true->∃u,(vs i=if i=9 then u else .tuple #[u,x,ok])/\BP o h l u W/\∀b off n m g,u = .slice (some ⟨b,off,none⟩) n m->L 12=true->vs 12 = .pointer (some ⟨g,0,none⟩)->b≠g
section
variable {V W W':World} {c h s:Nat} {o:Option (Nat×Nat×E)} {l:List (List Int)} {x ok:Value} {ev:Nat->Option Value} {L L':Nat->Bool} {vs vs':Nat->Value} {i:Nat} {v:Value}
theorem JB.pure (H:JB V c h s o l x ok ev L vs W) (hu:Upd 13 i v L vs L' vs') (hb:Below W.heap.size W W') (h1:i≠1/\i≠7/\i≠8/\i≠9/\i≠12) (hv:∀y,ev i=some y->v=y):JB V c h s o l x ok ev L' vs' W':=by
 obtain⟨u1,u2,u3⟩:=hu
 have e12:=u3 12 (by omega) (by omega)
 have e7:=u3 7 (by omega) (by omega)
 have e1:=u3 1 (by omega) (by omega)
 have c8:=u3 8 (by omega) (by omega)
 have c9:=u3 9 (by omega) (by omega)
 have c7:=u3 7 (by omega) (by omega)
 refine⟨H.b.trans (hb.mono H.b.size),⟨fun h=>by rw[c7.1];rw[c8.1]at h;exact H.cl.1 h,fun h=>by rw[c8.1];rw[c9.1]at h;exact H.cl.2 h⟩,fun k y hk hl he=>?_,fun hl=>?_,fun hl hl7=>?_,fun k hk hl=>?_⟩
 ·by_cases ek:k=i
  ·subst ek;rw[u2];exact hv y he
  ·rw[(u3 k hk ek).2];exact H.eq k y hk (by rw[<- (u3 k hk ek).1];exact hl) he
 ·obtain⟨g,g1,g2,g3⟩:=H.al (by rw[<- e12.1];exact hl)
  exact⟨g,by rw[e12.2];exact g1,g2,g3.below hb⟩
 ·obtain⟨t,l1,hi,a1,a2,a3,a4,a5,a6,a7,a8,a8',a9,a10⟩:=H.ra (by rw[<- e1.1];exact hl) (by rw[<- e7.1];exact hl7)
  exact⟨t,l1,hi,by rw[e1.2];exact a1,a2,a3,a4,a5,a6.below hb,Nat.le_trans a7 hb.size,a8,a8',a9,fun g hg hg2=>a10 g (by rw[<- e12.1];exact hg) (by rw[<- e12.2];exact hg2)⟩
 ·have ek:=u3 k (by omega) (by omega)
  obtain⟨u,b1,b2,b3⟩:=H.bt k hk (by rw[<- ek.1];exact hl)
  exact⟨u,by rw[ek.2];exact b1,stb_bp o h l _ _ _ b2 hb,fun b off n m g hu hg hg2=>b3 b off n m g hu (by rw[<- e12.1];exact hg) (by rw[<- e12.2];exact hg2)⟩
theorem JB.alloc (H:JB V c h s o l x ok ev L vs W) (T:TypeId) (hu:Upd 13 12 (.pointer (some ⟨W.heap.size,0,none⟩)) L vs L' vs') (he:ev 12=none) (h0:0<h):JB V c h s o l x ok ev L' vs' (W.alloc (.cells #[.int .i64 0,.int .i64 0] T)):=by
 obtain⟨u1,u2,u3⟩:=hu;have hb:Below W.heap.size W (W.alloc (.cells #[.int .i64 0,.int .i64 0] T)):=Bel.alloc W _
 have e7:=u3 7 (by omega) (by omega)
 have e1:=u3 1 (by omega) (by omega)
 have c8:=u3 8 (by omega) (by omega)
 have c9:=u3 9 (by omega) (by omega)
 have c7:=u3 7 (by omega) (by omega)
 refine⟨H.b.trans (hb.mono H.b.size),⟨fun h=>by rw[c7.1];rw[c8.1]at h;exact H.cl.1 h,fun h=>by rw[c8.1];rw[c9.1]at h;exact H.cl.2 h⟩,fun k y hk hl he'=>?_,fun hl=>⟨_,u2,H.b.size,Cel.new W #[.int .i64 0,.int .i64 0] T⟩,fun hl hl7=>?_,fun k hk hl=>?_⟩
 ·by_cases ek:k=12
  ·subst ek;rw[he]at he';cases he'
  ·rw[(u3 k hk ek).2];exact H.eq k y hk (by rw[<- (u3 k hk ek).1];exact hl) he'
 ·obtain⟨t,l1,hi,a1,a2,a3,a4,a5,a6,a7,a8,a8',a9,_⟩:=H.ra (by rw[<- e1.1];exact hl) (by rw[<- e7.1];exact hl7)
  refine⟨t,l1,hi,by rw[e1.2];exact a1,a2,a3,a4,a5,a6.below hb,Nat.le_trans a7 hb.size,a8,a8',a9,fun g _ hg2=>.inr ?_⟩
  rw[u2]at hg2;injection hg2 with hg2;injection hg2 with hg2;injection hg2 with hg2
  omega
 ·have ek:=u3 k (by omega) (by omega)
  obtain⟨u,b1,b2,_⟩:=H.bt k hk (by rw[<- ek.1];exact hl)
  refine⟨u,by rw[ek.2];exact b1,stb_bp o h l _ _ _ b2 hb,fun b off n m g hu _ hg2 hbg=>?_⟩
  rw[u2]at hg2;injection hg2 with hg2;injection hg2 with hg2;injection hg2 with hg2;have hlt:=BP.lt b2 h0 hu
  omega
theorem JB.race (H:JB V c h s o l x ok ev L vs W) {t:RT} (hu:Upd 13 1 (.pointer (some ⟨t.bt,0,none⟩)) L vs L' vs') (hb:Below W.heap.size W W') (he:ev 1=none) (a2:t.c=c) (a3:t.h=h) (a4:t.s=s) (a5:t.Ok) (a6:RaceI t (fun k=>t.S k\/k<W.heap.size) W') (a9:∀k,t.S k->W.heap.size<=k):JB V c h s o l x ok ev L' vs' W':=by
 obtain⟨u1,u2,u3⟩:=hu
 have e12:=u3 12 (by omega) (by omega)
 have c8:=u3 8 (by omega) (by omega)
 have c9:=u3 9 (by omega) (by omega)
 have c7:=u3 7 (by omega) (by omega)
 refine⟨H.b.trans (hb.mono H.b.size),⟨fun h=>by rw[c7.1];rw[c8.1]at h;exact H.cl.1 h,fun h=>by rw[c8.1];rw[c9.1]at h;exact H.cl.2 h⟩,fun k y hk hl he'=>?_,fun hl=>?_,fun hl hl7=>?_,fun k hk hl=>?_⟩
 ·by_cases ek:k=1
  ·subst ek;rw[he]at he';cases he'
  ·rw[(u3 k hk ek).2];exact H.eq k y hk (by rw[<- (u3 k hk ek).1];exact hl) he'
 ·obtain⟨g,g1,g2,g3⟩:=H.al (by rw[<- e12.1];exact hl)
  exact⟨g,by rw[e12.2];exact g1,g2,g3.below hb⟩
 ·refine⟨t,W.heap.size,W'.heap.size,u2,a2,a3,a4,a5,a6.set (fun k hk=>?_) (fun k hk=>.inl hk),Nat.le_refl _,H.b.size,hb.size,a9,fun g hg hg2=>.inl ?_⟩
  ·rcases hk with hk|hk|hk
   ·exact .inl (.inl hk)
   ·exact .inl (.inr hk.2)
   ·exact .inr hk
  ·obtain⟨g',g1,g2,g3⟩:=H.al (by rw[<- e12.1];exact hg)
   rw[e12.2,g1]at hg2;injection hg2 with hg2;injection hg2 with hg2;injection hg2 with hg2;have:=g3.lt
   omega
 ·have ek:=u3 k (by omega) (by omega)
  obtain⟨u,b1,b2,b3⟩:=H.bt k hk (by rw[<- ek.1];exact hl)
  exact⟨u,by rw[ek.2];exact b1,stb_bp o h l _ _ _ b2 hb,fun b off n m g hu hg hg2=>b3 b off n m g hu (by rw[<- e12.1];exact hg) (by rw[<- e12.2];exact hg2)⟩
theorem JB.best (H:JB V c h s o l x ok ev L vs W) {S:Nat->Prop} {u:Value} (hu:Upd 13 7 (.tuple #[u,x,ok]) L vs L' vs') (hf:Frm S W W') (hS:∀k,S k->V.heap.size<=k) (hg:∀g,L 12=true->vs 12 = .pointer (some ⟨g,0,none⟩)->¬S g) (he:ev 7=none) (h7:L 7=false)
  (hbp:BP o h l u W') (hav:∀b off n m g,u = .slice (some ⟨b,off,none⟩) n m->L 12=true->vs 12 = .pointer (some ⟨g,0,none⟩)->b≠g):JB V c h s o l x ok ev L' vs' W':=by
 obtain⟨u1,u2,u3⟩:=hu
 have h8:L 8=false:=by
  cases h:L 8 with
  | false=>rfl
  | true=>rw[H.cl.1 h]at h7;cases h7
 have h9:L 9=false:=by
  cases h:L 9 with
  | false=>rfl
  | true=>rw[H.cl.2 h]at h8;cases h8
 have e12:=u3 12 (by omega) (by omega)
 have c8:=u3 8 (by omega) (by omega)
 have c9:=u3 9 (by omega) (by omega)
 refine⟨H.b.trans (hf.below H.b.size hS),⟨fun _=>u1,fun h=>by rw[c8.1];rw[c9.1]at h;exact H.cl.2 h⟩,fun k y hk hl he'=>?_,fun hl=>?_,fun _ hl7=>(by rw[u1]at hl7;cases hl7),fun k hk hl=>?_⟩
 ·by_cases ek:k=7
  ·subst ek;rw[he]at he';cases he'
  ·rw[(u3 k hk ek).2];exact H.eq k y hk (by rw[<- (u3 k hk ek).1];exact hl) he'
 ·obtain⟨g,g1,g2,g3⟩:=H.al (by rw[<- e12.1];exact hl)
  exact⟨g,by rw[e12.2];exact g1,g2,g3.frm hf (hg g (by rw[<- e12.1];exact hl) g1)⟩
 ·rcases hk with rfl|rfl|rfl
  ·exact⟨u,u2,hbp,fun b off n m g hu hl2 hg2=>hav b off n m g hu (by rw[<- e12.1];exact hl2) (by rw[<- e12.2];exact hg2)⟩
  ·rw[(u3 8 (by omega) (by omega)).1,h8]at hl;cases hl
  ·rw[(u3 9 (by omega) (by omega)).1,h9]at hl;cases hl
theorem JB.next (H:JB V c h s o l x ok ev L vs W) {k:Nat} {u:Value} (hk:k=7\/k=8) (hlk:L k=true) (hvk:vs k = .tuple #[u,x,ok]) (hi:i=k+1) (hu:Upd 13 i (if i=9 then u else .tuple #[u,x,ok]) L vs L' vs') (he:ev i=none):JB V c h s o l x ok ev L' vs' W:=by
 obtain⟨u1,u2,u3⟩:=hu
 have e12:=u3 12 (by omega) (by omega)
 have e7:=fun (hne:7≠i)=>u3 7 (by omega) hne
 have e1:=u3 1 (by omega) (by omega)
 refine⟨H.b,?_,fun q y hq hl he'=>?_,fun hl=>?_,fun hl hl7=>?_,fun q hq hl=>?_⟩
 ·rcases hk with rfl|rfl
  ·subst hi
   have c7:=u3 7 (by omega) (by omega)
   have c9:=u3 9 (by omega) (by omega)
   exact⟨fun _=>by rw[c7.1];exact hlk,fun _=>u1⟩
  ·subst hi
   have c7:=u3 7 (by omega) (by omega)
   have c8:=u3 8 (by omega) (by omega)
   exact⟨fun h=>by rw[c7.1];rw[c8.1]at h;exact H.cl.1 h,fun _=>by rw[c8.1];exact hlk⟩
 ·by_cases ek:q=i
  ·subst ek;rw[he]at he';cases he'
  ·rw[(u3 q hq ek).2];exact H.eq q y hq (by rw[<- (u3 q hq ek).1];exact hl) he'
 ·obtain⟨g,g1,g2,g3⟩:=H.al (by rw[<- e12.1];exact hl)
  exact⟨g,by rw[e12.2];exact g1,g2,g3⟩
 ·have e7':=e7 (by omega)
  obtain⟨t,l1,hi',a1,a2,a3,a4,a5,a6,a7,a8,a8',a9,a10⟩:=H.ra (by rw[<- e1.1];exact hl) (by rw[<- e7'.1];exact hl7)
  exact⟨t,l1,hi',by rw[e1.2];exact a1,a2,a3,a4,a5,a6,a7,a8,a8',a9,fun g hg hg2=>a10 g (by rw[<- e12.1];exact hg) (by rw[<- e12.2];exact hg2)⟩
 ·by_cases ek:q=i
  ·subst ek
   obtain⟨u',b1,b2,b3⟩:=H.bt k (by omega) hlk
   rw[if_neg (by omega),hvk]at b1
   injection b1 with b1
   have hue:u=u':=by injection b1 with b1;injection b1
   subst hue
   exact⟨u,u2,b2,fun b off n m g hu hl2 hg2=>b3 b off n m g hu (by rw[<- e12.1];exact hl2) (by rw[<- e12.2];exact hg2)⟩
  ·have ek':=u3 q (by omega) ek
   obtain⟨u',b1,b2,b3⟩:=H.bt q hq (by rw[<- ek'.1];exact hl)
   exact⟨u',by rw[ek'.2];exact b1,b2,fun b off n m g hu hg hg2=>b3 b off n m g hu (by rw[<- e12.1];exact hg) (by rw[<- e12.2];exact hg2)⟩
end
theorem best_gen {t:RT} {W:World} {T:Nat->Prop} {c h s a b:Nat} {own other:List Int} {A B:Option Addr} {ca cb:Nat} (hc':t.c=c) (hh':t.h=h) (hs':t.s=s) (hok:t.Ok) (hI:RaceI t T W) (hT:∀k,W.heap.size<=k->¬T k)
  (hp1:PosP h c own) (hp2:PosP h c other) (hs0:own.sum≠0) (ha1:1<=a) (ha2:a<=s) (hb1:1<=b) (hb2:b<=a) (hA:SQ T W A h own) (hB:SQ T W B h other) (hca:h<=ca) (hcb:h<=cb):
  Calls Tryz.prog 76 #[.pointer (some ⟨t.bt,0,none⟩),.slice A h ca,.slice B h cb,.int .i64 (rollNo a b:Nat)] W (iC t T W (resultsL own a b) (bestS (sq s) (sec s other) (resultsL own a b))):=by
 subst hc' hh' hs';have hv:=aw hok.v
 obtain⟨r1,r2⟩:=rollNo_at (s:=t.s) (by omega) ha1 ha2 hb1 hb2
 exact jM t hok hp1 hs0 (rollNo a b) a b (by rw[<- hok.r];exact r2) r1 (fun q hq=>dr t hok (jh t hok hp2 (ax (by omega) hb1 hp1 q hq).1)) T A B ca cb W hT hI hA hca hB hcb
def RetNewF (w:World) (p:Int) (c h s:Nat) (e:Ending) (w':World):Prop:=
 ∃t:RT,t.p=p/\t.c=c/\t.h=h/\t.s=s/\e = .returned (.pointer (some ⟨t.bt,0,none⟩))/\t.Ok/\RaceI t (fun k=>t.S k\/k<w.heap.size) w'/\(∀k,t.S k->w.heap.size<=k)/\Below w.heap.size w w'
theorem newRace_far (p:Int) (c h s:Nat) (w:World) (hv:isVar p c h s=true) (hN:wys h c<=500):
  Calls Tryz.prog 75 #[.agg #[.int .i64 p,.int .i64 c,.int .i64 h,.int .i64 s]] w (RetNewF w p c h s):=by
 have hvv:=aw hv
 have hs6:s<=6:=by omega
 have HV:=h_ hv;have HN:=h_ hN
 have HC:Hid (wysC h c=wys h c):=dh (by omega)
 have HF0:=h_ ((Fr.start w).allocT (by simp) #[.int .i64 p,.int .i64 c,.int .i64 h,.int .i64 s] 25)
 have CN:=h_ fun (W:World)=>cy p s c h W hv
 have CR:=h_ fun (W:World)=>eu p c h s W hv
 clear hv hN hvv
 go_enter Tryz.func75,Tryz.ntmps75
 go_wp2_with (fail)
 refine cG 8 (fun i=>i+3) (newG w p c h s (wys h c)) newO (by kernel_rfl) (by kernel_rfl) newG_stab newG_lt ?_ ?_
 ·intro i o hi ho a' W hb hfar hdep
  have e1:a'.tmps.getD 1 undef = .pointer (some ⟨w.heap.size,0,none⟩):=(hfar 1 (fun j _=>by omega)).trans rfl
  have HFW:=HF0.out.below hb;have hWz:w.heap.size<=W.heap.size:=HFW.b.size;have HFh:=h_ HFW;obtain⟨z0,c00,f00,c01,f01,c02,f02,c03,f03⟩:=HFh.out.xf3;have dep:∀j,j<8->Region.waitsFor .any _ i j=true->newG w p c h s (wys h c) j (a'.tmps.getD (j+3) undef) W:=hdep
  have good:∀(v:Value) (W':World),Below W.heap.size W W'->newG w p c h s (wys h c) i v W'->(∀b,newO i v=some b->W.heap.size<=b)->MGood (newG w p c h s (wys h c)) newO i W v W':=fun v W' h1 h2 h3=>⟨h1,h2,h3⟩
  have load:∀(d:Option Tmp) (ty:TypeId) (pos:String) (af:Array Edge),(execOp a'.eval { dst:=d,op:=Op.load 25 (Operand.tmp 1),type:=ty,pos:=pos,after:=af,guard:=none }).run Tryz.prog W = .ok (.value (.agg #[.int .i64 p,.int .i64 c,.int .i64 h,.int .i64 s])) W:=fun d ty pos af=>by
   simp only[execOp,Act.eval,e1]
   go_simp
  have hi8:i=0\/i=1\/i=2\/i=3\/i=4\/i=5\/i=6\/i=7:=by omega
  rcases hi8 with rfl|rfl|rfl|rfl|rfl|rfl|rfl|rfl
  all_goals
   simp at ho
   subst ho
  ·exact .inl ⟨_,W,load _ _ _ _,good _ _ (Below.refl _ _) rfl (fun b hb=>by simp[newO]at hb)⟩
  ·exact .inl ⟨_,W,load _ _ _ _,good _ _ (Below.refl _ _) rfl (fun b hb=>by simp[newO]at hb)⟩
  ·have e4:a'.tmps.getD 4 undef = .agg #[.int .i64 p,.int .i64 c,.int .i64 h,.int .i64 s]:=dep 1 (by omega) (by kernel_rfl)
   refine .inr ⟨164,#[.agg #[.int .i64 p,.int .i64 c,.int .i64 h,.int .i64 s]],?_,?_⟩
   ·simp only[execOp,Act.eval]
    go_simp
   ·refine (CN.out W).mono ?_
    rintro e W' ⟨rfl,hb'⟩
    exact⟨_,rfl,good _ _ hb' (by rw[HC.out];rfl) (fun b hb=>by simp[newO]at hb)⟩
  ·exact .inl ⟨_,W,load _ _ _ _,good _ _ (Below.refl _ _) rfl (fun b hb=>by simp[newO]at hb)⟩
  ·have e6:a'.tmps.getD 6 undef = .agg #[.int .i64 p,.int .i64 c,.int .i64 h,.int .i64 s]:=dep 3 (by omega) (by kernel_rfl)
   refine .inr ⟨165,#[.agg #[.int .i64 p,.int .i64 c,.int .i64 h,.int .i64 s]],?_,?_⟩
   ·simp only[execOp,Act.eval]
    go_simp
   ·refine (CR.out W).mono ?_
    rintro e W' ⟨v,rfl,ho,hb'⟩
    exact⟨_,rfl,good _ _ hb' (cY ho hWz) (fun b hb=>by simp[newO]at hb)⟩
  all_goals
   refine .inl ⟨.map (some W.heap.size),W.alloc (.map #[] 0),rfl,good _ _ ((Below.refl _ _).alloc (Nat.le_refl _) _) ⟨W.heap.size,rfl,hWz,heap_alloc_new W _⟩ (fun b hb=>?_)⟩
   simp[newO,mapB]at hb
   omega
 ·intro v W hb hg ho
  have HBW:Below w.heap.size w W:=((Below.refl _ _).alloc (Nat.le_refl _) _).trans (hb.mono (by simp))
  have g0:v 0 = .agg #[.int .i64 p,.int .i64 c,.int .i64 h,.int .i64 s]:=hg 0 (by omega)
  have g1:v 1 = .agg #[.int .i64 p,.int .i64 c,.int .i64 h,.int .i64 s]:=hg 1 (by omega)
  have g2:v 2 = .int .i64 (wys h c:Int):=hg 2 (by omega)
  have g3:v 3 = .agg #[.int .i64 p,.int .i64 c,.int .i64 h,.int .i64 s]:=hg 3 (by omega)
  have g4:OwnR W w.heap.size (v 4) (ae s):=hg 4 (by omega)
  obtain⟨b1,g5,l1,m1⟩:∃b,v 5 = .map (some b)/\w.heap.size<=b/\W.heap[b]? = some (.map #[] 0):=hg 5 (by omega)
  obtain⟨b2,g6,l2,m2⟩:∃b,v 6 = .map (some b)/\w.heap.size<=b/\W.heap[b]? = some (.map #[] 0):=hg 6 (by omega)
  obtain⟨b3,g7,l3,m3⟩:∃b,v 7 = .map (some b)/\w.heap.size<=b/\W.heap[b]? = some (.map #[] 0):=hg 7 (by omega)
  have d12:b1≠b2:=fun e=>ho 5 6 (by omega) (by omega) (by omega) b1 (by rw[g5];rfl) (by rw[g6,e];rfl)
  have d13:b1≠b3:=fun e=>ho 5 7 (by omega) (by omega) (by omega) b1 (by rw[g5];rfl) (by rw[g7,e];rfl)
  have d23:b2≠b3:=fun e=>ho 6 7 (by omega) (by omega) (by omega) b2 (by rw[g6];rfl) (by rw[g7,e];rfl)
  have hrb:∀k,(v 4).ownBlock=some k->¬((k=b1\/k=b2\/k=b3)\/k<w.heap.size):=fun k hk hor=>by
   have hk0:=(World.ownsRow.lt g4 k hk).1
   replace hor:=hor.resolve_right (by omega)
   obtain⟨_,h4⟩:=g4
   rcases h4 with⟨h4,_⟩|⟨g,cap,cur,h4,_,h5,_⟩
   ·rw[h4]at hk;cases hk
   ·rw[h4]at hk
    simp[Value.ownBlock]at hk
    subst hk
    rcases hor with rfl|rfl|rfl
    ·rw[m1]at h5;cases h5
    ·rw[m2]at h5;cases h5
    ·rw[m3]at h5;cases h5
  obtain⟨A,cr,hv4,hsl,hcr⟩:=cV (S:=fun k=>(k=b1\/k=b2\/k=b3)\/k<w.heap.size) g4 hrb (by omega)
  have HR:Hid (∀W',W'=W.alloc (.cells #[.int .i64 p,.int .i64 c,.int .i64 h,.int .i64 s,.int .i64 (wys h c:Int),.slice A (ae s).length cr,.map (some b1),.map (some b2),.map (some b3)] 109)->RetNewF w p c h s (.returned (.pointer (some ⟨W.heap.size,0,none⟩))) W'):=fun W' hW'=>by
   subst hW';have hz:w.heap.size<=W.heap.size:=HBW.size
   refine⟨⟨p,c,h,s,W.heap.size,b1,b2,b3,A,(ae s).length,cr⟩,rfl,rfl,rfl,rfl,rfl,⟨HV.out,HN.out,rfl,hcr⟩,?_,?_,HBW.alloc hz _⟩
   ·have mk:∀b,W.heap[b]? = some (Obj.map #[] 0)->MapV Tryz.prog 2 (W.alloc (.cells #[.int .i64 p,.int .i64 c,.int .i64 h,.int .i64 s,.int .i64 (wys h c:Int),.slice A (ae s).length cr,.map (some b1),.map (some b2),.map (some b3)] 109)) b (keysU (wys h c)) (fun _=>none):=fun b hb=>(iX Tryz.prog 2 (keysU (wys h c)) hb).alloc _
    have lt:∀b:Nat,W.heap[b]? = some (Obj.map #[] 0)->b<W.heap.size:=fun b h=>(Array.getElem?_eq_some_iff.1 h).1
    refine⟨fun j v hj=>?_,?_,⟨rfl,hsl.alloc _⟩,fun k hk=>.inl hk,d12,d13,d23,_,_,_,mk b1 m1,mk b2 m2,mk b3 m3,(fun q _ u hu=>by cases hu),(fun q r _ _ u hu=>by cases hu)⟩
    ·have:(#[.int .i64 p,.int .i64 c,.int .i64 h,.int .i64 s,.int .i64 (wys h c:Int),.slice A (ae s).length cr,.map (some b1),.map (some b2),.map (some b3)]:Array Value)[j]? = some v:=by rw[<- hj];simp[RT.cells,RT.N]
     simp[go_sem,this]
    ·rintro ((h|h|h)|h)
     ·have:=lt b1 m1;simp at h;omega
     ·have:=lt b2 m2;simp at h;omega
     ·have:=lt b3 m3;simp at h;omega
     ·simp only at h;omega
   ·rintro k (rfl|rfl|rfl)<;>assumption
  clear hrb hsl g4 m1 m2 m3 hg ho hcr;have d12:=h_ d12;have d13:=h_ d13;have d23:=h_ d23
  simp only[List.drop_succ_cons,List.drop_zero,putV,g0,g1,g2,g3,hv4,g5,g6,g7,Act.put]
  clear g0 g1 g2 g3 hv4 g5 g6 g7
  go_wp2_with (fail)
  go_ret
  exact HR.out _ rfl
theorem fT (p c h s ra rb:Int) (A B:Option Addr) (n m ca cb:Nat) (own other:List Int) (w:World) (hA:SL w A n own) (hB:SL w B m other) (hca:n<=ca) (hcb:m<=cb):
  Calls Tryz.prog 23 #[.agg #[.int .i64 p,.int .i64 c,.int .i64 h,.int .i64 s],.slice A n ca,.slice B m cb,.agg #[.int .i64 ra,.int .i64 rb]] w (RetIs w (bstR p c h s ra rb own other)):=by
 have HF1:Hid (Fr w ((w.alloc (.cells #[.int .i64 p,.int .i64 c,.int .i64 h,.int .i64 s] 25)).alloc (.cells #[.int .i64 ra,.int .i64 rb] 39)) [[.int .i64 p,.int .i64 c,.int .i64 h,.int .i64 s],[.int .i64 ra,.int .i64 rb]]):=((Fr.start w).allocT (by simp) _ _).allocT (by simp) _ _
 have HA1:=h_ (hA.below HF1.out.b);have HB1:=h_ (hB.below HF1.out.b);have HAW:=h_ hA;have HBW:=h_ hB;have CT:=h_ (dT p c h s ra rb A B n m ca cb own other _ HA1.out HB1.out);clear hA hB
 by_cases hct:codeK p c h s ra rb own other true=0
 focus
  obtain⟨ht,hro,hsum⟩:=eG hct
  obtain⟨hv,hp1,hp2,hN⟩:=de ht;have hvv:=aw hv;obtain⟨a,b,rfl,rfl,ha1,ha2,hb1,hb2⟩:=du hro
  obtain⟨c',rfl⟩:∃c':Nat,c=c':=⟨c.toNat,by omega⟩
  obtain⟨h',rfl⟩:∃h':Nat,h=h':=⟨h.toNat,by omega⟩
  obtain⟨s',rfl⟩:∃s':Nat,s=s':=⟨s.toNat,by omega⟩
  have hh1:0<h':=by omega
  have hh24:h'<=24:=by omega
  have HP1:=h_ (ba hp1);have HP2:=h_ (ba hp2)
  have hs0:own.sum≠0:=fun h0=>hsum (.inr ⟨rfl,.inl h0⟩)
  simp only[Int.toNat_natCast]at hN
  have hnh:h'=n:=by rw[<- HAW.out.1];exact (HP1.out.1).symm
  have hmh:h'=m:=by rw[<- HBW.out.1];exact (HP2.out.1).symm
  subst hnh;subst hmh;have HPP:=HP1.out
  have CNEW:=h_ fun (W:World)=>newRace_far p c' h' s' W hv hN
  have CROL:=h_ fun (W:World)=>eO p c' h' s' a b W hv ha1 ha2 hb1 hb2
  have CBES:=h_ fun (t:RT) (T:Nat->Prop) (W:World) (hc':t.c=c') (hh':t.h=h') (hs':t.s=s') (hok:t.Ok) (hI:RaceI t T W) (hT:∀k,W.heap.size<=k->¬T k) (hA:SQ T W A h' own) (hB:SQ T W B h' other)=>best_gen hc' hh' hs' hok hI hT HP1.out HP2.out hs0 ha1 (by omega) hb1 hb2 hA hB hca hcb
  have HNE:=h_ (cn (by omega:1<=a) hb1 HPP)
  have HRP:Hid (∀q∈resultsL own a b,PosP h' c' q):=fun q h=>(ax (by omega) hb1 HPP q h).1
  have HW0:Hid (bstR p c' h' s' a b own other=match bestS (sq s') (sec s' other) (resultsL own a b) with|none=>([],3)|some (_,at',_)=>((resultsL own a b).getD at' [],0)):=by
   unfold Hid bstR;rw[if_pos hct]
   simp only[Int.toNat_natCast]
  rw[hct]at CT;clear hct ht hro hsum hv hp1 hp2 hN hvv HPP ha1 ha2 hb1 hb2 hs0 HP1 HP2;generalize resultsL own a b=L at *;generalize hbs:bestS (sq s') (sec s' other) L=o at *;obtain⟨xn,hxn⟩:∃x:Int,x=oN o:=⟨_,rfl⟩;obtain⟨xd,hxd⟩:∃x:Int,x=oD o:=⟨_,rfl⟩;obtain⟨ok,hok⟩:∃x:Bool,x=oB o:=⟨_,rfl⟩
  have HBT:Hid (∀(t:RT) (T:Nat->Prop) (W:World) (e:Ending) (W':World),t.h=h'->iC t T W L o e W'->Frm t.S W W'/\∃u,e = .returned (.tuple #[u,.agg #[.int .i64 xn,.int .i64 xd],.bool ok])/\BP o h' L u W'/\∀b off n m,u = .slice (some ⟨b,off,none⟩) n m->¬T b):=by
   intro t T W e W' hh' ⟨h1,h2,h3⟩
   refine⟨h2,?_⟩
   rcases o with _|⟨cnt,at',⟨yn,yd⟩⟩
   ·obtain rfl:xn=0:=hxn
    obtain rfl:xd=0:=hxd;obtain rfl:ok=false:=hok;replace h3:e = .returned (.tuple #[.slice none 0 0,.agg #[.int .i64 0,.int .i64 0],.bool false]):=h3
    exact⟨_,h3,rfl,fun b off n m hu=>by cases hu⟩
   ·obtain rfl:ok=true:=hok
    obtain⟨v,h3,hbv⟩:=(show ∃v,e = .returned (.tuple #[v,.agg #[.int .i64 yn,.int .i64 (yd:Int)],.bool true])/\BestV T W' t.h cnt at' L v from h3)
    have hcn:cnt=L.length:=(cT hbs).1
    have hL0:0<L.length:=by
     cases L with
     | nil=>exact absurd rfl HNE.out
     | cons _ _=>simp
    rcases hbv with⟨h4,_⟩|⟨_,b',off,cq,h5,h6,h7⟩
    ·omega
    ·subst hh'
     refine⟨_,by rw[h3,hxn,hxd];rfl,⟨b',off,cq,h5,h6,h7.1⟩,fun b2 off2 n2 m2 hu=>?_⟩
     rw[h5]at hu;injection hu with hu;injection hu with hu;injection hu with hu1 hu2;subst hu1
     exact h7.2 hh1 _ _ _ rfl
  go_enter Tryz.func23,Tryz.ntmps23
  go_wp2_with (fail)
  refine CT.out.mono ?_
  rintro e w1 ⟨rfl,hbb⟩
  have HF2:=h_ (HF1.out.below hbb);have HA2:=h_ (HA1.out.below hbb);have HB2:=h_ (HB1.out.below hbb);clear CT hbb HF1 HA1 HB1;obtain⟨z0,c00,f00,c01,f01,c02,f02,c03,f03,z1,c10,f10,c11,f11⟩:=HF2.out.xf1
  go_wp2_with (fail)
  clear z0 c00 f00 c01 f01 c02 f02 c03 f03 z1 c10 f10 c11 f11
  have C0:Hid (Cel w1 w.heap.size [.int .i64 p,.int .i64 c',.int .i64 h',.int .i64 s']):=⟨HF2.out.l0 (by simp),fun i x hx=>HF2.out.c0 i (by simpa[frAt]using hx),fun i x hx=>HF2.out.f0 i (v:=x) (by simpa[frAt]using hx)⟩
  have C1:Hid (Cel w1 (w.heap.size+1) [.int .i64 (a:Int),.int .i64 (b:Int)]):=⟨HF2.out.l1 (by simp),fun i x hx=>HF2.out.c1 i (by simpa[frAt]using hx),fun i x hx=>HF2.out.f1 i (v:=x) (by simpa[frAt]using hx)⟩
  have HBW2:=h_ HF2.out.b;clear HF2;generalize w1=V at *
  have HJ:Hid (∀vs,JB V c' h' s' o L (.agg #[.int .i64 xn,.int .i64 xd]) (.bool ok) (evBest (.agg #[.int .i64 p,.int .i64 c',.int .i64 h',.int .i64 s']) (.agg #[.int .i64 (a:Int),.int .i64 (b:Int)]) (.slice A h' ca) (.slice B h' cb) (.int .i64 (rollNo a b:Nat)) (.agg #[.int .i64 xn,.int .i64 xd]) (.bool ok)) (fun _=>false) vs { V with drawn:=V.drawn+1 }):=fun vs=>⟨Bel.drew _,⟨fun h=>(by cases h),fun h=>(by cases h)⟩,fun _ _ _ h=>(by cases h),fun h=>(by cases h),fun h=>(by cases h),fun _ _ h=>(by cases h)⟩
  refine fn 13 (fun i=>i == 10||i == 11) dsBest (JB V c' h' s' o L (.agg #[.int .i64 xn,.int .i64 xd]) (.bool ok) (evBest (.agg #[.int .i64 p,.int .i64 c',.int .i64 h',.int .i64 s']) (.agg #[.int .i64 (a:Int),.int .i64 (b:Int)]) (.slice A h' ca) (.slice B h' cb) (.int .i64 (rollNo a b:Nat)) (.agg #[.int .i64 xn,.int .i64 xd]) (.bool ok))) (by kernel_rfl) (by kernel_rfl) (fun _ _ _ _ _ h=>h) HJ.out ?_ ?_ ?_
  ·intro i op hi hX ho Ls a' W H hun hfar hdep
   have hi8:i=10\/i=11:=by simpa using hX
   clear hX hi hfar
   rcases hi8 with rfl|rfl
   all_goals (simp at ho;subst ho)
   ·obtain⟨u,d1,_⟩:=H.bt 8 (by omega) (hdep 8 (by omega) (by kernel_rfl))
    replace d1:a'.tmps.getD 22 undef = .tuple #[u,.agg #[.int .i64 xn,.int .i64 xd],.bool ok]:=d1
    exact⟨.agg #[.int .i64 xn,.int .i64 xd],fun W'=>by simp only[execOp,Act.eval,d1];go_simp,fun L' vs' hu=>H.pure hu (Below.refl _ _) (by decide) (fun y hy=>by injection hy)⟩
   ·obtain⟨u,d1,_⟩:=H.bt 8 (by omega) (hdep 8 (by omega) (by kernel_rfl))
    replace d1:a'.tmps.getD 22 undef = .tuple #[u,.agg #[.int .i64 xn,.int .i64 xd],.bool ok]:=d1
    exact⟨.bool ok,fun W'=>by simp only[execOp,Act.eval,d1];go_simp,fun L' vs' hu=>H.pure hu (Below.refl _ _) (by decide) (fun y hy=>by injection hy)⟩
  ·intro i op hi hX ho Ls a' W H hun hfar hdep
   have e1:a'.tmps.getD 1 undef = .slice A h' ca:=(hfar 1 (by decide)).trans rfl
   have e2:a'.tmps.getD 2 undef = .slice B h' cb:=(hfar 2 (by decide)).trans rfl
   have e4:a'.tmps.getD 4 undef = .pointer (some ⟨w.heap.size,0,none⟩):=(hfar 4 (by decide)).trans rfl
   have e7:a'.tmps.getD 7 undef = .pointer (some ⟨w.heap.size+1,0,none⟩):=(hfar 7 (by decide)).trans rfl
   have hi8:i=0\/i=1\/i=2\/i=3\/i=4\/i=5\/i=6\/i=7\/i=8\/i=9\/i=12:=by simp at hX;omega
   clear hX hi hfar
   rcases hi8 with rfl|rfl|rfl|rfl|rfl|rfl|rfl|rfl|rfl|rfl|rfl
   all_goals (simp at ho;subst ho)
   ·have zz:=C0.out.below H.b
    have z0:=zz.cell 0 _ rfl;have z1:=zz.cell 1 _ rfl;have z2:=zz.cell 2 _ rfl;have z3:=zz.cell 3 _ rfl
    exact .inl ⟨.agg #[.int .i64 p,.int .i64 c',.int .i64 h',.int .i64 s'],W,by simp only[execOp,Act.eval,e4];go_simp,fun L' vs' hu=>H.pure hu (Below.refl _ _) (by decide) (fun y hy=>by injection hy)⟩
   ·have d1:a'.tmps.getD 23 undef = .agg #[.int .i64 p,.int .i64 c',.int .i64 h',.int .i64 s']:=H.eq 0 _ (by omega) (hdep 0 (by omega) (by kernel_rfl)) rfl
    refine .inr ⟨75,#[.agg #[.int .i64 p,.int .i64 c',.int .i64 h',.int .i64 s']],by simp only[execOp,Act.eval,d1];go_simp,?_⟩
    refine (CNEW.out W).mono ?_
    rintro e W' ⟨t,_,hc',hh',hs',rfl,hok',hI,hlow,hb'⟩
    exact⟨_,rfl,fun L' vs' hu=>H.race hu hb' rfl hc' hh' hs' hok' hI hlow⟩
   ·exact .inl ⟨.slice A h' ca,W,by simp only[execOp,Act.eval,e1];go_simp,fun L' vs' hu=>H.pure hu (Below.refl _ _) (by decide) (fun y hy=>by injection hy)⟩
   ·exact .inl ⟨.slice B h' cb,W,by simp only[execOp,Act.eval,e2];go_simp,fun L' vs' hu=>H.pure hu (Below.refl _ _) (by decide) (fun y hy=>by injection hy)⟩
   ·have zz:=C0.out.below H.b
    have z0:=zz.cell 0 _ rfl;have z1:=zz.cell 1 _ rfl;have z2:=zz.cell 2 _ rfl;have z3:=zz.cell 3 _ rfl
    exact .inl ⟨.agg #[.int .i64 p,.int .i64 c',.int .i64 h',.int .i64 s'],W,by simp only[execOp,Act.eval,e4];go_simp,fun L' vs' hu=>H.pure hu (Below.refl _ _) (by decide) (fun y hy=>by injection hy)⟩
   ·have zz:=C1.out.below H.b
    have z0:=zz.cell 0 _ rfl;have z1:=zz.cell 1 _ rfl
    exact .inl ⟨.agg #[.int .i64 (a:Int),.int .i64 (b:Int)],W,by simp only[execOp,Act.eval,e7];go_simp,fun L' vs' hu=>H.pure hu (Below.refl _ _) (by decide) (fun y hy=>by injection hy)⟩
   ·have d1:a'.tmps.getD 27 undef = .agg #[.int .i64 p,.int .i64 c',.int .i64 h',.int .i64 s']:=H.eq 4 _ (by omega) (hdep 4 (by omega) (by kernel_rfl)) rfl
    have d2:a'.tmps.getD 28 undef = .agg #[.int .i64 (a:Int),.int .i64 (b:Int)]:=H.eq 5 _ (by omega) (hdep 5 (by omega) (by kernel_rfl)) rfl
    refine .inr ⟨83,#[.agg #[.int .i64 p,.int .i64 c',.int .i64 h',.int .i64 s'],.agg #[.int .i64 (a:Int),.int .i64 (b:Int)]],by simp only[execOp,Act.eval,d1,d2];go_simp,?_⟩
    refine (CROL.out W).mono ?_
    rintro e W' ⟨rfl,hb'⟩
    exact⟨_,rfl,fun L' vs' hu=>H.pure hu hb' (by decide) (fun y hy=>by injection hy)⟩
   ·obtain⟨t,l1,hi,d1,hc',hh',hs',hok',hI,hi1,hl1,hl2,hlow,hgg⟩:=H.ra (hdep 1 (by omega) (by kernel_rfl)) hun
    replace d1:a'.tmps.getD 24 undef = .pointer (some ⟨t.bt,0,none⟩):=d1
    have d2:a'.tmps.getD 25 undef = .slice A h' ca:=H.eq 2 _ (by omega) (hdep 2 (by omega) (by kernel_rfl)) rfl
    have d3:a'.tmps.getD 26 undef = .slice B h' cb:=H.eq 3 _ (by omega) (hdep 3 (by omega) (by kernel_rfl)) rfl
    have d4:a'.tmps.getD 29 undef = .int .i64 (rollNo a b:Nat):=H.eq 6 _ (by omega) (hdep 6 (by omega) (by kernel_rfl)) rfl
    refine .inr ⟨76,#[.pointer (some ⟨t.bt,0,none⟩),.slice A h' ca,.slice B h' cb,.int .i64 (rollNo a b:Nat)],by simp only[execOp,Act.eval,d1,d2,d3,d4];go_simp,?_⟩
    have hTl:∀k,((t.S k\/(V.heap.size<=k/\k<l1)\/hi<=k)/\k<W.heap.size)->V.heap.size<=k:=fun k hk=>by
     have hVW:=H.b.size
     rcases hk.1 with h|h|h
     ·exact Nat.le_trans hl1 (hlow k h)
     ·exact h.1
     ·omega
    refine (CBES.out t (fun k=>(t.S k\/(V.heap.size<=k/\k<l1)\/hi<=k)/\k<W.heap.size) W hc' hh' hs' hok' (hI.less (fun k hk=>hk.1) (fun k hk=>⟨.inl hk,hI.ltS k hk⟩)) (fun k hk h=>by have:=h.2;omega) ((SQ.of_sl HA2.out hTl).below H.b) ((SQ.of_sl HB2.out hTl).below H.b)).mono ?_
    intro e W' hrb
    obtain⟨hf2,u,rfl,hbp,hav⟩:=HBT.out t _ W e W' hh' hrb
    refine⟨_,rfl,fun L' vs' hu=>H.best hu hf2 (fun k hk=>Nat.le_trans hl1 (hlow k hk)) (fun g hg hg2 hS=>?_) rfl hun hbp (fun b off n m g hu2 hg hg2 hbg=>?_)⟩
    ·obtain⟨g',g1,g2,g3⟩:=H.al hg
     rw[g1]at hg2;injection hg2 with hg2;injection hg2 with hg2;injection hg2 with hg2;subst hg2
     exact race_cell hI g3 hS
    ·subst hbg
     refine hav b off n m hu2 ⟨.inr ?_,?_⟩
     ·obtain⟨g',g1,g2,g3⟩:=H.al hg
      rw[g1]at hg2;injection hg2 with hg2;injection hg2 with hg2;injection hg2 with hg2;subst hg2
      rcases hgg g' hg g1 with h|h
      ·exact .inl ⟨g2,h⟩
      ·exact .inr h
     ·obtain⟨g',g1,g2,g3⟩:=H.al hg
      rw[g1]at hg2;injection hg2 with hg2;injection hg2 with hg2;injection hg2 with hg2;subst hg2
      exact g3.lt
   ·obtain⟨u,d1,_⟩:=H.bt 7 (by omega) (hdep 7 (by omega) (by kernel_rfl))
    replace d1:a'.tmps.getD 30 undef = .tuple #[u,.agg #[.int .i64 xn,.int .i64 xd],.bool ok]:=d1
    exact .inl ⟨.tuple #[u,.agg #[.int .i64 xn,.int .i64 xd],.bool ok],W,by simp only[execOp,Act.eval,d1];go_simp,fun L' vs' hu=>H.next (k:=7) (.inl rfl) (hdep 7 (by omega) (by kernel_rfl)) d1 rfl hu rfl⟩
   ·obtain⟨u,d1,_⟩:=H.bt 8 (by omega) (hdep 8 (by omega) (by kernel_rfl))
    replace d1:a'.tmps.getD 22 undef = .tuple #[u,.agg #[.int .i64 xn,.int .i64 xd],.bool ok]:=d1
    exact .inl ⟨u,W,by simp only[execOp,Act.eval,d1];go_simp,fun L' vs' hu=>H.next (k:=8) (.inr rfl) (hdep 8 (by omega) (by kernel_rfl)) d1 rfl hu rfl⟩
   ·exact .inl ⟨.pointer (some ⟨W.heap.size,0,none⟩),W.alloc (.cells #[.int .i64 0,.int .i64 0] 35),by kernel_rfl,fun L' vs' hu=>H.alloc _ hu rfl hh1⟩
  intro Ls v W2 hall H
  have hW:=H.b
  have g0:v 0 = .agg #[.int .i64 p,.int .i64 c',.int .i64 h',.int .i64 s']:=H.eq 0 _ (by omega) (hall 0 (by omega)) rfl
  obtain⟨t1,g1⟩:∃t1,v 1=t1:=⟨_,rfl⟩
  have g2:v 2 = .slice A h' ca:=H.eq 2 _ (by omega) (hall 2 (by omega)) rfl
  have g3:v 3 = .slice B h' cb:=H.eq 3 _ (by omega) (hall 3 (by omega)) rfl
  have g4:v 4 = .agg #[.int .i64 p,.int .i64 c',.int .i64 h',.int .i64 s']:=H.eq 4 _ (by omega) (hall 4 (by omega)) rfl
  have g5:v 5 = .agg #[.int .i64 (a:Int),.int .i64 (b:Int)]:=H.eq 5 _ (by omega) (hall 5 (by omega)) rfl
  have g6:v 6 = .int .i64 (rollNo a b:Nat):=H.eq 6 _ (by omega) (hall 6 (by omega)) rfl
  obtain⟨u7,g7,_⟩:=H.bt 7 (by omega) (hall 7 (by omega))
  replace g7:v 7 = .tuple #[u7,.agg #[.int .i64 xn,.int .i64 xd],.bool ok]:=g7
  obtain⟨u8,g8,_⟩:=H.bt 8 (by omega) (hall 8 (by omega))
  replace g8:v 8 = .tuple #[u8,.agg #[.int .i64 xn,.int .i64 xd],.bool ok]:=g8
  have g10:v 10 = .agg #[.int .i64 xn,.int .i64 xd]:=H.eq 10 _ (by omega) (hall 10 (by omega)) rfl
  have g11:v 11 = .bool ok:=H.eq 11 _ (by omega) (hall 11 (by omega)) rfl
  obtain⟨g,g12,gl,AL⟩:=H.al (hall 12 (by omega))
  obtain⟨u9,g9',hb13,hav9⟩:=H.bt 9 (by omega) (hall 9 (by omega))
  replace g9':v 9=u9:=g9'
  have hav:=fun (b off n m:Nat) (h:u9 = .slice (some ⟨b,off,none⟩) n m)=>hav9 b off n m g h (hall 12 (by omega)) g12
  rw[<- g9']at hb13 hav;clear H hall hav9 g9';replace hW:=h_ hW;have hzV:w.heap.size<=V.heap.size:=HBW2.out.size;have y0:=AL.cell 0 _ rfl;have y1:=AL.cell 1 _ rfl;have x0:=AL.froz 0 _ rfl;have x1:=AL.froz 1 _ rfl;have yl:=AL.lt;have HAL:=h_ AL;clear AL C0 C1 HA2 HB2 HAW HBW CNEW CROL CBES HBT
  rcases o with _|⟨cnt,at',⟨yn,yd⟩⟩
  focus
   obtain rfl:xn=0:=hxn
   obtain rfl:xd=0:=hxd;obtain rfl:ok=false:=hok;have HWR:Hid (bstR p c' h' s' a b own other=([],3)):=HW0.out;have g9:v 9 = .slice none 0 0:=hb13;clear HW0 hb13 hav
   refine ?za
  rotate_left
  focus
   obtain rfl:ok=true:=hok
   clear hxn hxd;have HWR:Hid (bstR p c' h' s' a b own other=(L.getD at' [],0)):=HW0.out;obtain⟨bq,oq,cq,g9,hcq,hsl⟩:∃b off c,v 9 = .slice (some ⟨b,off,none⟩) h' c/\h'<=c/\SL W2 (some ⟨b,off,none⟩) h' (L.getD at' []):=hb13;have HSL:=h_ hsl;have hne:=hav bq oq h' cq g9;clear HW0 hsl hav
   refine ?zb
 rotate_left 2
 ·have HWR:Hid (bstR p c h s ra rb own other=([],codeK p c h s ra rb own other true)):=by
   unfold Hid bstR;rw[if_neg hct]
  generalize codeK p c h s ra rb own other true=k at *
  have b0:(k != 0)=true:=by simp[hct]
  clear hct
  go_enter Tryz.func23,Tryz.ntmps23
  go_wp2_with (fail)
  refine CT.out.mono ?_
  rintro e w1 ⟨rfl,hb1⟩
  have HF2:=h_ (HF1.out.below hb1);clear CT hb1 HF1 HA1 HB1;obtain⟨z0,c00,f00,c01,f01,c02,f02,c03,f03,z1,c10,f10,c11,f11⟩:=HF2.out.xf1
  go_wp2_with (fail)
  go_ret2
  exact RetIs.no HWR.out HF2.out.b
 case' za|zb=>
  simp only[List.drop_succ_cons,List.drop_zero,putV,dsBest,g0,g1,g2,g3,g4,g5,g6,g7,g8,g9,g10,g11,g12,Act.put]
  clear g0 g1 g2 g3 g4 g5 g6 g7 g8 g9 g10 g11 g12
 case za=>
  go_wp2_with (fail)
  go_ret2
  exact RetIs.no HWR.out (Below.setCell (Below.setCell (HBW2.out.trans (Below.mono hW.out hzV)) (Nat.le_trans hzV gl) _) (Nat.le_trans hzV gl) _)
 case zb=>
  have HSL3:Hid (SL ((W2.setCell ⟨g,0,none⟩ (.int .i64 xn)).setCell ⟨g,1,none⟩ (.int .i64 xd)) (some ⟨bq,oq,none⟩) h' (L.getD at' [])):=by
   have h1:SQ (fun k=>k=g) W2 (some ⟨bq,oq,none⟩) h' (L.getD at' []):=⟨HSL.out,fun _ b off s hA hS=>by injection hA with hA;injection hA with hA1;exact hne (hA1.trans hS)⟩
   exact ((h1.frm (Frm.set W2 g 0 _)).frm (Frm.set _ g 1 _)).1
  have HB3:Hid (Below w.heap.size w ((W2.setCell ⟨g,0,none⟩ (.int .i64 xn)).setCell ⟨g,1,none⟩ (.int .i64 xd))):=Below.setCell (Below.setCell (HBW2.out.trans (Below.mono hW.out hzV)) (Nat.le_trans hzV gl) _) (Nat.le_trans hzV gl) _;clear HSL hne
  go_wp2_with (fail)
  refine (Clone_any _ _ _ _ _ HSL3.out (by omega)).mono ?_
  rintro e w3 ⟨Ac,cc,rfl,hoc,hbc⟩
  have HOC:=h_ hoc;have HB4:=h_ (HB3.out.trans (hbc.mono HB3.out.size));have hz3:=HB3.out.size;clear hoc hbc HB3 HSL3
  go_wp2_with (fail)
  go_ret2
  exact RetIs.yes HWR.out hz3 HOC.out HB4.out
end Go.Proofs.YtkaiilmgemaljaaGreat

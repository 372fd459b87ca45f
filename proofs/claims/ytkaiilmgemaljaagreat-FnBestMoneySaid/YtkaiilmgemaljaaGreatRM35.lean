/- Part of one proof. There are no conditions. -/
import Derived.Test.YtkaiilmgemaljaaGreatRM23
import Derived.Test.YtkaiilmgemaljaaGreatRN71
set_option maxHeartbeats 0
set_option linter.unusedVariables false
set_option linter.unusedSimpArgs false
set_option maxRecDepth 100000
namespace Go.Proofs.YtkaiilmgemaljaaGreat
open Go.RowKit Mo Ps Ra Ex Go.Maps
theorem money_cell {m:MT} {T:Nat->Prop} {W:World} {g:Nat} {x:Value} {cs:List Value} (h:MonI m T W) (hc:Cel W g (x::cs)):¬m.S g:=by
 obtain⟨g1,g2,h1,h2,_⟩:=h.maps;have hx:=hc.cell 0 x rfl
 rintro (hk|rfl|rfl)
 ·exact race_cell h.ra hc hk
 ·rw[map_cell h1]at hx;cases hx
 ·rw[map_cell h2]at hx;cases hx
def RetNMF (w:World) (p:Int) (c h s K:Nat) (b j:Bool) (e:Ending) (w':World):Prop:=
 ∃m:MT,m.t.p=p/\m.t.c=c/\m.t.h=h/\m.t.s=s/\m.K=K/\m.bv=b/\e = .returned (.pointer (some ⟨m.bm,0,none⟩))/\m.Ok/\MonI m (fun k=>m.S k\/k<w.heap.size) w'/\(∀k,m.S k->w.heap.size<=k)/\Below w.heap.size w w'
structure JM (V:World) (c h s K:Nat) (bv:Bool) (o:Option (Nat×Nat×E)) (l:List (List Int)) (x ok:Value) (ev:Nat->Option Value) (L:Nat->Bool) (vs:Nat->Value) (W:World):Prop where
 b:Below V.heap.size V W
 cl:(L 10=true->L 9=true)/\(L 11=true->L 10=true)
 eq:∀i y,i<15->L i=true->ev i=some y->vs i=y
 al:L 14=true->∃g,vs 14 = .pointer (some ⟨g,0,none⟩)/\V.heap.size<=g/\Cel W g [.int .i64 0,.int .i64 0]
 ra:L 2=true->L 9=false->∃(t:MT) (l1 hi:Nat),vs 2 = .pointer (some ⟨t.bm,0,none⟩)/\t.t.c=c/\t.t.h=h/\(t.t.s=s/\t.K=K/\t.bv=bv)/\t.Ok/\MonI t (fun k=>t.S k\/(V.heap.size<=k/\k<l1)\/hi<=k) W/\hi<=W.heap.size/\V.heap.size<=l1/\l1<=hi/\(∀k,t.S k->l1<=k)/\
  ∀g,L 14=true->vs 14 = .pointer (some ⟨g,0,none⟩)->g<l1\/hi<=g
 bt:∀i,i=9\/i=10\/i=11->L i=true->∃u,(vs i=if i=11 then u else .tuple #[u,x,ok])/\BP o h l u W/\∀b off n m g,u = .slice (some ⟨b,off,none⟩) n m->L 14=true->vs 14 = .pointer (some ⟨g,0,none⟩)->b≠g
section
variable {V W W':World} {c h s K:Nat} {bv:Bool} {o:Option (Nat×Nat×E)} {l:List (List Int)} {x ok:Value} {ev:Nat->Option Value} {L L':Nat->Bool} {vs vs':Nat->Value} {i:Nat} {v:Value}
theorem JM.pure (H:JM V c h s K bv o l x ok ev L vs W) (hu:Upd 15 i v L vs L' vs') (hb:Below W.heap.size W W') (h1:i≠2/\i≠9/\i≠10/\i≠11/\i≠14) (hv:∀y,ev i=some y->v=y):JM V c h s K bv o l x ok ev L' vs' W':=by
 obtain⟨u1,u2,u3⟩:=hu
 have e12:=u3 14 (by omega) (by omega)
 have e7:=u3 9 (by omega) (by omega)
 have e1:=u3 2 (by omega) (by omega)
 have c8:=u3 10 (by omega) (by omega)
 have c9:=u3 11 (by omega) (by omega)
 have c7:=u3 9 (by omega) (by omega)
 refine⟨H.b.trans (hb.mono H.b.size),⟨fun h=>by rw[c7.1];rw[c8.1]at h;exact H.cl.1 h,fun h=>by rw[c8.1];rw[c9.1]at h;exact H.cl.2 h⟩,fun k y hk hl he=>?_,fun hl=>?_,fun hl hl7=>?_,fun k hk hl=>?_⟩
 ·by_cases ek:k=i
  ·subst ek;rw[u2];exact hv y he
  ·rw[(u3 k hk ek).2];exact H.eq k y hk (by rw[<- (u3 k hk ek).1];exact hl) he
 ·obtain⟨g,g1,g2,g3⟩:=H.al (by rw[<- e12.1];exact hl)
  exact⟨g,by rw[e12.2];exact g1,g2,g3.below hb⟩
 ·obtain⟨t,l1,hi,a1,a2,a3,a4,a5,a6,a7,a8,a8',a9,a10⟩:=H.ra (by rw[<- e1.1];exact hl) (by rw[<- e7.1];exact hl7)
  exact⟨t,l1,hi,by rw[e1.2];exact a1,a2,a3,a4,a5,a6.below hb,Nat.le_trans a7 hb.size,a8,a8',a9,fun g hg hg2=>a10 g (by rw[<- e12.1];exact hg) (by rw[<- e12.2];exact hg2)⟩
 ·have ek:=u3 k (by omega) (by omega)
  obtain⟨u,b1,b2,b3⟩:=H.bt k hk (by rw[<- ek.1];exact hl)
  exact⟨u,by rw[ek.2];exact b1,stb_bp o h l _ _ _ b2 hb,fun b off n m g hu hg hg2=>b3 b off n m g hu (by rw[<- e12.1];exact hg) (by rw[<- e12.2];exact hg2)⟩
theorem JM.alloc (H:JM V c h s K bv o l x ok ev L vs W) (T:TypeId) (hu:Upd 15 14 (.pointer (some ⟨W.heap.size,0,none⟩)) L vs L' vs') (he:ev 14=none) (h0:0<h):JM V c h s K bv o l x ok ev L' vs' (W.alloc (.cells #[.int .i64 0,.int .i64 0] T)):=by
 obtain⟨u1,u2,u3⟩:=hu;have hb:Below W.heap.size W (W.alloc (.cells #[.int .i64 0,.int .i64 0] T)):=Bel.alloc W _
 have e7:=u3 9 (by omega) (by omega)
 have e1:=u3 2 (by omega) (by omega)
 have c8:=u3 10 (by omega) (by omega)
 have c9:=u3 11 (by omega) (by omega)
 have c7:=u3 9 (by omega) (by omega)
 refine⟨H.b.trans (hb.mono H.b.size),⟨fun h=>by rw[c7.1];rw[c8.1]at h;exact H.cl.1 h,fun h=>by rw[c8.1];rw[c9.1]at h;exact H.cl.2 h⟩,fun k y hk hl he'=>?_,fun hl=>⟨_,u2,H.b.size,Cel.new W #[.int .i64 0,.int .i64 0] T⟩,fun hl hl7=>?_,fun k hk hl=>?_⟩
 ·by_cases ek:k=14
  ·subst ek;rw[he]at he';cases he'
  ·rw[(u3 k hk ek).2];exact H.eq k y hk (by rw[<- (u3 k hk ek).1];exact hl) he'
 ·obtain⟨t,l1,hi,a1,a2,a3,a4,a5,a6,a7,a8,a8',a9,_⟩:=H.ra (by rw[<- e1.1];exact hl) (by rw[<- e7.1];exact hl7)
  refine⟨t,l1,hi,by rw[e1.2];exact a1,a2,a3,a4,a5,a6.below hb,Nat.le_trans a7 hb.size,a8,a8',a9,fun g _ hg2=>.inr ?_⟩
  rw[u2]at hg2;injection hg2 with hg2;injection hg2 with hg2;injection hg2 with hg2
  omega
 ·have ek:=u3 k (by omega) (by omega)
  obtain⟨u,b1,b2,_⟩:=H.bt k hk (by rw[<- ek.1];exact hl)
  refine⟨u,by rw[ek.2];exact b1,stb_bp o h l _ _ _ b2 hb,fun b off n m g hu _ hg2 hbg=>?_⟩
  rw[u2]at hg2;injection hg2 with hg2;injection hg2 with hg2;injection hg2 with hg2;have hlt:=BP.lt b2 h0 hu
  omega
theorem JM.race (H:JM V c h s K bv o l x ok ev L vs W) {t:MT} (hu:Upd 15 2 (.pointer (some ⟨t.bm,0,none⟩)) L vs L' vs') (hb:Below W.heap.size W W') (he:ev 2=none) (a2:t.t.c=c) (a3:t.t.h=h) (a4:t.t.s=s/\t.K=K/\t.bv=bv) (a5:t.Ok) (a6:MonI t (fun k=>t.S k\/k<W.heap.size) W') (a9:∀k,t.S k->W.heap.size<=k):JM V c h s K bv o l x ok ev L' vs' W':=by
 obtain⟨u1,u2,u3⟩:=hu
 have e12:=u3 14 (by omega) (by omega)
 have c8:=u3 10 (by omega) (by omega)
 have c9:=u3 11 (by omega) (by omega)
 have c7:=u3 9 (by omega) (by omega)
 refine⟨H.b.trans (hb.mono H.b.size),⟨fun h=>by rw[c7.1];rw[c8.1]at h;exact H.cl.1 h,fun h=>by rw[c8.1];rw[c9.1]at h;exact H.cl.2 h⟩,fun k y hk hl he'=>?_,fun hl=>?_,fun hl hl7=>?_,fun k hk hl=>?_⟩
 ·by_cases ek:k=2
  ·subst ek;rw[he]at he';cases he'
  ·rw[(u3 k hk ek).2];exact H.eq k y hk (by rw[<- (u3 k hk ek).1];exact hl) he'
 ·obtain⟨g,g1,g2,g3⟩:=H.al (by rw[<- e12.1];exact hl)
  exact⟨g,by rw[e12.2];exact g1,g2,g3.below hb⟩
 ·refine⟨t,W.heap.size,W'.heap.size,u2,a2,a3,a4,a5,a6.set (fun k hk=>?_) (fun k hk=>.inl hk),Nat.le_refl _,H.b.size,hb.size,a9,fun g hg hg2=>.inl ?_⟩
  ·rcases hk with hk|hk|hk
   ·exact .inl (.inl hk)
   ·exact .inl (.inr hk.2)
   ·exact .inr hk
  ·obtain⟨g',g1,g2,g3⟩:=H.al (by rw[<- e12.1];exact hg)
   rw[e12.2,g1]at hg2;injection hg2 with hg2;injection hg2 with hg2;injection hg2 with hg2;have:=g3.lt
   omega
 ·have ek:=u3 k (by omega) (by omega)
  obtain⟨u,b1,b2,b3⟩:=H.bt k hk (by rw[<- ek.1];exact hl)
  exact⟨u,by rw[ek.2];exact b1,stb_bp o h l _ _ _ b2 hb,fun b off n m g hu hg hg2=>b3 b off n m g hu (by rw[<- e12.1];exact hg) (by rw[<- e12.2];exact hg2)⟩
theorem JM.best (H:JM V c h s K bv o l x ok ev L vs W) {S:Nat->Prop} {u:Value} (hu:Upd 15 9 (.tuple #[u,x,ok]) L vs L' vs') (hf:Frm S W W') (hS:∀k,S k->V.heap.size<=k) (hg:∀g,L 14=true->vs 14 = .pointer (some ⟨g,0,none⟩)->¬S g) (he:ev 9=none) (h7:L 9=false)
  (hbp:BP o h l u W') (hav:∀b off n m g,u = .slice (some ⟨b,off,none⟩) n m->L 14=true->vs 14 = .pointer (some ⟨g,0,none⟩)->b≠g):JM V c h s K bv o l x ok ev L' vs' W':=by
 obtain⟨u1,u2,u3⟩:=hu
 have h8:L 10=false:=by
  cases h:L 10 with
  | false=>rfl
  | true=>rw[H.cl.1 h]at h7;cases h7
 have h9:L 11=false:=by
  cases h:L 11 with
  | false=>rfl
  | true=>rw[H.cl.2 h]at h8;cases h8
 have e12:=u3 14 (by omega) (by omega)
 have c8:=u3 10 (by omega) (by omega)
 have c9:=u3 11 (by omega) (by omega)
 refine⟨H.b.trans (hf.below H.b.size hS),⟨fun _=>u1,fun h=>by rw[c8.1];rw[c9.1]at h;exact H.cl.2 h⟩,fun k y hk hl he'=>?_,fun hl=>?_,fun _ hl7=>(by rw[u1]at hl7;cases hl7),fun k hk hl=>?_⟩
 ·by_cases ek:k=9
  ·subst ek;rw[he]at he';cases he'
  ·rw[(u3 k hk ek).2];exact H.eq k y hk (by rw[<- (u3 k hk ek).1];exact hl) he'
 ·obtain⟨g,g1,g2,g3⟩:=H.al (by rw[<- e12.1];exact hl)
  exact⟨g,by rw[e12.2];exact g1,g2,g3.frm hf (hg g (by rw[<- e12.1];exact hl) g1)⟩
 ·rcases hk with rfl|rfl|rfl
  ·exact⟨u,u2,hbp,fun b off n m g hu hl2 hg2=>hav b off n m g hu (by rw[<- e12.1];exact hl2) (by rw[<- e12.2];exact hg2)⟩
  ·rw[(u3 10 (by omega) (by omega)).1,h8]at hl;cases hl
  ·rw[(u3 11 (by omega) (by omega)).1,h9]at hl;cases hl
theorem JM.next (H:JM V c h s K bv o l x ok ev L vs W) {k:Nat} {u:Value} (hk:k=9\/k=10) (hlk:L k=true) (hvk:vs k = .tuple #[u,x,ok]) (hi:i=k+1) (hu:Upd 15 i (if i=11 then u else .tuple #[u,x,ok]) L vs L' vs') (he:ev i=none):JM V c h s K bv o l x ok ev L' vs' W:=by
 obtain⟨u1,u2,u3⟩:=hu
 have e12:=u3 14 (by omega) (by omega)
 have e7:=fun (hne:9≠i)=>u3 9 (by omega) hne
 have e1:=u3 2 (by omega) (by omega)
 refine⟨H.b,?_,fun q y hq hl he'=>?_,fun hl=>?_,fun hl hl7=>?_,fun q hq hl=>?_⟩
 ·rcases hk with rfl|rfl
  ·subst hi
   have c7:=u3 9 (by omega) (by omega)
   have c9:=u3 11 (by omega) (by omega)
   exact⟨fun _=>by rw[c7.1];exact hlk,fun _=>u1⟩
  ·subst hi
   have c7:=u3 9 (by omega) (by omega)
   have c8:=u3 10 (by omega) (by omega)
   exact⟨fun h=>by rw[c7.1];rw[c8.1]at h;exact H.cl.1 h,fun _=>by rw[c8.1];exact hlk⟩
 ·by_cases ek:q=i
  ·subst ek;rw[he]at he';cases he'
  ·rw[(u3 q hq ek).2];exact H.eq q y hq (by rw[<- (u3 q hq ek).1];exact hl) he'
 ·obtain⟨g,g1,g2,g3⟩:=H.al (by rw[<- e12.1];exact hl)
  exact⟨g,by rw[e12.2];exact g1,g2,g3⟩
 ·have e7':=e7 (by omega)
  obtain⟨t,l1,hi',a1,a2,a3,a4,a5,a6,a7,a8,a8',a9,a10⟩:=H.ra (by rw[<- e1.1];exact hl) (by rw[<- e7'.1];exact hl7)
  exact⟨t,l1,hi',by rw[e1.2];exact a1,a2,a3,a4,a5,a6,a7,a8,a8',a9,fun g hg hg2=>a10 g (by rw[<- e12.1];exact hg) (by rw[<- e12.2];exact hg2)⟩
 ·by_cases ek:q=i
  ·subst ek
   obtain⟨u',b1,b2,b3⟩:=H.bt k (by omega) hlk
   rw[if_neg (by omega),hvk]at b1
   injection b1 with b1
   have hue:u=u':=by injection b1 with b1;injection b1
   subst hue
   exact⟨u,u2,b2,fun b off n m g hu hl2 hg2=>b3 b off n m g hu (by rw[<- e12.1];exact hl2) (by rw[<- e12.2];exact hg2)⟩
  ·have ek':=u3 q (by omega) ek
   obtain⟨u',b1,b2,b3⟩:=H.bt q hq (by rw[<- ek'.1];exact hl)
   exact⟨u',by rw[ek'.2];exact b1,b2,fun b off n m g hu hg hg2=>b3 b off n m g hu (by rw[<- e12.1];exact hg) (by rw[<- e12.2];exact hg2)⟩
end
theorem newMoney_far (p:Int) (c h s K:Nat) (b j:Bool) (w:World) (hv:isVar p c h s=true) (hN:wys h c<=141) (hK:K<=10):
  Calls Tryz.prog 103 #[.agg #[.int .i64 p,.int .i64 c,.int .i64 h,.int .i64 s],.agg #[.int .i64 (two K),.bool b,.bool j]] w (RetNMF w p c h s K b j):=by
 have HK:=h_ hK;have HN:=h_ hN;obtain⟨mo,hmo⟩:∃mo,mo=two K:=⟨_,rfl⟩;have HM:=h_ hmo;rw[<- hmo];clear hmo
 have HF0:=h_ (((Fr.start w).allocT (by simp) #[.int .i64 p,.int .i64 c,.int .i64 h,.int .i64 s] 25).allocT (by simp) #[.int .i64 mo,.bool b,.bool j] 53)
 have CR:=h_ fun (W:World)=>gZ p c h s W hv (by omega)
 clear hv hN hK
 go_enter Tryz.func103,Tryz.ntmps103
 go_wp2_with (fail)
 refine cd 5 (fun i=>i+5) (nmG p c h s mo b j) (by kernel_rfl) (by kernel_rfl) (fun _ _ _ _ _ h=>h) nmG_stab ?_ ?_
 ·intro i o hi ho a' W hb hfar hdep
  have e2:a'.tmps.getD 2 undef = .pointer (some ⟨w.heap.size,0,none⟩):=(hfar 2 (fun j _=>by omega)).trans rfl
  have e3:a'.tmps.getD 3 undef = .pointer (some ⟨w.heap.size+1,0,none⟩):=(hfar 3 (fun j _=>by omega)).trans rfl
  have HFW:=HF0.out.below hb;have HFh:=h_ HFW
  have z0:=HFh.out.l0 (by simp)
  have c00:=HFh.out.c0 0 rfl;have f00:=HFh.out.f0 0 rfl;have c01:=HFh.out.c0 1 rfl;have f01:=HFh.out.f0 1 rfl;have c02:=HFh.out.c0 2 rfl;have f02:=HFh.out.f0 2 rfl;have c03:=HFh.out.c0 3 rfl;have f03:=HFh.out.f0 3 rfl
  have z1:=HFh.out.l1 (by simp)
  have c10:=HFh.out.c1 0 rfl;have f10:=HFh.out.f1 0 rfl;have c11:=HFh.out.c1 1 rfl;have f11:=HFh.out.f1 1 rfl;have c12:=HFh.out.c1 2 rfl;have f12:=HFh.out.f1 2 rfl
  have hi8:i=0\/i=1\/i=2\/i=3\/i=4:=by omega
  rcases hi8 with rfl|rfl|rfl|rfl|rfl
  all_goals
   simp at ho
   subst ho
  ·refine .inl ⟨.agg #[.int .i64 p,.int .i64 c,.int .i64 h,.int .i64 s],W,?_,Below.refl _ _,rfl⟩
   simp only[execOp,Act.eval,e2]
   go_simp
  ·obtain⟨_,_,d5⟩:=hdep 0 (by omega) (by kernel_rfl)
   replace d5:a'.tmps.getD 5 undef = .agg #[.int .i64 p,.int .i64 c,.int .i64 h,.int .i64 s]:=d5
   refine .inr ⟨75,#[.agg #[.int .i64 p,.int .i64 c,.int .i64 h,.int .i64 s]],?_,?_⟩
   ·simp only[execOp,Act.eval,d5]
    go_simp
   ·refine (CR.out W).mono ?_
    rintro e W' ⟨t,t1,t2,t3,t4,rfl,t5,t6,t7,t8,t9⟩
    refine⟨_,rfl,t9,t,t1,t2,t3,t4,rfl,t5,?_,fun k hk=>⟨t7 k hk,t6.ltS k hk⟩⟩
    exact t6.set (fun k hk=>hk.elim (fun h=>.inl (.inl h)) fun h=>h.elim (fun h=>.inl (.inr h)) .inr) fun k hk=>.inl hk
  ·refine .inl ⟨.agg #[.int .i64 mo,.bool b,.bool j],W,?_,Below.refl _ _,rfl⟩
   simp only[execOp,Act.eval,e3]
   go_simp
  all_goals
   exact .inl ⟨.map (some W.heap.size),W.alloc (.map #[] 0),rfl,(Below.refl _ _).alloc (Nat.le_refl _) _,rfl,by simp,heap_alloc_new W _⟩
 ·intro v W lo hi hb hg hd
  have g0:v 0 = .agg #[.int .i64 p,.int .i64 c,.int .i64 h,.int .i64 s]:=(hg 0 (by omega)).1
  obtain⟨t,t1,t2,t3,t4,g1,t5,t6,t7⟩:nmG p c h s mo b j 1 (v 1) (lo 1) (hi 1) W:=(hg 1 (by omega)).1
  have g2:v 2 = .agg #[.int .i64 mo,.bool b,.bool j]:=(hg 2 (by omega)).1
  obtain⟨g3,l3,m3⟩:nmG p c h s mo b j 3 (v 3) (lo 3) (hi 3) W:=(hg 3 (by omega)).1
  obtain⟨g4,l4,m4⟩:nmG p c h s mo b j 4 (v 4) (lo 4) (hi 4) W:=(hg 4 (by omega)).1
  have d13:=hd 1 3 (by omega) (by omega) (by omega)
  have d14:=hd 1 4 (by omega) (by omega) (by omega)
  have d34:=hd 3 4 (by omega) (by omega) (by omega)
  have z1:=hg 1 (by omega)
  have z3:=hg 3 (by omega)
  have z4:=hg 4 (by omega)
  have HBW:Below w.heap.size w W:=((((Below.refl _ _).alloc (Nat.le_refl _) _).alloc (by simp) _).trans (hb.mono (by simp;omega)))
  have HR:Hid (∀W',W'=W.alloc (.cells #[.pointer (some ⟨t.bt,0,none⟩),.int .i64 mo,.bool b,.bool j,.map (some (lo 3)),.map (some (lo 4))] 203)->RetNMF w p c h s K b j (.returned (.pointer (some ⟨W.heap.size,0,none⟩))) W'):=fun W' hW'=>by
   subst hW';have hz:w.heap.size<=W.heap.size:=HBW.size
   have n3:¬t.S (lo 3):=fun hk=>by have:=t7 _ hk;omega
   have n4:¬t.S (lo 4):=fun hk=>by have:=t7 _ hk;omega
   have mk:∀b',W.heap[b']? = some (Obj.map #[] 0)->MapV Tryz.prog 208 (W.alloc (.cells #[.pointer (some ⟨t.bt,0,none⟩),.int .i64 mo,.bool b,.bool j,.map (some (lo 3)),.map (some (lo 4))] 203)) b' (keysM t.N) (fun _=>none):=fun b' hb'=>(gJ Tryz.prog 208 (keysM t.N) hb').alloc _
   have hw0:w.heap.size<=(lo 1):=by have:=z1.2.1;simp at this;omega
   have hw3:w.heap.size<=(lo 3):=by have:=z3.2.1;simp at this;omega
   have hw4:w.heap.size<=(lo 4):=by have:=z4.2.1;simp at this;omega
   refine⟨⟨t,W.heap.size,lo 3,lo 4,K,b,j⟩,t1,t2,t3,t4,rfl,rfl,rfl,⟨t5,HK.out,by show wys t.h t.c<=141;rw[t3,t2];exact HN.out⟩,?_,?_,HBW.alloc hz _⟩
   ·refine⟨?_,fun i v hj=>?_,?_,.inl (.inr (.inl rfl)),.inl (.inr (.inr rfl)),by show lo 3≠lo 4;omega,n3,n4,_,_,mk _ m3,mk _ m4,fun q r c _ _ _ u hu=>by cases hu⟩
    ·refine (t6.less (T':=fun k=>MT.S ⟨t,W.heap.size,lo 3,lo 4,K,b,j⟩ k\/k<w.heap.size) ?_ fun k hk=>.inl (.inl hk)).alloc _
     rintro k ((hk|rfl|rfl)|hk)
     ·exact .inl hk
     ·exact .inr (by show lo 3<lo 1\/hi 1<=lo 3;omega)
     ·exact .inr (by show lo 4<lo 1\/hi 1<=lo 4;omega)
     ·exact .inr (.inl (Nat.lt_of_lt_of_le hk hw0))
    ·have:(#[.pointer (some ⟨t.bt,0,none⟩),.int .i64 mo,.bool b,.bool j,.map (some (lo 3)),.map (some (lo 4))]:Array Value)[i]? = some v:=by rw[<- hj,HM.out];simp[MT.cells]
     simp[go_sem,this]
    ·rintro ((hk|hk|hk)|hk)
     ·have h7:lo 1<=W.heap.size/\W.heap.size<hi 1:=t7 _ hk
      omega
     ·have e:W.heap.size=lo 3:=hk
      omega
     ·have e:W.heap.size=lo 4:=hk
      omega
     ·exact absurd hk (Nat.not_lt.2 hz)
   ·rintro k (hk|rfl|rfl)
    ·have:=t7 _ hk;omega
    ·exact hw3
    ·exact hw4
  clear t6 t7 m3 m4 hg hd hb d13 d14 d34 z1 z3 z4 l3 l4
  simp only[List.drop_succ_cons,List.drop_zero,putV,g0,g1,g2,g3,g4,Act.put]
  clear g0 g1 g2 g3 g4
  go_wp2_with (fail)
  go_ret
  exact HR.out _ rfl
end Go.Proofs.YtkaiilmgemaljaaGreat

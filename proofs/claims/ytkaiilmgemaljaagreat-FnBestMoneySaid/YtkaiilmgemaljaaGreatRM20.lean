/- Part of one proof. There are no conditions. -/
import Derived.Test.YtkaiilmgemaljaaGreatRM19
import Derived.Test.YtkaiilmgemaljaaGreatRQO
import Derived.Test.YtkaiilmgemaljaaGreatRD7
set_option maxHeartbeats 0
set_option linter.unusedVariables false
set_option linter.unusedSimpArgs false
set_option maxRecDepth 100000
namespace Go.Proofs.YtkaiilmgemaljaaGreat
open Go.RowKit Ps Ra Ex Mo
def RetTA (t:WT) (w:World) (fl:Bool) (l:List (List Int)) (o:Option (Nat×Nat×E)) (e:Ending) (w':World):Prop:=
 ∃ (u : Value) (x : E), e = .returned (.tuple #[u, .agg #[.int .i64 x.num, .int .i64 (x.depth : Int)]]) ∧ Val (sq t.s) x ∧ TbI t (fl || o.isNone) w' ∧ Frm t.S w w' ∧
   ((fl || o.isNone) = false -> ∃ cnt at' b off c, o = some (cnt, at', x) /\ u = .slice (some ⟨b, off, none⟩) t.h c /\ t.h <= c /\ SQ t.S w' (some ⟨b, off, none⟩) t.h (l.getD at' []))
def AftT (t:WT) (own other:List Int) (c:Cb) (a b:Nat):Prop:=∀(fl:Bool) (A B:Option Addr) (ca cb:Nat) (w:World),TbI t fl w->SQ t.S w A t.h own->t.h<=ca->SQ t.S w B t.h other->t.h<=cb->
 Calls Tryz.prog 123 #[.pointer (some ⟨t.bt,0,none⟩),.slice A t.h ca,.slice B t.h cb,.agg #[.int .i64 c.1,.int .i64 c.2],.agg #[.int .i64 (a:Int),.int .i64 (b:Int)]] w (RetTA t w fl (resultsL own a b) (bestS (sq t.s) (neqv t.s t.ru other c) (resultsL own a b)))
theorem PL.atN {S:Nat->Prop} {w:World} {A:Option Addr} {n:Nat} {ps:List (List Int)} (h:PL S w A n ps) {k:Nat} (hk:k<n):∃b off B m c,A=some ⟨b,off,none⟩/\¬S b/\b<w.heap.size/\w.cell? ⟨b,off+k,none⟩=some (.slice B m c)/\SQ S w B m (ps.getD k [])/\m<=c:=by
 obtain⟨cs,⟨hl,hc⟩,ha⟩:=h
 obtain⟨b,off,hA,hlt,hs,hcell⟩:=hc (by omega)
 obtain⟨B,m,c,hu,hp,hm⟩:=ha.2 k (by omega)
 exact⟨b,off,B,m,c,hA,hs,hlt,by rw[hcell k (by omega),hu],hp,hm⟩
def AJ (t:WT) (fl:Bool) (f:List Int->Option E) (L:List (List Int)) (k:Nat) (ai:Int) (x:E):Prop:=
 Val (sq t.s) x/\((k=0/\ai = -1)\/(0<k/\∃j:Nat,j<k/\ai=j))/\((fl||(bestS (sq t.s) f (L.take k)).isNone)=false->bestS (sq t.s) f (L.take k)=some (k,ai.toNat,x))
def listG (t:WT) (S:Nat->Prop) (own:List Int) (A:Option Addr) (ca a b:Nat) (i:Nat) (u:Value) (lo hi:Nat) (W:World):Prop:=
 match i with
 | 0=>u = .pointer (some ⟨t.bt,0,none⟩)
 | 1=>u = .pointer (some ⟨t.bt,0,none⟩)
 | 2=>u = .pointer (some ⟨t.bt,0,none⟩)
 | 3=>u = .agg #[.int .i64 t.p,.int .i64 t.c,.int .i64 t.h,.int .i64 t.s]
 | 4=>u = .slice A t.h ca
 | 5=>u = .agg #[.int .i64 (a:Int),.int .i64 (b:Int)]
 | _=>∃b' off n c,u = .slice (some ⟨b',off,none⟩) n c/\PL S W (some ⟨b',off,none⟩) n (resultsL own a b)/\n<=c
theorem listG_stab {t:WT} {S:Nat->Prop} {own:List Int} {A:Option Addr} {ca a b:Nat} (i:Nat) (u:Value) (lo hi:Nat) (W W':World) (hg:listG t S own A ca a b i u lo hi W) (hb:Below W.heap.size W W'):listG t S own A ca a b i u lo hi W':=by
 unfold listG at *
 split at hg<;>first|exact hg|(obtain⟨b',off,n,c,h1,h2,h3⟩:=hg;exact⟨b',off,n,c,h1,h2.below hb,h3⟩)
def aftG (t:WT) (B:Option Addr) (cb:Nat) (v o:Int) (bl ol nl cl k:Nat) (bq oq cq:Nat) (f:Bool) (ox:Option E) (i:Nat) (u:Value) (lo hi:Nat) (W:World):Prop:=
 match i with
 | 0=>u = .pointer (some ⟨t.bt,0,none⟩)
 | 1=>u = .slice B t.h cb
 | 2=>u = .slice (some ⟨bl,ol,none⟩) nl cl
 | 3=>u = .int .i64 (k:Int)
 | 4=>u = .pointer (some ⟨bl,ol+k,none⟩)
 | 5=>u = .slice (some ⟨bq,oq,none⟩) t.h cq
 | 6=>u = .agg #[.int .i64 v,.int .i64 o]
 | 7=>u=cbV (swp (v,o))
 | 8=>∃x:E,u = .agg #[.int .i64 x.num,.int .i64 (x.depth:Int)]/\Val (sq t.s) x/\(f=false->ox=some x)
 | 9=>∃x:E,u = .agg #[.int .i64 x.num,.int .i64 (x.depth:Int)]/\Val (sq t.s) x/\(f=false->ox.map negE=some x)
 | _=>u = .pointer (some ⟨lo,0,none⟩)/\lo<hi/\(W.cell? ⟨lo,0,none⟩=some (.int .i64 0)/\W.cell? ⟨lo,1,none⟩=some (.int .i64 0))/\∀j,j<2->W.frozen? ⟨lo,j,none⟩=false
theorem aftG_stab {t:WT} {B:Option Addr} {cb:Nat} {v o:Int} {bl ol nl cl k bq oq cq:Nat} {f:Bool} {ox:Option E} {w:World} (hS:∀k,t.S k->k<w.heap.size) (i:Nat) (u:Value) (lo hi:Nat) (W W':World) (hlo:w.heap.size<=lo) (hg:aftG t B cb v o bl ol nl cl k bq oq cq f ox i u lo hi W) (hf:Frm t.S W W'):aftG t B cb v o bl ol nl cl k bq oq cq f ox i u lo hi W':=by
 unfold aftG at *
 split at hg<;>first|exact hg|(
  obtain⟨h1,h2,⟨h3,h4⟩,h5⟩:=hg
  have hn:¬t.S lo:=fun h=>by have:=hS _ h;omega
  exact⟨h1,h2,⟨hf.cell' h3 hn,hf.cell' h4 hn⟩,fun j hj=>(aV hf (World.block_lt_of_cell? W ⟨lo,0,none⟩ h3) hn).trans (h5 j hj)⟩)
theorem ia (t:WT) (ht:t.Ok) {own other:List Int} (hq:PosP t.h t.c own) {c:Cb} (hc:CbOk t.K c) (a b:Nat) (hb1:1<=b) (hba:b<=a) (has:a<=t.s) (heq:∀q∈resultsL own a b,EqT t other q (swp c)):AftT t own other c a b:=by
 intro fl A B ca cb w hI hA hca hB hcb
 obtain⟨v,o⟩:=c;have hcv:1<=v/\v<=1024/\0<=o/\o<=2:=hc.v1 ht.k;have hv:=aj ht.v
 have hs1:1<=t.s:=by omega
 have hs6:t.s<=6:=by omega
 have hh24:t.h<=24:=by omega
 have hh1:0<t.h:=by omega
 have ha6:a<=6:=by omega
 obtain⟨hq1,hq36,_⟩:=sq_bd hs1 hs6
 have hnr1:0<t.nr:=by
  have h1:=aU t.s
  have h2:1*2<=t.s*(t.s+1):=Nat.mul_le_mul (by omega) (by omega)
  have:=ht.r
  omega
 have hlow:=hI.ltS;have hlr:=hI.ltR hnr1;have HLOW:=h_ hlow
 have HNS:Hid (∀j,¬t.S (w.heap.size+j)):=fun j h=>by have:=hlow _ h;omega
 have HNR:Hid (∀j,¬t.rb (w.heap.size+j)):=fun j h=>by have:=hlr _ h;omega
 have HRP:Hid (∀q∈resultsL own a b,PosP t.h t.c q):=fun q h=>(aN (by omega) hb1 hq q h).1
 have hb0:Below w.heap.size w (((w.alloc (.cells #[.int .i64 v,.int .i64 o] 55)).alloc (.cells #[.int .i64 (a:Int),.int .i64 (b:Int)] 39)).alloc (.cells #[.int .i64 0,.int .i64 0] 35)):=(((Below.refl _ _).alloc (Nat.le_refl _) _).alloc (by simp) _).alloc (by simp;omega) _
 have HF:Hid (FrS t.S w (((w.alloc (.cells #[.int .i64 v,.int .i64 o] 55)).alloc (.cells #[.int .i64 (a:Int),.int .i64 (b:Int)] 39)).alloc (.cells #[.int .i64 0,.int .i64 0] 35)) [[.int .i64 v,.int .i64 o],[.int .i64 (a:Int),.int .i64 (b:Int)],[.int .i64 0,.int .i64 0]]):=(((FrS.start w hlow).allocT (by simp) _ _).allocT (by simp) _ _).allocT (by simp) _ _
 have HI:=h_ (hI.below hb0);have HA:=h_ (hA.below hb0);have HB:=h_ (hB.below hb0)
 have hp15:PosP t.h 15 own:=⟨hq.1,hq.2.1,by have:=hq.2.2;omega⟩
 have HRES:=h_ fun (W:World) (hx:SQ t.S W A t.h own) (hS:∀k,W.heap.size<=k->¬ownT t.S w 3 k)=>fo (ownT t.S w 3) t.p t.c t.h t.s A t.h ca a b own W hx.1 hca hp15 hh24 hh1 hb1 hba ha6 hS
 have HEQ:=h_ heq
 have HSV:Hid (∀(q:List Int) (x:E),neqv t.s t.ru other (v,o) q=some x->Val (sq t.s) x):=fun q x h=>ko hq1 (by show -100000<=v;omega) (by show v<=100000;omega) h
 have HNE':Hid (∀q,neqv t.s t.ru other (v,o) q=(eqv t.s t.ru other q (swp (v,o))).map negE):=fun q=>rfl
 have hlen:(resultsL own a b).length<=1000000:=Nat.le_trans (fA (by omega) hb1 hq hh24) (by omega)
 have HLEN:=h_ hlen
 have SW:=h_ fun (W:World)=>j7 v o W
 have HNE:=h_ (bY (by omega:1<=a) hb1 hq)
 have COM:=h_ fun (x y:E) (W:World) (hx:Val (sq t.s) x) (hy:Val (sq t.s) y)=>bU t.p t.c t.h x.num y.num t.s x.depth y.depth W hs1 hs6 hx hy
 clear hI hA hB hv hlow hlr hb0 hq heq hlen ht hc hp15
 go_enter Tryz.func123,Tryz.ntmps123
 go_wp2_with (fail)
 generalize ((w.alloc (.cells #[.int .i64 v,.int .i64 o] 55)).alloc (.cells #[.int .i64 (a:Int),.int .i64 (b:Int)] 39)).alloc (.cells #[.int .i64 0,.int .i64 0] 35)=W0 at *
 have hz0:w.heap.size+3<=W0.heap.size:=by have:=HF.out.z;simpa using this
 refine cd 7 (fun i=>i+17) (listG t (ownT t.S w 3) own A ca a b) (by kernel_rfl) (by kernel_rfl) (fun _ _ _ _ _ h=>h) listG_stab ?_ ?_
 ·intro i op hi ho a' W hb hfar hdep
  have e0:a'.tmps.getD 0 undef = .pointer (some ⟨t.bt,0,none⟩):=(hfar 0 (fun j _=>by omega)).trans rfl
  have e1:a'.tmps.getD 1 undef = .slice A t.h ca:=(hfar 1 (fun j _=>by omega)).trans rfl
  have e9:a'.tmps.getD 9 undef = .pointer (some ⟨w.heap.size+1,0,none⟩):=(hfar 9 (fun j _=>by omega)).trans rfl
  have HFh:=h_ (HF.out.below hb);have hIW:=HI.out.below hb;have q0:=hIW.tb 0 _ rfl;have q1:=hIW.tb 1 _ rfl;have q2:=hIW.tb 2 _ rfl;have q3:=hIW.tb 3 _ rfl;have hbt:=hIW.ltB;obtain⟨z0,c00,f00,c01,f01,z1,c10,f10,c11,f11,z2,c20,f20,c21,f21⟩:=HFh.out.xf5
  have hi9:i=0\/i=1\/i=2\/i=3\/i=4\/i=5\/i=6:=by omega
  rcases hi9 with rfl|rfl|rfl|rfl|rfl|rfl|rfl
  all_goals
   simp at ho
   subst ho
  ·exact .inl ⟨.pointer (some ⟨t.bt,0,none⟩),W,by simp only[execOp,Act.eval,e0];go_simp,Below.refl _ _,rfl⟩
  ·obtain⟨_,_,d0⟩:=hdep 0 (by omega) (by kernel_rfl)
   replace d0:a'.tmps.getD 17 undef = .pointer (some ⟨t.bt,0,none⟩):=d0
   exact .inl ⟨.pointer (some ⟨t.bt,0,none⟩),W,by simp only[execOp,Act.eval,d0];go_simp,Below.refl _ _,rfl⟩
  ·obtain⟨_,_,d0⟩:=hdep 1 (by omega) (by kernel_rfl)
   replace d0:a'.tmps.getD 18 undef = .pointer (some ⟨t.bt,0,none⟩):=d0
   exact .inl ⟨.pointer (some ⟨t.bt,0,none⟩),W,by simp only[execOp,Act.eval,d0];go_simp,Below.refl _ _,rfl⟩
  ·obtain⟨_,_,d0⟩:=hdep 2 (by omega) (by kernel_rfl)
   replace d0:a'.tmps.getD 19 undef = .pointer (some ⟨t.bt,0,none⟩):=d0
   exact .inl ⟨.agg #[.int .i64 t.p,.int .i64 t.c,.int .i64 t.h,.int .i64 t.s],W,by simp only[execOp,Act.eval,d0];go_simp,Below.refl _ _,rfl⟩
  ·exact .inl ⟨.slice A t.h ca,W,by simp only[execOp,Act.eval,e1];go_simp,Below.refl _ _,rfl⟩
  ·exact .inl ⟨.agg #[.int .i64 (a:Int),.int .i64 (b:Int)],W,by simp only[execOp,Act.eval,e9];go_simp,Below.refl _ _,rfl⟩
  ·obtain⟨_,_,d0⟩:=hdep 3 (by omega) (by kernel_rfl)
   obtain⟨_,_,d1⟩:=hdep 4 (by omega) (by kernel_rfl)
   obtain⟨_,_,d2⟩:=hdep 5 (by omega) (by kernel_rfl)
   replace d0:a'.tmps.getD 20 undef = .agg #[.int .i64 t.p,.int .i64 t.c,.int .i64 t.h,.int .i64 t.s]:=d0;replace d1:a'.tmps.getD 21 undef = .slice A t.h ca:=d1;replace d2:a'.tmps.getD 22 undef = .agg #[.int .i64 (a:Int),.int .i64 (b:Int)]:=d2
   refine .inr ⟨91,#[.agg #[.int .i64 t.p,.int .i64 t.c,.int .i64 t.h,.int .i64 t.s],.slice A t.h ca,.agg #[.int .i64 (a:Int),.int .i64 (b:Int)]],by simp only[execOp,Act.eval,d0,d1,d2];go_simp,?_⟩
   refine (HRES.out W (HA.out.below hb) (dW (fun x hx h=>by have:=HLOW.out x h;omega) (Nat.le_trans hz0 hb.size))).mono ?_
   rintro e W' ⟨b',off,n',c',rfl,hpl,hc,hb'⟩
   exact⟨_,rfl,hb',b',off,n',c',rfl,hpl,hc⟩
 intro u W lo hi hb hg hd
 have g0:u 0 = .pointer (some ⟨t.bt,0,none⟩):=(hg 0 (by omega)).1
 have g1:u 1 = .pointer (some ⟨t.bt,0,none⟩):=(hg 1 (by omega)).1
 have g2:u 2 = .pointer (some ⟨t.bt,0,none⟩):=(hg 2 (by omega)).1
 have g3:u 3 = .agg #[.int .i64 t.p,.int .i64 t.c,.int .i64 t.h,.int .i64 t.s]:=(hg 3 (by omega)).1
 have g4:u 4 = .slice A t.h ca:=(hg 4 (by omega)).1
 have g5:u 5 = .agg #[.int .i64 (a:Int),.int .i64 (b:Int)]:=(hg 5 (by omega)).1
 obtain⟨bl,ol,n,cl,g6,hpl,hcl⟩:listG t (ownT t.S w 3) own A ca a b 6 (u 6) (lo 6) (hi 6) W:=(hg 6 (by omega)).1
 clear hg hd;have HF1:=h_ (HF.out.below hb);have HI1:=h_ (HI.out.below hb);have HB1:=h_ (HB.out.below hb);have hz1:w.heap.size+3<=W.heap.size:=Nat.le_trans hz0 hb.size;have HPL:=h_ hpl;have HNL:=h_ hpl.len;clear hb HF HI HA HB HRES hpl
 have hn6:n<=1000000:=by rw[<- HNL.out];exact HLEN.out
 have hn1:1<=n:=by
  rw[<- HNL.out]
  rcases Nat.eq_zero_or_pos (resultsL own a b).length with h|h
  ·exact absurd (List.eq_nil_of_length_eq_zero h) (by simpa using HNE.out)
  ·exact h
 generalize resultsL own a b=L at *
 simp only[List.drop_succ_cons,List.drop_zero,putV,g0,g1,g2,g3,g4,g5,g6,Act.put]
 clear g0 g1 g2 g3 g4 g5 g6;obtain⟨z0,c00,f00,c01,f01,z1,c10,f10,c11,f11,z2,c20,f20,c21,f21⟩:=HF1.out.xf5
 go_wp2_with (fail)
 clear z0 c00 f00 c01 f01 z1 c10 f10 c11 f11 z2 c20 f20 c21 f21
 have HG0:Hid (FrS t.S W (W.alloc (.cells #[.int .i64 0,.int .i64 0] 35)) [[.int .i64 0,.int .i64 0]]):=(FrS.start W HI1.out.ltS).allocT (by simp) _ _
 have HF2:=h_ (HF1.out.alloc (.cells #[.int .i64 0,.int .i64 0] 35));have HI2:=h_ (HI1.out.alloc (.cells #[.int .i64 0,.int .i64 0] 35))
 have HNSW:Hid (∀j,W.heap.size<=j->¬t.S j/\¬t.rb j):=fun j hj=>by
  have h1:=HNS.out (j-w.heap.size);have h2:=HNR.out (j-w.heap.size)
  rw[show w.heap.size+(j-w.heap.size)=j by omega]at h1 h2
  exact⟨h1,h2⟩
 clear HF1 HI1;generalize W.alloc (.cells #[.int .i64 0,.int .i64 0] 35)=W2 at *
 go_loopw [14,15] (fun v14 v15 wr=>∃(k:Nat) (ai xn:Int) (xd:Nat),k<=n/\v15 = .int .i64 k/\v14 = .int .i64 ai/\Hid (AJ t fl (neqv t.s t.ru other (v,o)) L k ai ⟨xn,xd⟩)/\Hid (FrS t.S w wr [[.int .i64 v,.int .i64 o],[.int .i64 (a:Int),.int .i64 (b:Int)],[.int .i64 0,.int .i64 0]])/\Hid (FrS t.S W wr [[.int .i64 xn,.int .i64 (xd:Int)]])/\Hid (TbI t (fl||(bestS (sq t.s) (neqv t.s t.ru other (v,o)) (L.take k)).isNone) wr)) (fun _ v15 _=>n-(intOf v15).toNat)
 case atStart=>exact⟨0,-1,0,0,by omega,rfl,rfl,⟨eL,.inl ⟨rfl,rfl⟩,fun _=>rfl⟩,HF2.out,HG0.out,HI2.out.eqf (by cases fl<;>rfl)⟩
 case round=>
  clear HF2 HI2 HG0;obtain⟨k,ai,xn,xd,hk,rfl,rfl,HAJ,HF,HG,HI⟩:=hrel
  by_cases hlt:k<n
  focus
   have hki:(k:Int)<(n:Int):=by omega
   obtain⟨bl',ol',Bq,mq,cq,hA',hbS',hzl,hcq,hsq',hmq⟩:=(HPL.out.frm (HG.out.f.mono fun j hj=>.inl hj)).atN hlt
   have hbS:¬t.S bl':=fun h=>hbS' (.inl h)
   have hsq:=hsq'.less (T':=t.S) fun j hj=>.inl hj
   clear hbS' hsq';injection hA' with hA';injection hA' with e1 e2;subst e1 e2
   have hmem:=ao L [] (k:=k) (by rw[HNL.out];exact hlt)
   have hqp:=HRP.out _ hmem
   have hmh:t.h=mq:=by rw[<- hsq.1.1];exact hqp.1.symm
   subst hmh;obtain⟨bq,oq,rfl,_,_⟩:=hsq.1.2 hh1;have CEQ:=h_ (HEQ.out _ hmem);have HSQ:=h_ hsq;have HCQ:=h_ hcq;have HBS:=h_ hbS
   have HLL:Hid (k<L.length):=by unfold Hid;rw[HNL.out];exact hlt
   have HLR:=h_ HI.out.ltS;obtain⟨qk,hqk⟩:∃qk,qk=L.getD k []:=⟨_,rfl⟩;rw[<- hqk]at CEQ HSQ
   obtain⟨fk,hfk⟩:∃fk,fk=(fl||(bestS (sq t.s) (neqv t.s t.ru other (v,o)) (L.take k)).isNone):=⟨_,rfl⟩
   obtain⟨ox,hox⟩:∃ox,ox=eqv t.s t.ru other qk (swp (v,o)):=⟨_,rfl⟩
   obtain⟨f2,hf2⟩:∃f2,f2=(fk||ox.isNone):=⟨_,rfl⟩
   have HF2:Hid (f2=(fl||(bestS (sq t.s) (neqv t.s t.ru other (v,o)) (L.take (k+1))).isNone)):=by
    unfold Hid;rw[hf2,hfk,ar L [] HLL.out,bf,<- hqk,HNE'.out,<- hox]
    cases bestS (sq t.s) (neqv t.s t.ru other (v,o)) (L.take k) with
    | none=>cases fl<;>rfl
    | some z=>cases fl<;>cases ox<;>rfl
   have HST:Hid (f2=false->fk=false/\∃x,ox=some x):=fun h=>by
    rw[hf2]at h
    cases fk
    ·cases ox
     ·cases h
     ·exact⟨rfl,_,rfl⟩
    ·cases h
   have HFK:=h_ hfk;have HOX:=h_ hox;have HQK:=h_ hqk;have HFF:=h_ hf2;replace HI:Hid (TbI t fk wr):=HI.out.eqf hfk.symm;clear hfk hox hqk hf2 hmem hqp hsq hcq hbS
   go_wp2_with (fail)
   refine fj 11 (fun _=>false) (fun i=>if i=10 then 16 else i+31) t.S (fun X=>TbI t fk X) (fun _ X=>TbI t f2 X) 8 (aftG t B cb v o bl ol n cl k bq oq cq f2 ox) (by kernel_rfl) (by kernel_rfl) (fun _ _ _ _ _ h=>h) (by omega) rfl HI.out (fun _ _ h hb=>h.below hb) (fun _ _ _ h hb=>h.below hb) (aftG_stab HLR.out) ?_ ?_ ?_ ?_
   ·intro i op hi hX
    cases hX
   ·intro i op hi hX hne ho a' X hfX hIX hfar hdep
    have e0:a'.tmps.getD 0 undef = .pointer (some ⟨t.bt,0,none⟩):=(hfar 0 (by decide)).trans rfl
    have e2:a'.tmps.getD 2 undef = .slice B t.h cb:=(hfar 2 (by decide)).trans rfl
    have e8:a'.tmps.getD 8 undef = .pointer (some ⟨w.heap.size,0,none⟩):=(hfar 8 (by decide)).trans rfl
    have e12:a'.tmps.getD 12 undef = .slice (some ⟨bl,ol,none⟩) n cl:=(hfar 12 (by decide)).trans rfl
    have e15:a'.tmps.getD 15 undef = .int .i64 (k:Int):=(hfar 15 (by decide)).trans rfl
    have HFh:=h_ (HF.out.frm hfX);have hcq:=hfX.cell' HCQ.out HBS.out;have hcz:=World.block_lt_of_cell? X _ hcq;obtain⟨z0,c00,f00,c01,f01,z1,c10,f10,c11,f11,z2,c20,f20,c21,f21⟩:=HFh.out.xf5
    have hi9:i=0\/i=1\/i=2\/i=3\/i=4\/i=5\/i=6\/i=7\/i=9\/i=10:=by omega
    clear hX hne
    rcases hi9 with rfl|rfl|rfl|rfl|rfl|rfl|rfl|rfl|rfl|rfl
    all_goals
     simp at ho
     subst ho
    ·exact .inl ⟨.pointer (some ⟨t.bt,0,none⟩),X,by simp only[execOp,Act.eval,e0];go_simp,Below.refl _ _,rfl⟩
    ·exact .inl ⟨.slice B t.h cb,X,by simp only[execOp,Act.eval,e2];go_simp,Below.refl _ _,rfl⟩
    ·exact .inl ⟨.slice (some ⟨bl,ol,none⟩) n cl,X,by simp only[execOp,Act.eval,e12];go_simp,Below.refl _ _,rfl⟩
    ·exact .inl ⟨.int .i64 (k:Int),X,by simp only[execOp,Act.eval,e15];go_simp,Below.refl _ _,rfl⟩
    ·obtain⟨_,_,d0⟩:=hdep 2 (by omega) (by kernel_rfl)
     obtain⟨_,_,d1⟩:=hdep 3 (by omega) (by kernel_rfl)
     replace d0:a'.tmps.getD 33 undef = .slice (some ⟨bl,ol,none⟩) n cl:=d0;replace d1:a'.tmps.getD 34 undef = .int .i64 (k:Int):=d1
     exact .inl ⟨.pointer (some ⟨bl,ol+k,none⟩),X,by simp only[execOp,Act.eval,d0,d1];go_simp,Below.refl _ _,rfl⟩
    ·obtain⟨_,_,d0⟩:=hdep 4 (by omega) (by kernel_rfl)
     replace d0:a'.tmps.getD 35 undef = .pointer (some ⟨bl,ol+k,none⟩):=d0
     exact .inl ⟨.slice (some ⟨bq,oq,none⟩) t.h cq,X,by simp only[execOp,Act.eval,d0];go_simp,Below.refl _ _,rfl⟩
    ·exact .inl ⟨.agg #[.int .i64 v,.int .i64 o],X,by simp only[execOp,Act.eval,e8];go_simp,Below.refl _ _,rfl⟩
    ·obtain⟨_,_,d0⟩:=hdep 6 (by omega) (by kernel_rfl)
     replace d0:a'.tmps.getD 37 undef = .agg #[.int .i64 v,.int .i64 o]:=d0
     refine .inr ⟨202,#[.agg #[.int .i64 v,.int .i64 o]],by simp only[execOp,Act.eval,d0];go_simp,?_⟩
     refine (SW.out X).mono ?_
     rintro e X' ⟨rfl,hb'⟩
     exact⟨_,rfl,hb',rfl⟩
    ·obtain⟨_,_,y,d0,hvy,hy⟩:=hdep 8 (by omega) (by kernel_rfl)
     replace d0:a'.tmps.getD 39 undef = .agg #[.int .i64 y.num,.int .i64 (y.depth:Int)]:=d0;have hyb : -aA<=y.num/\y.num<=aA:=⟨hvy.1,hvy.2.1⟩
     refine .inr ⟨201,#[.agg #[.int .i64 y.num,.int .i64 (y.depth:Int)]],by simp only[execOp,Act.eval,d0];go_simp,?_⟩
     refine (l17Neg_any y.num y.depth X (by unfold aA at hyb;omega) (by unfold aA at hyb;omega)).mono ?_
     rintro e X' ⟨rfl,hb'⟩
     exact⟨_,rfl,hb',negE y,rfl,kp hvy,fun h=>by rw[hy h];rfl⟩
    ·refine .inl ⟨.pointer (some ⟨X.heap.size,0,none⟩),X.alloc (.cells #[.int .i64 0,.int .i64 0] 35),by kernel_rfl,(Below.refl _ _).alloc (Nat.le_refl _) _,rfl,by simp,⟨by simp[go_sem],by simp[go_sem]⟩,fun j hj=>?_⟩
     have:j=0\/j=1:=by omega
     rcases this with rfl|rfl<;>simp[go_sem]
   ·intro op ho a' X hfX hIX hfar hdep
    simp at ho
    subst ho
    obtain⟨_,_,d0⟩:=hdep 0 (by omega) (by kernel_rfl)
    obtain⟨_,_,d1⟩:=hdep 1 (by omega) (by kernel_rfl)
    obtain⟨_,_,d2⟩:=hdep 5 (by omega) (by kernel_rfl)
    obtain⟨_,_,d3⟩:=hdep 7 (by omega) (by kernel_rfl)
    replace d0:a'.tmps.getD 31 undef = .pointer (some ⟨t.bt,0,none⟩):=d0;replace d1:a'.tmps.getD 32 undef = .slice B t.h cb:=d1;replace d2:a'.tmps.getD 36 undef = .slice (some ⟨bq,oq,none⟩) t.h cq:=d2;replace d3:a'.tmps.getD 38 undef = .agg #[.int .i64 (swp (v,o)).1,.int .i64 (swp (v,o)).2]:=d3
    refine .inr ⟨108,#[.pointer (some ⟨t.bt,0,none⟩),.slice B t.h cb,.slice (some ⟨bq,oq,none⟩) t.h cq,.agg #[.int .i64 (swp (v,o)).1,.int .i64 (swp (v,o)).2]],by simp only[execOp,Act.eval,d0,d1,d2,d3];go_simp,?_⟩
    refine (CEQ.out fk B (some ⟨bq,oq,none⟩) cb cq X hIX ((HB1.out.frm HG.out.f).frm hfX) hcb (HSQ.out.frm hfX) hmq).mono ?_
    rintro e X' ⟨x,rfl,hvx,hI',hf',him⟩
    rw[<- HOX.out,<- HFF.out]at hI';rw[<- HOX.out,<- HFF.out]at him
    exact⟨_,rfl,hf',hI',x,rfl,hvx,him⟩
   intro u X lo hi hfX hIX hg hd
   have g0:u 0 = .pointer (some ⟨t.bt,0,none⟩):=(hg 0 (by omega)).1
   have g1:u 1 = .slice B t.h cb:=(hg 1 (by omega)).1
   have g2:u 2 = .slice (some ⟨bl,ol,none⟩) n cl:=(hg 2 (by omega)).1
   have g3:u 3 = .int .i64 (k:Int):=(hg 3 (by omega)).1
   have g4:u 4 = .pointer (some ⟨bl,ol+k,none⟩):=(hg 4 (by omega)).1
   have g5:u 5 = .slice (some ⟨bq,oq,none⟩) t.h cq:=(hg 5 (by omega)).1
   have g6:u 6 = .agg #[.int .i64 v,.int .i64 o]:=(hg 6 (by omega)).1
   have g7:u 7=cbV (swp (v,o)):=(hg 7 (by omega)).1
   obtain⟨x8,g8,_,_⟩:aftG t B cb v o bl ol n cl k bq oq cq f2 ox 8 (u 8) (lo 8) (hi 8) X:=(hg 8 (by omega)).1
   obtain⟨⟨yn,yd⟩,g9,hvy,hy⟩:aftG t B cb v o bl ol n cl k bq oq cq f2 ox 9 (u 9) (lo 9) (hi 9) X:=(hg 9 (by omega)).1
   obtain⟨g10,l10,⟨k10,k11⟩,f10'⟩:aftG t B cb v o bl ol n cl k bq oq cq f2 ox 10 (u 10) (lo 10) (hi 10) X:=(hg 10 (by omega)).1
   have hlo:wr.heap.size<=lo 10:=(hg 10 (by omega)).2.1
   clear hg hd;obtain⟨b16,hb16⟩:∃b16,b16=lo 10:=⟨_,rfl⟩;rw[<- hb16]at g10 l10 k10 k11 f10' hlo
   have fa0:=f10' 0 (by omega)
   have fa1:=f10' 1 (by omega)
   have kz:=World.block_lt_of_cell? X _ k10;have HVY:=h_ hvy;have HY:=h_ hy;have hWr:W.heap.size<=wr.heap.size:=HG.out.f.size
   simp only[List.drop_succ_cons,List.drop_zero,putV,g0,g1,g2,g3,g4,g5,g6,g7,g8,g9,g10,Act.put,cbV]
   clear g0 g1 g2 g3 g4 g5 g6 g7 g8 g9 g10 hb16 f10' hvy hy
   go_wp2_with (fail)
   have hfs:Frm (fun j=>j=b16) X ((X.setCell ⟨b16,0,none⟩ (.int .i64 yn)).setCell ⟨b16,1,none⟩ (.int .i64 (yd:Int))):=(Frm.set _ _ _ _).trans (Frm.set _ _ _ _)
   have hz3:w.heap.size+3<=b16:=by omega
   have hz4:W.heap.size+1<=b16:=by have:=HG.out.z;simp at this;omega
   replace HF:=h_ ((HF.out.frm hfX).out hfs fun j hj=>by rw[hj];exact hz3)
   replace HG:=h_ ((HG.out.frm hfX).out hfs fun j hj=>by rw[hj];exact hz4)
   replace HI:=h_ (hIX.out hfs (fun j hj=>by rw[hj];exact (HNSW.out b16 (by omega)).1) fun j hj=>by rw[hj];exact (HNSW.out b16 (by omega)).2)
   have g0:((X.setCell ⟨b16,0,none⟩ (.int .i64 yn)).setCell ⟨b16,1,none⟩ (.int .i64 (yd:Int))).cell? ⟨b16,0,none⟩=some (.int .i64 yn):=by simp[go_sem,k10,k11]
   have g1:((X.setCell ⟨b16,0,none⟩ (.int .i64 yn)).setCell ⟨b16,1,none⟩ (.int .i64 (yd:Int))).cell? ⟨b16,1,none⟩=some (.int .i64 (yd:Int)):=by simp[go_sem,k10,k11]
   clear hfs k10 k11 fa0 fa1 kz hfX hIX l10;generalize (X.setCell ⟨b16,0,none⟩ (.int .i64 yn)).setCell ⟨b16,1,none⟩ (.int .i64 (yd:Int))=X2 at *;have gz:=World.block_lt_of_cell? X2 _ g0;have HXV:=h_ HAJ.out.1
   have HGO:Hid (k=0\/(f2=false->ltE (sq t.s) ⟨xn,xd⟩ ⟨yn,yd⟩=true)->f2=false->bestS (sq t.s) (neqv t.s t.ru other (v,o)) (L.take (k+1))=some (k+1,k,⟨yn,yd⟩)):=fun h hf=>by
    obtain⟨h1,z,h2⟩:=HST.out hf
    have hs:=HAJ.out.2.2 (by rw[<- HFK.out];exact h1)
    have hn:neqv t.s t.ru other (v,o) (L.getD k [])=some ⟨yn,yd⟩:=by rw[<- HQK.out,HNE'.out,<- HOX.out];exact HY.out hf
    exact bestS_go HLL.out hs hn (h.imp id fun h=>h hf)
   have HKP:Hid (k≠0->ltE (sq t.s) ⟨xn,xd⟩ ⟨yn,yd⟩=false->f2=false->bestS (sq t.s) (neqv t.s t.ru other (v,o)) (L.take (k+1))=some (k+1,ai.toNat,⟨xn,xd⟩)):=fun h0 hl hf=>by
    obtain⟨h1,z,h2⟩:=HST.out hf
    have hs:=HAJ.out.2.2 (by rw[<- HFK.out];exact h1)
    have hn:neqv t.s t.ru other (v,o) (L.getD k [])=some ⟨yn,yd⟩:=by rw[<- HQK.out,HNE'.out,<- HOX.out];exact HY.out hf
    exact jQ HLL.out hs hn h0 hl
   have HAI:=h_ HAJ.out.2.1;clear HAJ HY HST HFK HOX HQK HFF HNE' CEQ HSQ HCQ HBS HLR hmq
   rcases HAI.out with⟨hk0,hai⟩|⟨hk0,j,hj,hai⟩
   focus
    have HNW:Hid (f2=false->bestS (sq t.s) (neqv t.s t.ru other (v,o)) (L.take (k+1))=some (k+1,k,⟨yn,yd⟩)):=HGO.out (.inl hk0)
    subst hai;clear HGO HKP HAI hk0;have e0:=HI.out.tb 0 _ rfl;have e1:=HI.out.tb 1 _ rfl;have e2:=HI.out.tb 2 _ rfl;have e3:=HI.out.tb 3 _ rfl;have hbt:=HI.out.ltB;obtain⟨z0,c00,f00,c01,f01,z1,c10,f10,c11,f11,z2,c20,f20,c21,f21⟩:=HF.out.xf5;obtain⟨qz0,qc00,qf00,qc01,qf01⟩:=HG.out.xf3
    first|refine ab (by kernel_rfl) (by kernel_rfl) ?_|refine ac (by kernel_rfl) (by kernel_rfl) ?_
    repeat (first|go_big_quiet_step (fail)|quiet_step (fail))
    refine ?za
   rotate_left
   focus
    subst hai
    have hai2:decide ((j:Int)<0)=false:=decide_eq_false (by omega)
    have COMP:=h_ fun (X:World)=>COM.out ⟨yn,yd⟩ ⟨xn,xd⟩ X HVY.out HXV.out
    have HCS:Hid ((0<cmpE (sq t.s) ⟨yn,yd⟩ ⟨xn,xd⟩)=(ltE (sq t.s) ⟨xn,xd⟩ ⟨yn,yd⟩=true)):=eZ;have hcb1:=eh (sq t.s) ⟨yn,yd⟩ ⟨xn,xd⟩;generalize cmpE (sq t.s) ⟨yn,yd⟩ ⟨xn,xd⟩=cm at *
    by_cases hcm:0<cm
    focus
     have HNW:Hid (f2=false->bestS (sq t.s) (neqv t.s t.ru other (v,o)) (L.take (k+1))=some (k+1,k,⟨yn,yd⟩)):=HGO.out (.inr fun _=>by rw[<- HCS.out];exact hcm)
     refine ?zb
    rotate_left
    focus
     have HNW:Hid (f2=false->bestS (sq t.s) (neqv t.s t.ru other (v,o)) (L.take (k+1))=some (k+1,j,⟨xn,xd⟩)):=fun hf=>by
      have h:=HKP.out (by omega) (by
       cases hl:ltE (sq t.s) ⟨xn,xd⟩ ⟨yn,yd⟩with
       | false=>rfl
       | true=>exact absurd (by rw[HCS.out];exact hl) hcm) hf
      rwa [Int.toNat_natCast]at h
     have dcm:=decide_eq_false hcm
     have HAJ2:Hid (AJ t fl (neqv t.s t.ru other (v,o)) L (k+1) (j:Int) ⟨xn,xd⟩):=⟨HXV.out,.inr ⟨by omega,j,by omega,rfl⟩,fun h=>by rw[HNW.out (by rw[HF2.out];exact h)];simp⟩
     refine ?zc
  rotate_left 3
  ·have hke:k=n:=by omega
   have htk:L.take k=L:=List.take_of_length_le (by rw[HNL.out];omega)
   obtain⟨hvx,hai,hb⟩:=HAJ.out;rw[htk]at hb;have HIx:=HI.out;rw[htk]at HIx
   rcases hai with⟨h,_⟩|⟨_,j,hj,rfl⟩
   ·omega
   have hjn:j<n:=by omega
   have hji:(j:Int)<(n:Int):=by omega
   have hji0:(0:Int)<=(j:Int):=by omega
   obtain⟨bl',ol',Bq,mq,cq,hA',hbS,hzl,hcq,hsq,hmq⟩:=(HPL.out.frm (HG.out.f.mono fun j hj=>.inl hj)).atN hjn
   injection hA' with hA';injection hA' with e1 e2;subst e1 e2
   have hmem:=ao L [] (k:=j) (by rw[HNL.out];exact hjn)
   have hqp:=HRP.out _ hmem
   have hmh:t.h=mq:=by rw[<- hsq.1.1];exact hqp.1.symm
   subst hmh;obtain⟨bq,oq,rfl,_,_⟩:=hsq.1.2 hh1;have HSQ:=h_ hsq;have HBT:=h_ hb;have HVX:=h_ hvx;replace HI:=h_ HIx;clear hb hvx HIx hmem hqp hsq HAJ;have e0:=HI.out.tb 0 _ rfl;have e1:=HI.out.tb 1 _ rfl;have e2:=HI.out.tb 2 _ rfl;have e3:=HI.out.tb 3 _ rfl;have hbt:=HI.out.ltB;obtain⟨z0,c00,f00,c01,f01,z1,c10,f10,c11,f11,z2,c20,f20,c21,f21⟩:=HF.out.xf5;obtain⟨qz0,qc00,qf00,qc01,qf01⟩:=HG.out.xf3
   go_wp2_with (fail)
   have hNS2:=HNS.out 2;have hNR2:=HNR.out 2;have HSB:=h_ HI.out.ltS
   go_region
   all_goals go_wp2_with (fail)
   all_goals
    refine bodyPost_ret (v:=.tuple #[.slice (some ⟨bq,oq,none⟩) t.h cq,.agg #[.int .i64 xn,.int .i64 (xd:Int)]]) (by simp[results,Tryz.results123,go_sem,c20,c21,z2,f20,f21]) rfl ?_
    refine⟨_,⟨xn,xd⟩,rfl,HVX.out,?_,?_,fun h=>?_⟩
    ·repeat (first|exact HI.out|refine TbI.alloc ?_ _|refine TbI.drew ?_|refine TbI.stored ?_ _ hNS2 hNR2)
    ·repeat (first|exact HF.out.f|refine Frm.alloc ?_ _|refine Frm.drew ?_|refine Frm.ownSet ?_ (by omega) _)
    ·have hbb:=HBT.out h
     rw[Int.toNat_natCast]at hbb
     refine⟨k,j,bq,oq,cq,hbb,rfl,hmq,?_⟩
     have hT2:ownT t.S w 3 (w.heap.size+2):=aG 2 rfl (by omega)
     have hfo:∀(X:World) (i:Nat) (x:Value),Frm (ownT t.S w 3) X (X.setCell ⟨w.heap.size+2,i,none⟩ x):=fun X i x=>(Frm.set X (w.heap.size+2) i x).mono fun y hy=>by rw[hy];exact hT2
     have h9:=(HSQ.out.frm (hfo _ 0 (.int .i64 xn))).frm (hfo _ 1 (.int .i64 (xd:Int)))
     exact (h9.below (drw (Below.refl _ _))).less (T':=t.S) fun y hy=>.inl hy
  case' zc|zb=>
   clear HGO HKP HAI HCS;have e0:=HI.out.tb 0 _ rfl;have e1:=HI.out.tb 1 _ rfl;have e2:=HI.out.tb 2 _ rfl;have e3:=HI.out.tb 3 _ rfl;have hbt:=HI.out.ltB;obtain⟨z0,c00,f00,c01,f01,z1,c10,f10,c11,f11,z2,c20,f20,c21,f21⟩:=HF.out.xf5;obtain⟨qz0,qc00,qf00,qc01,qf01⟩:=HG.out.xf3
   first|refine ab (by kernel_rfl) (by kernel_rfl) ?_|refine ac (by kernel_rfl) (by kernel_rfl) ?_
   repeat (first|go_big_quiet_step ((go_at_call 176;exact more_call (COMP.out _)))|quiet_step ((go_at_call 176;exact more_call (COMP.out _))))
  case za|zb=>
   refine wpQuiet_nil ?_
   intro _ hw'
   obtain⟨tr,hw''⟩:=hw';subst hw'';clear z0 c00 f00 c01 f01 z1 c10 f10 c11 f11 z2 c20 f20 c21 f21;clear qz0 qc00 qf00 qc01 qf01;replace HF:=h_ (HF.out.more tr);replace HG:=h_ (HG.out.more tr);replace HI:=h_ (HI.out.more tr);replace g0:=keep_cell g0 (aa _ tr);replace g1:=keep_cell g1 (aa _ tr);replace gz:=Nat.lt_of_lt_of_le gz (ae _ tr);clear e0 e1 e2 e3 hbt;generalize more X2 tr=Y at *;obtain⟨z0,c00,f00,c01,f01,z1,c10,f10,c11,f11,z2,c20,f20,c21,f21⟩:=HF.out.xf5;obtain⟨qz0,qc00,qf00,qc01,qf01⟩:=HG.out.xf3
   go_wp2_with (fail)
   clear z0 c00 f00 c01 f01 z1 c10 f10 c11 f11 z2 c20 f20 c21 f21;clear qz0 qc00 qf00 qc01 qf01
   have hfs:Frm (fun j=>j=W.heap.size) Y ((Y.setCell ⟨W.heap.size,0,none⟩ (.int .i64 yn)).setCell ⟨W.heap.size,1,none⟩ (.int .i64 (yd:Int))):=(Frm.set _ _ _ _).trans (Frm.set _ _ _ _)
   replace HF:=h_ (HF.out.out hfs fun j hj=>by rw[hj];exact hz1)
   replace HG:=h_ ((HG.out.set 0 0 rfl rfl (.int .i64 yn)).set 0 1 rfl rfl (.int .i64 (yd:Int)))
   replace HI:=h_ (HI.out.out hfs (fun j hj=>by rw[hj];exact (HNSW.out _ (Nat.le_refl _)).1) fun j hj=>by rw[hj];exact (HNSW.out _ (Nat.le_refl _)).2)
   have HAJ2:Hid (AJ t fl (neqv t.s t.ru other (v,o)) L (k+1) (k:Int) ⟨yn,yd⟩):=⟨HVY.out,.inr ⟨by omega,k,by omega,rfl⟩,fun h=>by rw[HNW.out (by rw[HF2.out];exact h)];simp⟩
   clear hfs
   go_roundw
   case rel=>exact⟨k+1,(k:Int),yn,yd,by omega,by go_num,rfl,HAJ2.out,HF.out,HG.out,HI.out.eqf HF2.out⟩
   case measure=>(simp[intOf])<;>omega
  case zc=>
   refine wpQuiet_nil ?_
   intro _ hw'
   obtain⟨tr,hw''⟩:=hw';subst hw'';clear z0 c00 f00 c01 f01 z1 c10 f10 c11 f11 z2 c20 f20 c21 f21;clear qz0 qc00 qf00 qc01 qf01;replace HF:=h_ (HF.out.more tr);replace HG:=h_ (HG.out.more tr);replace HI:=h_ (HI.out.more tr);replace g0:=keep_cell g0 (aa _ tr);replace g1:=keep_cell g1 (aa _ tr);replace gz:=Nat.lt_of_lt_of_le gz (ae _ tr);clear e0 e1 e2 e3 hbt;generalize more X2 tr=Y at *
   go_wp2_with (fail)
   go_roundw
   case rel=>exact⟨k+1,(j:Int),xn,xd,by omega,by go_num,rfl,HAJ2.out,HF.out,HG.out,HI.out.eqf HF2.out⟩
   case measure=>(simp[intOf])<;>omega
end Go.Proofs.YtkaiilmgemaljaaGreat

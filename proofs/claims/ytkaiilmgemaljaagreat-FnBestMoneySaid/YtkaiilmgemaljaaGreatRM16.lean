/- Part of one proof. There are no conditions. -/
import Derived.Test.YtkaiilmgemaljaaGreatRM14
import Derived.Test.YtkaiilmgemaljaaGreatRE5
set_option linter.unusedVariables false
set_option linter.unusedSimpArgs false
set_option maxHeartbeats 0
set_option maxRecDepth 100000
namespace Go.Proofs.YtkaiilmgemaljaaGreat
open Go.RowKit Ps Ra Ex Mo
structure WT where
 p:Int
 c:Nat
 h:Nat
 s:Nat
 K:Nat
 bv:Bool
 jc:Bool
 bt:Nat
 bk:Nat
 bw:Nat
 A:Option Addr
 nr:Nat
 cr:Nat
def WT.S (t:WT):Nat->Prop:=fun k=>k=t.bt\/k=t.bk\/k=t.bw
def WT.ru (t:WT):Ru:=⟨two t.K,t.bv⟩
def WT.N (t:WT):Nat:=wys t.h t.c
def WT.M (t:WT):Nat:=t.N*t.N*(1+2*t.K)
def WT.cells (t:WT):List Value:=[.int .i64 t.p,.int .i64 t.c,.int .i64 t.h,.int .i64 t.s,.int .i64 (two t.K),.bool t.bv,.bool t.jc,.int .i64 t.N,.slice t.A t.nr t.cr,.slice (some ⟨t.bk,0,none⟩) t.M t.M,.slice (some ⟨t.bw,0,none⟩) t.M t.M]
structure WT.Ok (t:WT):Prop where
 v:isVar t.p t.c t.h t.s=true
 n:t.N<=141
 k:t.K<=10
 m:t.M<=20000
 r:(ad t.s).length=t.nr
 c:t.nr<=t.cr
def WT.key (t:WT) (q r:List Int) (c:Cb):Nat:=(num t.c q*t.N+num t.c r)*(1+2*t.K)+cIdx t.K c
theorem WT.key_lt {t:WT} {q r:List Int} {c:Cb} (hq:PosP t.h t.c q) (hr:PosP t.h t.c r) (hc:CbOk t.K c):t.key q r c<t.M:=by
 have h1:=pair_lt (dj hq) (dj hr);have h2:=kP hc;have h3:(num t.c q*t.N+num t.c r+1)*(1+2*t.K)<=t.N*t.N*(1+2*t.K):=Nat.mul_le_mul_right _ h1;unfold WT.key WT.M;rw[Nat.add_mul,Nat.one_mul]at h3
 omega
theorem WT.key_inj {t:WT} {q r q' r':List Int} {c c':Cb} (hq:PosP t.h t.c q) (hr:PosP t.h t.c r) (hc:CbOk t.K c) (hq':PosP t.h t.c q') (hr':PosP t.h t.c r') (hc':CbOk t.K c') (h:t.key q r c=t.key q' r' c'):q=q'/\r=r'/\c=c':=by
 have h1:=kP hc;have h2:=kP hc';unfold WT.key at h;obtain⟨e1,e2⟩:=pair_inj h1 h2 h;obtain⟨e3,e4⟩:=pair_inj (dj hr) (dj hr') e1
 exact⟨iR hq hq' e3,iR hr hr' e4,cIdx_inj hc hc' e2⟩
theorem WT.M_pos (t:WT):0<t.M:=Nat.mul_pos (Nat.mul_pos (fq _ _) (fq _ _)) (by omega)
structure TabX (t:WT) (fl:Bool) (w:World) (kf:Nat->Bool) (ef:Nat->E):Prop where
 tb:∀j v,t.cells[j]? = some v->w.cell? ⟨t.bt,j,none⟩=some v
 fa:w.cell? ⟨t.bt,11,none⟩=some (.bool fl)
 ff:w.frozen? ⟨t.bt,11,none⟩=false
 rl:RL t.S w t.A t.nr (ad t.s)
 d1:t.bt≠t.bk
 d2:t.bt≠t.bw
 d:t.bk≠t.bw
 k:∀i,i<t.M->w.cell? ⟨t.bk,i,none⟩=some (.bool (kf i))
 e:∀i,i<t.M->w.cell? ⟨t.bw,i*2,none⟩=some (.int .i64 (ef i).num)/\w.cell? ⟨t.bw,i*2+1,none⟩=some (.int .i64 ((ef i).depth:Int))
 fk:∀j,w.frozen? ⟨t.bk,j,none⟩=false
 fv:∀j,w.frozen? ⟨t.bw,j,none⟩=false
def TabY (t:WT) (kf:Nat->Bool) (ef:Nat->E):Prop:=
 ∀q r c,PosP t.h t.c q->PosP t.h t.c r->CbOk t.K c->kf (t.key q r c)=true->eqv t.s t.ru q r c=some (ef (t.key q r c))
def TbI (t:WT) (fl:Bool) (w:World):Prop:=∃kf ef,TabX t fl w kf ef/\(∀i,i<t.M->Val (sq t.s) (ef i))/\(fl=false->TabY t kf ef)
section
variable {t:WT} {O:Nat->Prop} {w w':World} {kf:Nat->Bool} {ef:Nat->E} {fl:Bool}
theorem TabX.ltB (h:TabX t fl w kf ef):t.bt<w.heap.size:=World.block_lt_of_cell? w _ (h.tb 0 _ rfl)
theorem TabX.ltK (h:TabX t fl w kf ef):t.bk<w.heap.size:=World.block_lt_of_cell? w _ (h.k 0 t.M_pos)
theorem TabX.ltV (h:TabX t fl w kf ef):t.bw<w.heap.size:=World.block_lt_of_cell? w _ (h.e 0 t.M_pos).1
theorem TabX.frm (h:TabX t fl w kf ef) (hf:Frm O w w') (hO:∀k,O k->¬t.S k) (hr:RL t.S w' t.A t.nr (ad t.s)):TabX t fl w' kf ef:=by
 have h0:¬O t.bt:=fun h=>hO _ h (.inl rfl)
 have h1:¬O t.bk:=fun h=>hO _ h (.inr (.inl rfl))
 have h2:¬O t.bw:=fun h=>hO _ h (.inr (.inr rfl))
 exact⟨fun j v hv=>hf.cell' (h.tb j v hv) h0,hf.cell' h.fa h0,(aV hf h.ltB h0).trans h.ff,hr,h.d1,h.d2,h.d,fun i hi=>hf.cell' (h.k i hi) h1,fun i hi=>⟨hf.cell' (h.e i hi).1 h2,hf.cell' (h.e i hi).2 h2⟩,
  fun j=>(aV hf h.ltK h1).trans (h.fk j),fun j=>(aV hf h.ltV h2).trans (h.fv j)⟩
theorem TabX.below (h:TabX t fl w kf ef) (hb:Below w.heap.size w w'):TabX t fl w' kf ef:=h.frm (Frm.of_below hb) (fun _ h=>h.elim) (h.rl.below hb)
theorem TbI.below (h:TbI t fl w) (hb:Below w.heap.size w w'):TbI t fl w':=let ⟨kf,ef,h1,h2⟩:=h;⟨kf,ef,h1.below hb,h2⟩
theorem TbI.alloc (h:TbI t fl w) (o:Obj):TbI t fl (w.alloc o):=h.below ((Below.refl _ _).alloc (Nat.le_refl _) o)
theorem TbI.drew (h:TbI t fl w):TbI t fl w.drew:=h.below (drw (Below.refl _ _))
theorem TbI.more (h:TbI t fl w) (tr:World):TbI t fl (more w tr):=h.below (aa w tr)
def WT.rb (t:WT):Nat->Prop:=fun k=>∃b off,t.A=some ⟨b,off,none⟩/\k=b
theorem TbI.out (h:TbI t fl w) (hf:Frm O w w') (hO:∀k,O k->¬t.S k) (hr:∀k,O k->¬t.rb k):TbI t fl w':=by
 obtain⟨kf,ef,h1,h2⟩:=h
 refine⟨kf,ef,h1.frm hf hO ?_,h2⟩
 obtain⟨l1,l2,l3⟩:=h1.rl
 refine⟨l1,l2,fun hn=>?_⟩
 obtain⟨b,off,hA,hlt,hs,hc⟩:=l3 hn
 exact⟨b,off,hA,Nat.lt_of_lt_of_le hlt hf.size,hs,fun i hi=>hf.cell' (hc i hi) fun ho=>hr _ ho ⟨b,off,hA,rfl⟩⟩
theorem TbI.tb (h:TbI t fl w):∀j v,t.cells[j]? = some v->w.cell? ⟨t.bt,j,none⟩=some v:=let ⟨_,_,h1,_⟩:=h;h1.tb
theorem TbI.fa (h:TbI t fl w):w.cell? ⟨t.bt,11,none⟩=some (.bool fl):=let ⟨_,_,h1,_⟩:=h;h1.fa
theorem TbI.ff (h:TbI t fl w):w.frozen? ⟨t.bt,11,none⟩=false:=let ⟨_,_,h1,_⟩:=h;h1.ff
theorem TbI.rl (h:TbI t fl w):RL t.S w t.A t.nr (ad t.s):=let ⟨_,_,h1,_⟩:=h;h1.rl
theorem TbI.ltB (h:TbI t fl w):t.bt<w.heap.size:=let ⟨_,_,h1,_⟩:=h;h1.ltB
theorem TbI.ltS (h:TbI t fl w):∀k,t.S k->k<w.heap.size:=by
 obtain⟨_,_,h1,_⟩:=h
 rintro k (rfl|rfl|rfl)
 ·exact h1.ltB
 ·exact h1.ltK
 ·exact h1.ltV
theorem TbI.ltR (h:TbI t fl w) (hn:0<t.nr):∀k,t.rb k->k<w.heap.size:=by
 rintro k ⟨b,off,hA,rfl⟩
 obtain⟨_,_,l3⟩:=h.rl;have:=(ad t.s).length;obtain⟨b',off',hA',hlt,_⟩:=l3 hn;rw[hA]at hA';injection hA' with hA';injection hA' with e _ _
 rw[e];exact hlt
theorem TbI.stored (h:TbI t fl w) {b i:Nat} (v:Value) (hS:¬t.S b) (hr:¬t.rb b):TbI t fl (w.setCell ⟨b,i,none⟩ v):=h.out (Frm.set w b i v) (fun k hk=>by rw[hk];exact hS) fun k hk=>by rw[hk];exact hr
theorem TbI.fail (h:TbI t fl w):TbI t true (w.setCell ⟨t.bt,11,none⟩ (.bool true)):=by
 obtain⟨kf,ef,h1,h2,h3⟩:=h;have hf:=Frm.set w t.bt 11 (.bool true);have hk:¬t.bk=t.bt:=Ne.symm h1.d1;have hv:¬t.bw=t.bt:=Ne.symm h1.d2
 refine⟨kf,ef,⟨fun j v hj=>?_,World.cell?_setCell_same _ _ _ h1.fa,by have:=h1.ff;simp[go_sem,this],?_,h1.d1,h1.d2,h1.d,fun i hi=>hf.cell' (h1.k i hi) hk,fun i hi=>⟨hf.cell' (h1.e i hi).1 hv,hf.cell' (h1.e i hi).2 hv⟩,fun j=>(aV hf h1.ltK hk).trans (h1.fk j),fun j=>(aV hf h1.ltV hv).trans (h1.fv j)⟩,h2,fun h=>by cases h⟩
 ·have hj11:j<11:=(List.getElem?_eq_some_iff.1 hj).1
  exact (World.cell?_setCell_other _ _ _ _ (by intro e';simp only[Addr.mk.injEq]at e';omega)).trans (h1.tb j v hj)
 ·exact h1.rl.frm (hf.mono fun k hk=>.inl hk)
theorem TabX.setK (h:TabX t fl w kf ef) {K:Nat} (hK:K<t.M):TabX t fl (w.setCell ⟨t.bk,K,none⟩ (.bool true)) (updF kf K true) ef:=by
 have hf:=Frm.set w t.bk K (.bool true);have hb:¬t.bt=t.bk:=h.d1;have hv:¬t.bw=t.bk:=Ne.symm h.d
 refine⟨fun j v hv=>hf.cell' (h.tb j v hv) hb,hf.cell' h.fa hb,(aV hf h.ltB hb).trans h.ff,h.rl.frm (hf.mono fun k hk=>.inr (.inl hk)),h.d1,h.d2,h.d,fun i hi=>?_,fun i hi=>⟨hf.cell' (h.e i hi).1 hv,hf.cell' (h.e i hi).2 hv⟩,fun j=>?_,fun j=>(aV hf h.ltV hv).trans (h.fv j)⟩
 ·by_cases e:i=K
  ·subst e;rw[fQ];exact World.cell?_setCell_same _ _ _ (h.k i hi)
  ·rw[dA kf e]
   exact (World.cell?_setCell_other _ _ _ _ (by intro e';simp only[Addr.mk.injEq]at e';omega)).trans (h.k i hi)
 ·have:=h.fk j;simp[go_sem,this]
theorem TabX.setV (h:TabX t fl w kf ef) {K:Nat} (hK:K<t.M) (x:E):TabX t fl ((w.setCell ⟨t.bw,K*2,none⟩ (.int .i64 x.num)).setCell ⟨t.bw,K*2+1,none⟩ (.int .i64 (x.depth:Int))) kf (updF ef K x):=by
 have hf:Frm (fun k=>k=t.bw) w ((w.setCell ⟨t.bw,K*2,none⟩ (.int .i64 x.num)).setCell ⟨t.bw,K*2+1,none⟩ (.int .i64 (x.depth:Int))):=(Frm.set _ _ _ _).trans (Frm.set _ _ _ _)
 have hb:¬t.bt=t.bw:=h.d2;have hk:¬t.bk=t.bw:=h.d
 refine⟨fun j v hv=>hf.cell' (h.tb j v hv) hb,hf.cell' h.fa hb,(aV hf h.ltB hb).trans h.ff,h.rl.frm (hf.mono fun k hk=>.inr (.inr hk)),h.d1,h.d2,h.d,fun i hi=>hf.cell' (h.k i hi) hk,fun i hi=>?_,fun j=>(aV hf h.ltK hk).trans (h.fk j),fun j=>?_⟩
 ·obtain⟨e1,e2⟩:=h.e i hi
  by_cases e:i=K
  ·subst e
   rw[fQ]
   refine⟨?_,?_⟩
   ·exact (World.cell?_setCell_other _ _ _ _ (by intro e';simp only[Addr.mk.injEq]at e';omega)).trans (World.cell?_setCell_same _ _ _ e1)
   ·exact World.cell?_setCell_same _ _ _ ((World.cell?_setCell_other _ _ _ _ (by intro e';simp only[Addr.mk.injEq]at e';omega)).trans e2)
  ·rw[dA ef e]
   refine⟨?_,?_⟩
   ·exact (World.cell?_setCell_other _ _ _ _ (by intro e';simp only[Addr.mk.injEq]at e';omega)).trans ((World.cell?_setCell_other _ _ _ _ (by intro e';simp only[Addr.mk.injEq]at e';omega)).trans e1)
   ·exact (World.cell?_setCell_other _ _ _ _ (by intro e';simp only[Addr.mk.injEq]at e';omega)).trans ((World.cell?_setCell_other _ _ _ _ (by intro e';simp only[Addr.mk.injEq]at e';omega)).trans e2)
 ·have:=h.fv j;simp[go_sem,this]
theorem TabY.put (h:TabY t kf ef) {q r:List Int} {c:Cb} (hq:PosP t.h t.c q) (hr:PosP t.h t.c r) (hc:CbOk t.K c) {e:E} (he:eqv t.s t.ru q r c=some e):TabY t (updF kf (t.key q r c) true) (updF ef (t.key q r c) e):=by
 intro q' r' c' hq' hr' hc' hk
 by_cases e1:t.key q' r' c'=t.key q r c
 ·obtain⟨rfl,rfl,rfl⟩:=WT.key_inj hq' hr' hc' hq hr hc e1
  rw[fQ];exact he
 ·rw[dA kf e1]at hk
  rw[dA ef e1]
  exact h q' r' c' hq' hr' hc' hk
end
def RetT (t:WT) (w:World) (fl:Bool) (o:Option E) (e:Ending) (w':World):Prop:=
 ∃x:E,e = .returned (.agg #[.int .i64 x.num,.int .i64 (x.depth:Int)])/\Val (sq t.s) x/\TbI t (fl||o.isNone) w'/\Frm t.S w w'/\((fl||o.isNone)=false->o=some x)
def TabC' (t:WT) (f:FuncId) (own other:List Int) (c:Cb) (R:World->Bool->Ending->World->Prop):Prop:=∀(fl:Bool) (A B:Option Addr) (ca cb:Nat) (w:World),TbI t fl w->SQ t.S w A t.h own->t.h<=ca->SQ t.S w B t.h other->t.h<=cb->
 Calls Tryz.prog f #[.pointer (some ⟨t.bt,0,none⟩),.slice A t.h ca,.slice B t.h cb,.agg #[.int .i64 c.1,.int .i64 c.2]] w (R w fl)
def EqT (t:WT) (own other:List Int) (c:Cb):Prop:=TabC' t 108 own other c fun w fl=>RetT t w fl (eqv t.s t.ru own other c)
def RolT (t:WT) (own other:List Int) (c:Cb):Prop:=TabC' t 112 own other c fun w fl=>RetT t w fl (rol t.s t.ru own other c)
def RetTB (t:WT) (w:World) (fl:Bool) (o:Option (E×Bool)) (e:Ending) (w':World):Prop:=
 ∃(x:E) (b:Bool),e = .returned (.tuple #[.agg #[.int .i64 x.num,.int .i64 (x.depth:Int)],.bool b])/\Val (sq t.s) x/\TbI t (fl||o.isNone) w'/\Frm t.S w w'/\((fl||o.isNone)=false->o=some (x,b))
def RetTD (t:WT) (w:World) (fl:Bool) (o:Option (E×Int)) (e:Ending) (w':World):Prop:=
 ∃(x:E) (a:Int),e = .returned (.tuple #[.agg #[.int .i64 x.num,.int .i64 (x.depth:Int)],.int .i64 a])/\Val (sq t.s) x/\TbI t (fl||o.isNone) w'/\Frm t.S w w'/\((fl||o.isNone)=false->o=some (x,a))
def BevT (t:WT) (own other:List Int) (c:Cb):Prop:=TabC' t 233 own other c fun w fl=>RetTB t w fl (bev t.s t.ru own other c)
def DblT (t:WT) (own other:List Int) (c:Cb):Prop:=TabC' t 195 own other c fun w fl=>RetTD t w fl (dbl t.s t.ru own other c)
open Go.RowKit Ps Ra Ex Mo
theorem eql_cube (a b a' b':Int) (w:World):(binOp .eql 55 (.agg #[.int .i64 a,.int .i64 b]) (.agg #[.int .i64 a',.int .i64 b'])).run Tryz.prog w = .ok (.bool (decide (a=a'/\b=b'))) w:=by
 have u3:=Tryz.underlying2
 have hS:Tryz.prog.underlying 55=some (.struct (Tryz.prog.fieldsOf 55)):=by kernel_rfl
 have hp:Tryz.prog.stoodInHeld 55=false:=by kernel_rfl
 rw[run_eql_struct,show (10000:Nat)=9999+1 from rfl,run_equalIn_agg w 9999 55 _ _ hS hp]
 simp only[Program.fieldsOf,Tryz.underlying55]
 go_simp
 by_cases h1:a=a'<;>by_cases h2:b=b'<;>simp[h1,h2]
theorem l17Index_any (K:Nat) (b j:Bool) (v o:Int) (w:World) (hK:K<=10) (hc:CbOk K (v,o)):
  Calls Tryz.prog 193 #[.agg #[.int .i64 (two K),.bool b,.bool j],.agg #[.int .i64 v,.int .i64 o]] w fun e w'=>e = .returned (.int .i64 (cIdx K (v,o):Int))/\Below w.heap.size w w':=by
 have HC:=h_ fun (W:World)=>hZ K b j W hK
 have HL:Hid ((cubL K).length=1+2*K):=eX K;have HM:Hid (fIdx (cubL K) (v,o)<(cubL K).length/\(cubL K).getD (fIdx (cubL K) (v,o)) (0,0)=(v,o)):=gt (iA hc)
 have HA:Hid (∀k,k<(cubL K).length->(∀j,j<k->(cubL K).getD j (0,0)≠(v,o))->(cubL K).getD k (0,0)=(v,o)->fIdx (cubL K) (v,o)=k):=fun k h1 h2 h3=>fIdx_at h1 h2 h3
 have HX:Hid (cIdx K (v,o)=fIdx (cubL K) (v,o)):=rfl
 have HF0:=h_ (((Fr.start w).allocT (by simp) #[.int .i64 (two K),.bool b,.bool j] 53).allocT (by simp) #[.int .i64 v,.int .i64 o] 55)
 have hK21:1+2*K<=21:=by omega
 clear hc;generalize cubL K=L at *;generalize cIdx K (v,o)=ix at *;generalize two K=m at *
 go_enter Tryz.func193,Tryz.ntmps193
 go_wp2_with (fail)
 refine (HC.out _).mono ?_
 rintro e w1 ⟨u,rfl,ho,hb⟩
 obtain⟨g,c,rfl,hlc,hgz,_,hcell⟩:=ho.at (by rw[HL.out];omega)
 have HCell:=h_ hcell;have HF1:=h_ (HF0.out.below hb);have hgl:=h_ hgz;rw[HL.out];clear ho hb hcell hgz hlc HC HF0
 go_wp2_with (fail)
 go_loopw [6] (fun v6 wr=>∃k:Nat,k<=1+2*K/\v6 = .int .i64 k/\Hid (∀j,j<k->L.getD j (0,0)≠(v,o))/\Hid (Below w1.heap.size w1 wr)) (fun v6 _=>1+2*K-(intOf v6).toNat)
 case atStart=>exact⟨0,by omega,rfl,fun j h=>absurd h (by omega),Below.refl _ _⟩
 case round=>
  obtain⟨k,hk,rfl,HJ,HB⟩:=hrel;have HF:=h_ (HF1.out.below HB.out)
  by_cases hlt:k<1+2*K
  focus
   have hki:(k:Int)<((1+2*K:Nat):Int):=by omega
   obtain⟨d1,d2⟩:=HCell.out k (by rw[HL.out];exact hlt)
   have c1:=keep_cell d1 HB.out;have c2:=keep_cell d2 HB.out;have cz:=World.block_lt_of_cell? _ _ c1;have HD:=h_ (rfl:L.getD k (0,0)=L.getD k (0,0));clear d1 d2;generalize hE:L.getD k (0,0)=ev at *;obtain⟨ea,eb⟩:=ev;have HE:=h_ hE;clear hE HD
   simp only at c1 c2
   by_cases heq:ea=v/\eb=o
   focus
    have H:Hid (ix=k):=by
     unfold Hid;rw[HX.out]
     exact HA.out k (by rw[HL.out];exact hlt) HJ.out (by rw[HE.out,heq.1,heq.2])
    have hq:∀W:World,(binOp .eql 55 (.agg #[.int .i64 ea,.int .i64 eb]) (.agg #[.int .i64 v,.int .i64 o])).run Tryz.prog W = .ok (.bool true) W:=fun W=>by rw[eql_cube,decide_eq_true heq]
    refine ?za
   rotate_left
   focus
    have hq:∀W:World,(binOp .eql 55 (.agg #[.int .i64 ea,.int .i64 eb]) (.agg #[.int .i64 v,.int .i64 o])).run Tryz.prog W = .ok (.bool false) W:=fun W=>by rw[eql_cube,decide_eq_false heq]
    have HN:Hid ((ea,eb)≠(v,o)):=fun h=>heq (by injection h with h1 h2;exact⟨h1,h2⟩)
    refine ?zb
  rotate_left 2
  ·exfalso
   have h1:=HM.out
   exact HJ.out _ (by rw[HL.out]at h1;omega) h1.2
  case' za|zb=>
   clear heq
   have z0:=HF.out.l0 (by simp)
   have c00:=HF.out.c0 0 rfl;have f00:=HF.out.f0 0 rfl;have c01:=HF.out.c0 1 rfl;have f01:=HF.out.f0 1 rfl;have c02:=HF.out.c0 2 rfl;have f02:=HF.out.f0 2 rfl
   have z1:=HF.out.l1 (by simp)
   have c10:=HF.out.c1 0 rfl;have f10:=HF.out.f1 0 rfl;have c11:=HF.out.c1 1 rfl;have f11:=HF.out.f1 1 rfl
   go_wp2_with (fail)
   first|refine ab (by kernel_rfl) (by kernel_rfl) ?_|refine ac (by kernel_rfl) (by kernel_rfl) ?_
   repeat (first|go_big_quiet_step (fail)|quiet_step (fail))
   refine wpQuiet_nil ?_
   intro _ hw'
  case za=>
   obtain⟨tr,hw''⟩:=hw';subst hw'';clear z0 c00 f00 c01 f01 c02 f02 z1 c10 f10 c11 f11;have hbe:=h_ (HF.out.b.trans ((aa wr tr).mono HF.out.b.size))
   go_wp2_with (fail)
   go_ret
   exact⟨by rw[H.out]<;>rfl,hbe.out⟩
  case zb=>
   obtain⟨tr,hw''⟩:=hw';subst hw'';clear z0 c00 f00 c01 f01 c02 f02 z1 c10 f10 c11 f11;have hbe:=h_ (HB.out.trans ((aa wr tr).mono HB.out.size))
   go_wp2_with (fail)
   go_roundw
   case rel=>exact⟨k+1,by omega,by go_num,fun j hj=>by
    by_cases e:j=k
    ·rw[e,HE.out];exact HN.out
    ·exact HJ.out j (by omega),hbe.out⟩
   case measure=>(simp[intOf])<;>omega
def RetNW (w:World) (p:Int) (c h s K:Nat) (b j:Bool) (e:Ending) (w':World):Prop:=
 ∃t:WT,t.p=p/\t.c=c/\t.h=h/\t.s=s/\t.K=K/\t.bv=b/\e = .returned (.pointer (some ⟨t.bt,0,none⟩))/\t.Ok/\TbI t false w'/\(∀k,t.S k->w.heap.size<=k)/\(∀k,t.rb k->w.heap.size<=k)/\Below w.heap.size w w'
def nwG (w:World) (p:Int) (c h s:Nat) (m:Int) (b j:Bool) (N M:Nat) (i:Nat) (v:Value) (lo hi:Nat) (W:World):Prop:=
 match i with
 | 0=>v = .agg #[.int .i64 p,.int .i64 c,.int .i64 h,.int .i64 s]
 | 1=>v = .agg #[.int .i64 m,.bool b,.bool j]
 | 2=>v = .int .i64 (N:Int)
 | 3=>v = .agg #[.int .i64 p,.int .i64 c,.int .i64 h,.int .i64 s]
 | 4=>OwnR W lo v (ad s)/\∀k,v.ownBlock=some k->k<hi
 | 5=>v = .int .i64 (M:Int)
 | 6=>v = .slice (some ⟨lo,0,none⟩) M M/\lo<hi/\W.ownsRow lo 4 1 v M (madeCells #[.bool false] (M*1)).toList
 | 7=>v = .int .i64 (M:Int)
 | _=>v = .slice (some ⟨lo,0,none⟩) M M/\lo<hi/\W.ownsRow lo 35 2 v M (madeCells #[.int .i64 0,.int .i64 0] (M*2)).toList
theorem nwG_stab {w:World} {p:Int} {c h s:Nat} {m:Int} {b j:Bool} {N M:Nat} (i:Nat) (v:Value) (lo hi:Nat) (W W':World) (hg:nwG w p c h s m b j N M i v lo hi W) (hb:Below W.heap.size W W'):nwG w p c h s m b j N M i v lo hi W':=by
 unfold nwG at *
 split at hg<;>first|exact hg|exact⟨own_below hg.1 hb,hg.2⟩|exact⟨hg.1,hg.2.1,own_below hg.2.2 hb⟩
theorem jJ (p:Int) (c h s K:Nat) (b j:Bool) (w:World) (hv:isVar p c h s=true) (hK:K<=10) (hg:gamB h c K=true):
  Calls Tryz.prog 107 #[.agg #[.int .i64 p,.int .i64 c,.int .i64 h,.int .i64 s],.agg #[.int .i64 (two K),.bool b,.bool j]] w (RetNW w p c h s K b j):=by
 obtain⟨ib,hib,hb0,hb1,hb2⟩:=info_parts Tryz.infoB;obtain⟨ie,hie,he0,he1,he2⟩:=info_parts Tryz.infoE;have hvv:=aj hv
 have hs6:s<=6:=by omega
 obtain⟨hN,hM⟩:=eV hg;have HV:=h_ hv;have HN:=h_ hN;have HK:=h_ hK
 have CN:=h_ fun (W:World)=>bS p s c h W hv
 rw[cO (by omega)]at CN
 have CC:=h_ fun (W:World)=>du K b j W hK
 have CR:=h_ fun (W:World)=>eF p c h s W hs6
 obtain⟨N,hNN⟩:∃N,N=wys h c:=⟨_,rfl⟩;have HNN:=h_ hNN;rw[<- hNN]at CN hM hN;have hmm:N*N<=141*141:=Nat.mul_le_mul hN hN;obtain⟨M,hMM⟩:∃M,M=N*N*(1+2*K):=⟨_,rfl⟩;have HMM:=h_ hMM
 have hMi:(M:Int)=((N*N:Nat):Int)*cntC K:=by rw[hMM];unfold cntC;simp
 have hM2:M<=20000:=by rw[<- hMi]at hM;omega
 have hw1:IntKind.i64.wrap ((N:Int)*(N:Int))=((N*N:Nat):Int):=by
  rw[<- Int.natCast_mul];exact IntWalk.i64_in _ (by omega)
 have hw2:IntKind.i64.wrap (((N*N:Nat):Int)*cntC K)=(M:Int):=by rw[<- hMi];exact IntWalk.i64_in _ (by omega)
 obtain⟨mo,hmo⟩:∃mo,mo=two K:=⟨_,rfl⟩;have HMO:=h_ hmo;rw[<- hmo]at CC ⊢
 have HF0:=h_ (((Fr.start w).allocT (by simp) #[.int .i64 p,.int .i64 c,.int .i64 h,.int .i64 s] 25).allocT (by simp) #[.int .i64 mo,.bool b,.bool j] 53)
 obtain⟨N2,hN2⟩:∃N2,N2=N*N:=⟨_,rfl⟩;rw[<- hN2]at hw1 hw2;generalize cntC K=cn at *;clear hv hN hvv hg hM hNN hMM hMi hmo hK hN2 hmm
 go_enter Tryz.func107,Tryz.ntmps107
 go_wp2_with (first|(go_at_call 140;(with_reducible refine (more_first (CN.out _)).mono ?_);rintro e w' ⟨rfl,tr,rfl⟩)|(go_at_call 191;(with_reducible refine (more_call (CC.out _)).mono ?_);rintro e w' ⟨rfl,tr,rfl⟩))
 clear CN CC;have HF:=h_ (HF0.out.below (aa _ tr));generalize more ((w.alloc (.cells #[.int .i64 p,.int .i64 c,.int .i64 h,.int .i64 s] 25)).alloc (.cells #[.int .i64 mo,.bool b,.bool j] 53)) tr=W0 at *;clear HF0
 refine cd 9 (fun i=>i+15) (nwG w p c h s mo b j N M) (by kernel_rfl) (by kernel_rfl) (fun _ _ _ _ _ h=>h) nwG_stab ?_ ?_
 ·intro i op hi ho a' W hb hfar hdep
  have e2:a'.tmps.getD 2 undef = .pointer (some ⟨w.heap.size,0,none⟩):=(hfar 2 (fun j _=>by omega)).trans rfl
  have e3:a'.tmps.getD 3 undef = .pointer (some ⟨w.heap.size+1,0,none⟩):=(hfar 3 (fun j _=>by omega)).trans rfl
  have e5:a'.tmps.getD 5 undef = .int .i64 (N:Int):=(hfar 5 (fun j _=>by omega)).trans rfl
  have e6:a'.tmps.getD 6 undef = .int .i64 (M:Int):=(hfar 6 (fun j _=>by omega)).trans rfl
  have HFh:=h_ (HF.out.below hb)
  have z0:=HFh.out.l0 (by simp)
  have c00:=HFh.out.c0 0 rfl;have f00:=HFh.out.f0 0 rfl;have c01:=HFh.out.c0 1 rfl;have f01:=HFh.out.f0 1 rfl;have c02:=HFh.out.c0 2 rfl;have f02:=HFh.out.f0 2 rfl;have c03:=HFh.out.c0 3 rfl;have f03:=HFh.out.f0 3 rfl
  have z1:=HFh.out.l1 (by simp)
  have c10:=HFh.out.c1 0 rfl;have f10:=HFh.out.f1 0 rfl;have c11:=HFh.out.c1 1 rfl;have f11:=HFh.out.f1 1 rfl;have c12:=HFh.out.c1 2 rfl;have f12:=HFh.out.f1 2 rfl
  have hi9:i=0\/i=1\/i=2\/i=3\/i=4\/i=5\/i=6\/i=7\/i=8:=by omega
  rcases hi9 with rfl|rfl|rfl|rfl|rfl|rfl|rfl|rfl|rfl
  all_goals
   simp at ho
   subst ho
  ·exact .inl ⟨.agg #[.int .i64 p,.int .i64 c,.int .i64 h,.int .i64 s],W,by simp only[execOp,Act.eval,e2];go_simp,Below.refl _ _,rfl⟩
  ·exact .inl ⟨.agg #[.int .i64 mo,.bool b,.bool j],W,by simp only[execOp,Act.eval,e3];go_simp,Below.refl _ _,rfl⟩
  ·exact .inl ⟨.int .i64 (N:Int),W,by simp only[execOp,Act.eval,e5];go_simp,Below.refl _ _,rfl⟩
  ·exact .inl ⟨.agg #[.int .i64 p,.int .i64 c,.int .i64 h,.int .i64 s],W,by simp only[execOp,Act.eval,e2];go_simp,Below.refl _ _,rfl⟩
  ·obtain⟨_,_,d0⟩:=hdep 3 (by omega) (by kernel_rfl)
   replace d0:a'.tmps.getD 18 undef = .agg #[.int .i64 p,.int .i64 c,.int .i64 h,.int .i64 s]:=d0
   refine .inr ⟨87,#[.agg #[.int .i64 p,.int .i64 c,.int .i64 h,.int .i64 s]],by simp only[execOp,Act.eval,d0];go_simp,?_⟩
   refine (CR.out W).mono ?_
   rintro e W' ⟨v,rfl,ho,hb'⟩
   exact⟨_,rfl,hb',ho,fun k hk=>(World.ownsRow.lt ho k hk).2⟩
  ·exact .inl ⟨.int .i64 (M:Int),W,by simp only[execOp,Act.eval,e6];go_simp,Below.refl _ _,rfl⟩
  ·obtain⟨_,_,d0⟩:=hdep 5 (by omega) (by kernel_rfl)
   replace d0:a'.tmps.getD 20 undef = .int .i64 (M:Int):=d0
   obtain⟨W',hrun,hown,hgr⟩:=run_make_full (P:=Tryz.prog) W W.heap.size 142 4 ib (.bool false) 1 Tryz.underlying142 hib hb0 hb1 .i64 .i64 M (by rw[hb2];omega) (by unfold maxLen;omega) (Nat.le_refl _)
   refine .inl ⟨.slice (some ⟨W.heap.size,0,none⟩) M M,W',?_,⟨hgr.os,hgr.tape,hgr.output,hgr.size,fun k hk=>hgr.block k hk (by simp)⟩,rfl,(World.ownsRow.lt hown W.heap.size rfl).2,hown⟩
   simp only[execOp,Act.eval,d0]
   go_simp
  ·exact .inl ⟨.int .i64 (M:Int),W,by simp only[execOp,Act.eval,e6];go_simp,Below.refl _ _,rfl⟩
  ·obtain⟨_,_,d0⟩:=hdep 7 (by omega) (by kernel_rfl)
   replace d0:a'.tmps.getD 22 undef = .int .i64 (M:Int):=d0
   obtain⟨W',hrun,hown,hgr⟩:=run_make_full (P:=Tryz.prog) W W.heap.size 29 35 ie (.agg #[.int .i64 0,.int .i64 0]) 2 Tryz.underlying29 hie he0 he1 .i64 .i64 M (by rw[he2];omega) (by unfold maxLen;omega) (Nat.le_refl _)
   refine .inl ⟨.slice (some ⟨W.heap.size,0,none⟩) M M,W',?_,⟨hgr.os,hgr.tape,hgr.output,hgr.size,fun k hk=>hgr.block k hk (by simp)⟩,rfl,(World.ownsRow.lt hown W.heap.size rfl).2,hown⟩
   simp only[execOp,Act.eval,d0]
   go_simp
 ·intro v W lo hi hb hg hd
  have hz0:w.heap.size+2<=W0.heap.size:=by have:=HF.out.z;simpa using this
  have HBW:Below w.heap.size w W:=HF.out.b.trans (hb.mono (by omega))
  have g0:v 0 = .agg #[.int .i64 p,.int .i64 c,.int .i64 h,.int .i64 s]:=(hg 0 (by omega)).1
  have g1:v 1 = .agg #[.int .i64 mo,.bool b,.bool j]:=(hg 1 (by omega)).1
  have g2:v 2 = .int .i64 (N:Int):=(hg 2 (by omega)).1
  have g3:v 3 = .agg #[.int .i64 p,.int .i64 c,.int .i64 h,.int .i64 s]:=(hg 3 (by omega)).1
  obtain⟨o4,h4⟩:nwG w p c h s mo b j N M 4 (v 4) (lo 4) (hi 4) W:=(hg 4 (by omega)).1
  have g5:v 5 = .int .i64 (M:Int):=(hg 5 (by omega)).1
  obtain⟨g6,l6,o6⟩:nwG w p c h s mo b j N M 6 (v 6) (lo 6) (hi 6) W:=(hg 6 (by omega)).1
  have g7:v 7 = .int .i64 (M:Int):=(hg 7 (by omega)).1
  obtain⟨g8,l8,o8⟩:nwG w p c h s mo b j N M 8 (v 8) (lo 8) (hi 8) W:=(hg 8 (by omega)).1
  have d46:=hd 4 6 (by omega) (by omega) (by omega)
  have d48:=hd 4 8 (by omega) (by omega) (by omega)
  have d68:=hd 6 8 (by omega) (by omega) (by omega)
  have z4:=hg 4 (by omega)
  have z6:=hg 6 (by omega)
  have z8:=hg 8 (by omega)
  rw[g6]at o6;rw[g8]at o8;have q6:=World.ownsRow.lt o6 (lo 6) rfl;have q8:=World.ownsRow.lt o8 (lo 8) rfl
  have hrb:∀k,(v 4).ownBlock=some k->¬(k=W.heap.size\/k=lo 6\/k=lo 8):=fun k hk hor=>by
   have h1:=(World.ownsRow.lt o4 k hk);have h2:=h4 k hk
   rcases hor with rfl|rfl|rfl
   ·omega
   ·omega
   ·omega
  obtain⟨A,cr,hv4,hsl,hcr⟩:=cJ (S:=fun k=>k=W.heap.size\/k=lo 6\/k=lo 8) o4 hrb (by omega)
  have HR:Hid (∀W',W'=W.alloc (.cells #[.int .i64 p,.int .i64 c,.int .i64 h,.int .i64 s,.int .i64 mo,.bool b,.bool j,.int .i64 (N:Int),.slice A (ad s).length cr,.slice (some ⟨lo 6,0,none⟩) M M,.slice (some ⟨lo 8,0,none⟩) M M,.bool false] 144)->RetNW w p c h s K b j (.returned (.pointer (some ⟨W.heap.size,0,none⟩))) W'):=fun W' hW'=>by
   subst hW';have hz:w.heap.size<=W.heap.size:=HBW.size
   have hMt:(⟨p,c,h,s,K,b,j,W.heap.size,lo 6,lo 8,A,(ad s).length,cr⟩:WT).M=M:=by rw[HMM.out,HNN.out];rfl
   have hNt:(⟨p,c,h,s,K,b,j,W.heap.size,lo 6,lo 8,A,(ad s).length,cr⟩:WT).N=N:=HNN.out.symm
   refine⟨⟨p,c,h,s,K,b,j,W.heap.size,lo 6,lo 8,A,(ad s).length,cr⟩,rfl,rfl,rfl,rfl,rfl,rfl,rfl,⟨HV.out,HN.out,HK.out,by rw[hMt];exact hM2,rfl,hcr⟩,⟨fun _=>false,fun _=>⟨0,0⟩,⟨fun i v hj=>?_,?_,?_,⟨rfl,hsl.alloc _⟩,?_,?_,?_,fun i hi=>?_,fun i hi=>?_,fun i=>?_,fun i=>?_⟩,fun i _=>eL,fun _ q r cc _ _ _ hk=>by cases hk⟩,?_,?_,HBW.alloc hz _⟩
   ·have:(#[.int .i64 p,.int .i64 c,.int .i64 h,.int .i64 s,.int .i64 mo,.bool b,.bool j,.int .i64 (N:Int),.slice A (ad s).length cr,.slice (some ⟨lo 6,0,none⟩) M M,.slice (some ⟨lo 8,0,none⟩) M M,.bool false]:Array Value)[i]? = some v:=by
     have h11:i<11:=(List.getElem?_eq_some_iff.1 hj).1;unfold WT.cells at hj;rw[hMt,hNt]at hj;rw[HMO.out,<- hj]
     have hc:i=0\/i=1\/i=2\/i=3\/i=4\/i=5\/i=6\/i=7\/i=8\/i=9\/i=10:=by omega
     rcases hc with rfl|rfl|rfl|rfl|rfl|rfl|rfl|rfl|rfl|rfl|rfl<;>rfl
    simp[go_sem,this]
   ·simp[go_sem]
   ·simp[go_sem]
   ·show W.heap.size≠lo 6;omega
   ·show W.heap.size≠lo 8;omega
   ·show lo 6≠lo 8;omega
   ·rw[hMt]at hi
    rw[am _ _ _ q6.2,o6.cellAt i (by omega),made_b _ _ hi]
   ·rw[hMt]at hi
    rw[am _ _ _ q8.2,am _ _ _ q8.2,o8.cellAt (i*2) (by omega),o8.cellAt (i*2+1) (by omega),made_e _ _ (by omega),made_e _ _ (by omega)]
    exact⟨rfl,rfl⟩
   ·rw[aB _ _ _ q6.2];exact o6.frozenAt i
   ·rw[aB _ _ _ q8.2];exact o8.frozenAt i
   ·rintro k (rfl|rfl|rfl)
    ·exact hz
    ·show w.heap.size<=lo 6;have:=z6.2.1;omega
    ·show w.heap.size<=lo 8;have:=z8.2.1;omega
   ·rintro k ⟨bb,off,hA,rfl⟩
    have hA':A=some ⟨k,off,none⟩:=hA
    have h1:=(World.ownsRow.lt o4 k (by rw[hv4,hA'];rfl)).1
    have:=z4.2.1
    omega
  clear o4 o6 o8 hg hd hb hrb hsl h4 d46 d48 d68 z4 z6 z8 q6 q8 l6 l8 hcr
  simp only[List.drop_succ_cons,List.drop_zero,putV,g0,g1,g2,g3,hv4,g5,g6,g7,g8,Act.put]
  clear g0 g1 g2 g3 hv4 g5 g6 g7 g8 hw1 hw2
  go_wp2_with (fail)
  go_ret
  exact HR.out _ rfl
end Go.Proofs.YtkaiilmgemaljaaGreat

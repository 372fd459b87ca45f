/- Part of one proof. There are no conditions. -/
import Derived.Test.YtkaiilmgemaljaaGreatAM14
import Derived.Test.YtkaiilmgemaljaaGreatAZr
set_option linter.unusedVariables false
set_option linter.unusedSimpArgs false
namespace Go.Proofs.YtkaiilmgemaljaaGreat
open Go.RowKit Ps Ra Ex Mo
structure WT where
 p:Int
 c:Nat
 h:Nat
 s:Nat
 K:Nat
 bv:Bool
 jc:Bool
 bt:Nat
 bk:Nat
 bw:Nat
 A:Option Addr
 nr:Nat
 cr:Nat
def WT.S (t:WT):Nat→Prop:=fun k=>k=t.bt∨k=t.bk∨k=t.bw
def WT.ru (t:WT):Ru:=⟨two t.K,t.bv⟩
def WT.N (t:WT):Nat:=wys t.h t.c
def WT.M (t:WT):Nat:=t.N*t.N*(1+2*t.K)
def WT.cells (t:WT):List Value:=[.int .i64 t.p,.int .i64 t.c,.int .i64 t.h,.int .i64 t.s,.int .i64 (two t.K),.bool t.bv,.bool t.jc,.int .i64 t.N,.slice t.A t.nr t.cr,.slice (some ⟨t.bk,0,none⟩) t.M t.M,.slice (some ⟨t.bw,0,none⟩) t.M t.M]
structure WT.Ok (t:WT):Prop where
 v:isVar t.p t.c t.h t.s=true
 n:t.N≤141
 k:t.K≤10
 m:t.M≤20000
 r:(zaf t.s).length=t.nr
 c:t.nr≤t.cr
def WT.key (t:WT) (q r:List Int) (c:Cb):Nat:=(num t.c q*t.N+num t.c r)*(1+2*t.K)+cIdx t.K c
theorem WT.key_lt {t:WT} {q r:List Int} {c:Cb} (hq:PosP t.h t.c q) (hr:PosP t.h t.c r) (hc:CbOk t.K c):t.key q r c<t.M:=by
 have h1:=pair_lt (zch hq) (zch hr);have h2:=zhr hc;have h3:(num t.c q*t.N+num t.c r+1)*(1+2*t.K)≤t.N*t.N*(1+2*t.K):=Nat.mul_le_mul_right _ h1;unfold WT.key WT.M;rw[Nat.add_mul,Nat.one_mul]at h3
 omega
theorem WT.key_inj {t:WT} {q r q' r':List Int} {c c':Cb} (hq:PosP t.h t.c q) (hr:PosP t.h t.c r) (hc:CbOk t.K c) (hq':PosP t.h t.c q') (hr':PosP t.h t.c r') (hc':CbOk t.K c') (h:t.key q r c=t.key q' r' c'):q=q'∧r=r'∧c=c':=by
 have h1:=zhr hc;have h2:=zhr hc';unfold WT.key at h;obtain⟨e1,e2⟩:=pair_inj h1 h2 h;obtain⟨e3,e4⟩:=pair_inj (zch hr) (zch hr') e1
 exact⟨zfD hq hq' e3,zfD hr hr' e4,cIdx_inj hc hc' e2⟩
theorem WT.M_pos (t:WT):0<t.M:=Nat.mul_pos (Nat.mul_pos (zdC _ _) (zdC _ _)) (by omega)
structure TabX (t:WT) (fl:Bool) (w:World) (kf:Nat→Bool) (ef:Nat→E):Prop where
 tb:∀j v,t.cells[j]? = some v→w.cell? ⟨t.bt,j,none⟩=some v
 fa:w.cell? ⟨t.bt,11,none⟩=some (.bool fl)
 ff:w.frozen? ⟨t.bt,11,none⟩=false
 rl:RL t.S w t.A t.nr (zaf t.s)
 d1:t.bt≠t.bk
 d2:t.bt≠t.bw
 d:t.bk≠t.bw
 k:∀i,i<t.M→w.cell? ⟨t.bk,i,none⟩=some (.bool (kf i))
 e:∀i,i<t.M→w.cell? ⟨t.bw,i*2,none⟩=some (.int .i64 (ef i).num)∧w.cell? ⟨t.bw,i*2+1,none⟩=some (.int .i64 ((ef i).depth:Int))
 fk:∀j,w.frozen? ⟨t.bk,j,none⟩=false
 fv:∀j,w.frozen? ⟨t.bw,j,none⟩=false
def TabY (t:WT) (kf:Nat→Bool) (ef:Nat→E):Prop:=
 ∀q r c,PosP t.h t.c q→PosP t.h t.c r→CbOk t.K c→kf (t.key q r c)=true→eqv t.s t.ru q r c=some (ef (t.key q r c))
def TbI (t:WT) (fl:Bool) (w:World):Prop:=∃kf ef,TabX t fl w kf ef∧(∀i,i<t.M→Val (sq t.s) (ef i))∧(fl=false→TabY t kf ef)
section
variable {t:WT} {O:Nat→Prop} {w w':World} {kf:Nat→Bool} {ef:Nat→E} {fl:Bool}
theorem TabX.ltB (h:TabX t fl w kf ef):t.bt<w.heap.size:=World.block_lt_of_cell? w _ (h.tb 0 _ rfl)
theorem TabX.ltK (h:TabX t fl w kf ef):t.bk<w.heap.size:=World.block_lt_of_cell? w _ (h.k 0 t.M_pos)
theorem TabX.ltV (h:TabX t fl w kf ef):t.bw<w.heap.size:=World.block_lt_of_cell? w _ (h.e 0 t.M_pos).1
theorem TabX.frm (h:TabX t fl w kf ef) (hf:Frm O w w') (hO:∀k,O k→¬t.S k) (hr:RL t.S w' t.A t.nr (zaf t.s)):TabX t fl w' kf ef:=by
 have h0:¬O t.bt:=fun h=>hO _ h (.inl rfl)
 have h1:¬O t.bk:=fun h=>hO _ h (.inr (.inl rfl))
 have h2:¬O t.bw:=fun h=>hO _ h (.inr (.inr rfl))
 exact⟨fun j v hv=>hf.cell' (h.tb j v hv) h0,hf.cell' h.fa h0,(zaI hf h.ltB h0).trans h.ff,hr,h.d1,h.d2,h.d,fun i hi=>hf.cell' (h.k i hi) h1,fun i hi=>⟨hf.cell' (h.e i hi).1 h2,hf.cell' (h.e i hi).2 h2⟩,
  fun j=>(zaI hf h.ltK h1).trans (h.fk j),fun j=>(zaI hf h.ltV h2).trans (h.fv j)⟩
theorem TabX.below (h:TabX t fl w kf ef) (hb:Below w.heap.size w w'):TabX t fl w' kf ef:=h.frm (Frm.of_below hb) (fun _ h=>h.elim) (h.rl.below hb)
theorem TbI.below (h:TbI t fl w) (hb:Below w.heap.size w w'):TbI t fl w':=let ⟨kf,ef,h1,h2⟩:=h;⟨kf,ef,h1.below hb,h2⟩
theorem TbI.alloc (h:TbI t fl w) (o:Obj):TbI t fl (w.alloc o):=h.below ((Below.refl _ _).alloc (Nat.le_refl _) o)
theorem TbI.drew (h:TbI t fl w):TbI t fl w.drew:=h.below (drw (Below.refl _ _))
theorem TbI.more (h:TbI t fl w) (tr:World):TbI t fl (more w tr):=h.below (zaa w tr)
def WT.rb (t:WT):Nat→Prop:=fun k=>∃b off,t.A=some ⟨b,off,none⟩∧k=b
theorem TbI.out (h:TbI t fl w) (hf:Frm O w w') (hO:∀k,O k→¬t.S k) (hr:∀k,O k→¬t.rb k):TbI t fl w':=by
 obtain⟨kf,ef,h1,h2⟩:=h
 refine⟨kf,ef,h1.frm hf hO ?_,h2⟩
 obtain⟨l1,l2,l3⟩:=h1.rl
 refine⟨l1,l2,fun hn=>?_⟩
 obtain⟨b,off,hA,hlt,hs,hc⟩:=l3 hn
 exact⟨b,off,hA,Nat.lt_of_lt_of_le hlt hf.size,hs,fun i hi=>hf.cell' (hc i hi) fun ho=>hr _ ho ⟨b,off,hA,rfl⟩⟩
theorem TbI.tb (h:TbI t fl w):∀j v,t.cells[j]? = some v→w.cell? ⟨t.bt,j,none⟩=some v:=let ⟨_,_,h1,_⟩:=h;h1.tb
theorem TbI.fa (h:TbI t fl w):w.cell? ⟨t.bt,11,none⟩=some (.bool fl):=let ⟨_,_,h1,_⟩:=h;h1.fa
theorem TbI.ff (h:TbI t fl w):w.frozen? ⟨t.bt,11,none⟩=false:=let ⟨_,_,h1,_⟩:=h;h1.ff
theorem TbI.rl (h:TbI t fl w):RL t.S w t.A t.nr (zaf t.s):=let ⟨_,_,h1,_⟩:=h;h1.rl
theorem TbI.ltB (h:TbI t fl w):t.bt<w.heap.size:=let ⟨_,_,h1,_⟩:=h;h1.ltB
theorem TbI.ltS (h:TbI t fl w):∀k,t.S k→k<w.heap.size:=by
 obtain⟨_,_,h1,_⟩:=h
 rintro k (rfl|rfl|rfl)
 ·exact h1.ltB
 ·exact h1.ltK
 ·exact h1.ltV
theorem TbI.ltR (h:TbI t fl w) (hn:0<t.nr):∀k,t.rb k→k<w.heap.size:=by
 rintro k ⟨b,off,hA,rfl⟩
 obtain⟨_,_,l3⟩:=h.rl;have:=(zaf t.s).length;obtain⟨b',off',hA',hlt,_⟩:=l3 hn;rw[hA]at hA';injection hA' with hA';injection hA' with e _ _
 rw[e];exact hlt
theorem TbI.stored (h:TbI t fl w) {b i:Nat} (v:Value) (hS:¬t.S b) (hr:¬t.rb b):TbI t fl (w.setCell ⟨b,i,none⟩ v):=h.out (Frm.set w b i v) (fun k hk=>by rw[hk];exact hS) fun k hk=>by rw[hk];exact hr
theorem TbI.fail (h:TbI t fl w):TbI t true (w.setCell ⟨t.bt,11,none⟩ (.bool true)):=by
 obtain⟨kf,ef,h1,h2,h3⟩:=h;have hf:=Frm.set w t.bt 11 (.bool true);have hk:¬t.bk=t.bt:=Ne.symm h1.d1;have hv:¬t.bw=t.bt:=Ne.symm h1.d2
 refine⟨kf,ef,⟨fun j v hj=>?_,World.cell?_setCell_same _ _ _ h1.fa,by have:=h1.ff;simp[go_sem,this],?_,h1.d1,h1.d2,h1.d,fun i hi=>hf.cell' (h1.k i hi) hk,fun i hi=>⟨hf.cell' (h1.e i hi).1 hv,hf.cell' (h1.e i hi).2 hv⟩,fun j=>(zaI hf h1.ltK hk).trans (h1.fk j),fun j=>(zaI hf h1.ltV hv).trans (h1.fv j)⟩,h2,fun h=>by cases h⟩
 ·have hj11:j<11:=(List.getElem?_eq_some_iff.1 hj).1
  exact (World.cell?_setCell_other _ _ _ _ (by intro e';simp only[Addr.mk.injEq]at e';omega)).trans (h1.tb j v hj)
 ·exact h1.rl.frm (hf.mono fun k hk=>.inl hk)
theorem TabX.setK (h:TabX t fl w kf ef) {K:Nat} (hK:K<t.M):TabX t fl (w.setCell ⟨t.bk,K,none⟩ (.bool true)) (updF kf K true) ef:=by
 have hf:=Frm.set w t.bk K (.bool true);have hb:¬t.bt=t.bk:=h.d1;have hv:¬t.bw=t.bk:=Ne.symm h.d
 refine⟨fun j v hv=>hf.cell' (h.tb j v hv) hb,hf.cell' h.fa hb,(zaI hf h.ltB hb).trans h.ff,h.rl.frm (hf.mono fun k hk=>.inr (.inl hk)),h.d1,h.d2,h.d,fun i hi=>?_,fun i hi=>⟨hf.cell' (h.e i hi).1 hv,hf.cell' (h.e i hi).2 hv⟩,fun j=>?_,fun j=>(zaI hf h.ltV hv).trans (h.fv j)⟩
 ·by_cases e:i=K
  ·subst e;rw[zdY];exact World.cell?_setCell_same _ _ _ (h.k i hi)
  ·rw[zcm kf e]
   exact (World.cell?_setCell_other _ _ _ _ (by intro e';simp only[Addr.mk.injEq]at e';omega)).trans (h.k i hi)
 ·have:=h.fk j;simp[go_sem,this]
theorem TabX.setV (h:TabX t fl w kf ef) {K:Nat} (hK:K<t.M) (x:E):TabX t fl ((w.setCell ⟨t.bw,K*2,none⟩ (.int .i64 x.num)).setCell ⟨t.bw,K*2+1,none⟩ (.int .i64 (x.depth:Int))) kf (updF ef K x):=by
 have hf:Frm (fun k=>k=t.bw) w ((w.setCell ⟨t.bw,K*2,none⟩ (.int .i64 x.num)).setCell ⟨t.bw,K*2+1,none⟩ (.int .i64 (x.depth:Int))):=(Frm.set _ _ _ _).trans (Frm.set _ _ _ _)
 have hb:¬t.bt=t.bw:=h.d2;have hk:¬t.bk=t.bw:=h.d
 refine⟨fun j v hv=>hf.cell' (h.tb j v hv) hb,hf.cell' h.fa hb,(zaI hf h.ltB hb).trans h.ff,h.rl.frm (hf.mono fun k hk=>.inr (.inr hk)),h.d1,h.d2,h.d,fun i hi=>hf.cell' (h.k i hi) hk,fun i hi=>?_,fun j=>(zaI hf h.ltK hk).trans (h.fk j),fun j=>?_⟩
 ·obtain⟨e1,e2⟩:=h.e i hi
  by_cases e:i=K
  ·subst e
   rw[zdY]
   refine⟨?_,?_⟩
   ·exact (World.cell?_setCell_other _ _ _ _ (by intro e';simp only[Addr.mk.injEq]at e';omega)).trans (World.cell?_setCell_same _ _ _ e1)
   ·exact World.cell?_setCell_same _ _ _ ((World.cell?_setCell_other _ _ _ _ (by intro e';simp only[Addr.mk.injEq]at e';omega)).trans e2)
  ·rw[zcm ef e]
   refine⟨?_,?_⟩
   ·exact (World.cell?_setCell_other _ _ _ _ (by intro e';simp only[Addr.mk.injEq]at e';omega)).trans ((World.cell?_setCell_other _ _ _ _ (by intro e';simp only[Addr.mk.injEq]at e';omega)).trans e1)
   ·exact (World.cell?_setCell_other _ _ _ _ (by intro e';simp only[Addr.mk.injEq]at e';omega)).trans ((World.cell?_setCell_other _ _ _ _ (by intro e';simp only[Addr.mk.injEq]at e';omega)).trans e2)
 ·have:=h.fv j;simp[go_sem,this]
theorem TabY.put (h:TabY t kf ef) {q r:List Int} {c:Cb} (hq:PosP t.h t.c q) (hr:PosP t.h t.c r) (hc:CbOk t.K c) {e:E} (he:eqv t.s t.ru q r c=some e):TabY t (updF kf (t.key q r c) true) (updF ef (t.key q r c) e):=by
 intro q' r' c' hq' hr' hc' hk
 by_cases e1:t.key q' r' c'=t.key q r c
 ·obtain⟨rfl,rfl,rfl⟩:=WT.key_inj hq' hr' hc' hq hr hc e1
  rw[zdY];exact he
 ·rw[zcm kf e1]at hk
  rw[zcm ef e1]
  exact h q' r' c' hq' hr' hc' hk
end
def RetT (t:WT) (w:World) (fl:Bool) (o:Option E) (e:Ending) (w':World):Prop:=
 ∃x:E,e = .returned (.agg #[.int .i64 x.num,.int .i64 (x.depth:Int)])∧Val (sq t.s) x∧TbI t (fl||o.isNone) w'∧Frm t.S w w'∧((fl||o.isNone)=false→o=some x)
def TabC' (t:WT) (f:FuncId) (own other:List Int) (c:Cb) (R:World→Bool→Ending→World→Prop):Prop:=∀(fl:Bool) (A B:Option Addr) (ca cb:Nat) (w:World),TbI t fl w→SQ t.S w A t.h own→t.h≤ca→SQ t.S w B t.h other→t.h≤cb→
 Calls Tryz.prog f #[.pointer (some ⟨t.bt,0,none⟩),.slice A t.h ca,.slice B t.h cb,.agg #[.int .i64 c.1,.int .i64 c.2]] w (R w fl)
def EqT (t:WT) (own other:List Int) (c:Cb):Prop:=TabC' t 108 own other c fun w fl=>RetT t w fl (eqv t.s t.ru own other c)
def RolT (t:WT) (own other:List Int) (c:Cb):Prop:=TabC' t 112 own other c fun w fl=>RetT t w fl (rol t.s t.ru own other c)
def RetTB (t:WT) (w:World) (fl:Bool) (o:Option (E×Bool)) (e:Ending) (w':World):Prop:=
 ∃(x:E) (b:Bool),e = .returned (.tuple #[.agg #[.int .i64 x.num,.int .i64 (x.depth:Int)],.bool b])∧Val (sq t.s) x∧TbI t (fl||o.isNone) w'∧Frm t.S w w'∧((fl||o.isNone)=false→o=some (x,b))
def RetTD (t:WT) (w:World) (fl:Bool) (o:Option (E×Int)) (e:Ending) (w':World):Prop:=
 ∃(x:E) (a:Int),e = .returned (.tuple #[.agg #[.int .i64 x.num,.int .i64 (x.depth:Int)],.int .i64 a])∧Val (sq t.s) x∧TbI t (fl||o.isNone) w'∧Frm t.S w w'∧((fl||o.isNone)=false→o=some (x,a))
def BevT (t:WT) (own other:List Int) (c:Cb):Prop:=TabC' t 233 own other c fun w fl=>RetTB t w fl (bev t.s t.ru own other c)
def DblT (t:WT) (own other:List Int) (c:Cb):Prop:=TabC' t 195 own other c fun w fl=>RetTD t w fl (dbl t.s t.ru own other c)
end Go.Proofs.YtkaiilmgemaljaaGreat

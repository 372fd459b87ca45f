/- Joined texts of one proof: N40, N41, N42, N11. Each part tells what it shows. There are no conditions. -/
import Derived.Test.YtkaiilmgemaljaaGreatPZq
import Derived.Test.YtkaiilmgemaljaaGreatPZb
import Derived.Test.YtkaiilmgemaljaaGreatPZc
set_option linter.unusedVariables false
set_option linter.unusedSimpArgs false
/- Words for the reference's race tables, and the contract of a new one. There are no conditions. -/
namespace Go.Proofs.YtkaiilmgemaljaaGreat
open Go.RowKit Ps Ra Ex
structure RT2 where
 p:Int
 c:Nat
 h:Nat
 s:Nat
 bt:Nat
 bk:Nat
 bv:Nat
def RT2.S (t:RT2):Nat→Prop:=fun k=>k=t.bk∨k=t.bv
def RT2.N (t:RT2):Nat:=wys t.h t.c
def RT2.M (t:RT2):Nat:=t.N*t.N
def RT2.cells (t:RT2):List Value:=[.int .i64 t.p,.int .i64 t.c,.int .i64 t.h,.int .i64 t.s,.int .i64 t.N,.slice (some ⟨t.bk,0,none⟩) t.M t.M,.slice (some ⟨t.bv,0,none⟩) t.M t.M]
structure RT2.Ok (t:RT2):Prop where
 v:isVar t.p t.c t.h t.s=true
 n:t.N≤500
def RT2.key (t:RT2) (q r:List Int):Nat:=num t.c q*t.N+num t.c r
theorem RT2.key_lt {t:RT2} {q r:List Int} (hq:PosP t.h t.c q) (hr:PosP t.h t.c r):t.key q r<t.M:=pair_lt (num_lt hq) (num_lt hr)
theorem RT2.key_inj {t:RT2} {q r q' r':List Int} (hq:PosP t.h t.c q) (hr:PosP t.h t.c r) (hq':PosP t.h t.c q') (hr':PosP t.h t.c r') (h:t.key q r=t.key q' r'):q=q'∧r=r':=by
 obtain⟨h1,h2⟩:=pair_inj (num_lt hr) (num_lt hr') h
 exact⟨num_inj hq hq' h1,num_inj hr hr' h2⟩
theorem RT2.M_pos (t:RT2):0<t.M:=Nat.mul_pos (wys_pos _ _) (wys_pos _ _)
structure TabC (t:RT2) (w:World) (kf:Nat→Bool) (ef:Nat→Int×Int):Prop where
 tb:∀j v,t.cells[j]? = some v→w.cell? ⟨t.bt,j,none⟩=some v
 nt:¬t.S t.bt
 d:t.bk≠t.bv
 k:∀i,i<t.M→w.cell? ⟨t.bk,i,none⟩=some (.bool (kf i))
 e:∀i,i<t.M→w.cell? ⟨t.bv,i*2,none⟩=some (.int .i64 (ef i).1)∧w.cell? ⟨t.bv,i*2+1,none⟩=some (.int .i64 (ef i).2)
 fk:∀j,w.frozen? ⟨t.bk,j,none⟩=false
 fv:∀j,w.frozen? ⟨t.bv,j,none⟩=false
def TabM (t:RT2) (kf:Nat→Bool) (ef:Nat→Int×Int):Prop:=
 ∀q r,PosP t.h t.c q→PosP t.h t.c r→kf (t.key q r)=true→∃e,win t.s q r=some e∧ef (t.key q r)=(e.num,(e.depth:Int))
def TabI (t:RT2) (w:World):Prop:=∃kf ef,TabC t w kf ef∧TabM t kf ef
open Classical in
noncomputable def updF {α:Type} (f:Nat→α) (i:Nat) (x:α):Nat→α:=fun j=>if j=i then x else f j
theorem updF_same {α:Type} (f:Nat→α) (i:Nat) (x:α):updF f i x i=x:=by unfold updF;exact if_pos rfl
theorem updF_other {α:Type} (f:Nat→α) {i j:Nat} (h:j≠i) (x:α):updF f i x j=f j:=by unfold updF;exact if_neg h
section
variable {t:RT2} {O:Nat→Prop} {w w':World} {kf:Nat→Bool} {ef:Nat→Int×Int}
theorem TabC.ltB (h:TabC t w kf ef):t.bt<w.heap.size:=World.block_lt_of_cell? w _ (h.tb 0 _ rfl)
theorem TabC.ltK (h:TabC t w kf ef):t.bk<w.heap.size:=World.block_lt_of_cell? w _ (h.k 0 t.M_pos)
theorem TabC.ltV (h:TabC t w kf ef):t.bv<w.heap.size:=World.block_lt_of_cell? w _ (h.e 0 t.M_pos).1
theorem TabC.frm (h:TabC t w kf ef) (hf:Frm O w w') (hO:∀k,O k→¬t.S k) (hb:¬O t.bt):TabC t w' kf ef:=by
 have h1:¬O t.bk:=fun h=>hO _ h (.inl rfl)
 have h2:¬O t.bv:=fun h=>hO _ h (.inr rfl)
 exact⟨fun j v hv=>hf.cell' (h.tb j v hv) hb,h.nt,h.d,fun i hi=>hf.cell' (h.k i hi) h1,fun i hi=>⟨hf.cell' (h.e i hi).1 h2,hf.cell' (h.e i hi).2 h2⟩,
  fun j=>(frm_froz hf h.ltK h1).trans (h.fk j),fun j=>(frm_froz hf h.ltV h2).trans (h.fv j)⟩
theorem TabC.below (h:TabC t w kf ef) (hb:Below w.heap.size w w'):TabC t w' kf ef:=h.frm (Frm.of_below hb) (fun _ h=>h.elim) id
theorem TabC.stored (h:TabC t w kf ef) {b i:Nat} (v:Value) (hS:¬t.S b) (hb:t.bt≠b):TabC t (w.setCell ⟨b,i,none⟩ v) kf ef:=h.frm (Frm.set w b i v) (fun k hk=>by rw[hk];exact hS) hb
theorem TabC.setK (h:TabC t w kf ef) {K:Nat} (hK:K<t.M):TabC t (w.setCell ⟨t.bk,K,none⟩ (.bool true)) (updF kf K true) ef:=by
 have hf:=Frm.set w t.bk K (.bool true)
 have hb:¬t.bt=t.bk:=fun e=>h.nt (.inl e)
 have hv:¬t.bv=t.bk:=Ne.symm h.d
 refine⟨fun j v hv=>hf.cell' (h.tb j v hv) hb,h.nt,h.d,fun i hi=>?_,fun i hi=>⟨hf.cell' (h.e i hi).1 hv,hf.cell' (h.e i hi).2 hv⟩,fun j=>?_,fun j=>(frm_froz hf h.ltV hv).trans (h.fv j)⟩
 ·by_cases e:i=K
  ·subst e;rw[updF_same];exact World.cell?_setCell_same _ _ _ (h.k i hi)
  ·rw[updF_other kf e]
   exact (World.cell?_setCell_other _ _ _ _ (by intro e';simp only[Addr.mk.injEq]at e';omega)).trans (h.k i hi)
 ·have:=h.fk j;simp[go_sem,this]
theorem TabC.setV (h:TabC t w kf ef) {K:Nat} (hK:K<t.M) (a b:Int):TabC t ((w.setCell ⟨t.bv,K*2,none⟩ (.int .i64 a)).setCell ⟨t.bv,K*2+1,none⟩ (.int .i64 b)) kf (updF ef K (a,b)):=by
 have hf:Frm (fun k=>k=t.bv) w ((w.setCell ⟨t.bv,K*2,none⟩ (.int .i64 a)).setCell ⟨t.bv,K*2+1,none⟩ (.int .i64 b)):=(Frm.set _ _ _ _).trans (Frm.set _ _ _ _)
 have hb:¬t.bt=t.bv:=fun e=>h.nt (.inr e)
 have hk:¬t.bk=t.bv:=h.d
 refine⟨fun j v hv=>hf.cell' (h.tb j v hv) hb,h.nt,h.d,fun i hi=>hf.cell' (h.k i hi) hk,fun i hi=>?_,fun j=>(frm_froz hf h.ltK hk).trans (h.fk j),fun j=>?_⟩
 ·obtain⟨e1,e2⟩:=h.e i hi
  by_cases e:i=K
  ·subst e
   rw[updF_same]
   refine⟨?_,?_⟩
   ·exact (World.cell?_setCell_other _ _ _ _ (by intro e';simp only[Addr.mk.injEq]at e';omega)).trans (World.cell?_setCell_same _ _ _ e1)
   ·exact World.cell?_setCell_same _ _ _ ((World.cell?_setCell_other _ _ _ _ (by intro e';simp only[Addr.mk.injEq]at e';omega)).trans e2)
  ·rw[updF_other ef e]
   refine⟨?_,?_⟩
   ·exact (World.cell?_setCell_other _ _ _ _ (by intro e';simp only[Addr.mk.injEq]at e';omega)).trans ((World.cell?_setCell_other _ _ _ _ (by intro e';simp only[Addr.mk.injEq]at e';omega)).trans e1)
   ·exact (World.cell?_setCell_other _ _ _ _ (by intro e';simp only[Addr.mk.injEq]at e';omega)).trans ((World.cell?_setCell_other _ _ _ _ (by intro e';simp only[Addr.mk.injEq]at e';omega)).trans e2)
 ·have:=h.fv j;simp[go_sem,this]
theorem TabM.put (h:TabM t kf ef) {q r:List Int} (hq:PosP t.h t.c q) (hr:PosP t.h t.c r) {e:E} (he:win t.s q r=some e):TabM t (updF kf (t.key q r) true) (updF ef (t.key q r) (e.num,(e.depth:Int))):=by
 intro q' r' hq' hr' hk
 by_cases e1:t.key q' r'=t.key q r
 ·obtain⟨rfl,rfl⟩:=RT2.key_inj hq' hr' hq hr e1
  exact⟨e,he,by rw[updF_same]⟩
 ·rw[updF_other kf e1]at hk
  rw[updF_other ef e1]
  exact h q' r' hq' hr' hk
theorem TabI.frm (h:TabI t w) (hf:Frm O w w') (hO:∀k,O k→¬t.S k) (hb:¬O t.bt):TabI t w':=let ⟨kf,ef,h1,h2⟩:=h;⟨kf,ef,h1.frm hf hO hb,h2⟩
theorem TabI.below (h:TabI t w) (hb:Below w.heap.size w w'):TabI t w':=h.frm (Frm.of_below hb) (fun _ h=>h.elim) id
theorem TabI.alloc (h:TabI t w) (o:Obj):TabI t (w.alloc o):=h.below ((Below.refl _ _).alloc (Nat.le_refl _) o)
theorem TabI.drew (h:TabI t w):TabI t w.drew:=h.below (drw (Below.refl _ _))
theorem TabI.more (h:TabI t w) (tr:World):TabI t (more w tr):=h.below (below_more w tr)
theorem TabI.stored (h:TabI t w) {b i:Nat} (v:Value) (hS:¬t.S b) (hb:t.bt≠b):TabI t (w.setCell ⟨b,i,none⟩ v):=let ⟨kf,ef,h1,h2⟩:=h;⟨kf,ef,h1.stored v hS hb,h2⟩
theorem TabI.tb (h:TabI t w):∀j v,t.cells[j]? = some v→w.cell? ⟨t.bt,j,none⟩=some v:=let ⟨_,_,h1,_⟩:=h;h1.tb
theorem TabI.ltB (h:TabI t w):t.bt<w.heap.size:=let ⟨_,_,h1,_⟩:=h;h1.ltB
theorem TabI.ltS (h:TabI t w):∀k,t.S k→k<w.heap.size:=by
 obtain⟨_,_,h1,_⟩:=h
 rintro k (rfl|rfl)
 ·exact h1.ltK
 ·exact h1.ltV
end
def RetTn (t:RT2) (w:World) (o:Option E) (e:Ending) (w':World):Prop:=e = .returned (.tuple #[exV o,.bool o.isSome])∧TabI t w'∧Frm t.S w w'
theorem RetTn.mkY {t:RT2} {w w':World} {o:Option E} {m:Int} {d:Nat} (ho:o=some ⟨m,d⟩) (h1:TabI t w') (h2:Frm t.S w w'):RetTn t w o (.returned (.tuple #[.agg #[.int .i64 m,.int .i64 (d:Int)],.bool true])) w':=by subst ho;exact⟨rfl,h1,h2⟩
theorem RetTn.mkN {t:RT2} {w w':World} {o:Option E} (ho:o=none) (h1:TabI t w') (h2:Frm t.S w w'):RetTn t w o (.returned (.tuple #[.agg #[.int .i64 0,.int .i64 0],.bool false])) w':=by subst ho;exact⟨rfl,h1,h2⟩
def ValC (t:RT2) (own other:List Int):Prop:=∀(A B:Option Addr) (ca cb:Nat) (w:World),TabI t w→SQ t.S w A t.h own→t.h≤ca→SQ t.S w B t.h other→t.h≤cb→
 Calls Tryz.prog 144 #[.pointer (some ⟨t.bt,0,none⟩),.slice A t.h ca,.slice B t.h cb] w (RetTn t w (win t.s own other))
def AftC (t:RT2) (q other:List Int):Prop:=∀(A B:Option Addr) (ca cb:Nat) (w:World),TabI t w→SQ t.S w A t.h q→t.h≤ca→SQ t.S w B t.h other→t.h≤cb→
 Calls Tryz.prog 175 #[.pointer (some ⟨t.bt,0,none⟩),.slice A t.h ca,.slice B t.h cb] w (RetTn t w (sec t.s other q))
def RetNew2 (w:World) (p:Int) (c h s:Nat) (e:Ending) (w':World):Prop:=
 ∃t:RT2,t.p=p∧t.c=c∧t.h=h∧t.s=s∧e = .returned (.pointer (some ⟨t.bt,0,none⟩))∧t.Ok∧TabI t w'∧(∀k,t.S k→w.heap.size≤k)∧w.heap.size≤t.bt∧Below w.heap.size w w'
theorem Tryz.infoB:(Tryz.prog.info? 4).map (fun i=>(i.zero,i.size,i.bytes))=some (some (.bool false),1,1):=by kernel_rfl
def new2G (w:World) (p:Int) (c h s N:Nat) (i:Nat) (v:Value) (W:World):Prop:=
 match i with
 | 0=>v = .agg #[.int .i64 p,.int .i64 c,.int .i64 h,.int .i64 s]
 | 4=>v = .int .i64 ((N*N:Nat):Int)
 | 5=>∃b,v = .slice (some ⟨b,0,none⟩) (N*N) (N*N)∧W.ownsRow w.heap.size 4 1 v (N*N) (madeCells #[.bool false] (N*N*1)).toList
 | 8=>v = .int .i64 ((N*N:Nat):Int)
 | 9=>∃b,v = .slice (some ⟨b,0,none⟩) (N*N) (N*N)∧W.ownsRow w.heap.size 35 2 v (N*N) (madeCells #[.int .i64 0,.int .i64 0] (N*N*2)).toList
 | _=>v = .int .i64 (N:Int)
def new2O (i:Nat) (v:Value):Option Nat:=if i=5∨i=9 then v.ownBlock else none
theorem new2G_stab {w:World} {p:Int} {c h s N:Nat} (i:Nat) (v:Value) (W W':World) (hg:new2G w p c h s N i v W) (hb:Below W.heap.size W W'):new2G w p c h s N i v W':=by
 unfold new2G at *
 split at hg<;>first|exact hg|(obtain⟨b,h1,h2⟩:=hg;exact⟨b,h1,own_below h2 hb⟩)
theorem new2G_lt {w:World} {p:Int} {c h s N:Nat} (i:Nat) (v:Value) (W:World) (b:Nat) (hg:new2G w p c h s N i v W) (ho:new2O i v=some b):b<W.heap.size:=by
 unfold new2O at ho
 split at ho
 ·rename_i h5
  unfold new2G at hg
  split at hg<;>first|(obtain⟨b',_,h2⟩:=hg;exact (World.ownsRow.lt h2 b ho).2)|(subst hg;cases ho)
 ·cases ho
end Go.Proofs.YtkaiilmgemaljaaGreat
/- Contract of a new race table, the reference's. There are no conditions. -/
namespace Go.Proofs.YtkaiilmgemaljaaGreat
open Go.RowKit Ps Ra Ex
theorem made_b (n j:Nat) (h:j<n):(madeCells #[Value.bool false] (n*1)).toList[j]? = some (.bool false):=by
 rw[toList_madeCells_one,List.getElem?_replicate];simp[h]
theorem made_e (n j:Nat) (h:j<n*2):(madeCells #[Value.int .i64 0,.int .i64 0] (n*2)).toList[j]? = some (.int .i64 0):=by
 rcases Nat.mod_two_eq_zero_or_one j with h1|h1<;>simp[madeCells,h,h1]
set_option maxRecDepth 100000 in
set_option maxHeartbeats 2000000 in
theorem l12New_any (p:Int) (c h s:Nat) (w:World) (hv:isVar p c h s=true) (hN:wys h c≤500):
  Calls Tryz.prog 79 #[.agg #[.int .i64 p,.int .i64 c,.int .i64 h,.int .i64 s]] w (RetNew2 w p c h s):=by
 obtain⟨ib,hib,hb0,hb1,hb2⟩:=info_parts Tryz.infoB;obtain⟨ie,hie,he0,he1,he2⟩:=info_parts Tryz.infoE;have hvv:=isVar_yes hv;have HV:=Lib.hid hv;have HN:=Lib.hid hN
 have CW:=Lib.hid fun (W:World)=>l10Ways_any h c W (by omega) (by omega)
 have HC:Hid (wysC h c=wys h c):=wysC_ok (by omega)
 rw[HC.out]at CW
 have HF0:=Lib.hid ((Fr.start w).allocT (by simp) #[.int .i64 p,.int .i64 c,.int .i64 h,.int .i64 s] 25)
 have hmm:wys h c*wys h c≤250000:=Nat.mul_le_mul hN hN
 have hwrap:IntKind.i64.wrap ((wys h c:Int)*(wys h c:Int))=((wys h c*wys h c:Nat):Int):=by
  rw[← Int.natCast_mul];exact IntWalk.i64_in _ (by omega)
 clear hv hN hvv HC
 go_enter Tryz.func79,Tryz.ntmps79
 go_wp2_with (go_at_call 167;(with_reducible refine (CW.out _).mono ?_);rintro e w' ⟨rfl,rfl⟩)
 generalize hNN:wys h c=N at *
 refine wp_region_makes 10 (fun i=>i+9) (new2G w p c h s N) new2O (by kernel_rfl) (by kernel_rfl) new2G_stab new2G_lt ?_ ?_
 ·intro i o hi ho a' W hb hfar hdep
  have e1:a'.tmps.getD 1 undef = .pointer (some ⟨w.heap.size,0,none⟩):=(hfar 1 (fun j _=>by omega)).trans rfl
  have e3:a'.tmps.getD 3 undef = .int .i64 (N:Int):=(hfar 3 (fun j _=>by omega)).trans rfl
  have HFh:=Lib.hid (HF0.out.below hb);have hWz:w.heap.size≤W.heap.size:=HFh.out.b.size;obtain⟨z0,c00,f00,c01,f01,c02,f02,c03,f03⟩:=HFh.out.xf2;have dep:∀j,j<10→Region.waitsFor .any _ i j=true→new2G w p c h s N j (a'.tmps.getD (j+9) undef) W:=hdep
  have good:∀(v:Value) (W':World),Below W.heap.size W W'→new2G w p c h s N i v W'→(∀b,new2O i v=some b→W.heap.size≤b)→MGood (new2G w p c h s N) new2O i W v W':=fun v W' h1 h2 h3=>⟨h1,h2,h3⟩
  have hi8:i=0∨i=1∨i=2∨i=3∨i=4∨i=5∨i=6∨i=7∨i=8∨i=9:=by omega
  rcases hi8 with rfl|rfl|rfl|rfl|rfl|rfl|rfl|rfl|rfl|rfl
  all_goals
   simp at ho
   subst ho
  ·refine .inl ⟨_,W,?_,good (.agg #[.int .i64 p,.int .i64 c,.int .i64 h,.int .i64 s]) _ (Below.refl _ _) rfl (fun b hb=>by simp[new2O]at hb)⟩
   simp only[execOp,Act.eval,e1]
   go_simp
  ·exact .inl ⟨.int .i64 (N:Int),W,by simp only[execOp,Act.eval,e3];go_simp,good _ _ (Below.refl _ _) rfl (fun b hb=>by simp[new2O]at hb)⟩
  ·exact .inl ⟨.int .i64 (N:Int),W,by simp only[execOp,Act.eval,e3];go_simp,good _ _ (Below.refl _ _) rfl (fun b hb=>by simp[new2O]at hb)⟩
  ·exact .inl ⟨.int .i64 (N:Int),W,by simp only[execOp,Act.eval,e3];go_simp,good _ _ (Below.refl _ _) rfl (fun b hb=>by simp[new2O]at hb)⟩
  ·have d2:a'.tmps.getD 11 undef = .int .i64 (N:Int):=dep 2 (by omega) (by kernel_rfl)
   have d3:a'.tmps.getD 12 undef = .int .i64 (N:Int):=dep 3 (by omega) (by kernel_rfl)
   exact .inl ⟨.int .i64 ((N*N:Nat):Int),W,by simp only[execOp,Act.eval,d2,d3];go_simp,good _ _ (Below.refl _ _) rfl (fun b hb=>by simp[new2O]at hb)⟩
  ·have d4:a'.tmps.getD 13 undef = .int .i64 ((N*N:Nat):Int):=dep 4 (by omega) (by kernel_rfl)
   obtain⟨W',hrun,hown,hgr⟩:=run_make_full (P:=Tryz.prog) W w.heap.size 142 4 ib (.bool false) 1 Tryz.underlying142 hib hb0 hb1 .i64 .i64 (N*N) (by rw[hb2];omega) (by unfold maxLen;omega) hWz
   refine .inl ⟨_,W',?_,good (.slice (some ⟨W.heap.size,0,none⟩) (N*N) (N*N)) _ ⟨hgr.os,hgr.tape,hgr.output,hgr.size,fun k hk=>hgr.block k hk (by simp)⟩ ⟨W.heap.size,rfl,hown⟩ (fun b hb=>by simp[new2O,Value.ownBlock]at hb;omega)⟩
   simp only[execOp,Act.eval,d4]
   go_simp
   rw[← Int.natCast_mul,hrun]
   rfl
  ·exact .inl ⟨.int .i64 (N:Int),W,by simp only[execOp,Act.eval,e3];go_simp,good _ _ (Below.refl _ _) rfl (fun b hb=>by simp[new2O]at hb)⟩
  ·exact .inl ⟨.int .i64 (N:Int),W,by simp only[execOp,Act.eval,e3];go_simp,good _ _ (Below.refl _ _) rfl (fun b hb=>by simp[new2O]at hb)⟩
  ·have d2:a'.tmps.getD 15 undef = .int .i64 (N:Int):=dep 6 (by omega) (by kernel_rfl)
   have d3:a'.tmps.getD 16 undef = .int .i64 (N:Int):=dep 7 (by omega) (by kernel_rfl)
   exact .inl ⟨.int .i64 ((N*N:Nat):Int),W,by simp only[execOp,Act.eval,d2,d3];go_simp,good _ _ (Below.refl _ _) rfl (fun b hb=>by simp[new2O]at hb)⟩
  ·have d4:a'.tmps.getD 17 undef = .int .i64 ((N*N:Nat):Int):=dep 8 (by omega) (by kernel_rfl)
   obtain⟨W',hrun,hown,hgr⟩:=run_make_full (P:=Tryz.prog) W w.heap.size 29 35 ie (.agg #[.int .i64 0,.int .i64 0]) 2 Tryz.underlying29 hie he0 he1 .i64 .i64 (N*N) (by rw[he2];omega) (by unfold maxLen;omega) hWz
   refine .inl ⟨_,W',?_,good (.slice (some ⟨W.heap.size,0,none⟩) (N*N) (N*N)) _ ⟨hgr.os,hgr.tape,hgr.output,hgr.size,fun k hk=>hgr.block k hk (by simp)⟩ ⟨W.heap.size,rfl,hown⟩ (fun b hb=>by simp[new2O,Value.ownBlock]at hb;omega)⟩
   simp only[execOp,Act.eval,d4]
   go_simp
   rw[← Int.natCast_mul,hrun]
   rfl
 ·intro v W hb hg ho
  have HBW:Below w.heap.size w W:=((Below.refl _ _).alloc (Nat.le_refl _) _).trans (hb.mono (by simp))
  have g0:v 0 = .agg #[.int .i64 p,.int .i64 c,.int .i64 h,.int .i64 s]:=hg 0 (by omega)
  have g1:v 1 = .int .i64 (N:Int):=hg 1 (by omega)
  have g2:v 2 = .int .i64 (N:Int):=hg 2 (by omega)
  have g3:v 3 = .int .i64 (N:Int):=hg 3 (by omega)
  have g4:v 4 = .int .i64 ((N*N:Nat):Int):=hg 4 (by omega)
  obtain⟨bk,g5,o5⟩:∃b,v 5 = .slice (some ⟨b,0,none⟩) (N*N) (N*N)∧W.ownsRow w.heap.size 4 1 (v 5) (N*N) (madeCells #[.bool false] (N*N*1)).toList:=hg 5 (by omega)
  have g6:v 6 = .int .i64 (N:Int):=hg 6 (by omega)
  have g7:v 7 = .int .i64 (N:Int):=hg 7 (by omega)
  have g8:v 8 = .int .i64 ((N*N:Nat):Int):=hg 8 (by omega)
  obtain⟨bv,g9,o9⟩:∃b,v 9 = .slice (some ⟨b,0,none⟩) (N*N) (N*N)∧W.ownsRow w.heap.size 35 2 (v 9) (N*N) (madeCells #[.int .i64 0,.int .i64 0] (N*N*2)).toList:=hg 9 (by omega)
  have d:bk≠bv:=fun e=>ho 5 9 (by omega) (by omega) (by omega) bk (by rw[g5];rfl) (by rw[g9,e];rfl)
  rw[g5]at o5;rw[g9]at o9;have l5:=World.ownsRow.lt o5 bk rfl;have l9:=World.ownsRow.lt o9 bv rfl
  have HR:Hid (∀W',W'=W.alloc (.cells #[.int .i64 p,.int .i64 c,.int .i64 h,.int .i64 s,.int .i64 (N:Int),.slice (some ⟨bk,0,none⟩) (N*N) (N*N),.slice (some ⟨bv,0,none⟩) (N*N) (N*N)] 186)→RetNew2 w p c h s (.returned (.pointer (some ⟨W.heap.size,0,none⟩))) W'):=fun W' hW'=>by
   subst hW';have hz:w.heap.size≤W.heap.size:=HBW.size;have hNt:(⟨p,c,h,s,W.heap.size,bk,bv⟩:RT2).N=N:=hNN
   have hMt:(⟨p,c,h,s,W.heap.size,bk,bv⟩:RT2).M=N*N:=by unfold RT2.M;rw[hNt]
   refine⟨⟨p,c,h,s,W.heap.size,bk,bv⟩,rfl,rfl,rfl,rfl,rfl,⟨HV.out,by rw[hNt];exact HN.out⟩,⟨fun _=>false,fun _=>(0,0),⟨fun j v hj=>?_,?_,d,fun i hi=>?_,fun i hi=>?_,fun j=>?_,fun j=>?_⟩,fun q r _ _ hk=>by cases hk⟩,?_,hz,HBW.alloc hz _⟩
   ·have:(#[.int .i64 p,.int .i64 c,.int .i64 h,.int .i64 s,.int .i64 (N:Int),.slice (some ⟨bk,0,none⟩) (N*N) (N*N),.slice (some ⟨bv,0,none⟩) (N*N) (N*N)]:Array Value)[j]? = some v:=by rw[← hj];unfold RT2.cells;rw[hMt,hNt];simp
    simp[go_sem,this]
   ·rintro (h'|h')
    ·simp at h';omega
    ·simp at h';omega
   ·rw[hMt]at hi
    rw[cell_alloc_lt _ _ _ l5.2,o5.cellAt i (by omega),made_b _ _ hi]
   ·rw[hMt]at hi
    rw[cell_alloc_lt _ _ _ l9.2,cell_alloc_lt _ _ _ l9.2,o9.cellAt (i*2) (by omega),o9.cellAt (i*2+1) (by omega),made_e _ _ (by omega),made_e _ _ (by omega)]
    exact⟨rfl,rfl⟩
   ·rw[frozen_alloc_lt _ _ _ l5.2];exact o5.frozenAt j
   ·rw[frozen_alloc_lt _ _ _ l9.2];exact o9.frozenAt j
   ·rintro k (rfl|rfl)
    ·exact l5.1
    ·exact l9.1
  clear o5 o9 hg ho l5 l9 hmm;have d:=Lib.hid d
  simp only[List.drop_succ_cons,List.drop_zero,putV,g0,g1,g2,g3,g4,g5,g6,g7,g8,g9,Act.put]
  clear g0 g1 g2 g3 g4 g5 g6 g7 g8 g9 hNN hwrap
  go_wp2_with (fail)
  go_ret
  exact HR.out _ rfl
end Go.Proofs.YtkaiilmgemaljaaGreat
/- Contract of the win chance after a result, the reference's. There are no conditions. -/
namespace Go.Proofs.YtkaiilmgemaljaaGreat
open Go.RowKit Ps Ra Ex
theorem oneM_zero {B:Int} (hB:1≤B):oneM B zeroE'=some oneE:=by
 unfold oneM addE
 exact mk_self one_val
theorem sec_zero {s:Nat} (hB:1≤sq s) {other q:List Int} (h0:other.sum≠0) (h1:q.sum=0):sec s other q=some ⟨1,0⟩:=by
 unfold sec;rw[win_other h0 h1]
 exact oneM_zero hB
set_option maxRecDepth 100000 in
set_option maxHeartbeats 2000000 in
theorem l12After_any (t:RT2) (ht:t.Ok) {q other:List Int} (hq:PosP t.h t.c q) (h0:other.sum≠0) (hw:ValC t other q):AftC t q other:=by
 intro A B ca cb w hI hA hca hB hcb
 have hv:=isVar_yes ht.v
 have hs1:1≤t.s:=by omega
 have hs6:t.s≤6:=by omega
 have hh24:t.h≤24:=by omega
 obtain⟨hq1,hq36,_⟩:=sq_bd hs1 hs6;have hlow:=hI.ltS
 have HNS:Hid (¬t.S w.heap.size):=fun h=>by have:=hlow _ h;omega
 have HNB:Hid (t.bt≠w.heap.size):=fun h=>by have:=hI.ltB;omega
 have HF0:Hid (FrS t.S w (w.alloc (.cells #[.int .i64 0,.int .i64 0] 35)) [[.int .i64 0,.int .i64 0]]):=(FrS.start w hlow).allocT (by simp) _ _
 have hb0:Below w.heap.size w (w.alloc (.cells #[.int .i64 0,.int .i64 0] 35)):=(Below.refl _ _).alloc (Nat.le_refl _) _;have CW:=Lib.hid (hw B A cb ca _ (hI.below hb0) (hB.below hb0) hcb (hA.below hb0) hca);have HX:=Lib.hid (hA.below hb0)
 have SUM:=Lib.hid fun (W:World) (hx:SL W A t.h q)=>l10Sum_any A t.h ca q W hx hq.2.1 (by have:=hq.2.2;omega) (by omega)
 have HVAL:=Lib.hid fun (e:E) (h:win t.s other q=some e)=>win_val hq1 h
 have HSEC:Hid (sec t.s other q=(win t.s other q).bind (oneM (sq t.s))):=rfl
 have HS0:=Lib.hid fun (h:q.sum=0)=>sec_zero hq1 h0 h
 clear hI hA hB hw hv ht hlow hb0 hq h0;generalize win t.s other q=o at *
 by_cases hz:q.sum=0
 ·have HR:=Lib.hid (HS0.out hz)
  have b0:(q.sum == 0)=true:=by simp[hz]
  clear HS0 HSEC HVAL
  go_enter Tryz.func175,Tryz.ntmps175
  go_wp2_with (fail)
  refine CW.out.mono ?_
  rintro e w1 ⟨rfl,hI1,hf1⟩
  have HX2:Hid (SL (w1.alloc (.cells #[.int .i64 (o.getD ⟨0,0⟩).num,.int .i64 ((o.getD ⟨0,0⟩).depth:Int)] 35)) A t.h q):=(HX.out.frm hf1).1.alloc _;have HF2:Hid (FrS t.S w (w1.alloc (.cells #[.int .i64 (o.getD ⟨0,0⟩).num,.int .i64 ((o.getD ⟨0,0⟩).depth:Int)] 35)) [[.int .i64 0,.int .i64 0]]):=(HF0.out.frm hf1).alloc _;have HI2:Hid (TabI t (w1.alloc (.cells #[.int .i64 (o.getD ⟨0,0⟩).num,.int .i64 ((o.getD ⟨0,0⟩).depth:Int)] 35))):=hI1.alloc _;unfold exV;clear hI1 hf1 CW HF0;generalize (o.getD ⟨0,0⟩).num=m at *;generalize ((o.getD ⟨0,0⟩).depth:Int)=d at *
  go_wp2_with (first
   | (go_at_call 162;(with_reducible refine (SUM.out _ HX2.out).mono ?_);rintro e w' ⟨rfl,rfl⟩)
   | (go_at_call 212; (with_reducible refine (more_first (l11One_any _)).mono ?_); rintro e w' ⟨rfl, tr, rfl⟩
      have HZ := Lib.hid (HF2.out.more tr); have HIz := Lib.hid (HI2.out.more tr); clear HF2 HI2 HX2; generalize more (w1.alloc (.cells #[.int .i64 m, .int .i64 d] 35)) tr = Z at *; obtain ⟨z0, c00, f00, c01, f01⟩ := HZ.out.xf3
      ))
  refine bodyPost_ret (v:=.tuple #[.agg #[.int .i64 1,.int .i64 ((0:Nat):Int)],.bool true]) (by simp[results,Tryz.results175,go_sem,c00,c01,z0,f00,f01]) rfl (RetTn.mkY HR.out ?_ ?_)
  ·repeat (first|exact HIz.out|refine TabI.alloc ?_ _|refine TabI.drew ?_|refine TabI.stored ?_ _ HNS.out HNB.out)
  ·repeat (first|exact HZ.out.f|refine Frm.alloc ?_ _|refine Frm.ownSet ?_ (by omega) _)
 ·have b0:(q.sum == 0)=false:=by simp[hz]
  go_enter Tryz.func175,Tryz.ntmps175
  go_wp2_with (fail)
  refine CW.out.mono ?_
  rintro e w1 ⟨rfl,hI1,hf1⟩
  have HI1:=Lib.hid hI1;have HF1:Hid (FrS t.S w w1 [[.int .i64 0,.int .i64 0]]):=HF0.out.frm hf1;have HX1:=Lib.hid (HX.out.frm hf1);clear hI1 hf1 CW HF0 HX HS0
  rcases o with _|⟨m,d⟩
  ·have HR:Hid (sec t.s other q=none):=by rw[HSEC.out];rfl
   have HZ:=HF1;have HIz:=HI1;have HX2:Hid (SL (w1.alloc (.cells #[.int .i64 0,.int .i64 0] 35)) A t.h q):=HX1.out.1.alloc _;unfold exV
   simp only[Option.getD_none,Option.isSome_none]
   obtain⟨z0,c00,f00,c01,f01⟩:=HF1.out.xf3
   go_wp2_with (go_at_call 162;(with_reducible refine (SUM.out _ HX2.out).mono ?_);rintro e w' ⟨rfl,rfl⟩)
   refine bodyPost_ret (v:=.tuple #[.agg #[.int .i64 0,.int .i64 0],.bool false]) (by simp[results,Tryz.results175,go_sem,c00,c01,z0,f00,f01]) rfl (RetTn.mkN HR.out ?_ ?_)
   ·repeat (first|exact HIz.out|refine TabI.alloc ?_ _|refine TabI.drew ?_|refine TabI.stored ?_ _ HNS.out HNB.out)
   ·repeat (first|exact HZ.out.f|refine Frm.alloc ?_ _|refine Frm.ownSet ?_ (by omega) _)
  ·have hx:Val (sq t.s) ⟨m,d⟩:=HVAL.out _ rfl
   have COM:=Lib.hid fun (W:World)=>l12Minus_any t.p t.c t.h m t.s d W hs1 hs6 hx
   have HR0:Hid (sec t.s other q=oneM (sq t.s) ⟨m,d⟩):=HSEC.out;have HF2:Hid (FrS t.S w (w1.alloc (.cells #[.int .i64 m,.int .i64 (d:Int)] 35)) [[.int .i64 0,.int .i64 0]]):=HF1.out.alloc _;have HI2:Hid (TabI t (w1.alloc (.cells #[.int .i64 m,.int .i64 (d:Int)] 35))):=HI1.out.alloc _;have HX2:Hid (SL (w1.alloc (.cells #[.int .i64 m,.int .i64 (d:Int)] 35)) A t.h q):=HX1.out.1.alloc _;have e0:=HI1.out.tb 0 _ rfl;have e1:=HI1.out.tb 1 _ rfl;have e2:=HI1.out.tb 2 _ rfl;have e3:=HI1.out.tb 3 _ rfl;have hbt:=HI1.out.ltB;unfold exV
   simp only[Option.getD_some,Option.isSome_some]
   generalize oneM (sq t.s) ⟨m,d⟩=o1 at *
   rcases o1 with _|⟨m1,d1⟩
   ·have COM':Hid (∀W:World,Calls Tryz.prog 220 #[.agg #[.int .i64 t.p,.int .i64 t.c,.int .i64 t.h,.int .i64 t.s],.agg #[.int .i64 m,.int .i64 d]] W fun e w'=>e = .returned (.tuple #[.agg #[.int .i64 0,.int .i64 0],.bool false])∧Below W.heap.size W w'):=fun W=>COM.out W
    have HR:Hid (sec t.s other q=none):=HR0.out;clear COM HR0;obtain⟨z0,c00,f00,c01,f01⟩:=HF1.out.xf3
    go_wp2_with (go_at_call 162;(with_reducible refine (SUM.out _ HX2.out).mono ?_);rintro e w' ⟨rfl,rfl⟩)
    clear z0 c00 f00 c01 f01
    first|refine wp_region_tail_more2 8 (by kernel_rfl) (by kernel_rfl) ?_|refine wp_region_tail_more 8 (by kernel_rfl) (by kernel_rfl) ?_
    simp only[List.take_succ_cons,List.take_zero,List.drop_succ_cons,List.drop_zero]
    repeat (first|go_big_quiet_step ((go_at_call 220;exact more_call (COM'.out _)))|quiet_step ((go_at_call 220;exact more_call (COM'.out _))))
    refine wpQuiet_nil ?_
    intro _ hw'
    obtain⟨tr,hw''⟩:=hw';subst hw'';have HZ:=Lib.hid (HF2.out.more tr);have HIz:=Lib.hid (HI2.out.more tr);clear HF2 HI2 e0 e1 e2 e3;generalize more (w1.alloc (.cells #[.int .i64 m,.int .i64 (d:Int)] 35)) tr=Z at *;obtain⟨z0,c00,f00,c01,f01⟩:=HZ.out.xf3
    go_wp2_with (fail)
    refine bodyPost_ret (v:=.tuple #[.agg #[.int .i64 0,.int .i64 0],.bool false]) (by simp[results,Tryz.results175,go_sem,c00,c01,z0,f00,f01]) rfl (RetTn.mkN HR.out ?_ ?_)
    ·repeat (first|exact HIz.out|refine TabI.alloc ?_ _|refine TabI.drew ?_|refine TabI.stored ?_ _ HNS.out HNB.out)
    ·repeat (first|exact HZ.out.f|refine Frm.alloc ?_ _|refine Frm.ownSet ?_ (by omega) _)
   ·have COM':Hid (∀W:World,Calls Tryz.prog 220 #[.agg #[.int .i64 t.p,.int .i64 t.c,.int .i64 t.h,.int .i64 t.s],.agg #[.int .i64 m,.int .i64 d]] W fun e w'=>e = .returned (.tuple #[.agg #[.int .i64 m1,.int .i64 d1],.bool true])∧Below W.heap.size W w'):=fun W=>COM.out W
    have HR:Hid (sec t.s other q=some ⟨m1,d1⟩):=HR0.out;clear COM HR0;obtain⟨z0,c00,f00,c01,f01⟩:=HF1.out.xf3
    go_wp2_with (go_at_call 162;(with_reducible refine (SUM.out _ HX2.out).mono ?_);rintro e w' ⟨rfl,rfl⟩)
    clear z0 c00 f00 c01 f01
    first|refine wp_region_tail_more2 8 (by kernel_rfl) (by kernel_rfl) ?_|refine wp_region_tail_more 8 (by kernel_rfl) (by kernel_rfl) ?_
    simp only[List.take_succ_cons,List.take_zero,List.drop_succ_cons,List.drop_zero]
    repeat (first|go_big_quiet_step ((go_at_call 220;exact more_call (COM'.out _)))|quiet_step ((go_at_call 220;exact more_call (COM'.out _))))
    refine wpQuiet_nil ?_
    intro _ hw'
    obtain⟨tr,hw''⟩:=hw';subst hw'';have HZ:=Lib.hid (HF2.out.more tr);have HIz:=Lib.hid (HI2.out.more tr);clear HF2 HI2 e0 e1 e2 e3;generalize more (w1.alloc (.cells #[.int .i64 m,.int .i64 (d:Int)] 35)) tr=Z at *;obtain⟨z0,c00,f00,c01,f01⟩:=HZ.out.xf3
    go_wp2_with (fail)
    refine bodyPost_ret (v:=.tuple #[.agg #[.int .i64 m1,.int .i64 d1],.bool true]) (by simp[results,Tryz.results175,go_sem,c00,c01,z0,f00,f01]) rfl (RetTn.mkY HR.out ?_ ?_)
    ·repeat (first|exact HIz.out|refine TabI.alloc ?_ _|refine TabI.drew ?_|refine TabI.stored ?_ _ HNS.out HNB.out)
    ·repeat (first|exact HZ.out.f|refine Frm.alloc ?_ _|refine Frm.ownSet ?_ (by omega) _)
end Go.Proofs.YtkaiilmgemaljaaGreat
/- Contracts of the reference's digits of exact numbers, and of comparing by them. There are no conditions. -/
namespace Go.Proofs.YtkaiilmgemaljaaGreat
open Go.RowKit Ps Ra Ex
def digs (B:Int) (x:E) (k:Nat):List Int:=(List.range k).map (dig B x)
theorem digs_len (B:Int) (x:E) (k:Nat):(digs B x k).length=k:=by simp[digs]
theorem digs_succ (B:Int) (x:E) (k:Nat):digs B x (k+1)=digs B x k++[dig B x k]:=by simp[digs,List.range_succ]
theorem digs_get (B:Int) (x:E) {i k:Nat} (h:i<k):(digs B x k).getD i 0=dig B x i:=by simp[digs,List.getD,h]
theorem digs_low {B:Int} (hB:1≤B) {x:E} {i:Nat}:(digs B x (x.depth+1)).getD i 0=dig B x i:=by
 by_cases h:i<x.depth+1
 ·exact digs_get B x h
 ·rw[dig_high hB (by omega)];simp[digs,List.getD,List.getElem?_eq_none,h]
theorem whole_neg {n m:Int} (hm:1≤m) (h:n.tmod m<0):n.tdiv m-1=n / m∧n.tmod m+m=n % m:=by
 have e1:=Int.tdiv_eq_ediv (a:=n) (b:=m);have e2:=Int.tmod_eq_emod (a:=n) (b:=m)
 have h0:=Int.emod_nonneg n (show m≠0 by omega)
 rw[e2]at h
 by_cases hc:0≤n∨m ∣ n
 ·rw[if_pos hc]at h;omega
 ·rw[if_neg hc]at e1 e2
  have:m.sign=1:=Int.sign_eq_one_of_pos (by omega)
  have:(m.natAbs:Int)=m:=by omega
  omega
theorem whole_pos {n m:Int} (hm:1≤m) (h:0≤n.tmod m):n.tdiv m=n / m∧n.tmod m=n % m:=by
 have e1:=Int.tdiv_eq_ediv (a:=n) (b:=m);have e2:=Int.tmod_eq_emod (a:=n) (b:=m)
 have h1:=Int.emod_lt_of_pos n (show 0<m by omega)
 by_cases hc:0≤n∨m ∣ n
 ·rw[if_pos hc]at e1 e2;omega
 ·rw[if_neg hc]at e1 e2
  have:(m.natAbs:Int)=m:=by omega
  omega
set_option maxHeartbeats 1000000 in
set_option maxRecDepth 10000 in
theorem l09Split_any (p c h n:Int) (s d:Nat) (w:World) (hs1:1≤s) (hs6:s≤6) (hx:Val (sq s) ⟨n,d⟩):
  Calls Tryz.prog 221 #[.agg #[.int .i64 p,.int .i64 c,.int .i64 h,.int .i64 s],.agg #[.int .i64 n,.int .i64 d]] w (RetO w 2 (digs (sq s) ⟨n,d⟩ (d+1))):=by
 obtain⟨hq1,hq36,_⟩:=sq_bd hs1 hs6;obtain⟨i0,hi,hz0,hz1,hz2⟩:=info_parts Tryz.infoI;have hd50:d<50:=depth_lt hq1 hx;have hx1 : -1000000000000000000≤n:=hx.1;have hx2:n≤1000000000000000000:=hx.2.1;have hp2:pw (sq s) d≤1000000000000000:=hx.2.2.1;have hp1:=pw_pos hq1 d
 have C:=fun (W:World)=>l09Scale_any p c h s d W hs1 hs6 (by omega)
 rw[(scl_ok hp2).1,(scl_ok hp2).2]at C;have CS:=Lib.hid C
 have CB:=Lib.hid fun (W:World)=>l09Base_any p c h s W hs6
 have HF0:Hid (Fr w ((w.alloc (.cells #[.int .i64 p,.int .i64 c,.int .i64 h,.int .i64 s] 25)).alloc (.cells #[.int .i64 n,.int .i64 d] 35)) [[.int .i64 p,.int .i64 c,.int .i64 h,.int .i64 s],[.int .i64 n,.int .i64 d]]):=
  ((Fr.start w).allocT (by simp) _ _).allocT (by simp) _ _
 have hdm:Hid (∀j,dig (sq s) ⟨n,d⟩ 0=n / pw (sq s) d∨j<0):=fun j=>.inl (by show flo _ _ 0=_;rw[flo_low hq1 (by omega)];simp)
 clear C hx
 have t0:=Int.tmod_lt_of_pos n (show 0<pw (sq s) d by omega)
 have t1:=Int.lt_tmod_of_pos n (show 0<pw (sq s) d by omega)
 have t2 : -1000000000000000000≤n.tdiv (pw (sq s) d)∧n.tdiv (pw (sq s) d)≤1000000000000000000:=by
  have h1:=Int.natAbs_tdiv n (pw (sq s) d);have h2:n.natAbs.div (pw (sq s) d).natAbs≤n.natAbs:=Nat.div_le_self _ _;rw[← h1]at h2
  omega
 obtain⟨t2,t3⟩:=t2
 by_cases hneg:n.tmod (pw (sq s) d)<0
 ·obtain⟨e1,e2⟩:=whole_neg hp1 hneg
  have hwh:Hid ([n.tdiv (pw (sq s) d)-1]=digs (sq s) ⟨n,d⟩ 1):=by
   show _=[dig (sq s) ⟨n,d⟩ 0]
   rw[(hdm.out 0).resolve_right (by omega),e1]
  have hrs:=Lib.hid e2;clear e1 e2
  go_enter Tryz.func221,Tryz.ntmps221
  go_wp2_with (go_at_call 171;((with_reducible refine (more_first (CS.out _)).mono ?_);rintro e w' ⟨rfl,t,rfl⟩))
  have HF:=Lib.hid (HF0.out.more t);generalize more _ t=W at HF ⊢;generalize n.tdiv (pw (sq s) d)-1=wh at *;generalize n.tmod (pw (sq s) d)+pw (sq s) d=rs at *
  have HO0:=Lib.hid (OwnS.made W (base:=w.heap.size+2) 2 (digs (sq s) ⟨n,d⟩ 1) #[.int .i64 wh] (digs_len _ _ _) (by rw[← hwh.out];rfl) (HF.out.z) (by unfold maxLen;omega))
  have HF1:=Lib.hid (HF.out.alloc (.cells #[.int .i64 wh] 2))
  go_loopw [5,8,9,10] (fun sc rest out i wr=>∃k:Nat,k≤d∧i = .int .i64 k∧sc = .int .i64 (pw (sq s) (d-k))∧rest = .int .i64 (n % pw (sq s) (d-k))∧OwnS wr (w.heap.size+2) 2 out (digs (sq s) ⟨n,d⟩ (k+1))∧Fr w wr [[.int .i64 p,.int .i64 c,.int .i64 h,.int .i64 s],[.int .i64 n,.int .i64 d]]) (fun _ _ _ i _=>d-(intOf i).toNat)
  case atStart=>exact⟨0,Nat.zero_le _,rfl,rfl,by rw[Nat.sub_zero,← hrs.out],HO0.out,HF1.out⟩
  case round=>
   obtain⟨k,hk,rfl,rfl,rfl,hO,hF⟩:=hrel;have HOr:=Lib.hid hO;have HFr:=Lib.hid hF;clear hO hF;obtain⟨z0,c00,f00,c01,f01,c02,f02,c03,f03,z1,c10,f10,c11,f11⟩:=HFr.out.xf0
   by_cases hlt:k<d
   ·
    have hki:(k:Int)<(d:Int):=by omega
    have hS:Hid (pw (sq s) (d-k)=pw (sq s) (d-(k+1))*sq s):=by rw[Hid,← pw_succ];congr 1;omega
    have hD:Hid (n % pw (sq s) (d-k) / pw (sq s) (d-(k+1))=dig (sq s) ⟨n,d⟩ (k+1)):=dig_low hq1 (x:=⟨n,d⟩) hlt
    have hM:Hid (n % pw (sq s) (d-k) % pw (sq s) (d-(k+1))=n % pw (sq s) (d-(k+1))):=by
     rw[Hid,hS.out,Int.emod_emod_of_dvd _ (Int.dvd_mul_right _ _)]
    have p1:=pw_pos hq1 (d-(k+1));have p0:=pw_pos hq1 (d-k)
    have p2:pw (sq s) (d-k)≤1000000000000000:=Int.le_trans (pw_mono hq1 (by omega)) hp2
    have r0:=Int.emod_nonneg n (show pw (sq s) (d-k)≠0 by omega)
    have r1:=Int.emod_lt_of_pos n (show 0<pw (sq s) (d-k) by omega)
    obtain⟨S1,hS1⟩:∃S1,pw (sq s) (d-(k+1))=S1:=⟨_,rfl⟩;rw[hS1]at hS hD hM p1;have HS1:=Lib.hid hS1;clear hS1;generalize n % pw (sq s) (d-k)=r at *;generalize pw (sq s) (d-k)=S0 at *
    have hq:S0 / sq s=S1:=by rw[hS.out];exact Int.mul_ediv_cancel _ (by omega)
    go_wp2_with (first|(go_at_call 172;((with_reducible refine (more_first (CB.out _)).mono ?_);rintro e w' ⟨rfl,t,rfl⟩))|(at_builtin;refine wpList_append_own _ rfl _ _ 26 rfl (w.heap.size+2) 2 i0 (.int .i64 0) 1 8 Tryz.underlying26 hi hz0 hz1 hz2 rfl (by decide) _ _ _ rfl (row_alloc (row_more HOr.out t) _) ⟨(more wr t).heap.size,0,none⟩ 1 1 [.int .i64 (r / S1)] rfl rfl (one_new _ _ _) (int_cell _) (by rw[digs_len];unfold maxLen;omega) (by rw[digs_len];omega) (by have:=(HFr.out.more t).z;simp at this;simp;omega) ?_;intro v' w1 hown hgrow _))
    have HF2:=Lib.hid (((HFr.out.more t).alloc _).grow hgrow (row_alloc (row_more HOr.out t) _) (by simp))
    have HO2:Hid (OwnS w1 (w.heap.size+2) 2 v' (digs (sq s) ⟨n,d⟩ (k+1+1))):=by
     unfold Hid OwnS;rw[digs_succ _ _ (k+1),← hD.out,List.length_append,List.map_append]
     exact hown
    clear hown hgrow
    go_wp2_with (fail)
    go_roundw
    case rel=>exact⟨k+1,by omega,by go_num,by rw[HS1.out],by rw[HS1.out,hM.out],HO2.out,HF2.out⟩
    case measure=>simp[intOf];omega
   ·
    have hkd:k=d:=by omega
    subst hkd
    have HR:Hid (∀v,OwnS wr (w.heap.size+2) 2 v (digs (sq s) ⟨n,k⟩ (k+1))→RetO w 2 (digs (sq s) ⟨n,k⟩ (k+1)) (.returned v) wr):=fun v hv=>RetO.mk (hv.mono (by omega)) HFr.out.b
    go_wp2_with (fail)
    go_ret
    exact HR.out _ HOr.out
 ·obtain⟨e1,e2⟩:=whole_pos hp1 (Int.not_lt.1 hneg)
  have hwh:Hid ([n.tdiv (pw (sq s) d)]=digs (sq s) ⟨n,d⟩ 1):=by
   show _=[dig (sq s) ⟨n,d⟩ 0]
   rw[(hdm.out 0).resolve_right (by omega),e1]
  have hrs:=Lib.hid e2;clear e1 e2
  go_enter Tryz.func221,Tryz.ntmps221
  go_wp2_with (go_at_call 171;((with_reducible refine (more_first (CS.out _)).mono ?_);rintro e w' ⟨rfl,t,rfl⟩))
  have HF:=Lib.hid (HF0.out.more t);generalize more _ t=W at HF ⊢;generalize n.tdiv (pw (sq s) d)=wh at *;generalize n.tmod (pw (sq s) d)=rs at *
  have HO0:=Lib.hid (OwnS.made W (base:=w.heap.size+2) 2 (digs (sq s) ⟨n,d⟩ 1) #[.int .i64 wh] (digs_len _ _ _) (by rw[← hwh.out];rfl) (HF.out.z) (by unfold maxLen;omega))
  have HF1:=Lib.hid (HF.out.alloc (.cells #[.int .i64 wh] 2))
  go_loopw [5,8,9,10] (fun sc rest out i wr=>∃k:Nat,k≤d∧i = .int .i64 k∧sc = .int .i64 (pw (sq s) (d-k))∧rest = .int .i64 (n % pw (sq s) (d-k))∧OwnS wr (w.heap.size+2) 2 out (digs (sq s) ⟨n,d⟩ (k+1))∧Fr w wr [[.int .i64 p,.int .i64 c,.int .i64 h,.int .i64 s],[.int .i64 n,.int .i64 d]]) (fun _ _ _ i _=>d-(intOf i).toNat)
  case atStart=>exact⟨0,Nat.zero_le _,rfl,rfl,by rw[Nat.sub_zero,← hrs.out],HO0.out,HF1.out⟩
  case round=>
   obtain⟨k,hk,rfl,rfl,rfl,hO,hF⟩:=hrel;have HOr:=Lib.hid hO;have HFr:=Lib.hid hF;clear hO hF;obtain⟨z0,c00,f00,c01,f01,c02,f02,c03,f03,z1,c10,f10,c11,f11⟩:=HFr.out.xf0
   by_cases hlt:k<d
   ·
    have hki:(k:Int)<(d:Int):=by omega
    have hS:Hid (pw (sq s) (d-k)=pw (sq s) (d-(k+1))*sq s):=by rw[Hid,← pw_succ];congr 1;omega
    have hD:Hid (n % pw (sq s) (d-k) / pw (sq s) (d-(k+1))=dig (sq s) ⟨n,d⟩ (k+1)):=dig_low hq1 (x:=⟨n,d⟩) hlt
    have hM:Hid (n % pw (sq s) (d-k) % pw (sq s) (d-(k+1))=n % pw (sq s) (d-(k+1))):=by
     rw[Hid,hS.out,Int.emod_emod_of_dvd _ (Int.dvd_mul_right _ _)]
    have p1:=pw_pos hq1 (d-(k+1));have p0:=pw_pos hq1 (d-k)
    have p2:pw (sq s) (d-k)≤1000000000000000:=Int.le_trans (pw_mono hq1 (by omega)) hp2
    have r0:=Int.emod_nonneg n (show pw (sq s) (d-k)≠0 by omega)
    have r1:=Int.emod_lt_of_pos n (show 0<pw (sq s) (d-k) by omega)
    obtain⟨S1,hS1⟩:∃S1,pw (sq s) (d-(k+1))=S1:=⟨_,rfl⟩;rw[hS1]at hS hD hM p1;have HS1:=Lib.hid hS1;clear hS1;generalize n % pw (sq s) (d-k)=r at *;generalize pw (sq s) (d-k)=S0 at *
    have hq:S0 / sq s=S1:=by rw[hS.out];exact Int.mul_ediv_cancel _ (by omega)
    go_wp2_with (first|(go_at_call 172;((with_reducible refine (more_first (CB.out _)).mono ?_);rintro e w' ⟨rfl,t,rfl⟩))|(at_builtin;refine wpList_append_own _ rfl _ _ 26 rfl (w.heap.size+2) 2 i0 (.int .i64 0) 1 8 Tryz.underlying26 hi hz0 hz1 hz2 rfl (by decide) _ _ _ rfl (row_alloc (row_more HOr.out t) _) ⟨(more wr t).heap.size,0,none⟩ 1 1 [.int .i64 (r / S1)] rfl rfl (one_new _ _ _) (int_cell _) (by rw[digs_len];unfold maxLen;omega) (by rw[digs_len];omega) (by have:=(HFr.out.more t).z;simp at this;simp;omega) ?_;intro v' w1 hown hgrow _))
    have HF2:=Lib.hid (((HFr.out.more t).alloc _).grow hgrow (row_alloc (row_more HOr.out t) _) (by simp))
    have HO2:Hid (OwnS w1 (w.heap.size+2) 2 v' (digs (sq s) ⟨n,d⟩ (k+1+1))):=by
     unfold Hid OwnS;rw[digs_succ _ _ (k+1),← hD.out,List.length_append,List.map_append]
     exact hown
    clear hown hgrow
    go_wp2_with (fail)
    go_roundw
    case rel=>exact⟨k+1,by omega,by go_num,by rw[HS1.out],by rw[HS1.out,hM.out],HO2.out,HF2.out⟩
    case measure=>simp[intOf];omega
   ·
    have hkd:k=d:=by omega
    subst hkd
    have HR:Hid (∀v,OwnS wr (w.heap.size+2) 2 v (digs (sq s) ⟨n,k⟩ (k+1))→RetO w 2 (digs (sq s) ⟨n,k⟩ (k+1)) (.returned v) wr):=fun v hv=>RetO.mk (hv.mono (by omega)) HFr.out.b
    go_wp2_with (fail)
    go_ret
    exact HR.out _ HOr.out
set_option maxHeartbeats 2000000 in
set_option maxRecDepth 10000 in
theorem l09Compare_any (p c h xn yn:Int) (s xd yd:Nat) (w:World) (hs1:1≤s) (hs6:s≤6) (hx:Val (sq s) ⟨xn,xd⟩) (hy:Val (sq s) ⟨yn,yd⟩):
  Calls Tryz.prog 176 #[.agg #[.int .i64 p,.int .i64 c,.int .i64 h,.int .i64 s],.agg #[.int .i64 xn,.int .i64 xd],.agg #[.int .i64 yn,.int .i64 yd]] w fun e w'=>e = .returned (.int .i64 (cmpE (sq s) ⟨xn,xd⟩ ⟨yn,yd⟩))∧Below w.heap.size w w':=by
 obtain⟨hq1,hq36,_⟩:=sq_bd hs1 hs6;have hxd:xd<50:=depth_lt hq1 hx;have hyd:yd<50:=depth_lt hq1 hy
 have CX:=Lib.hid fun (W:World)=>l09Split_any p c h xn s xd W hs1 hs6 hx
 have CY:=Lib.hid fun (W:World)=>l09Split_any p c h yn s yd W hs1 hs6 hy
 have HX:=Lib.hid fun i=>digs_low hq1 (x:=⟨xn,xd⟩) (i:=i)
 have HY:=Lib.hid fun i=>digs_low hq1 (x:=⟨yn,yd⟩) (i:=i)
 have lx:=digs_len (sq s) ⟨xn,xd⟩ (xd+1);have ly:=digs_len (sq s) ⟨yn,yd⟩ (yd+1)
 have HF0:Hid (Fr w (((w.alloc (.cells #[.int .i64 p,.int .i64 c,.int .i64 h,.int .i64 s] 25)).alloc (.cells #[.int .i64 xn,.int .i64 xd] 35)).alloc (.cells #[.int .i64 yn,.int .i64 yd] 35)) [[.int .i64 p,.int .i64 c,.int .i64 h,.int .i64 s],[.int .i64 xn,.int .i64 xd],[.int .i64 yn,.int .i64 yd]]):=
  (((Fr.start w).allocT (by simp) _ _).allocT (by simp) _ _).allocT (by simp) _ _
 clear hx hy
 go_enter Tryz.func176,Tryz.ntmps176
 go_wp2_with (fail)
 refine (CX.out _).mono ?_
 rintro e w1 ⟨A1,c1,rfl,ho1,hb1⟩
 have HF1:=Lib.hid (HF0.out.below hb1);have HO1:=Lib.hid ho1;clear ho1 hb1;obtain⟨z0,c00,f00,c01,f01,c02,f02,c03,f03,z1,c10,f10,c11,f11,z2,c20,f20,c21,f21⟩:=HF1.out.xf1
 go_wp2_with (fail)
 refine (CY.out _).mono ?_
 rintro e w2 ⟨A2,c2,rfl,ho2,hb2⟩
 have HF2:=Lib.hid (HF1.out.below hb2);have HS1:=Lib.hid ((HO1.out.below hb2).sl rfl).1;have HS2:=Lib.hid (ho2.sl rfl).1;clear ho2 hb2 HO1;clear HF1 z0 c00 c01 c02 c03 f00 f01 f02 f03 z1 c10 c11 f10 f11 z2 c20 c21 f20 f21
 go_wp2_with (fail)
 go_loop [9] (fun v=>∃k:Nat,v = .int .i64 k∧k≤max xd yd+1∧Hid (∀i,i<k→flo (sq s) ⟨xn,xd⟩ i=flo (sq s) ⟨yn,yd⟩ i)) (fun v=>max xd yd+1-(intOf v).toNat)
 case atStart=>exact⟨0,rfl,by omega,fun i hi=>absurd hi (by omega)⟩
 case round=>
  obtain⟨k,rfl,hk,hall⟩:=hrel
  have hk51:k≤51:=by omega
  by_cases h1:k<xd+1
  ·have h1i:(k:Int)<(xd:Int)+1:=by omega
   obtain⟨b1,off1,rfl,_,hc1⟩:=HS1.out.2 (by rw[lx];omega)
   have q1:=hc1 k (by rw[lx];exact h1)
   have HP:Hid ((digs (sq s) ⟨xn,xd⟩ (xd+1)).getD k 0=dig (sq s) ⟨xn,xd⟩ k):=HX.out k;clear hc1
   by_cases h2:k<yd+1
   ·have h2i:(k:Int)<(yd:Int)+1:=by omega
    obtain⟨b2,off2,rfl,_,hc2⟩:=HS2.out.2 (by rw[ly];omega)
    have q2:=hc2 k (by rw[ly];exact h2)
    have HQ:Hid ((digs (sq s) ⟨yn,yd⟩ (yd+1)).getD k 0=dig (sq s) ⟨yn,yd⟩ k):=HY.out k;clear hc2;generalize (digs (sq s) ⟨xn,xd⟩ (xd+1)).getD k 0=P at *;generalize (digs (sq s) ⟨yn,yd⟩ (yd+1)).getD k 0=Q at *
    by_cases hlt:(P:Int)<Q
    ·
     have HC:Hid (cmpE (sq s) ⟨xn,xd⟩ ⟨yn,yd⟩ = -1):=dig_lt hq1 hall.out (by rw[← HP.out,← HQ.out];exact hlt)
     go_wp2_with (fail)
     go_ret
     exact⟨by rw[HC.out];rfl,HF2.out.b⟩
    ·
     have hltb:decide ((P:Int)<Q)=false:=decide_eq_false hlt
     by_cases hgt:(Q:Int)<P
     ·
      have HC:Hid (cmpE (sq s) ⟨xn,xd⟩ ⟨yn,yd⟩=1):=dig_gt hq1 hall.out (by rw[← HP.out,← HQ.out];exact hgt)
      go_wp2_with (fail)
      go_ret
      exact⟨by rw[HC.out];rfl,HF2.out.b⟩
     ·
      have hgtb:decide ((Q:Int)<P)=false:=decide_eq_false hgt
      have hall':Hid (∀i,i<k+1→flo (sq s) ⟨xn,xd⟩ i=flo (sq s) ⟨yn,yd⟩ i):=dig_eq hall.out (by rw[← HP.out,← HQ.out];omega)
      have hk':k+1≤max xd yd+1:=by omega
      go_wp2_with (fail)
      go_round
      case rel=>exact⟨k+1,by go_num,hk',hall'⟩
      case measure=>simp[intOf];omega
   ·have h2i:¬(k:Int)<(yd:Int)+1:=by omega
    have h2b:decide ((k:Int)<(yd:Int)+1)=false:=decide_eq_false h2i
    have HQ:Hid ((0:Int)=dig (sq s) ⟨yn,yd⟩ k):=(dig_high hq1 (by show yd<k;omega)).symm
    generalize (digs (sq s) ⟨xn,xd⟩ (xd+1)).getD k 0=P at *
    by_cases hlt:(P:Int)<0
    ·
     have HC:Hid (cmpE (sq s) ⟨xn,xd⟩ ⟨yn,yd⟩ = -1):=dig_lt hq1 hall.out (by rw[← HP.out,← HQ.out];exact hlt)
     go_wp2_with (fail)
     go_ret
     exact⟨by rw[HC.out];rfl,HF2.out.b⟩
    ·
     have hltb:decide ((P:Int)<0)=false:=decide_eq_false hlt
     by_cases hgt:(0:Int)<P
     ·
      have HC:Hid (cmpE (sq s) ⟨xn,xd⟩ ⟨yn,yd⟩=1):=dig_gt hq1 hall.out (by rw[← HP.out,← HQ.out];exact hgt)
      go_wp2_with (fail)
      go_ret
      exact⟨by rw[HC.out];rfl,HF2.out.b⟩
     ·
      have hgtb:decide ((0:Int)<P)=false:=decide_eq_false hgt
      have hall':Hid (∀i,i<k+1→flo (sq s) ⟨xn,xd⟩ i=flo (sq s) ⟨yn,yd⟩ i):=dig_eq hall.out (by rw[← HP.out,← HQ.out];omega)
      have hk':k+1≤max xd yd+1:=by omega
      go_wp2_with (fail)
      go_round
      case rel=>exact⟨k+1,by go_num,hk',hall'⟩
      case measure=>simp[intOf];omega
  ·have h1i:¬(k:Int)<(xd:Int)+1:=by omega
   have h1b:decide ((k:Int)<(xd:Int)+1)=false:=decide_eq_false h1i
   have HP:Hid ((0:Int)=dig (sq s) ⟨xn,xd⟩ k):=(dig_high hq1 (by show xd<k;omega)).symm
   by_cases h2:k<yd+1
   ·have h2i:(k:Int)<(yd:Int)+1:=by omega
    obtain⟨b2,off2,rfl,_,hc2⟩:=HS2.out.2 (by rw[ly];omega)
    have q2:=hc2 k (by rw[ly];exact h2)
    have HQ:Hid ((digs (sq s) ⟨yn,yd⟩ (yd+1)).getD k 0=dig (sq s) ⟨yn,yd⟩ k):=HY.out k;clear hc2;generalize (digs (sq s) ⟨yn,yd⟩ (yd+1)).getD k 0=Q at *
    by_cases hlt:(0:Int)<Q
    ·
     have HC:Hid (cmpE (sq s) ⟨xn,xd⟩ ⟨yn,yd⟩ = -1):=dig_lt hq1 hall.out (by rw[← HP.out,← HQ.out];exact hlt)
     go_wp2_with (fail)
     go_ret
     exact⟨by rw[HC.out];rfl,HF2.out.b⟩
    ·
     have hltb:decide ((0:Int)<Q)=false:=decide_eq_false hlt
     by_cases hgt:(Q:Int)<0
     ·
      have HC:Hid (cmpE (sq s) ⟨xn,xd⟩ ⟨yn,yd⟩=1):=dig_gt hq1 hall.out (by rw[← HP.out,← HQ.out];exact hgt)
      go_wp2_with (fail)
      go_ret
      exact⟨by rw[HC.out];rfl,HF2.out.b⟩
     ·
      have hgtb:decide ((Q:Int)<0)=false:=decide_eq_false hgt
      have hall':Hid (∀i,i<k+1→flo (sq s) ⟨xn,xd⟩ i=flo (sq s) ⟨yn,yd⟩ i):=dig_eq hall.out (by rw[← HP.out,← HQ.out];omega)
      have hk':k+1≤max xd yd+1:=by omega
      go_wp2_with (fail)
      go_round
      case rel=>exact⟨k+1,by go_num,hk',hall'⟩
      case measure=>simp[intOf];omega
   ·have h2i:¬(k:Int)<(yd:Int)+1:=by omega
    have h2b:decide ((k:Int)<(yd:Int)+1)=false:=decide_eq_false h2i
    have HC:Hid (cmpE (sq s) ⟨xn,xd⟩ ⟨yn,yd⟩=0):=cmp_eq hq1 (j:=max xd yd) (Nat.le_max_left _ _) (Nat.le_max_right _ _) (hall.out _ (by omega))
    go_wp2_with (fail)
    go_ret
    exact⟨by rw[HC.out];rfl,HF2.out.b⟩
end Go.Proofs.YtkaiilmgemaljaaGreat

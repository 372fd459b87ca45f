/- Words for the reference's table of expected numbers, and the contract of a new one. There are no conditions beyond those that each states. -/
import Derived.Test.YtkaiilmgemaljaaGreatPR6
import Derived.Test.YtkaiilmgemaljaaGreatPR2
set_option linter.unusedVariables false
set_option linter.unusedSimpArgs false
namespace Go.Proofs.YtkaiilmgemaljaaGreat
open Go.RowKit Ps Ra Ex
structure UT where
 p:Int
 c:Nat
 h:Nat
 s:Nat
 bt:Nat
 bk:Nat
 bv:Nat
def UT.S (t:UT):Nat→Prop:=fun k=>k=t.bk∨k=t.bv
def UT.N (t:UT):Nat:=wys t.h t.c
def UT.cells (t:UT):List Value:=[.int .i64 t.p,.int .i64 t.c,.int .i64 t.h,.int .i64 t.s,.slice (some ⟨t.bk,0,none⟩) t.N t.N,.slice (some ⟨t.bv,0,none⟩) t.N t.N,.bool false]
structure UT.Ok (t:UT):Prop where
 v:isVar t.p t.c t.h t.s=true
 n:t.N≤500
def UT.key (t:UT) (q:List Int):Nat:=num t.c q
theorem UT.key_inj {t:UT} {q q':List Int} (hq:PosP t.h t.c q) (hq':PosP t.h t.c q') (h:t.key q=t.key q'):q=q':=num_inj hq hq' h
structure UtC (t:UT) (w:World) (kf:Nat→Bool) (ef:Nat→Int×Int):Prop where
 tb:∀j v,t.cells[j]? = some v→w.cell? ⟨t.bt,j,none⟩=some v
 nt:¬t.S t.bt
 d:t.bk≠t.bv
 k:∀i,i<t.N→w.cell? ⟨t.bk,i,none⟩=some (.bool (kf i))
 e:∀i,i<t.N→w.cell? ⟨t.bv,i*2,none⟩=some (.int .i64 (ef i).1)∧w.cell? ⟨t.bv,i*2+1,none⟩=some (.int .i64 (ef i).2)
 fk:∀j,w.frozen? ⟨t.bk,j,none⟩=false
 fv:∀j,w.frozen? ⟨t.bv,j,none⟩=false
def UtM (t:UT) (kf:Nat→Bool) (ef:Nat→Int×Int):Prop:=
 ∀q,PosP t.h t.c q→kf (t.key q)=true→∃e,xp t.s q=some e∧ef (t.key q)=(e.num,(e.depth:Int))
def UtI (t:UT) (w:World):Prop:=∃kf ef,UtC t w kf ef∧UtM t kf ef
section
variable {t:UT} {O:Nat→Prop} {w w':World} {kf:Nat→Bool} {ef:Nat→Int×Int}
theorem UtC.ltB (h:UtC t w kf ef):t.bt<w.heap.size:=World.block_lt_of_cell? w _ (h.tb 0 _ rfl)
theorem UtC.ltK (h:UtC t w kf ef):t.bk<w.heap.size:=World.block_lt_of_cell? w _ (h.k 0 (wys_pos _ _))
theorem UtC.ltV (h:UtC t w kf ef):t.bv<w.heap.size:=World.block_lt_of_cell? w _ (h.e 0 (wys_pos _ _)).1
theorem UtC.frm (h:UtC t w kf ef) (hf:Frm O w w') (hO:∀k,O k→¬t.S k) (hb:¬O t.bt):UtC t w' kf ef:=by
 have h1:¬O t.bk:=fun h=>hO _ h (.inl rfl)
 have h2:¬O t.bv:=fun h=>hO _ h (.inr rfl)
 exact⟨fun j v hv=>hf.cell' (h.tb j v hv) hb,h.nt,h.d,fun i hi=>hf.cell' (h.k i hi) h1,fun i hi=>⟨hf.cell' (h.e i hi).1 h2,hf.cell' (h.e i hi).2 h2⟩,
  fun j=>(frm_froz hf h.ltK h1).trans (h.fk j),fun j=>(frm_froz hf h.ltV h2).trans (h.fv j)⟩
theorem UtC.below (h:UtC t w kf ef) (hb:Below w.heap.size w w'):UtC t w' kf ef:=h.frm (Frm.of_below hb) (fun _ h=>h.elim) id
theorem UtC.stored (h:UtC t w kf ef) {b i:Nat} (v:Value) (hS:¬t.S b) (hb:t.bt≠b):UtC t (w.setCell ⟨b,i,none⟩ v) kf ef:=h.frm (Frm.set w b i v) (fun k hk=>by rw[hk];exact hS) hb
theorem UtC.setK (h:UtC t w kf ef) {K:Nat} (hK:K<t.N):UtC t (w.setCell ⟨t.bk,K,none⟩ (.bool true)) (updF kf K true) ef:=by
 have hf:=Frm.set w t.bk K (.bool true)
 have hb:¬t.bt=t.bk:=fun e=>h.nt (.inl e)
 have hv:¬t.bv=t.bk:=Ne.symm h.d
 refine⟨fun j v hv=>hf.cell' (h.tb j v hv) hb,h.nt,h.d,fun i hi=>?_,fun i hi=>⟨hf.cell' (h.e i hi).1 hv,hf.cell' (h.e i hi).2 hv⟩,fun j=>?_,fun j=>(frm_froz hf h.ltV hv).trans (h.fv j)⟩
 ·by_cases e:i=K
  ·subst e;rw[updF_same];exact World.cell?_setCell_same _ _ _ (h.k i hi)
  ·rw[updF_other kf e]
   exact (World.cell?_setCell_other _ _ _ _ (by intro e';simp only[Addr.mk.injEq]at e';omega)).trans (h.k i hi)
 ·have:=h.fk j;simp[go_sem,this]
theorem UtC.setV (h:UtC t w kf ef) {K:Nat} (hK:K<t.N) (a b:Int):UtC t ((w.setCell ⟨t.bv,K*2,none⟩ (.int .i64 a)).setCell ⟨t.bv,K*2+1,none⟩ (.int .i64 b)) kf (updF ef K (a,b)):=by
 have hf:Frm (fun k=>k=t.bv) w ((w.setCell ⟨t.bv,K*2,none⟩ (.int .i64 a)).setCell ⟨t.bv,K*2+1,none⟩ (.int .i64 b)):=(Frm.set _ _ _ _).trans (Frm.set _ _ _ _)
 have hb:¬t.bt=t.bv:=fun e=>h.nt (.inr e)
 have hk:¬t.bk=t.bv:=h.d
 refine⟨fun j v hv=>hf.cell' (h.tb j v hv) hb,h.nt,h.d,fun i hi=>hf.cell' (h.k i hi) hk,fun i hi=>?_,fun j=>(frm_froz hf h.ltK hk).trans (h.fk j),fun j=>?_⟩
 ·obtain⟨e1,e2⟩:=h.e i hi
  by_cases e:i=K
  ·subst e
   rw[updF_same]
   refine⟨?_,?_⟩
   ·exact (World.cell?_setCell_other _ _ _ _ (by intro e';simp only[Addr.mk.injEq]at e';omega)).trans (World.cell?_setCell_same _ _ _ e1)
   ·exact World.cell?_setCell_same _ _ _ ((World.cell?_setCell_other _ _ _ _ (by intro e';simp only[Addr.mk.injEq]at e';omega)).trans e2)
  ·rw[updF_other ef e]
   refine⟨?_,?_⟩
   ·exact (World.cell?_setCell_other _ _ _ _ (by intro e';simp only[Addr.mk.injEq]at e';omega)).trans ((World.cell?_setCell_other _ _ _ _ (by intro e';simp only[Addr.mk.injEq]at e';omega)).trans e1)
   ·exact (World.cell?_setCell_other _ _ _ _ (by intro e';simp only[Addr.mk.injEq]at e';omega)).trans ((World.cell?_setCell_other _ _ _ _ (by intro e';simp only[Addr.mk.injEq]at e';omega)).trans e2)
 ·have:=h.fv j;simp[go_sem,this]
theorem UtM.put (h:UtM t kf ef) {q:List Int} (hq:PosP t.h t.c q) {e:E} (he:xp t.s q=some e):UtM t (updF kf (t.key q) true) (updF ef (t.key q) (e.num,(e.depth:Int))):=by
 intro q' hq' hk
 by_cases e1:t.key q'=t.key q
 ·have:=UT.key_inj hq' hq e1
  subst this
  exact⟨e,he,by rw[updF_same]⟩
 ·rw[updF_other kf e1]at hk
  rw[updF_other ef e1]
  exact h q' hq' hk
theorem UtI.frm (h:UtI t w) (hf:Frm O w w') (hO:∀k,O k→¬t.S k) (hb:¬O t.bt):UtI t w':=let ⟨kf,ef,h1,h2⟩:=h;⟨kf,ef,h1.frm hf hO hb,h2⟩
theorem UtI.below (h:UtI t w) (hb:Below w.heap.size w w'):UtI t w':=h.frm (Frm.of_below hb) (fun _ h=>h.elim) id
theorem UtI.alloc (h:UtI t w) (o:Obj):UtI t (w.alloc o):=h.below ((Below.refl _ _).alloc (Nat.le_refl _) o)
theorem UtI.drew (h:UtI t w):UtI t w.drew:=h.below (drw (Below.refl _ _))
theorem UtI.more (h:UtI t w) (tr:World):UtI t (more w tr):=h.below (below_more w tr)
theorem UtI.stored (h:UtI t w) {b i:Nat} (v:Value) (hS:¬t.S b) (hb:t.bt≠b):UtI t (w.setCell ⟨b,i,none⟩ v):=let ⟨kf,ef,h1,h2⟩:=h;⟨kf,ef,h1.stored v hS hb,h2⟩
theorem UtI.tb (h:UtI t w):∀j v,t.cells[j]? = some v→w.cell? ⟨t.bt,j,none⟩=some v:=let ⟨_,_,h1,_⟩:=h;h1.tb
theorem UtI.ltB (h:UtI t w):t.bt<w.heap.size:=let ⟨_,_,h1,_⟩:=h;h1.ltB
theorem UtI.ltS (h:UtI t w):∀k,t.S k→k<w.heap.size:=by
 obtain⟨_,_,h1,_⟩:=h
 rintro k (rfl|rfl)
 ·exact h1.ltK
 ·exact h1.ltV
end
def RetUn (t:UT) (w:World) (o:Option E) (e:Ending) (w':World):Prop:=e = .returned (.tuple #[exV o,.bool o.isSome])∧UtI t w'∧Frm t.S w w'
theorem RetUn.mkY {t:UT} {w w':World} {o:Option E} {m:Int} {d:Nat} (ho:o=some ⟨m,d⟩) (h1:UtI t w') (h2:Frm t.S w w'):RetUn t w o (.returned (.tuple #[.agg #[.int .i64 m,.int .i64 (d:Int)],.bool true])) w':=by subst ho;exact⟨rfl,h1,h2⟩
theorem RetUn.mkN {t:UT} {w w':World} {o:Option E} (ho:o=none) (h1:UtI t w') (h2:Frm t.S w w'):RetUn t w o (.returned (.tuple #[.agg #[.int .i64 0,.int .i64 0],.bool false])) w':=by subst ho;exact⟨rfl,h1,h2⟩
def UVal (t:UT) (p:List Int):Prop:=∀(A:Option Addr) (ca:Nat) (w:World),UtI t w→SQ t.S w A t.h p→t.h≤ca→
 Calls Tryz.prog 142 #[.pointer (some ⟨t.bt,0,none⟩),.slice A t.h ca] w (RetUn t w (xp t.s p))
def RetNewU (w:World) (p:Int) (c h s:Nat) (e:Ending) (w':World):Prop:=
 ∃t:UT,t.p=p∧t.c=c∧t.h=h∧t.s=s∧e = .returned (.pointer (some ⟨t.bt,0,none⟩))∧t.Ok∧UtI t w'∧(∀k,t.S k→w.heap.size≤k)∧w.heap.size≤t.bt∧Below w.heap.size w w'
def newUG (w:World) (p:Int) (c h s N:Nat) (i:Nat) (v:Value) (W:World):Prop:=
 match i with
 | 0=>v = .agg #[.int .i64 p,.int .i64 c,.int .i64 h,.int .i64 s]
 | 2=>∃b,v = .slice (some ⟨b,0,none⟩) N N∧W.ownsRow w.heap.size 4 1 v N (madeCells #[.bool false] (N*1)).toList
 | 4=>∃b,v = .slice (some ⟨b,0,none⟩) N N∧W.ownsRow w.heap.size 35 2 v N (madeCells #[.int .i64 0,.int .i64 0] (N*2)).toList
 | 5=>v = .bool false
 | _=>v = .int .i64 (N:Int)
def newUO (i:Nat) (v:Value):Option Nat:=if i=2∨i=4 then v.ownBlock else none
theorem newUG_stab {w:World} {p:Int} {c h s N:Nat} (i:Nat) (v:Value) (W W':World) (hg:newUG w p c h s N i v W) (hb:Below W.heap.size W W'):newUG w p c h s N i v W':=by
 unfold newUG at *
 split at hg<;>first|exact hg|(obtain⟨b,h1,h2⟩:=hg;exact⟨b,h1,own_below h2 hb⟩)
theorem newUG_lt {w:World} {p:Int} {c h s N:Nat} (i:Nat) (v:Value) (W:World) (b:Nat) (hg:newUG w p c h s N i v W) (ho:newUO i v=some b):b<W.heap.size:=by
 unfold newUO at ho
 split at ho
 ·rename_i h5
  unfold newUG at hg
  split at hg<;>first|(obtain⟨b',_,h2⟩:=hg;exact (World.ownsRow.lt h2 b ho).2)|(subst hg;cases ho)
 ·cases ho
set_option maxRecDepth 100000 in
set_option maxHeartbeats 2000000 in
theorem l11New_any (p:Int) (c h s:Nat) (w:World) (hv:isVar p c h s=true) (hN:wys h c≤500):
  Calls Tryz.prog 141 #[.agg #[.int .i64 p,.int .i64 c,.int .i64 h,.int .i64 s],.bool false] w (RetNewU w p c h s):=by
 obtain⟨ib,hib,hb0,hb1,hb2⟩:=info_parts Tryz.infoB;obtain⟨ie,hie,he0,he1,he2⟩:=info_parts Tryz.infoE;have hvv:=isVar_yes hv;have HV:=Lib.hid hv;have HN:=Lib.hid hN
 have CW:=Lib.hid fun (W:World)=>l10Ways_any h c W (by omega) (by omega)
 have HC:Hid (wysC h c=wys h c):=wysC_ok (by omega)
 rw[HC.out]at CW
 have HF0:=Lib.hid ((Fr.start w).allocT (by simp) #[.int .i64 p,.int .i64 c,.int .i64 h,.int .i64 s] 25)
 clear hv hN hvv HC
 go_enter Tryz.func141,Tryz.ntmps141
 go_wp2_with (go_at_call 167;(with_reducible refine (CW.out _).mono ?_);rintro e w' ⟨rfl,rfl⟩)
 generalize hNN:wys h c=N at *;have hN9:N≤500:=HN.out
 refine wp_region_makes 6 (fun i=>i+11) (newUG w p c h s N) newUO (by kernel_rfl) (by kernel_rfl) newUG_stab newUG_lt ?_ ?_
 ·intro i o hi ho a' W hb hfar hdep
  have e2:a'.tmps.getD 2 undef = .pointer (some ⟨w.heap.size,0,none⟩):=(hfar 2 (fun j _=>by omega)).trans rfl
  have e5:a'.tmps.getD 5 undef = .int .i64 (N:Int):=(hfar 5 (fun j _=>by omega)).trans rfl
  have e1:a'.tmps.getD 1 undef = .bool false:=(hfar 1 (fun j _=>by omega)).trans rfl
  have HFh:=Lib.hid (HF0.out.below hb);have hWz:w.heap.size≤W.heap.size:=HFh.out.b.size;obtain⟨z0,c00,f00,c01,f01,c02,f02,c03,f03⟩:=HFh.out.xf2;have dep:∀j,j<6→Region.waitsFor .any _ i j=true→newUG w p c h s N j (a'.tmps.getD (j+11) undef) W:=hdep
  have good:∀(v:Value) (W':World),Below W.heap.size W W'→newUG w p c h s N i v W'→(∀b,newUO i v=some b→W.heap.size≤b)→MGood (newUG w p c h s N) newUO i W v W':=fun v W' h1 h2 h3=>⟨h1,h2,h3⟩
  have hi8:i=0∨i=1∨i=2∨i=3∨i=4∨i=5:=by omega
  rcases hi8 with rfl|rfl|rfl|rfl|rfl|rfl
  all_goals
   simp at ho
   subst ho
  ·refine .inl ⟨_,W,?_,good (.agg #[.int .i64 p,.int .i64 c,.int .i64 h,.int .i64 s]) _ (Below.refl _ _) rfl (fun b hb=>by simp[newUO]at hb)⟩
   simp only[execOp,Act.eval,e2]
   go_simp
  ·exact .inl ⟨.int .i64 (N:Int),W,by simp only[execOp,Act.eval,e5];go_simp,good _ _ (Below.refl _ _) rfl (fun b hb=>by simp[newUO]at hb)⟩
  ·have d4:a'.tmps.getD 12 undef = .int .i64 (N:Int):=dep 1 (by omega) (by kernel_rfl)
   obtain⟨W',hrun,hown,hgr⟩:=run_make_full (P:=Tryz.prog) W w.heap.size 142 4 ib (.bool false) 1 Tryz.underlying142 hib hb0 hb1 .i64 .i64 N (by rw[hb2];omega) (by unfold maxLen;omega) hWz
   refine .inl ⟨_,W',?_,good (.slice (some ⟨W.heap.size,0,none⟩) N N) _ ⟨hgr.os,hgr.tape,hgr.output,hgr.size,fun k hk=>hgr.block k hk (by simp)⟩ ⟨W.heap.size,rfl,hown⟩ (fun b hb=>by simp[newUO,Value.ownBlock]at hb;omega)⟩
   simp only[execOp,Act.eval,d4]
   go_simp
  ·exact .inl ⟨.int .i64 (N:Int),W,by simp only[execOp,Act.eval,e5];go_simp,good _ _ (Below.refl _ _) rfl (fun b hb=>by simp[newUO]at hb)⟩
  ·have d4:a'.tmps.getD 14 undef = .int .i64 (N:Int):=dep 3 (by omega) (by kernel_rfl)
   obtain⟨W',hrun,hown,hgr⟩:=run_make_full (P:=Tryz.prog) W w.heap.size 29 35 ie (.agg #[.int .i64 0,.int .i64 0]) 2 Tryz.underlying29 hie he0 he1 .i64 .i64 N (by rw[he2];omega) (by unfold maxLen;omega) hWz
   refine .inl ⟨_,W',?_,good (.slice (some ⟨W.heap.size,0,none⟩) N N) _ ⟨hgr.os,hgr.tape,hgr.output,hgr.size,fun k hk=>hgr.block k hk (by simp)⟩ ⟨W.heap.size,rfl,hown⟩ (fun b hb=>by simp[newUO,Value.ownBlock]at hb;omega)⟩
   simp only[execOp,Act.eval,d4]
   go_simp
  ·exact .inl ⟨.bool false,W,by simp only[execOp,Act.eval,e1];go_simp,good _ _ (Below.refl _ _) rfl (fun b hb=>by simp[newUO]at hb)⟩
 ·intro v W hb hg ho
  have HBW:Below w.heap.size w W:=((Below.refl _ _).alloc (Nat.le_refl _) _).trans (hb.mono (by simp))
  have g0:v 0 = .agg #[.int .i64 p,.int .i64 c,.int .i64 h,.int .i64 s]:=hg 0 (by omega)
  have g1:v 1 = .int .i64 (N:Int):=hg 1 (by omega)
  obtain⟨bk,g5,o5⟩:∃b,v 2 = .slice (some ⟨b,0,none⟩) N N∧W.ownsRow w.heap.size 4 1 (v 2) N (madeCells #[.bool false] (N*1)).toList:=hg 2 (by omega)
  have g3:v 3 = .int .i64 (N:Int):=hg 3 (by omega)
  obtain⟨bv,g9,o9⟩:∃b,v 4 = .slice (some ⟨b,0,none⟩) N N∧W.ownsRow w.heap.size 35 2 (v 4) N (madeCells #[.int .i64 0,.int .i64 0] (N*2)).toList:=hg 4 (by omega)
  have g8:v 5 = .bool false:=hg 5 (by omega)
  have d:bk≠bv:=fun e=>ho 2 4 (by omega) (by omega) (by omega) bk (by rw[g5];rfl) (by rw[g9,e];rfl)
  rw[g5]at o5;rw[g9]at o9;have l5:=World.ownsRow.lt o5 bk rfl;have l9:=World.ownsRow.lt o9 bv rfl
  have HR:Hid (∀W',W'=W.alloc (.cells #[.int .i64 p,.int .i64 c,.int .i64 h,.int .i64 s,.slice (some ⟨bk,0,none⟩) N N,.slice (some ⟨bv,0,none⟩) N N,.bool false] 221)→RetNewU w p c h s (.returned (.pointer (some ⟨W.heap.size,0,none⟩))) W'):=fun W' hW'=>by
   subst hW';have hz:w.heap.size≤W.heap.size:=HBW.size;have hNt:(⟨p,c,h,s,W.heap.size,bk,bv⟩:UT).N=N:=hNN
   refine⟨⟨p,c,h,s,W.heap.size,bk,bv⟩,rfl,rfl,rfl,rfl,rfl,⟨HV.out,by rw[hNt];exact HN.out⟩,⟨fun _=>false,fun _=>(0,0),⟨fun j v hj=>?_,?_,d,fun i hi=>?_,fun i hi=>?_,fun j=>?_,fun j=>?_⟩,fun q _ hk=>by cases hk⟩,?_,hz,HBW.alloc hz _⟩
   ·have:(#[.int .i64 p,.int .i64 c,.int .i64 h,.int .i64 s,.slice (some ⟨bk,0,none⟩) N N,.slice (some ⟨bv,0,none⟩) N N,.bool false]:Array Value)[j]? = some v:=by rw[← hj];unfold UT.cells;rw[hNt];simp
    simp[go_sem,this]
   ·rintro (h'|h')
    ·simp at h';omega
    ·simp at h';omega
   ·rw[hNt]at hi
    rw[cell_alloc_lt _ _ _ l5.2,o5.cellAt i (by omega),made_b _ _ hi]
   ·rw[hNt]at hi
    rw[cell_alloc_lt _ _ _ l9.2,cell_alloc_lt _ _ _ l9.2,o9.cellAt (i*2) (by omega),o9.cellAt (i*2+1) (by omega),made_e _ _ (by omega),made_e _ _ (by omega)]
    exact⟨rfl,rfl⟩
   ·rw[frozen_alloc_lt _ _ _ l5.2];exact o5.frozenAt j
   ·rw[frozen_alloc_lt _ _ _ l9.2];exact o9.frozenAt j
   ·rintro k (rfl|rfl)
    ·exact l5.1
    ·exact l9.1
  clear o5 o9 hg ho l5 l9;have d:=Lib.hid d
  simp only[List.drop_succ_cons,List.drop_zero,putV,g0,g1,g5,g3,g9,g8,Act.put]
  clear g0 g1 g5 g3 g9 g8 hNN
  go_wp2_with (fail)
  go_ret
  exact HR.out _ rfl
end Go.Proofs.YtkaiilmgemaljaaGreat

/- Part of one proof. There are no conditions. -/
import Derived.Test.YtkaiilmgemaljaaGreatRD7
import Derived.Test.YtkaiilmgemaljaaGreatRZb
import Derived.Test.YtkaiilmgemaljaaGreatRE2
set_option linter.unusedVariables false
set_option linter.unusedSimpArgs false
set_option maxHeartbeats 0
set_option maxRecDepth 100000
namespace Go.Proofs.YtkaiilmgemaljaaGreat
open Go.RowKit
section
variable {P:Program} {w:World}
def JK (w:World) (n:Nat) (G:Nat->Value->Nat->Nat->World->Prop) (L:Nat->Bool) (vs:Nat->Value) (W:World):Prop:=
 Below w.heap.size w W/\∃lo hi:Nat->Nat,(∀i,i<n->L i=true->G i (vs i) (lo i) (hi i) W/\w.heap.size<=lo i/\lo i<=hi i/\hi i<=W.heap.size)/\∀i j,i<n->j<n->L i=true->L j=true->i≠j->hi i<=lo j\/hi j<=lo i
theorem MStep.mono {o:Oper} {a:Act} {W:World} {g g':Value->World->Prop} (h:MStep P o a W g) (hg:∀v W',g v W'->g' v W'):MStep P o a W g':=by
 rcases h with⟨v,W',h1,h2⟩|⟨f,args,h1,h2⟩
 ·exact .inl ⟨v,W',h1,hg v W' h2⟩
 ·exact .inr ⟨f,args,h1,h2.mono fun e W' ⟨v,he,hv⟩=>⟨v,he,hg v W' hv⟩⟩
theorem cd {id:Nat} {Q:Exit->Act->World->Prop} {a:Act} {l:List Oper} (n:Nat) (ds:Nat->Nat) (G:Nat->Value->Nat->Nat->World->Prop)
  (hm:P.follows .mixedOrders=true) (hB:ii l.toArray n (fun _=>false) ds a.tmps.size=true) (hQ:∀(c:List PanicEntry) (a:Act) (d:Tmp) (v:Value) (w:World),Q (.panic c) (Act.put a (some d) v) w->Q (.panic c) a w)
  (stab:∀i v lo hi W W',G i v lo hi W->Below W.heap.size W W'->G i v lo hi W')
  (step:∀i o,i<n→l[i]? = some o→∀(a':Act) (W:World),Below w.heap.size w W→(∀t,(∀i,i<n→ds i≠t)→a'.tmps.getD t undef=a.tmps.getD t undef)→
   (∀j,j<n->Region.waitsFor .any l.toArray i j=true->∃lo hi,G j (a'.tmps.getD (ds j) undef) lo hi W)->MStep P o a' W (fun v W'=>Below W.heap.size W W'/\G i v W.heap.size W'.heap.size W'))
  (tail:∀(v:Nat->Value) (W:World) (lo hi:Nat->Nat),Below w.heap.size w W->(∀i,i<n->G i (v i) (lo i) (hi i) W/\w.heap.size<=lo i/\lo i<=hi i/\hi i<=W.heap.size)->(∀i j,i<n->j<n->i≠j->hi i<=lo j\/hi j<=lo i)->wpList P l.toArray Q (l.drop n) (putV a ds v n) W):
  (Code.region id l.toArray true).wp P Q a w:=by
 refine ce n (fun _=>false) ds (JK w n G) hm hB hQ ?_ ?_ ?_ ?_
 ·intro vs
  exact⟨⟨rfl,rfl,rfl,Nat.le_refl _,fun _ _=>rfl⟩,fun _=>0,fun _=>0,fun i _ h=>(by cases h),fun i j _ _ h=>(by cases h)⟩
 ·intro i o hi hX
  cases hX
 ·intro i o hi _ ho L a' W hJ hun hfar hdep
  obtain⟨hb,lo,hh,h1,h2⟩:=hJ
  refine (step i o hi ho a' W hb hfar fun j hj hw=>⟨lo j,hh j,(h1 j hj (hdep j hj hw)).1⟩).mono ?_
  rintro v W' ⟨hb',hG⟩ L' vs' ⟨u1,u2,u3⟩
  have hz:w.heap.size<=W.heap.size:=hb.size;have hz':W.heap.size<=W'.heap.size:=hb'.size
  refine⟨hb.trans (hb'.mono hz),fun k=>if k=i then W.heap.size else lo k,fun k=>if k=i then W'.heap.size else hh k,fun k hk hL=>?_,fun k m hk hm' hLk hLm hne=>?_⟩
  ·by_cases e:k=i
   ·subst e
    simp only[if_true]
    rw[u2]
    exact⟨hG,hz,hz',Nat.le_refl _⟩
   ·simp only[if_neg e]
    obtain⟨v1,v2⟩:=u3 k hk e;rw[v1]at hL;obtain⟨g1,g2,g3,g4⟩:=h1 k hk hL;rw[v2]
    exact⟨stab _ _ _ _ _ _ g1 hb',g2,g3,by omega⟩
  ·by_cases e:k=i
   ·subst e
    have em:m≠k:=Ne.symm hne
    simp only[if_true,if_neg em]
    obtain⟨v1,_⟩:=u3 m hm' em;rw[v1]at hLm;have:=(h1 m hm' hLm).2.2.2
    exact .inr (by omega)
   ·by_cases e2:m=i
    ·subst e2
     simp only[if_true,if_neg e]
     obtain⟨v1,_⟩:=u3 k hk e;rw[v1]at hLk;have:=(h1 k hk hLk).2.2.2
     exact .inl (by omega)
    ·simp only[if_neg e,if_neg e2]
     obtain⟨v1,_⟩:=u3 k hk e;obtain⟨v2,_⟩:=u3 m hm' e2;rw[v1]at hLk;rw[v2]at hLm
     exact h2 k m hk hm' hLk hLm hne
 ·intro L v W hL hJ
  obtain⟨hb,lo,hh,h1,h2⟩:=hJ
  exact tail v W lo hh hb (fun i hi=>h1 i hi (hL i hi)) fun i j hi hj hne=>h2 i j hi hj (hL i hi) (hL j hj) hne
end
open Go.RowKit Ps Ra Ex Go.Maps Mo
def RetNewX (w:World) (p:Int) (c h s:Nat) (e:Ending) (w':World):Prop:=
 ∃t:RT,t.p=p/\t.c=c/\t.h=h/\t.s=s/\e = .returned (.pointer (some ⟨t.bt,0,none⟩))/\t.Ok/\RaceI t (fun k=>t.S k\/k<w.heap.size) w'/\(∀k,t.S k->w.heap.size<=k)/\w.heap.size<=t.bt/\Below w.heap.size w w'
theorem gZ (p:Int) (c h s:Nat) (w:World) (hv:isVar p c h s=true) (hN:wys h c<=500):
  Calls Tryz.prog 75 #[.agg #[.int .i64 p,.int .i64 c,.int .i64 h,.int .i64 s]] w (RetNewX w p c h s):=by
 have hvv:=aj hv
 have hs6:s<=6:=by omega
 have HV:=h_ hv;have HN:=h_ hN
 have HC:Hid (wysC h c=wys h c):=cO (by omega)
 have HF0:=h_ ((Fr.start w).allocT (by simp) #[.int .i64 p,.int .i64 c,.int .i64 h,.int .i64 s] 25)
 have CN:=h_ fun (W:World)=>ej p s c h W hv
 have CR:=h_ fun (W:World)=>ik p c h s W hv
 clear hv hN hvv
 go_enter Tryz.func75,Tryz.ntmps75
 go_wp2_with (fail)
 refine iC 8 (fun i=>i+3) (newG w p c h s (wys h c)) newO (by kernel_rfl) (by kernel_rfl) newG_stab newG_lt ?_ ?_
 ·intro i o hi ho a' W hb hfar hdep
  have e1:a'.tmps.getD 1 undef = .pointer (some ⟨w.heap.size,0,none⟩):=(hfar 1 (fun j _=>by omega)).trans rfl
  have HFW:=HF0.out.below hb;have hWz:w.heap.size<=W.heap.size:=HFW.b.size;have HFh:=h_ HFW;obtain⟨z0,c00,f00,c01,f01,c02,f02,c03,f03⟩:=HFh.out.xf2;have dep:∀j,j<8->Region.waitsFor .any _ i j=true->newG w p c h s (wys h c) j (a'.tmps.getD (j+3) undef) W:=hdep
  have good:∀(v:Value) (W':World),Below W.heap.size W W'->newG w p c h s (wys h c) i v W'->(∀b,newO i v=some b->W.heap.size<=b)->MGood (newG w p c h s (wys h c)) newO i W v W':=fun v W' h1 h2 h3=>⟨h1,h2,h3⟩
  have load:∀(d:Option Tmp) (ty:TypeId) (pos:String) (af:Array Edge),(execOp a'.eval { dst:=d,op:=Op.load 25 (Operand.tmp 1),type:=ty,pos:=pos,after:=af,guard:=none }).run Tryz.prog W = .ok (.value (.agg #[.int .i64 p,.int .i64 c,.int .i64 h,.int .i64 s])) W:=fun d ty pos af=>by
   simp only[execOp,Act.eval,e1]
   go_simp
  have hi8:i=0\/i=1\/i=2\/i=3\/i=4\/i=5\/i=6\/i=7:=by omega
  rcases hi8 with rfl|rfl|rfl|rfl|rfl|rfl|rfl|rfl
  all_goals
   simp at ho
   subst ho
  ·exact .inl ⟨_,W,load _ _ _ _,good _ _ (Below.refl _ _) rfl (fun b hb=>by simp[newO]at hb)⟩
  ·exact .inl ⟨_,W,load _ _ _ _,good _ _ (Below.refl _ _) rfl (fun b hb=>by simp[newO]at hb)⟩
  ·have e4:a'.tmps.getD 4 undef = .agg #[.int .i64 p,.int .i64 c,.int .i64 h,.int .i64 s]:=dep 1 (by omega) (by kernel_rfl)
   refine .inr ⟨164,#[.agg #[.int .i64 p,.int .i64 c,.int .i64 h,.int .i64 s]],?_,?_⟩
   ·simp only[execOp,Act.eval]
    go_simp
   ·refine (CN.out W).mono ?_
    rintro e W' ⟨rfl,hb'⟩
    exact⟨_,rfl,good _ _ hb' (by rw[HC.out];rfl) (fun b hb=>by simp[newO]at hb)⟩
  ·exact .inl ⟨_,W,load _ _ _ _,good _ _ (Below.refl _ _) rfl (fun b hb=>by simp[newO]at hb)⟩
  ·have e6:a'.tmps.getD 6 undef = .agg #[.int .i64 p,.int .i64 c,.int .i64 h,.int .i64 s]:=dep 3 (by omega) (by kernel_rfl)
   refine .inr ⟨165,#[.agg #[.int .i64 p,.int .i64 c,.int .i64 h,.int .i64 s]],?_,?_⟩
   ·simp only[execOp,Act.eval]
    go_simp
   ·refine (CR.out W).mono ?_
    rintro e W' ⟨v,rfl,ho,hb'⟩
    exact⟨_,rfl,good _ _ hb' (cB ho hWz) (fun b hb=>by simp[newO]at hb)⟩
  all_goals
   refine .inl ⟨.map (some W.heap.size),W.alloc (.map #[] 0),rfl,good _ _ ((Below.refl _ _).alloc (Nat.le_refl _) _) ⟨W.heap.size,rfl,hWz,heap_alloc_new W _⟩ (fun b hb=>?_)⟩
   simp[newO,mapB]at hb
   omega
 ·intro v W hb hg ho
  have HBW:Below w.heap.size w W:=((Below.refl _ _).alloc (Nat.le_refl _) _).trans (hb.mono (by simp))
  have g0:v 0 = .agg #[.int .i64 p,.int .i64 c,.int .i64 h,.int .i64 s]:=hg 0 (by omega)
  have g1:v 1 = .agg #[.int .i64 p,.int .i64 c,.int .i64 h,.int .i64 s]:=hg 1 (by omega)
  have g2:v 2 = .int .i64 (wys h c:Int):=hg 2 (by omega)
  have g3:v 3 = .agg #[.int .i64 p,.int .i64 c,.int .i64 h,.int .i64 s]:=hg 3 (by omega)
  have g4:OwnR W w.heap.size (v 4) (ad s):=hg 4 (by omega)
  obtain⟨b1,g5,l1,m1⟩:∃b,v 5 = .map (some b)/\w.heap.size<=b/\W.heap[b]? = some (.map #[] 0):=hg 5 (by omega)
  obtain⟨b2,g6,l2,m2⟩:∃b,v 6 = .map (some b)/\w.heap.size<=b/\W.heap[b]? = some (.map #[] 0):=hg 6 (by omega)
  obtain⟨b3,g7,l3,m3⟩:∃b,v 7 = .map (some b)/\w.heap.size<=b/\W.heap[b]? = some (.map #[] 0):=hg 7 (by omega)
  have d12:b1≠b2:=fun e=>ho 5 6 (by omega) (by omega) (by omega) b1 (by rw[g5];rfl) (by rw[g6,e];rfl)
  have d13:b1≠b3:=fun e=>ho 5 7 (by omega) (by omega) (by omega) b1 (by rw[g5];rfl) (by rw[g7,e];rfl)
  have d23:b2≠b3:=fun e=>ho 6 7 (by omega) (by omega) (by omega) b2 (by rw[g6];rfl) (by rw[g7,e];rfl)
  have hrb:∀k,(v 4).ownBlock=some k->¬((k=b1\/k=b2\/k=b3)\/k<w.heap.size):=fun k hk hor=>by
   have hlo:=(World.ownsRow.lt g4 k hk).1
   replace hor:k=b1\/k=b2\/k=b3:=hor.elim id fun h=>by omega
   obtain⟨_,h4⟩:=g4
   rcases h4 with⟨h4,_⟩|⟨g,cap,cur,h4,_,h5,_⟩
   ·rw[h4]at hk;cases hk
   ·rw[h4]at hk
    simp[Value.ownBlock]at hk
    subst hk
    rcases hor with rfl|rfl|rfl
    ·rw[m1]at h5;cases h5
    ·rw[m2]at h5;cases h5
    ·rw[m3]at h5;cases h5
  obtain⟨A,cr,hv4,hsl,hcr⟩:=cJ (S:=fun k=>(k=b1\/k=b2\/k=b3)\/k<w.heap.size) g4 hrb (by omega)
  have HR:Hid (∀W',W'=W.alloc (.cells #[.int .i64 p,.int .i64 c,.int .i64 h,.int .i64 s,.int .i64 (wys h c:Int),.slice A (ad s).length cr,.map (some b1),.map (some b2),.map (some b3)] 109)->RetNewX w p c h s (.returned (.pointer (some ⟨W.heap.size,0,none⟩))) W'):=fun W' hW'=>by
   subst hW';have hz:w.heap.size<=W.heap.size:=HBW.size
   refine⟨⟨p,c,h,s,W.heap.size,b1,b2,b3,A,(ad s).length,cr⟩,rfl,rfl,rfl,rfl,rfl,⟨HV.out,HN.out,rfl,hcr⟩,?_,?_,hz,HBW.alloc hz _⟩
   ·have mk:∀b,W.heap[b]? = some (Obj.map #[] 0)->MapV Tryz.prog 2 (W.alloc (.cells #[.int .i64 p,.int .i64 c,.int .i64 h,.int .i64 s,.int .i64 (wys h c:Int),.slice A (ad s).length cr,.map (some b1),.map (some b2),.map (some b3)] 109)) b (keysU (wys h c)) (fun _=>none):=fun b hb=>(gJ Tryz.prog 2 (keysU (wys h c)) hb).alloc _
    have lt:∀b:Nat,W.heap[b]? = some (Obj.map #[] 0)->b<W.heap.size:=fun b h=>(Array.getElem?_eq_some_iff.1 h).1
    refine⟨fun j v hj=>?_,?_,⟨rfl,hsl.alloc _⟩,fun k hk=>.inl hk,d12,d13,d23,_,_,_,mk b1 m1,mk b2 m2,mk b3 m3,(fun q _ u hu=>by cases hu),(fun q r _ _ u hu=>by cases hu)⟩
    ·have:(#[.int .i64 p,.int .i64 c,.int .i64 h,.int .i64 s,.int .i64 (wys h c:Int),.slice A (ad s).length cr,.map (some b1),.map (some b2),.map (some b3)]:Array Value)[j]? = some v:=by rw[<- hj];simp[RT.cells,RT.N]
     simp[go_sem,this]
    ·rintro ((h|h|h)|h)
     ·have:=lt b1 m1;simp at h;omega
     ·have:=lt b2 m2;simp at h;omega
     ·have:=lt b3 m3;simp at h;omega
     ·simp at h;omega
   ·rintro k (rfl|rfl|rfl)<;>assumption
  clear hrb hsl g4 m1 m2 m3 hg ho hcr;have d12:=h_ d12;have d13:=h_ d13;have d23:=h_ d23
  simp only[List.drop_succ_cons,List.drop_zero,putV,g0,g1,g2,g3,hv4,g5,g6,g7,Act.put]
  clear g0 g1 g2 g3 hv4 g5 g6 g7
  go_wp2_with (fail)
  go_ret
  exact HR.out _ rfl
def RetNM (w:World) (p:Int) (c h s K:Nat) (b j:Bool) (e:Ending) (w':World):Prop:=
 ∃m:MT,m.t.p=p/\m.t.c=c/\m.t.h=h/\m.t.s=s/\m.K=K/\m.bv=b/\e = .returned (.pointer (some ⟨m.bm,0,none⟩))/\m.Ok/\MonI m m.S w'/\(∀k,m.S k->w.heap.size<=k)/\Below w.heap.size w w'
def nmG (p:Int) (c h s:Nat) (m:Int) (b j:Bool) (i:Nat) (v:Value) (lo hi:Nat) (W:World):Prop:=
 match i with
 | 0=>v = .agg #[.int .i64 p,.int .i64 c,.int .i64 h,.int .i64 s]
 | 1=>∃t:RT,t.p=p/\t.c=c/\t.h=h/\t.s=s/\v = .pointer (some ⟨t.bt,0,none⟩)/\t.Ok/\RaceI t (fun k=>t.S k\/k<lo\/hi<=k) W/\(∀k,t.S k->lo<=k/\k<hi)
 | 2=>v = .agg #[.int .i64 m,.bool b,.bool j]
 | _=>v = .map (some lo)/\lo<hi/\W.heap[lo]? = some (.map #[] 0)
theorem nmG_stab {p:Int} {c h s:Nat} {m:Int} {b j:Bool} (i:Nat) (v:Value) (lo hi:Nat) (W W':World) (hg:nmG p c h s m b j i v lo hi W) (hb:Below W.heap.size W W'):nmG p c h s m b j i v lo hi W':=by
 unfold nmG at *
 split at hg
 ·exact hg
 ·obtain⟨t,h1,h2,h3,h4,h5,h6,h7,h8⟩:=hg
  exact⟨t,h1,h2,h3,h4,h5,h6,h7.below hb,h8⟩
 ·exact hg
 ·obtain⟨h1,h2,h3⟩:=hg
  exact⟨h1,h2,(hb.block lo (Array.getElem?_eq_some_iff.1 h3).1).trans h3⟩
theorem hY (p:Int) (c h s K:Nat) (b j:Bool) (w:World) (hv:isVar p c h s=true) (hN:wys h c<=141) (hK:K<=10):
  Calls Tryz.prog 103 #[.agg #[.int .i64 p,.int .i64 c,.int .i64 h,.int .i64 s],.agg #[.int .i64 (two K),.bool b,.bool j]] w (RetNM w p c h s K b j):=by
 have HK:=h_ hK;have HN:=h_ hN;obtain⟨mo,hmo⟩:∃mo,mo=two K:=⟨_,rfl⟩;have HM:=h_ hmo;rw[<- hmo];clear hmo
 have HF0:=h_ (((Fr.start w).allocT (by simp) #[.int .i64 p,.int .i64 c,.int .i64 h,.int .i64 s] 25).allocT (by simp) #[.int .i64 mo,.bool b,.bool j] 53)
 have CR:=h_ fun (W:World)=>gZ p c h s W hv (by omega)
 clear hv hN hK
 go_enter Tryz.func103,Tryz.ntmps103
 go_wp2_with (fail)
 refine cd 5 (fun i=>i+5) (nmG p c h s mo b j) (by kernel_rfl) (by kernel_rfl) (fun _ _ _ _ _ h=>h) nmG_stab ?_ ?_
 ·intro i o hi ho a' W hb hfar hdep
  have e2:a'.tmps.getD 2 undef = .pointer (some ⟨w.heap.size,0,none⟩):=(hfar 2 (fun j _=>by omega)).trans rfl
  have e3:a'.tmps.getD 3 undef = .pointer (some ⟨w.heap.size+1,0,none⟩):=(hfar 3 (fun j _=>by omega)).trans rfl
  have HFW:=HF0.out.below hb;have HFh:=h_ HFW
  have z0:=HFh.out.l0 (by simp)
  have c00:=HFh.out.c0 0 rfl;have f00:=HFh.out.f0 0 rfl;have c01:=HFh.out.c0 1 rfl;have f01:=HFh.out.f0 1 rfl;have c02:=HFh.out.c0 2 rfl;have f02:=HFh.out.f0 2 rfl;have c03:=HFh.out.c0 3 rfl;have f03:=HFh.out.f0 3 rfl
  have z1:=HFh.out.l1 (by simp)
  have c10:=HFh.out.c1 0 rfl;have f10:=HFh.out.f1 0 rfl;have c11:=HFh.out.c1 1 rfl;have f11:=HFh.out.f1 1 rfl;have c12:=HFh.out.c1 2 rfl;have f12:=HFh.out.f1 2 rfl
  have hi8:i=0\/i=1\/i=2\/i=3\/i=4:=by omega
  rcases hi8 with rfl|rfl|rfl|rfl|rfl
  all_goals
   simp at ho
   subst ho
  ·refine .inl ⟨.agg #[.int .i64 p,.int .i64 c,.int .i64 h,.int .i64 s],W,?_,Below.refl _ _,rfl⟩
   simp only[execOp,Act.eval,e2]
   go_simp
  ·obtain⟨_,_,d5⟩:=hdep 0 (by omega) (by kernel_rfl)
   replace d5:a'.tmps.getD 5 undef = .agg #[.int .i64 p,.int .i64 c,.int .i64 h,.int .i64 s]:=d5
   refine .inr ⟨75,#[.agg #[.int .i64 p,.int .i64 c,.int .i64 h,.int .i64 s]],?_,?_⟩
   ·simp only[execOp,Act.eval,d5]
    go_simp
   ·refine (CR.out W).mono ?_
    rintro e W' ⟨t,t1,t2,t3,t4,rfl,t5,t6,t7,t8,t9⟩
    refine⟨_,rfl,t9,t,t1,t2,t3,t4,rfl,t5,?_,fun k hk=>⟨t7 k hk,t6.ltS k hk⟩⟩
    exact t6.set (fun k hk=>hk.elim (fun h=>.inl (.inl h)) fun h=>h.elim (fun h=>.inl (.inr h)) .inr) fun k hk=>.inl hk
  ·refine .inl ⟨.agg #[.int .i64 mo,.bool b,.bool j],W,?_,Below.refl _ _,rfl⟩
   simp only[execOp,Act.eval,e3]
   go_simp
  all_goals
   exact .inl ⟨.map (some W.heap.size),W.alloc (.map #[] 0),rfl,(Below.refl _ _).alloc (Nat.le_refl _) _,rfl,by simp,heap_alloc_new W _⟩
 ·intro v W lo hi hb hg hd
  have g0:v 0 = .agg #[.int .i64 p,.int .i64 c,.int .i64 h,.int .i64 s]:=(hg 0 (by omega)).1
  obtain⟨t,t1,t2,t3,t4,g1,t5,t6,t7⟩:nmG p c h s mo b j 1 (v 1) (lo 1) (hi 1) W:=(hg 1 (by omega)).1
  have g2:v 2 = .agg #[.int .i64 mo,.bool b,.bool j]:=(hg 2 (by omega)).1
  obtain⟨g3,l3,m3⟩:nmG p c h s mo b j 3 (v 3) (lo 3) (hi 3) W:=(hg 3 (by omega)).1
  obtain⟨g4,l4,m4⟩:nmG p c h s mo b j 4 (v 4) (lo 4) (hi 4) W:=(hg 4 (by omega)).1
  have d13:=hd 1 3 (by omega) (by omega) (by omega)
  have d14:=hd 1 4 (by omega) (by omega) (by omega)
  have d34:=hd 3 4 (by omega) (by omega) (by omega)
  have z1:=hg 1 (by omega)
  have z3:=hg 3 (by omega)
  have z4:=hg 4 (by omega)
  have HBW:Below w.heap.size w W:=((((Below.refl _ _).alloc (Nat.le_refl _) _).alloc (by simp) _).trans (hb.mono (by simp;omega)))
  have HR:Hid (∀W',W'=W.alloc (.cells #[.pointer (some ⟨t.bt,0,none⟩),.int .i64 mo,.bool b,.bool j,.map (some (lo 3)),.map (some (lo 4))] 203)->RetNM w p c h s K b j (.returned (.pointer (some ⟨W.heap.size,0,none⟩))) W'):=fun W' hW'=>by
   subst hW';have hz:w.heap.size<=W.heap.size:=HBW.size
   have n3:¬t.S (lo 3):=fun hk=>by have:=t7 _ hk;omega
   have n4:¬t.S (lo 4):=fun hk=>by have:=t7 _ hk;omega
   have mk:∀b',W.heap[b']? = some (Obj.map #[] 0)->MapV Tryz.prog 208 (W.alloc (.cells #[.pointer (some ⟨t.bt,0,none⟩),.int .i64 mo,.bool b,.bool j,.map (some (lo 3)),.map (some (lo 4))] 203)) b' (keysM t.N) (fun _=>none):=fun b' hb'=>(gJ Tryz.prog 208 (keysM t.N) hb').alloc _
   have hw0:w.heap.size<=(lo 1):=by have:=z1.2.1;simp at this;omega
   have hw3:w.heap.size<=(lo 3):=by have:=z3.2.1;simp at this;omega
   have hw4:w.heap.size<=(lo 4):=by have:=z4.2.1;simp at this;omega
   refine⟨⟨t,W.heap.size,lo 3,lo 4,K,b,j⟩,t1,t2,t3,t4,rfl,rfl,rfl,⟨t5,HK.out,by show wys t.h t.c<=141;rw[t3,t2];exact HN.out⟩,?_,?_,HBW.alloc hz _⟩
   ·refine⟨?_,fun i v hj=>?_,?_,.inr (.inl rfl),.inr (.inr rfl),by show lo 3≠lo 4;omega,n3,n4,_,_,mk _ m3,mk _ m4,fun q r c _ _ _ u hu=>by cases hu⟩
    ·refine (t6.less (T':=MT.S ⟨t,W.heap.size,lo 3,lo 4,K,b,j⟩) ?_ fun k hk=>.inl hk).alloc _
     rintro k (hk|rfl|rfl)
     ·exact .inl hk
     ·exact .inr (by show lo 3<lo 1\/hi 1<=lo 3;omega)
     ·exact .inr (by show lo 4<lo 1\/hi 1<=lo 4;omega)
    ·have:(#[.pointer (some ⟨t.bt,0,none⟩),.int .i64 mo,.bool b,.bool j,.map (some (lo 3)),.map (some (lo 4))]:Array Value)[i]? = some v:=by rw[<- hj,HM.out];simp[MT.cells]
     simp[go_sem,this]
    ·rintro (hk|hk|hk)
     ·have h7:lo 1<=W.heap.size/\W.heap.size<hi 1:=t7 _ hk
      omega
     ·have e:W.heap.size=lo 3:=hk
      omega
     ·have e:W.heap.size=lo 4:=hk
      omega
   ·rintro k (hk|rfl|rfl)
    ·have:=t7 _ hk;omega
    ·exact hw3
    ·exact hw4
  clear t6 t7 m3 m4 hg hd hb d13 d14 d34 z1 z3 z4 l3 l4
  simp only[List.drop_succ_cons,List.drop_zero,putV,g0,g1,g2,g3,g4,Act.put]
  clear g0 g1 g2 g3 g4
  go_wp2_with (fail)
  go_ret
  exact HR.out _ rfl
theorem gr {m:MT} {T:Nat->Prop} {w w':World} (h:Frm m.S w w') (hs:∀k,m.S k->T k):Frm T w w':=h.mono hs
theorem up4 {K:Nat} {v o:Int} {b:Bool} (hc:CbOk K (v,o)) (h:bvr ⟨two K,b⟩ (v,o)=true):CbOk K (4*v,2):=by
 unfold bvr at h
 simp only[Bool.and_eq_true]at h
 exact hc.up (j:=2) (by omega) (of_decide_eq_true h.2)
theorem up8 {K:Nat} {v o:Int} {b:Bool} (hc:CbOk K (v,o)) (h:rcn ⟨two K,b⟩ (v,o)=true):CbOk K (8*v,2):=by
 unfold rcn at h
 simp only[Bool.and_eq_true]at h
 exact hc.up (j:=3) (by omega) (of_decide_eq_true h.2)
theorem up2 {K:Nat} {v o:Int} {b:Bool} (hc:CbOk K (v,o)) (h:may ⟨two K,b⟩ (v,o)=true):CbOk K (2*v,2):=by
 have h':=of_decide_eq_true h
 exact hc.up (j:=1) (by omega) h'.2
theorem beaver_any (m:MT) (hm:m.Ok) {own other:List Int} {c:Cb} (hc:CbOk m.K c) (hbv:bvr m.ru c=true) (hR:∀c,CbOk m.K c->RolC m own other c):BevC m own other c:=by
 intro T A B ca cb w hT hI hA hca hB hcb
 obtain⟨v,o⟩:=c;have hv:=aj hm.t.v
 have hs1:1<=m.t.s:=by omega
 have hs6:m.t.s<=6:=by omega
 obtain⟨hq1,hq36,_⟩:=sq_bd hs1 hs6;have hcv:1<=v/\v<=1024/\0<=o/\o<=2:=hc.v1 hm.k;have R4:=h_ (hR _ (up4 hc hbv))
 have R8:Hid (rcn m.ru (v,o)=true->RolC m own other (8*v,2)):=fun h=>hR _ (up8 hc h)
 have HBV:Hid (∀x,rol m.t.s m.ru own other (4*v,2)=x->bev m.t.s m.ru own other (v,o)=x.bind fun x=>if rcn m.ru (v,o) then (rol m.t.s m.ru own other (8*v,2)).map fun y=>if ltE (sq m.t.s) x y then (y,true) else (x,false) else some (x,false)):=fun x hx=>by unfold bev bevG;rw[hx]
 have HV4:Hid (∀e,rol m.t.s m.ru own other (4*v,2)=some e->Val (sq m.t.s) e):=fun e h=>ew hq1 h
 have HV8:Hid (∀e,rol m.t.s m.ru own other (8*v,2)=some e->Val (sq m.t.s) e):=fun e h=>ew hq1 h
 have hlow:=hI.ltS;have HSUB:=h_ hI.sub
 have HNS:Hid (∀j,¬m.S (w.heap.size+j)):=fun j h=>by have:=hlow _ h;omega
 have hb0:Below w.heap.size w ((w.alloc (.cells #[.int .i64 v,.int .i64 o] 55)).alloc (.cells #[.int .i64 0,.int .i64 0] 35)):=((Below.refl _ _).alloc (Nat.le_refl _) _).alloc (by simp) _
 have HF:Hid (FrS m.S w ((w.alloc (.cells #[.int .i64 v,.int .i64 o] 55)).alloc (.cells #[.int .i64 0,.int .i64 0] 35)) [[.int .i64 v,.int .i64 o],[.int .i64 0,.int .i64 0]]):=((FrS.start w hlow).allocT (by simp) _ _).allocT (by simp) _ _
 have HI:=h_ ((hI.wide 2).below hb0);have HA:=h_ ((hA.wide 2).below hb0);have HB:=h_ ((hB.wide 2).below hb0)
 have HTN:Hid (∀W:World,w.heap.size+2<=W.heap.size->∀k,W.heap.size<=k->¬ownT T w 2 k):=fun W hz=>dW hT hz
 have HPO:=h_ fun (W:World)=>di (two m.K) m.bv m.jc v o 4 W (by omega) (by omega)
 have hrc:posA ⟨two m.K,m.bv⟩ (v,o) 4=rcn m.ru (v,o):=rfl
 have CA3:=h_ fun (W:World)=>d9 v o 3 W (by omega) (by omega)
 have CA4:=h_ fun (W:World)=>d9 v o 4 W (by omega) (by omega)
 rw[hrc]at HPO
 have COM:=h_ fun (x y:E) (W:World) (hx:Val (sq m.t.s) x) (hy:Val (sq m.t.s) y)=>bW m.t.p m.t.c m.t.h x.num y.num m.t.s x.depth y.depth W hs1 hs6 hx hy
 clear hT hI hA hB hv hm hR hc hbv hb0 hlow hrc;generalize hTT:ownT T w 2=T' at *;replace hTT:=h_ hTT;have HTT:=hTT;have HTS:Hid (∀k,m.S k->T' k):=HI.out.sub;clear hTT;generalize rcn m.ru (v,o)=rc at *
 go_enter Tryz.func198,Tryz.ntmps198
 go_wp2_with (go_at_call 197;(with_reducible refine (more_first (CA3.out _)).mono ?_);rintro e w' ⟨rfl,tr,rfl⟩)
 replace HF:=h_ (HF.out.more tr);replace HI:=h_ (HI.out.below (aa _ tr));replace HA:=h_ (HA.out.below (aa _ tr));replace HB:=h_ (HB.out.below (aa _ tr));generalize more ((w.alloc (.cells #[.int .i64 v,.int .i64 o] 55)).alloc (.cells #[.int .i64 0,.int .i64 0] 35)) tr=W1 at *
 have hz1:w.heap.size+2<=W1.heap.size:=by have:=HF.out.z;simpa using this
 refine (R4.out T' A B ca cb W1 (HTN.out W1 hz1) HI.out HA.out hca HB.out hcb).mono ?_
 rintro e w2 ⟨rfl,hI,hf⟩
 have hfT:=gr hf HTS.out;replace HF:=h_ (HF.out.frm hf);replace HI:=h_ hI;replace HA:=h_ (HA.out.frm hfT);replace HB:=h_ (HB.out.frm hfT);clear hI;have hz2:w.heap.size+2<=w2.heap.size:=Nat.le_trans hz1 hf.size;clear hf hfT R4 CA3
 rcases h4:rol m.t.s m.ru own other (4*v,2) with _|⟨xn,xd⟩
 focus
  have HRE:Hid (bev m.t.s m.ru own other (v,o)=none):=HBV.out none h4
  clear h4 HBV;unfold exV
  refine ?zm
 rotate_left
 focus
  have HVX:Hid (Val (sq m.t.s) ⟨xn,xd⟩):=HV4.out _ h4
  have HRE0:Hid (bev m.t.s m.ru own other (v,o)=if rc=true then (rol m.t.s m.ru own other (8*v,2)).map fun y=>if ltE (sq m.t.s) ⟨xn,xd⟩ y then (y,true) else (⟨xn,xd⟩,false) else some (⟨xn,xd⟩,false)):=HBV.out _ h4
  clear h4 HBV HV4;unfold exV
  simp only[Option.getD_some,Option.isSome_some]
  obtain⟨z0,c00,f00,c01,f01,z1,c10,f10,c11,f11⟩:=HF.out.xf4
  go_wp2_with (fail)
  clear z0 c00 f00 c01 f01 z1 c10 f10 c11 f11;replace HF:=h_ (HF.out.alloc (.cells #[.int .i64 (xn),.int .i64 ((xd:Int))] 35));replace HI:=h_ (HI.out.alloc (.cells #[.int .i64 (xn),.int .i64 ((xd:Int))] 35));replace HA:=h_ (HA.out.below ((Below.refl _ _).alloc (Nat.le_refl _) (.cells #[.int .i64 (xn),.int .i64 ((xd:Int))] 35)));replace HB:=h_ (HB.out.below ((Below.refl _ _).alloc (Nat.le_refl _) (.cells #[.int .i64 (xn),.int .i64 ((xd:Int))] 35)))
  have g0:((w2).alloc (.cells #[.int .i64 (xn),.int .i64 ((xd:Int))] 35)).cell? ⟨(w2).heap.size,0,none⟩=some (.int .i64 (xn)):=by simp[go_sem]
  have g1:((w2).alloc (.cells #[.int .i64 (xn),.int .i64 ((xd:Int))] 35)).cell? ⟨(w2).heap.size,1,none⟩=some (.int .i64 ((xd:Int))):=by simp[go_sem]
  have gz:(w2).heap.size<((w2).alloc (.cells #[.int .i64 (xn),.int .i64 ((xd:Int))] 35)).heap.size:=by simp
  generalize w2.alloc (.cells #[.int .i64 xn,.int .i64 (xd:Int)] 35)=X at *
  cases rc
  focus
   have HRE:Hid (bev m.t.s m.ru own other (v,o)=some (⟨xn,xd⟩,false)):=HRE0.out
   clear HRE0;have e0:=HI.out.tb 0 _ rfl;have e1:=HI.out.tb 1 _ rfl;have e2:=HI.out.tb 2 _ rfl;have e3:=HI.out.tb 3 _ rfl;have r0:=HI.out.ra.tb 0 _ rfl;have r1:=HI.out.ra.tb 1 _ rfl;have r2:=HI.out.ra.tb 2 _ rfl;have r3:=HI.out.ra.tb 3 _ rfl;have hbm:=HI.out.ltB;have hbt:=HI.out.ra.ltB;obtain⟨z0,c00,f00,c01,f01,z1,c10,f10,c11,f11⟩:=HF.out.xf4
   refine ?zc
  rotate_left
  focus
   have HRE1:Hid (∀z,rol m.t.s m.ru own other (8*v,2)=z->bev m.t.s m.ru own other (v,o)=z.map fun y=>if ltE (sq m.t.s) ⟨xn,xd⟩ y then (y,true) else (⟨xn,xd⟩,false)):=fun z hz=>by rw[HRE0.out,hz];rfl
   have R8':=h_ (R8.out rfl);clear HRE0 R8;have e0:=HI.out.tb 0 _ rfl;have e1:=HI.out.tb 1 _ rfl;have e2:=HI.out.tb 2 _ rfl;have e3:=HI.out.tb 3 _ rfl;have r0:=HI.out.ra.tb 0 _ rfl;have r1:=HI.out.ra.tb 1 _ rfl;have r2:=HI.out.ra.tb 2 _ rfl;have r3:=HI.out.ra.tb 3 _ rfl;have hbm:=HI.out.ltB;have hbt:=HI.out.ra.ltB;obtain⟨z0,c00,f00,c01,f01,z1,c10,f10,c11,f11⟩:=HF.out.xf4
   refine ?zd
 rotate_left 2
 case' zc|zd=>
  first|refine ab (by kernel_rfl) (by kernel_rfl) ?_|refine ac (by kernel_rfl) (by kernel_rfl) ?_
  repeat (first|go_big_quiet_step ((go_at_call 128;exact more_call (HPO.out _)))|quiet_step ((go_at_call 128;exact more_call (HPO.out _))))
  refine wpQuiet_nil ?_
  intro _ hw'
  obtain⟨tr,hw''⟩:=hw';subst hw'';clear z0 c00 f00 c01 f01 z1 c10 f10 c11 f11;clear e0 e1 e2 e3 r0 r1 r2 r3 hbm hbt;replace HF:=h_ (HF.out.more tr);replace HI:=h_ (HI.out.below (aa _ tr));replace HA:=h_ (HA.out.below (aa _ tr));replace HB:=h_ (HB.out.below (aa _ tr));replace g0:=keep_cell g0 (aa _ tr);replace g1:=keep_cell g1 (aa _ tr);replace gz:=Nat.lt_of_lt_of_le gz (ae _ tr);generalize more X tr=Y at *;obtain⟨z0,c00,f00,c01,f01,z1,c10,f10,c11,f11⟩:=HF.out.xf4
 case' zd=>
  go_wp2_with (go_at_call 197;(with_reducible refine (more_first (CA4.out _)).mono ?_);rintro e w' ⟨rfl,tr,rfl⟩)
  clear z0 c00 f00 c01 f01 z1 c10 f10 c11 f11;replace HF:=h_ (HF.out.more tr);replace HI:=h_ (HI.out.below (aa _ tr));replace HA:=h_ (HA.out.below (aa _ tr));replace HB:=h_ (HB.out.below (aa _ tr));replace g0:=keep_cell g0 (aa _ tr);replace g1:=keep_cell g1 (aa _ tr);replace gz:=Nat.lt_of_lt_of_le gz (ae _ tr);generalize more Y tr=Z at *
  have hz3:w.heap.size+2<=Z.heap.size:=by have:=HF.out.z;simpa using this
  have hgS:¬m.S w2.heap.size:=fun h=>by have:=HF.out.low _ h;omega
  refine (R8'.out T' A B ca cb Z (HTN.out Z hz3) HI.out HA.out hca HB.out hcb).mono ?_
  rintro e w4 ⟨rfl,hI,hf⟩
  have hfT:=gr hf HTS.out;replace HF:=h_ (HF.out.frm hf);replace HI:=h_ hI;replace HA:=h_ (HA.out.frm hfT);replace HB:=h_ (HB.out.frm hfT);clear hI;replace g0:=hf.cell' g0 hgS;replace g1:=hf.cell' g1 hgS;have hz4:Z.heap.size<=w4.heap.size:=hf.size;replace gz:=Nat.lt_of_lt_of_le gz hf.size
  have gn:¬w2.heap.size=w4.heap.size:=by omega
  clear hf hfT R8' CA4 HPO
  rcases h8:rol m.t.s m.ru own other (8*v,2) with _|⟨yn,yd⟩
  focus
   have HRE:Hid (bev m.t.s m.ru own other (v,o)=none):=HRE1.out none h8
   clear h8 HRE1;unfold exV
   refine ?zn
  rotate_left
  focus
   have HVY:Hid (Val (sq m.t.s) ⟨yn,yd⟩):=HV8.out _ h8
   have HRE0:Hid (bev m.t.s m.ru own other (v,o)=some (if ltE (sq m.t.s) ⟨xn,xd⟩ ⟨yn,yd⟩ then (⟨yn,yd⟩,true) else (⟨xn,xd⟩,false))):=HRE1.out _ h8
   have COM2:=h_ fun (W:World)=>COM.out ⟨yn,yd⟩ ⟨xn,xd⟩ W HVY.out HVX.out
   have HCS:Hid ((0<cmpE (sq m.t.s) ⟨yn,yd⟩ ⟨xn,xd⟩)=(ltE (sq m.t.s) ⟨xn,xd⟩ ⟨yn,yd⟩=true)):=eZ;have hcb1:=eh (sq m.t.s) ⟨yn,yd⟩ ⟨xn,xd⟩;clear h8 HRE1 COM HV8;unfold exV
   simp only[Option.getD_some,Option.isSome_some]
   obtain⟨z0,c00,f00,c01,f01,z1,c10,f10,c11,f11⟩:=HF.out.xf4
   go_wp2_with (fail)
   clear z0 c00 f00 c01 f01 z1 c10 f10 c11 f11;replace HF:=h_ (HF.out.alloc (.cells #[.int .i64 (yn),.int .i64 ((yd:Int))] 35));replace HI:=h_ (HI.out.alloc (.cells #[.int .i64 (yn),.int .i64 ((yd:Int))] 35));replace HA:=h_ (HA.out.below ((Below.refl _ _).alloc (Nat.le_refl _) (.cells #[.int .i64 (yn),.int .i64 ((yd:Int))] 35)));replace HB:=h_ (HB.out.below ((Below.refl _ _).alloc (Nat.le_refl _) (.cells #[.int .i64 (yn),.int .i64 ((yd:Int))] 35)))
   have y0:((w4).alloc (.cells #[.int .i64 (yn),.int .i64 ((yd:Int))] 35)).cell? ⟨(w4).heap.size,0,none⟩=some (.int .i64 (yn)):=by simp[go_sem]
   have y1:((w4).alloc (.cells #[.int .i64 (yn),.int .i64 ((yd:Int))] 35)).cell? ⟨(w4).heap.size,1,none⟩=some (.int .i64 ((yd:Int))):=by simp[go_sem]
   have yz:(w4).heap.size<((w4).alloc (.cells #[.int .i64 (yn),.int .i64 ((yd:Int))] 35)).heap.size:=by simp
   replace g0:=keep_cell g0 ((Below.refl _ _).alloc (Nat.le_refl _) (.cells #[.int .i64 yn,.int .i64 (yd:Int)] 35));replace g1:=keep_cell g1 ((Below.refl _ _).alloc (Nat.le_refl _) (.cells #[.int .i64 yn,.int .i64 (yd:Int)] 35))
   replace gz:w2.heap.size<(w4.alloc (.cells #[.int .i64 yn,.int .i64 (yd:Int)] 35)).heap.size:=Nat.lt_of_lt_of_le gz (by simp)
   generalize w4.alloc (.cells #[.int .i64 yn,.int .i64 (yd:Int)] 35)=X2 at *;generalize cmpE (sq m.t.s) ⟨yn,yd⟩ ⟨xn,xd⟩=cm at *
   by_cases hcm:0<cm
   focus
    have HRE:Hid (bev m.t.s m.ru own other (v,o)=some (⟨yn,yd⟩,true)):=by
     unfold Hid
     rw[HRE0.out,if_pos (by rw[<- HCS.out];exact hcm)]
    clear HRE0 HCS;have e0:=HI.out.tb 0 _ rfl;have e1:=HI.out.tb 1 _ rfl;have e2:=HI.out.tb 2 _ rfl;have e3:=HI.out.tb 3 _ rfl;have r0:=HI.out.ra.tb 0 _ rfl;have r1:=HI.out.ra.tb 1 _ rfl;have r2:=HI.out.ra.tb 2 _ rfl;have r3:=HI.out.ra.tb 3 _ rfl;have hbm:=HI.out.ltB;have hbt:=HI.out.ra.ltB;obtain⟨z0,c00,f00,c01,f01,z1,c10,f10,c11,f11⟩:=HF.out.xf4
    refine ?za
   rotate_left
   focus
    have HRE:Hid (bev m.t.s m.ru own other (v,o)=some (⟨xn,xd⟩,false)):=by
     unfold Hid
     rw[HRE0.out,if_neg (by rw[<- HCS.out];exact hcm)]
    have dcm:=decide_eq_false hcm;clear HRE0 HCS;have e0:=HI.out.tb 0 _ rfl;have e1:=HI.out.tb 1 _ rfl;have e2:=HI.out.tb 2 _ rfl;have e3:=HI.out.tb 3 _ rfl;have r0:=HI.out.ra.tb 0 _ rfl;have r1:=HI.out.ra.tb 1 _ rfl;have r2:=HI.out.ra.tb 2 _ rfl;have r3:=HI.out.ra.tb 3 _ rfl;have hbm:=HI.out.ltB;have hbt:=HI.out.ra.ltB;obtain⟨z0,c00,f00,c01,f01,z1,c10,f10,c11,f11⟩:=HF.out.xf4
    refine ?zb
 case' za|zb=>
  first|refine ab (by kernel_rfl) (by kernel_rfl) ?_|refine ac (by kernel_rfl) (by kernel_rfl) ?_
  repeat (first|go_big_quiet_step ((go_at_call 166;exact more_call (COM2.out _)))|quiet_step ((go_at_call 166;exact more_call (COM2.out _))))
  refine wpQuiet_nil ?_
  intro _ hw'
  obtain⟨tr,hw''⟩:=hw';subst hw'';clear z0 c00 f00 c01 f01 z1 c10 f10 c11 f11;clear e0 e1 e2 e3 r0 r1 r2 r3 hbm hbt;replace HF:=h_ (HF.out.more tr);replace HI:=h_ (HI.out.below (aa _ tr));replace HA:=h_ (HA.out.below (aa _ tr));replace HB:=h_ (HB.out.below (aa _ tr));replace g0:=keep_cell g0 (aa _ tr);replace g1:=keep_cell g1 (aa _ tr);replace gz:=Nat.lt_of_lt_of_le gz (ae _ tr);replace y0:=keep_cell y0 (aa _ tr);replace y1:=keep_cell y1 (aa _ tr);replace yz:=Nat.lt_of_lt_of_le yz (ae _ tr);generalize more X2 tr=Y2 at *;obtain⟨z0,c00,f00,c01,f01,z1,c10,f10,c11,f11⟩:=HF.out.xf4
  go_wp2_with (fail)
 case' za=>
  refine bodyPost_ret (v:=.tuple #[.agg #[.int .i64 yn,.int .i64 (yd:Int)],.int .i64 4,.bool true]) (by simp[results,Tryz.results198,go_sem,c10,c11,z1,f10,f11]) rfl ?_
 case' zc=>
  go_wp2_with (fail)
 case' zc|zb=>
  refine bodyPost_ret (v:=.tuple #[.agg #[.int .i64 xn,.int .i64 (xd:Int)],.int .i64 3,.bool true]) (by simp[results,Tryz.results198,go_sem,c10,c11,z1,f10,f11]) rfl ?_
 case zc|za|zb=>
  rw[HRE.out]
  refine⟨?_,?_,rfl⟩
  ·refine MonI.less (T:=T') ?_ (fun k hk=>by rw[<- HTT.out];exact .inl hk) HSUB.out
   repeat (first|exact HI.out|refine MonI.alloc ?_ _|refine MonI.stored ?_ _ (by rw[<- HTT.out];exact aG 1 rfl (by omega)) (HNS.out 1))
  ·repeat (first|exact HF.out.f|refine Frm.alloc ?_ _|refine Frm.ownSet ?_ (by omega) _)
 case' zm|zn=>
  simp only[Option.getD_none,Option.isSome_none]
  obtain⟨z0,c00,f00,c01,f01,z1,c10,f10,c11,f11⟩:=HF.out.xf4
  go_wp2_with (fail)
 case' zm=>
  clear z0 c00 f00 c01 f01 z1 c10 f10 c11 f11;replace HF:=h_ (HF.out.alloc (.cells #[.int .i64 (0),.int .i64 (0)] 35));replace HI:=h_ (HI.out.alloc (.cells #[.int .i64 (0),.int .i64 (0)] 35));replace HA:=h_ (HA.out.below ((Below.refl _ _).alloc (Nat.le_refl _) (.cells #[.int .i64 (0),.int .i64 (0)] 35)));replace HB:=h_ (HB.out.below ((Below.refl _ _).alloc (Nat.le_refl _) (.cells #[.int .i64 (0),.int .i64 (0)] 35)))
  have g0:((w2).alloc (.cells #[.int .i64 (0),.int .i64 (0)] 35)).cell? ⟨(w2).heap.size,0,none⟩=some (.int .i64 (0)):=by simp[go_sem]
  have g1:((w2).alloc (.cells #[.int .i64 (0),.int .i64 (0)] 35)).cell? ⟨(w2).heap.size,1,none⟩=some (.int .i64 (0)):=by simp[go_sem]
  have gz:(w2).heap.size<((w2).alloc (.cells #[.int .i64 (0),.int .i64 (0)] 35)).heap.size:=by simp
  generalize w2.alloc (.cells #[.int .i64 0,.int .i64 0] 35)=X at *;obtain⟨z0,c00,f00,c01,f01,z1,c10,f10,c11,f11⟩:=HF.out.xf4
  first|refine ab (by kernel_rfl) (by kernel_rfl) ?_|refine ac (by kernel_rfl) (by kernel_rfl) ?_
  repeat (first|go_big_quiet_step (fail)|quiet_step (fail))
  refine wpQuiet_nil ?_
  intro _ hw'
  obtain⟨tr,hw''⟩:=hw';subst hw'';clear z0 c00 f00 c01 f01 z1 c10 f10 c11 f11;replace HF:=h_ (HF.out.more tr);replace HI:=h_ (HI.out.below (aa _ tr));replace HA:=h_ (HA.out.below (aa _ tr));replace HB:=h_ (HB.out.below (aa _ tr));replace g0:=keep_cell g0 (aa _ tr);replace g1:=keep_cell g1 (aa _ tr);replace gz:=Nat.lt_of_lt_of_le gz (ae _ tr);generalize more X tr=Y at *;obtain⟨z0,c00,f00,c01,f01,z1,c10,f10,c11,f11⟩:=HF.out.xf4
  go_wp2_with (fail)
  refine bodyPost_ret (v:=.tuple #[.agg #[.int .i64 0,.int .i64 0],.int .i64 3,.bool false]) (by simp[results,Tryz.results198,go_sem,c10,c11,z1,f10,f11]) rfl ?_
  rw[HRE.out]
  refine⟨?_,?_,3,rfl⟩
  rotate_left
  ·repeat (first|exact HF.out.f|refine Frm.alloc ?_ _|refine Frm.ownSet ?_ (by omega) _)
 case' zn=>
  refine bodyPost_ret (v:=.tuple #[.agg #[.int .i64 0,.int .i64 0],.int .i64 0,.bool false]) (by simp[results,Tryz.results198,go_sem,c10,c11,z1,f10,f11]) rfl ?_
  rw[HRE.out]
  refine⟨?_,?_,0,rfl⟩
  rotate_left
  ·repeat (first|exact HF.out.f|refine Frm.alloc ?_ _|refine Frm.ownSet ?_ (by omega) _)
 case zm|zn=>
  refine MonI.less (T:=T') ?_ (fun k hk=>by rw[<- HTT.out];exact .inl hk) HSUB.out
  repeat (first|exact HI.out|refine MonI.alloc ?_ _|refine MonI.stored ?_ _ (by rw[<- HTT.out];exact aG 1 rfl (by omega)) (HNS.out 1))
end Go.Proofs.YtkaiilmgemaljaaGreat

/- Part of one proof. There are no conditions. -/
import Derived.Test.YtkaiilmgemaljaaGreatTD10
import Derived.Test.YtkaiilmgemaljaaGreatTD16
import Derived.Test.YtkaiilmgemaljaaGreatTU4
set_option maxHeartbeats 0
set_option linter.unusedVariables false
set_option linter.unusedSimpArgs false
set_option maxRecDepth 100000
namespace Go.Proofs.YtkaiilmgemaljaaGreat
open Go.RowKit
def drawnB (bs:List Int):(Int×Int×Int×Int)×List Int×List Int×(Int×Int):=((dR bs).1,(dR bs).2.1,(dR bs).2.2.1,(rlF bs (dR bs).2.2.2 (dR bs).1.2.2.2).1)
def RetRB (r:(Int×Int×Int×Int)×List Int×List Int×(Int×Int)) (W:World) (e:Ending) (W':World):Prop:=
 ∃ v1 v2, e = .returned (.tuple #[.agg #[.int .i64 r.1.1, .int .i64 r.1.2.1, .int .i64 r.1.2.2.1, .int .i64 r.1.2.2.2], v1, v2, .agg #[.int .i64 r.2.2.2.1, .int .i64 r.2.2.2.2]]) ∧
   OwnS W' W.heap.size 2 v1 r.2.1 /\ OwnS W' W.heap.size 2 v2 r.2.2.1 /\ Below W.heap.size W W'
def dsB12:Nat->Option Nat
 | 0=>some 18
 | 1=>some 19
 | 2=>some 20
 | 3=>some 21
 | 4=>some 22
 | 5=>some 23
 | 6=>none
 | 7=>some 3
 | 8=>some 4
 | 9=>none
 | _=>none
theorem dV (C:Option Addr) (n cc:Nat) (bs:List Int) (W:World) (h:SBy W C n bs) (hn:n<=4096):
  Calls Tryz.prog 22 #[.slice C n cc] W (RetRB (drawnB bs) W):=by
 have HF0:Hid (Fr W ((W.alloc (.cells #[.int .i64 0,.int .i64 0,.int .i64 0,.int .i64 0] 25)).alloc (.cells #[.int .i64 0,.int .i64 0] 39)) [[.int .i64 0,.int .i64 0,.int .i64 0,.int .i64 0],[.int .i64 0,.int .i64 0]]):=((Fr.start W).allocT (by simp) _ _).allocT (by simp) _ _
 have HS0:=h_ (h.below HF0.out.b);have hsm:=(ir bs).2;obtain⟨R,hR⟩:∃R,R=drawnB bs:=⟨_,rfl⟩;rw[<- hR];unfold drawnB at hR;obtain⟨q0,hq0⟩:∃q0:Int×Nat,q0=(seedK bs 64,0):=⟨_,rfl⟩
 have hdd:d12F bs q0=dR bs:=by rw[hq0];unfold dR;with_reducible rfl
 obtain⟨D,hD⟩:∃D,D=dR bs:=⟨_,rfl⟩;rw[<- hD]at hsm hR hdd;have HDR:=h_ hdd;have HQ:=h_ hq0;clear hD hdd hq0;obtain⟨⟨p,cv,h,s⟩,xs,ys,q⟩:=D
 simp only at hsm hR
 obtain⟨rr,hrr⟩:∃rr,rr=rlF bs q s:=⟨_,rfl⟩;rw[<- hrr]at hR
 have HROLL:Hid (∀(g:Nat) (X:World),SrcG X g C n cc bs q->Calls Tryz.prog 89 #[.pointer (some ⟨g,0,none⟩),.agg #[.int .i64 p,.int .i64 cv,.int .i64 h,.int .i64 s]] X (RetRl g C n cc bs X rr)):=fun g X hs=>by rw[hrr];exact ij g C n cc bs q p cv h s X hs (by omega)
 obtain⟨⟨ra,rb⟩,q'⟩:=rr;rw[hR];clear hR hrr
 go_enter Tryz.func22,Tryz.ntmps22
 go_wp2_with (fail)
 refine (l01From_any C n cc bs _ HS0.out hn).mono ?_
 rintro e w1 ⟨rfl,hs1,hb1⟩
 have HF1:=h_ (HF0.out.below hb1)
 have eg:((W.alloc (.cells #[.int .i64 0,.int .i64 0,.int .i64 0,.int .i64 0] 25)).alloc (.cells #[.int .i64 0,.int .i64 0] 39)).heap.size=W.heap.size+2:=by simp
 rw[<- HQ.out,eg]at hs1;clear eg;have HS1:=h_ hs1;clear hs1 hb1 HF0 HS0 HQ
 go_wp2_with (fail)
 refine (l12Draw_any _ C n cc bs _ w1 HS1.out).mono ?_
 rw[HDR.out]
 rintro e w2 ⟨v8,v9,rfl,h1,h2,hs2,hf2⟩
 have HB2:Hid (Below W.heap.size W w2):=Frm.belowOwn HF1.out.b hf2 (by simp) (Nat.le_refl _)
 have HX2:Hid (FrS (fun _=>False) W w2 [[.int .i64 0,.int .i64 0,.int .i64 0,.int .i64 0],[.int .i64 0,.int .i64 0]]):=(FrS.of HF1.out (fun _ h=>h.elim)).out hf2 (fun k hk=>by rw[hk];simp)
 have hzw:W.heap.size+2<w1.heap.size:=HS1.out.lt;obtain⟨lo,hlo⟩:∃lo,lo=w1.heap.size:=⟨_,rfl⟩;obtain⟨g,hgg⟩:∃g,g=W.heap.size+2:=⟨_,rfl⟩;rw[<- hlo]at h1 h2 hzw
 have hlo2:lo<=w2.heap.size:=by rw[hlo];exact hf2.size
 rw[<- hgg]at hs2 hzw ⊢;have HOV:=h_ (And.intro (h1.alloc (.cells #[.int .i64 p,.int .i64 cv,.int .i64 h,.int .i64 s] 25)) (h2.alloc (.cells #[.int .i64 p,.int .i64 cv,.int .i64 h,.int .i64 s] 25)));have HSV:=h_ (hs2.alloc (.cells #[.int .i64 p,.int .i64 cv,.int .i64 h,.int .i64 s] 25));have HFV:=h_ (HX2.out.alloc (.cells #[.int .i64 p,.int .i64 cv,.int .i64 h,.int .i64 s] 25));have HBV:=h_ (HB2.out.alloc HB2.out.size (.cells #[.int .i64 p,.int .i64 cv,.int .i64 h,.int .i64 s] 25));have HCV:Hid (Cel (w2.alloc (.cells #[.int .i64 p,.int .i64 cv,.int .i64 h,.int .i64 s] 25)) w2.heap.size [.int .i64 p,.int .i64 cv,.int .i64 h,.int .i64 s]):=Cel.new w2 #[.int .i64 p,.int .i64 cv,.int .i64 h,.int .i64 s] _
 have hgl:W.heap.size+2<=g:=by omega
 have hHR:=h_ (HROLL.out g);clear h1 h2 hs2 hf2 HF1 HS1 HDR HX2 HB2 hlo hgg HROLL;have HROLL:=hHR;clear hHR
 go_wp2_with (fail)
 generalize w2.alloc (.cells #[.int .i64 p,.int .i64 cv,.int .i64 h,.int .i64 s] 25)=V at *;generalize w2.heap.size=b7 at *
 have HKS:Hid (∀x∈([(b7,[.int .i64 p,.int .i64 cv,.int .i64 h,.int .i64 s])]:List (Nat×List Value)),¬(fun j=>j=g\/j=W.heap.size\/j=W.heap.size+1) x.1):=by unfold Hid;simp only[List.mem_cons,List.not_mem_nil,or_false,forall_eq_or_imp,forall_eq];omega
 have HK0:Hid (∀x∈([(b7,[.int .i64 p,.int .i64 cv,.int .i64 h,.int .i64 s])]:List (Nat×List Value)),Cel V x.1 x.2):=by unfold Hid;simp only[List.mem_cons,List.not_mem_nil,or_false,forall_eq_or_imp,forall_eq];exact HCV.out
 have HT0:Hid (∀x∈([(W.heap.size,6,[.int .i64 0,.int .i64 0,.int .i64 0,.int .i64 0],(fun cs=>cs=[.int .i64 p,.int .i64 cv,.int .i64 h,.int .i64 s])),(W.heap.size+1,9,[.int .i64 0,.int .i64 0],(fun cs=>cs=[.int .i64 ra,.int .i64 rb]))]:List (Nat×Nat×List Value×(List Value->Prop))),(((fun _=>false):Nat->Bool) x.2.1=false->Cel V x.1 x.2.2.1)/\(((fun _=>false):Nat->Bool) x.2.1=true->∃cs,x.2.2.2 cs/\Cel V x.1 cs)):=by
  intro x hx
  simp only[List.mem_cons,List.not_mem_nil,or_false]at hx
  rcases hx with rfl|rfl
  ·exact⟨fun _=>HFV.out.cel 0 rfl (by simp) (fun j v hv=>hv),fun h=>(by cases h)⟩
  ·exact⟨fun _=>HFV.out.cel 1 rfl (by simp) (fun j v hv=>hv),fun h=>(by cases h)⟩
 have HINV:Hid (∀X,Frm (fun _=>False) V X->OwnS X lo 2 v8 xs/\OwnS X lo 2 v9 ys):=fun X hf=>⟨hf.own HOV.out.1 (fun _ _ h=>h.elim),hf.own HOV.out.2 fun _ _ h=>h.elim⟩
 have HIC:Hid (∀X X',OwnS X lo 2 v8 xs/\OwnS X lo 2 v9 ys->True->Frm (fun j=>j=g) X X'->OwnS X' lo 2 v8 xs/\OwnS X' lo 2 v9 ys):=fun X X' h _ hf=>⟨hf.own h.1 (fun j hj hjg=>by have:=(h.1.lt j hj).1;omega),hf.own h.2 fun j hj hjg=>by have:=(h.2.lt j hj).1;omega⟩
 have HIS:Hid (∀X X',OwnS X lo 2 v8 xs/\OwnS X lo 2 v9 ys->∀b,(W.heap.size<=b/\b<W.heap.size+2)->Frm (fun j=>j=b) X X'->OwnS X' lo 2 v8 xs/\OwnS X' lo 2 v9 ys):=fun X X' h b hb hf=>⟨hf.own h.1 (fun j hj hjg=>by have:=(h.1.lt j hj).1;omega),hf.own h.2 fun j hj hjg=>by have:=(h.2.lt j hj).1;omega⟩
 have HSTB:Hid (∀k v X X',GL [Eqv (.agg #[.int .i64 p,.int .i64 cv,.int .i64 h,.int .i64 s]),Eqv v8,Eqv v9,Eqv (.pointer (some ⟨g,0,none⟩)),Eqv (.agg #[.int .i64 p,.int .i64 cv,.int .i64 h,.int .i64 s]),Eqv (.agg #[.int .i64 ra,.int .i64 rb]),Any,Eqv v8,Eqv v9,Any] k v X->Frm ((fun j=>j=g\/j=W.heap.size\/j=W.heap.size+1)) X X'->GL [Eqv (.agg #[.int .i64 p,.int .i64 cv,.int .i64 h,.int .i64 s]),Eqv v8,Eqv v9,Eqv (.pointer (some ⟨g,0,none⟩)),Eqv (.agg #[.int .i64 p,.int .i64 cv,.int .i64 h,.int .i64 s]),Eqv (.agg #[.int .i64 ra,.int .i64 rb]),Any,Eqv v8,Eqv v9,Any] k v X'):=GL.stabF (.cons (fun _ _ _ h _=>h) (.cons (fun _ _ _ h _=>h) (.cons (fun _ _ _ h _=>h) (.cons (fun _ _ _ h _=>h) (.cons (fun _ _ _ h _=>h) (.cons (fun _ _ _ h _=>h) (.cons (fun _ _ _ h _=>h) (.cons (fun _ _ _ h _=>h) (.cons (fun _ _ _ h _=>h) (.cons (fun _ _ _ h _=>h) .nil))))))))))
 refine gL 10 dsB12 (fun L vs W'=>JQ 10 (fun j=>j=g\/j=W.heap.size\/j=W.heap.size+1) V (fun X=>OwnS X lo 2 v8 xs/\OwnS X lo 2 v9 ys) [Eqv (.agg #[.int .i64 p,.int .i64 cv,.int .i64 h,.int .i64 s]),Eqv v8,Eqv v9,Eqv (.pointer (some ⟨g,0,none⟩)),Eqv (.agg #[.int .i64 p,.int .i64 cv,.int .i64 h,.int .i64 s]),Eqv (.agg #[.int .i64 ra,.int .i64 rb]),Any,Eqv v8,Eqv v9,Any] [(b7,[.int .i64 p,.int .i64 cv,.int .i64 h,.int .i64 s])] [(W.heap.size,6,[.int .i64 0,.int .i64 0,.int .i64 0,.int .i64 0],(fun cs=>cs=[.int .i64 p,.int .i64 cv,.int .i64 h,.int .i64 s])),(W.heap.size+1,9,[.int .i64 0,.int .i64 0],(fun cs=>cs=[.int .i64 ra,.int .i64 rb]))] L vs W'/\(L 5=false->SrcG W' g C n cc bs q)) rfl rfl (fun i hi=>?_) (by kernel_rfl) (fun vs=>⟨⟨(Frm.refl _ _).drew,HINV.out _ ((Frm.refl _ _).drew),(fun k _ h=>by cases h),(fun x hx=>(HK0.out x hx).drew),(fun x hx=>⟨fun _=>((HT0.out x hx).1 rfl).drew,fun h=>by cases h⟩)⟩,fun _=>HSV.out.frm (O:=fun _=>False) ((Frm.refl _ _).drew) (fun _ h=>h.elim)⟩) ?_ (fun L vs vs' W h H=>⟨JQ.ext h H.1,H.2⟩) ?_
 ·have hi8:i=0\/i=1\/i=2\/i=3\/i=4\/i=5\/i=6\/i=7\/i=8\/i=9:=by omega
  rcases hi8 with rfl|rfl|rfl|rfl|rfl|rfl|rfl|rfl|rfl|rfl<;>rfl
 ·intro i o' hi ho L a' W3 H hun hfar hdep
  have e2:a'.tmps.getD 2 undef = .pointer (some ⟨W.heap.size,0,none⟩):=(hfar 2 (by decide)).trans rfl
  have e5:a'.tmps.getD 5 undef = .pointer (some ⟨W.heap.size+1,0,none⟩):=(hfar 5 (by decide)).trans rfl
  have e6:a'.tmps.getD 6 undef = .pointer (some ⟨g,0,none⟩):=(hfar 6 (by decide)).trans rfl
  have e7:a'.tmps.getD 7 undef = .pointer (some ⟨b7,0,none⟩):=(hfar 7 (by decide)).trans rfl
  have e8:a'.tmps.getD 8 undef=v8:=(hfar 8 (by decide)).trans rfl
  have e9:a'.tmps.getD 9 undef=v9:=(hfar 9 (by decide)).trans rfl
  have HG:∀j,j<10->Region.waitsFor .any _ i j=true->GL [Eqv (.agg #[.int .i64 p,.int .i64 cv,.int .i64 h,.int .i64 s]),Eqv v8,Eqv v9,Eqv (.pointer (some ⟨g,0,none⟩)),Eqv (.agg #[.int .i64 p,.int .i64 cv,.int .i64 h,.int .i64 s]),Eqv (.agg #[.int .i64 ra,.int .i64 rb]),Any,Eqv v8,Eqv v9,Any] j (getO a' dsB12 j) W3:=fun j hj hw=>H.1.g j hj (hdep j hj hw)
  have HC:=H.1.c;have HTT:=H.1.t
  have hi8:i=0\/i=1\/i=2\/i=3\/i=4\/i=5\/i=6\/i=7\/i=8\/i=9:=by omega
  clear hfar hi
  rcases hi8 with rfl|rfl|rfl|rfl|rfl|rfl|rfl|rfl|rfl|rfl
  all_goals (simp at ho;subst ho)
  ·have hc:=HC (b7,[.int .i64 p,.int .i64 cv,.int .i64 h,.int .i64 s]) (by simp)
   have y0:=hc.cell 0 _ rfl;have y1:=hc.cell 1 _ rfl;have y2:=hc.cell 2 _ rfl;have y3:=hc.cell 3 _ rfl
   exact .inl <| .inl ⟨.agg #[.int .i64 p,.int .i64 cv,.int .i64 h,.int .i64 s],W3,by simp only[execOp,Act.eval,e7];go_simp,fun L' vs' hu=>⟨H.1.pure hu (by simp) HSTB.out HKS.out (by intro h;cases h) rfl,fun hh=>H.2 (by rw[<- (hu.2.2 5 (by omega) (by omega)).1];exact hh)⟩⟩
  ·exact .inl <| .inl ⟨v8,W3,by simp only[execOp,Act.eval,e8];go_simp,fun L' vs' hu=>⟨H.1.pure hu (by simp) HSTB.out HKS.out (by intro h;cases h) rfl,fun hh=>H.2 (by rw[<- (hu.2.2 5 (by omega) (by omega)).1];exact hh)⟩⟩
  ·exact .inl <| .inl ⟨v9,W3,by simp only[execOp,Act.eval,e9];go_simp,fun L' vs' hu=>⟨H.1.pure hu (by simp) HSTB.out HKS.out (by intro h;cases h) rfl,fun hh=>H.2 (by rw[<- (hu.2.2 5 (by omega) (by omega)).1];exact hh)⟩⟩
  ·exact .inl <| .inl ⟨.pointer (some ⟨g,0,none⟩),W3,by simp only[execOp,Act.eval,e6];go_simp,fun L' vs' hu=>⟨H.1.pure hu (by simp) HSTB.out HKS.out (by intro h;cases h) rfl,fun hh=>H.2 (by rw[<- (hu.2.2 5 (by omega) (by omega)).1];exact hh)⟩⟩
  ·have hc:=HC (b7,[.int .i64 p,.int .i64 cv,.int .i64 h,.int .i64 s]) (by simp)
   have y0:=hc.cell 0 _ rfl;have y1:=hc.cell 1 _ rfl;have y2:=hc.cell 2 _ rfl;have y3:=hc.cell 3 _ rfl
   exact .inl <| .inl ⟨.agg #[.int .i64 p,.int .i64 cv,.int .i64 h,.int .i64 s],W3,by simp only[execOp,Act.eval,e7];go_simp,fun L' vs' hu=>⟨H.1.pure hu (by simp) HSTB.out HKS.out (by intro h;cases h) rfl,fun hh=>H.2 (by rw[<- (hu.2.2 5 (by omega) (by omega)).1];exact hh)⟩⟩
  ·have d0:a'.tmps.getD 21 undef = .pointer (some ⟨g,0,none⟩):=HG 3 (by omega) (by kernel_rfl)
   have d1:a'.tmps.getD 22 undef = .agg #[.int .i64 p,.int .i64 cv,.int .i64 h,.int .i64 s]:=HG 4 (by omega) (by kernel_rfl)
   refine .inl <| .inr ⟨89,#[.pointer (some ⟨g,0,none⟩),.agg #[.int .i64 p,.int .i64 cv,.int .i64 h,.int .i64 s]],by simp only[execOp,Act.eval,d0,d1];go_simp,?_⟩
   refine (HROLL.out W3 (H.2 hun)).mono ?_
   rintro e W' ⟨rfl,hs',hf'⟩
   exact⟨_,rfl,fun L' vs' hu=>⟨H.1.call (g:=g) hu (by simp;omega) HSTB.out HKS.out (by intro h;cases h) (.inl rfl) hf' (HIC.out _ _ H.1.i trivial hf') (rfl),fun hh=>by rw[hu.1]at hh;cases hh⟩⟩
  ·have d1':a'.tmps.getD 18 undef = .agg #[.int .i64 p,.int .i64 cv,.int .i64 h,.int .i64 s]:=HG 0 (by omega) (by kernel_rfl)
   have hc:Cel W3 (W.heap.size) [.int .i64 0,.int .i64 0,.int .i64 0,.int .i64 0]:=(HTT (W.heap.size,6,[.int .i64 0,.int .i64 0,.int .i64 0,.int .i64 0],(fun cs=>cs=[.int .i64 p,.int .i64 cv,.int .i64 h,.int .i64 s])) (by simp)).1 hun
   have y0:=hc.cell 0 _ rfl;have f0:=hc.froz 0 _ rfl;have y1:=hc.cell 1 _ rfl;have f1:=hc.froz 1 _ rfl;have y2:=hc.cell 2 _ rfl;have f2:=hc.froz 2 _ rfl;have y3:=hc.cell 3 _ rfl;have f3:=hc.froz 3 _ rfl;have yz:=hc.lt
   exact .inr ⟨rfl,((((W3.setCell ⟨W.heap.size,0,none⟩ (.int .i64 p)).setCell ⟨W.heap.size,1,none⟩ (.int .i64 cv)).setCell ⟨W.heap.size,2,none⟩ (.int .i64 h)).setCell ⟨W.heap.size,3,none⟩ (.int .i64 s)),by simp only[execOp,Act.eval,e2,d1'];go_simp,fun L' vs' hu=>⟨H.1.fill (b:=W.heap.size) (cs:=[.int .i64 p,.int .i64 cv,.int .i64 h,.int .i64 s]) hu (by intro x hx;simp only[List.mem_cons,List.not_mem_nil,or_false]at hx;rcases hx with rfl|rfl;exact⟨by show (6:Nat)<10;omega,.inl ⟨rfl,rfl,rfl⟩⟩;exact⟨by show (9:Nat)<10;omega,.inr ⟨by show ¬(9:Nat)=6;omega,by show ¬_=_;omega⟩⟩) HSTB.out HKS.out rfl (.inr (.inl rfl)) (frm_st4 W3 _ (.int .i64 p) (.int .i64 cv) (.int .i64 h) (.int .i64 s)) (HIS.out _ _ H.1.i _ (by omega) (frm_st4 W3 _ (.int .i64 p) (.int .i64 cv) (.int .i64 h) (.int .i64 s))) (fun _=>trivial) (hc.st4 (.int .i64 p) (.int .i64 cv) (.int .i64 h) (.int .i64 s)),fun hh=>by rw[(hu.2.2 5 (by omega) (by omega)).1,hdep 5 (by omega) (by kernel_rfl)]at hh;cases hh⟩⟩
  ·have d1':a'.tmps.getD 19 undef=v8:=HG 1 (by omega) (by kernel_rfl)
   exact .inl <| .inl ⟨v8,W3,by simp only[execOp,Act.eval,d1'];go_simp,fun L' vs' hu=>⟨H.1.pure hu (by simp) HSTB.out HKS.out (by intro h;cases h) rfl,fun hh=>H.2 (by rw[<- (hu.2.2 5 (by omega) (by omega)).1];exact hh)⟩⟩
  ·have d1':a'.tmps.getD 20 undef=v9:=HG 2 (by omega) (by kernel_rfl)
   exact .inl <| .inl ⟨v9,W3,by simp only[execOp,Act.eval,d1'];go_simp,fun L' vs' hu=>⟨H.1.pure hu (by simp) HSTB.out HKS.out (by intro h;cases h) rfl,fun hh=>H.2 (by rw[<- (hu.2.2 5 (by omega) (by omega)).1];exact hh)⟩⟩
  ·have d1':a'.tmps.getD 23 undef = .agg #[.int .i64 ra,.int .i64 rb]:=HG 5 (by omega) (by kernel_rfl)
   have hc:Cel W3 (W.heap.size+1) [.int .i64 0,.int .i64 0]:=(HTT (W.heap.size+1,9,[.int .i64 0,.int .i64 0],(fun cs=>cs=[.int .i64 ra,.int .i64 rb])) (by simp)).1 hun
   have y0:=hc.cell 0 _ rfl;have f0:=hc.froz 0 _ rfl;have y1:=hc.cell 1 _ rfl;have f1:=hc.froz 1 _ rfl;have yz:=hc.lt
   exact .inr ⟨rfl,((W3.setCell ⟨W.heap.size+1,0,none⟩ (.int .i64 ra)).setCell ⟨W.heap.size+1,1,none⟩ (.int .i64 rb)),by simp only[execOp,Act.eval,e5,d1'];go_simp,fun L' vs' hu=>⟨H.1.fill (b:=W.heap.size+1) (cs:=[.int .i64 ra,.int .i64 rb]) hu (by intro x hx;simp only[List.mem_cons,List.not_mem_nil,or_false]at hx;rcases hx with rfl|rfl;exact⟨by show (6:Nat)<10;omega,.inr ⟨by show ¬(6:Nat)=9;omega,by show ¬_=_;omega⟩⟩;exact⟨by show (9:Nat)<10;omega,.inl ⟨rfl,rfl,rfl⟩⟩) HSTB.out HKS.out rfl (.inr (.inr rfl)) (im W3 _ (.int .i64 ra) (.int .i64 rb)) (HIS.out _ _ H.1.i _ (by omega) (im W3 _ (.int .i64 ra) (.int .i64 rb))) (fun _=>trivial) (hc.st2 (.int .i64 ra) (.int .i64 rb)),fun hh=>by rw[(hu.2.2 5 (by omega) (by omega)).1,hdep 5 (by omega) (by kernel_rfl)]at hh;cases hh⟩⟩
 intro L u W2 hL H
 have g0:u 0 = .agg #[.int .i64 p,.int .i64 cv,.int .i64 h,.int .i64 s]:=H.1.g 0 (by omega) (hL 0 (by omega))
 have g1:u 1=v8:=H.1.g 1 (by omega) (hL 1 (by omega))
 have g2:u 2=v9:=H.1.g 2 (by omega) (hL 2 (by omega))
 have g3:u 3 = .pointer (some ⟨g,0,none⟩):=H.1.g 3 (by omega) (hL 3 (by omega))
 have g4:u 4 = .agg #[.int .i64 p,.int .i64 cv,.int .i64 h,.int .i64 s]:=H.1.g 4 (by omega) (hL 4 (by omega))
 have g5:u 5 = .agg #[.int .i64 ra,.int .i64 rb]:=H.1.g 5 (by omega) (hL 5 (by omega))
 have g7:u 7=v8:=H.1.g 7 (by omega) (hL 7 (by omega))
 have g8:u 8=v9:=H.1.g 8 (by omega) (hL 8 (by omega))
 obtain⟨_,rfl,hc2⟩:=(H.1.t (W.heap.size,6,[.int .i64 0,.int .i64 0,.int .i64 0,.int .i64 0],(fun cs=>cs=[.int .i64 p,.int .i64 cv,.int .i64 h,.int .i64 s])) (by simp)).2 (hL 6 (by omega))
 obtain⟨_,rfl,hc3⟩:=(H.1.t (W.heap.size+1,9,[.int .i64 0,.int .i64 0],(fun cs=>cs=[.int .i64 ra,.int .i64 rb])) (by simp)).2 (hL 9 (by omega))
 obtain⟨ho8,ho9⟩:=H.1.i;have hfZ:=H.1.f
 simp only[putO,dsB12,g0,g1,g2,g3,g4,g5,g7,g8,Act.put]
 clear g0 g1 g2 g3 g4 g5 g7 g8 H hL HKS HK0 HT0 HINV HIC HIS HSTB;have c0:=hc2.cell 0 _ rfl;have c1:=hc2.cell 1 _ rfl;have c2:=hc2.cell 2 _ rfl;have c3:=hc2.cell 3 _ rfl;have d0:=hc3.cell 0 _ rfl;have d1:=hc3.cell 1 _ rfl
 have hFF:Below W.heap.size W W2:=HBV.out.trans (hfZ.below HBV.out.size (fun k hk=>by omega))
 go_wp2_with (fail)
 refine bodyPost_ret (v:=.tuple #[.agg #[.int .i64 p,.int .i64 cv,.int .i64 h,.int .i64 s],v8,v9,.agg #[.int .i64 ra,.int .i64 rb]]) (by simp[results,Tryz.results22,go_sem,c0,c1,c2,c3,d0,d1]) rfl ?_
 exact⟨v8,v9,rfl,ho8.base (by omega),ho9.base (by omega),hFF⟩
end Go.Proofs.YtkaiilmgemaljaaGreat

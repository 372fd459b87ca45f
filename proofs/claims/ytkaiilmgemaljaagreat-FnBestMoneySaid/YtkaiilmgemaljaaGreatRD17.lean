/- Part of one proof. There are no conditions. -/
import Derived.Test.YtkaiilmgemaljaaGreatRD15
set_option maxHeartbeats 0
set_option linter.unusedVariables false
set_option linter.unusedSimpArgs false
set_option maxRecDepth 100000
namespace Go.Proofs.YtkaiilmgemaljaaGreat
open Go.RowKit
def OwP (lo:Nat):RP:=fun v W=>∃xs,OwnS W lo 2 v xs/\xs.length<=30
def CuP:RP:=fun v _=>∃a b,v = .agg #[.int .i64 a,.int .i64 b]/\DrC a b
inductive AllF (S:Nat->Prop):List RP->Prop
 | nil:AllF S []
 | cons {P:RP} {l:List RP}:(∀v W W',P v W->Frm S W W'->P v W')->AllF S l->AllF S (P::l)
theorem GL.stabF {S:Nat->Prop}:∀{l:List RP},AllF S l->∀i v W W',GL l i v W->Frm S W W'->GL l i v W'
 | _,.nil,_,_,_,_,_,_=>trivial
 | _,.cons h _,0,v,W,W',hg,hb=>h v W W' hg hb
 | _,.cons _ h,i+1,v,W,W',hg,hb=>GL.stabF h i v W W' hg hb
theorem stf_own {S:Nat->Prop} {lo:Nat} (h:∀k,S k->k<lo):∀v W W',OwP lo v W->Frm S W W'->OwP lo v W':=fun _ _ _ ⟨xs,h1,h2⟩ hf=>⟨xs,hf.own h1 fun j hj hs=>by have:=(h1.lt j hj).1;have:=h j hs;omega,h2⟩
theorem FrS.cel {S:Nat->Prop} {w wr:World} {L:List (List Value)} (h:FrS S w wr L) (i:Nat) {b:Nat} {cs:List Value} (hb:b=w.heap.size+i) (hi:i<L.length) (hc:∀j v,cs[j]? = some v->frAt L i j=some v):Cel wr b cs:=
 ⟨h.ltA i hb hi,fun j v hv=>h.cellA i j hb (hc j v hv),fun j v hv=>h.frozA i j hb (hc j v hv)⟩
def RetGM (g:Nat) (C:Option Addr) (n cc:Nat) (bs:List Int) (W:World) (e:Ending) (W':World):Prop:=
 ∃ p c h s m ba bj v1 xs v2 ys a b, e = .returned (.tuple #[.agg #[.int .i64 p, .int .i64 c, .int .i64 h, .int .i64 s], .agg #[.int .i64 m, .bool ba, .bool bj], v1, v2, .agg #[.int .i64 a, .int .i64 b]]) ∧ DrV p c h s ∧ DrM m ∧ DrC a b ∧
   OwnS W' W.heap.size 2 v1 xs /\ OwnS W' W.heap.size 2 v2 ys /\ xs.length <= 30 /\ ys.length <= 30 /\ SomG g C n cc bs W' /\ Frm (fun j => j = g) W W'
def dsL17:Nat->Option Nat
 | 0=>some 17
 | 1=>some 18
 | 2=>some 19
 | 3=>some 20
 | 4=>some 21
 | 5=>some 22
 | 6=>some 23
 | 7=>some 24
 | 8=>some 25
 | 9=>none
 | 10=>none
 | 11=>some 4
 | 12=>some 5
 | 13=>none
 | _=>none
theorem iW (g:Nat) (C:Option Addr) (n cc:Nat) (bs:List Int) (W:World) (hs:SomG g C n cc bs W):
  Calls Tryz.prog 101 #[.pointer (some ⟨g,0,none⟩)] W (RetGM g C n cc bs W):=by
 have hg:=hs.lt
 have HF0:Hid (FrS (fun j=>j=g) W (((W.alloc (.cells #[.int .i64 0,.int .i64 0,.int .i64 0,.int .i64 0] 25)).alloc (.cells #[.int .i64 0,.bool false,.bool false] 53)).alloc (.cells #[.int .i64 0,.int .i64 0] 55)) [[.int .i64 0,.int .i64 0,.int .i64 0,.int .i64 0],[.int .i64 0,.bool false,.bool false],[.int .i64 0,.int .i64 0]]):=(((FrS.start W (fun k hk=>by rw[hk];exact hg)).allocT (by simp) _ _).allocT (by simp) _ _).allocT (by simp) _ _
 have HS0:=h_ (((hs.alloc (.cells #[.int .i64 0,.int .i64 0,.int .i64 0,.int .i64 0] 25)).alloc (.cells #[.int .i64 0,.bool false,.bool false] 53)).alloc (.cells #[.int .i64 0,.int .i64 0] 55));clear hs
 go_enter Tryz.func101,Tryz.ntmps101
 go_wp2_with (fail)
 refine (gi g C n cc bs _ HS0.out).mono ?_
 rintro e w1 ⟨p,cv,h,s,rfl,hdv,hs,hf⟩
 have HF1:=h_ (HF0.out.frm hf);have HDV:=h_ hdv
 have hw1:W.heap.size+3<=w1.heap.size:=by have:=HF1.out.z;simpa using this
 have HS1:=h_ (hs.alloc (.cells #[.int .i64 p,.int .i64 cv,.int .i64 h,.int .i64 s] 25));have HFA:=h_ (HF1.out.alloc (.cells #[.int .i64 p,.int .i64 cv,.int .i64 h,.int .i64 s] 25));have HC1:Hid (Cel (w1.alloc (.cells #[.int .i64 p,.int .i64 cv,.int .i64 h,.int .i64 s] 25)) w1.heap.size [.int .i64 p,.int .i64 cv,.int .i64 h,.int .i64 s]):=Cel.new w1 #[.int .i64 p,.int .i64 cv,.int .i64 h,.int .i64 s] _;clear hs hf hdv HS0 HF0 HF1
 go_wp2_with (fail)
 generalize w1.alloc (.cells #[.int .i64 p,.int .i64 cv,.int .i64 h,.int .i64 s] 25)=w2 at *;generalize w1.heap.size=b7 at *
 refine (im g C n cc bs _ HS1.out).mono ?_
 rintro e w3 ⟨m,ba,bj,rfl,hdm,hs,hf⟩
 have HF3:=h_ (HFA.out.frm hf);have HDM:=h_ hdm
 have HC3:=h_ (HC1.out.frmN hf (by omega))
 have hw3:b7<w3.heap.size:=HC3.out.lt;have HS4:=h_ (hs.alloc (.cells #[.int .i64 m,.bool ba,.bool bj] 53));have HF4:=h_ (HF3.out.alloc (.cells #[.int .i64 m,.bool ba,.bool bj] 53));have HC4:=h_ (HC3.out.alloc (.cells #[.int .i64 m,.bool ba,.bool bj] 53));have HR4:Hid (Cel (w3.alloc (.cells #[.int .i64 m,.bool ba,.bool bj] 53)) w3.heap.size [.int .i64 m,.bool ba,.bool bj]):=Cel.new w3 #[.int .i64 m,.bool ba,.bool bj] _;have c0:=HC3.out.cell 0 _ rfl;have c1:=HC3.out.cell 1 _ rfl;have c2:=HC3.out.cell 2 _ rfl;have c3:=HC3.out.cell 3 _ rfl;clear hs hf hdm HS1 HFA HC1 HF3
 go_wp2_with (fail)
 clear c0 c1 c2 c3 HC3;generalize w3.alloc (.cells #[.int .i64 m,.bool ba,.bool bj] 53)=w4 at *;generalize w3.heap.size=b8 at *
 refine (cU g C n cc bs p cv h s _ HS4.out).mono ?_
 rintro e V ⟨v9,xs9,rfl,ho,hxl,hs,hf⟩
 have HFV:=h_ (HF4.out.frm hf)
 have HCV:=h_ (HC4.out.frmN hf (by omega))
 have HRV:=h_ (HR4.out.frmN hf (by omega))
 have hw4:b8<w4.heap.size:=HR4.out.lt;obtain⟨lo9,hlo9⟩:∃lo9,lo9=w4.heap.size:=⟨_,rfl⟩;rw[<- hlo9]at ho hw4
 have hwV:lo9<=V.heap.size:=by rw[hlo9];exact hf.size
 have HO9:=h_ ho;have HSV:=h_ hs;have HXL:=h_ hxl;clear hs hf ho hxl HF4 HC4 HR4 HS4 hlo9
 go_wp2_with (fail)
 have HKS:Hid (∀x∈([(b7,[.int .i64 p,.int .i64 cv,.int .i64 h,.int .i64 s]),(b8,[.int .i64 m,.bool ba,.bool bj])]:List (Nat×List Value)),¬(fun j=>j=g\/j=W.heap.size\/j=W.heap.size+1\/j=W.heap.size+1+1) x.1):=by unfold Hid;simp only[List.mem_cons,List.not_mem_nil,or_false,forall_eq_or_imp,forall_eq];omega
 have HK0:Hid (∀x∈([(b7,[.int .i64 p,.int .i64 cv,.int .i64 h,.int .i64 s]),(b8,[.int .i64 m,.bool ba,.bool bj])]:List (Nat×List Value)),Cel V x.1 x.2):=by unfold Hid;simp only[List.mem_cons,List.not_mem_nil,or_false,forall_eq_or_imp,forall_eq];exact⟨HCV.out,HRV.out⟩
 have HT0:Hid (∀x∈([(W.heap.size,9,[.int .i64 0,.int .i64 0,.int .i64 0,.int .i64 0],(fun cs=>cs=[.int .i64 p,.int .i64 cv,.int .i64 h,.int .i64 s])),(W.heap.size+1,10,[.int .i64 0,.bool false,.bool false],(fun cs=>cs=[.int .i64 m,.bool ba,.bool bj])),(W.heap.size+1+1,13,[.int .i64 0,.int .i64 0],(fun cs=>∃a b,cs=[.int .i64 a,.int .i64 b]/\DrC a b))]:List (Nat×Nat×List Value×(List Value->Prop))),(((fun _=>false):Nat->Bool) x.2.1=false->Cel V x.1 x.2.2.1)/\(((fun _=>false):Nat->Bool) x.2.1=true->∃cs,x.2.2.2 cs/\Cel V x.1 cs)):=by
  intro x hx
  simp only[List.mem_cons,List.not_mem_nil,or_false]at hx
  rcases hx with rfl|rfl|rfl
  ·exact⟨fun _=>HFV.out.cel 0 rfl (by simp) (fun j v hv=>hv),fun h=>(by cases h)⟩
  ·exact⟨fun _=>HFV.out.cel 1 rfl (by simp) (fun j v hv=>hv),fun h=>(by cases h)⟩
  ·exact⟨fun _=>HFV.out.cel 2 rfl (by simp) (fun j v hv=>hv),fun h=>(by cases h)⟩
 have HINV:Hid (∀X,Frm (fun _=>False) V X->SomG g C n cc bs X/\OwnS X lo9 2 v9 xs9):=fun X hf=>⟨HSV.out.frm hf (fun _ h=>h.elim),hf.own HO9.out fun _ _ h=>h.elim⟩
 have HIC:Hid (∀X X',SomG g C n cc bs X/\OwnS X lo9 2 v9 xs9->SomG g C n cc bs X'->Frm (fun j=>j=g) X X'->SomG g C n cc bs X'/\OwnS X' lo9 2 v9 xs9):=fun X X' h hs hf=>⟨hs,hf.own h.2 fun j hj hjg=>by have:=(h.2.lt j hj).1;omega⟩
 have HIS:Hid (∀X X',SomG g C n cc bs X/\OwnS X lo9 2 v9 xs9->∀b,(W.heap.size<=b/\b<W.heap.size+3)->Frm (fun j=>j=b) X X'->SomG g C n cc bs X'/\OwnS X' lo9 2 v9 xs9):=fun X X' h b hb hf=>⟨h.1.frm hf (fun k hk=>by rw[hk];omega),hf.own h.2 fun j hj hjg=>by have:=(h.2.lt j hj).1;omega⟩
 have HSTB:Hid (∀k v X X',GL [Eqv (.agg #[.int .i64 p,.int .i64 cv,.int .i64 h,.int .i64 s]),Eqv (.agg #[.int .i64 m,.bool ba,.bool bj]),Eqv v9,Eqv (.pointer (some ⟨g,0,none⟩)),Eqv (.agg #[.int .i64 p,.int .i64 cv,.int .i64 h,.int .i64 s]),OwP V.heap.size,Eqv (.pointer (some ⟨g,0,none⟩)),Eqv (.agg #[.int .i64 m,.bool ba,.bool bj]),CuP,Any,Any,Eqv v9,OwP V.heap.size,Any] k v X->Frm ((fun j=>j=g\/j=W.heap.size\/j=W.heap.size+1\/j=W.heap.size+1+1)) X X'->GL [Eqv (.agg #[.int .i64 p,.int .i64 cv,.int .i64 h,.int .i64 s]),Eqv (.agg #[.int .i64 m,.bool ba,.bool bj]),Eqv v9,Eqv (.pointer (some ⟨g,0,none⟩)),Eqv (.agg #[.int .i64 p,.int .i64 cv,.int .i64 h,.int .i64 s]),OwP V.heap.size,Eqv (.pointer (some ⟨g,0,none⟩)),Eqv (.agg #[.int .i64 m,.bool ba,.bool bj]),CuP,Any,Any,Eqv v9,OwP V.heap.size,Any] k v X'):=GL.stabF (.cons (fun _ _ _ h _=>h) (.cons (fun _ _ _ h _=>h) (.cons (fun _ _ _ h _=>h) (.cons (fun _ _ _ h _=>h) (.cons (fun _ _ _ h _=>h) (.cons (stf_own (fun k hk=>by omega)) (.cons (fun _ _ _ h _=>h) (.cons (fun _ _ _ h _=>h) (.cons (fun _ _ _ h _=>h) (.cons (fun _ _ _ h _=>h) (.cons (fun _ _ _ h _=>h) (.cons (fun _ _ _ h _=>h) (.cons (stf_own (fun k hk=>by omega)) (.cons (fun _ _ _ h _=>h) .nil))))))))))))))
 refine eo 14 dsL17 (JQ 14 (fun j=>j=g\/j=W.heap.size\/j=W.heap.size+1\/j=W.heap.size+1+1) V (fun X=>SomG g C n cc bs X/\OwnS X lo9 2 v9 xs9) [Eqv (.agg #[.int .i64 p,.int .i64 cv,.int .i64 h,.int .i64 s]),Eqv (.agg #[.int .i64 m,.bool ba,.bool bj]),Eqv v9,Eqv (.pointer (some ⟨g,0,none⟩)),Eqv (.agg #[.int .i64 p,.int .i64 cv,.int .i64 h,.int .i64 s]),OwP V.heap.size,Eqv (.pointer (some ⟨g,0,none⟩)),Eqv (.agg #[.int .i64 m,.bool ba,.bool bj]),CuP,Any,Any,Eqv v9,OwP V.heap.size,Any] [(b7,[.int .i64 p,.int .i64 cv,.int .i64 h,.int .i64 s]),(b8,[.int .i64 m,.bool ba,.bool bj])] [(W.heap.size,9,[.int .i64 0,.int .i64 0,.int .i64 0,.int .i64 0],(fun cs=>cs=[.int .i64 p,.int .i64 cv,.int .i64 h,.int .i64 s])),(W.heap.size+1,10,[.int .i64 0,.bool false,.bool false],(fun cs=>cs=[.int .i64 m,.bool ba,.bool bj])),(W.heap.size+1+1,13,[.int .i64 0,.int .i64 0],(fun cs=>∃a b,cs=[.int .i64 a,.int .i64 b]/\DrC a b))]) rfl rfl (fun i hi=>?_) (by kernel_rfl) (fun vs=>⟨(Frm.refl _ _).drew,HINV.out _ ((Frm.refl _ _).drew),(fun k _ h=>by cases h),(fun x hx=>(HK0.out x hx).drew),(fun x hx=>⟨fun _=>((HT0.out x hx).1 rfl).drew,fun h=>by cases h⟩)⟩) ?_ (fun L vs vs' W h H=>JQ.ext h H) ?_
 ·have hi8:i=0\/i=1\/i=2\/i=3\/i=4\/i=5\/i=6\/i=7\/i=8\/i=9\/i=10\/i=11\/i=12\/i=13:=by omega
  rcases hi8 with rfl|rfl|rfl|rfl|rfl|rfl|rfl|rfl|rfl|rfl|rfl|rfl|rfl|rfl<;>rfl
 ·intro i o' hi ho L a' W3 H hun hfar hdep
  have e0:a'.tmps.getD 0 undef = .pointer (some ⟨g,0,none⟩):=(hfar 0 (by decide)).trans rfl
  have e2:a'.tmps.getD 2 undef = .pointer (some ⟨W.heap.size,0,none⟩):=(hfar 2 (by decide)).trans rfl
  have e3:a'.tmps.getD 3 undef = .pointer (some ⟨W.heap.size+1,0,none⟩):=(hfar 3 (by decide)).trans rfl
  have e6:a'.tmps.getD 6 undef = .pointer (some ⟨W.heap.size+1+1,0,none⟩):=(hfar 6 (by decide)).trans rfl
  have e7:a'.tmps.getD 7 undef = .pointer (some ⟨b7,0,none⟩):=(hfar 7 (by decide)).trans rfl
  have e8:a'.tmps.getD 8 undef = .pointer (some ⟨b8,0,none⟩):=(hfar 8 (by decide)).trans rfl
  have e9:a'.tmps.getD 9 undef=v9:=(hfar 9 (by decide)).trans rfl
  have HG:∀j,j<14->Region.waitsFor .any _ i j=true->GL [Eqv (.agg #[.int .i64 p,.int .i64 cv,.int .i64 h,.int .i64 s]),Eqv (.agg #[.int .i64 m,.bool ba,.bool bj]),Eqv v9,Eqv (.pointer (some ⟨g,0,none⟩)),Eqv (.agg #[.int .i64 p,.int .i64 cv,.int .i64 h,.int .i64 s]),OwP V.heap.size,Eqv (.pointer (some ⟨g,0,none⟩)),Eqv (.agg #[.int .i64 m,.bool ba,.bool bj]),CuP,Any,Any,Eqv v9,OwP V.heap.size,Any] j (getO a' dsL17 j) W3:=fun j hj hw=>H.g j hj (hdep j hj hw)
  have HC:=H.c;have HTT:=H.t
  have hi8:i=0\/i=1\/i=2\/i=3\/i=4\/i=5\/i=6\/i=7\/i=8\/i=9\/i=10\/i=11\/i=12\/i=13:=by omega
  clear hfar hdep hi
  rcases hi8 with rfl|rfl|rfl|rfl|rfl|rfl|rfl|rfl|rfl|rfl|rfl|rfl|rfl|rfl
  all_goals (simp at ho;subst ho)
  ·have hc:=HC (b7,[.int .i64 p,.int .i64 cv,.int .i64 h,.int .i64 s]) (by simp)
   have y0:=hc.cell 0 _ rfl;have y1:=hc.cell 1 _ rfl;have y2:=hc.cell 2 _ rfl;have y3:=hc.cell 3 _ rfl
   exact .inl <| .inl ⟨.agg #[.int .i64 p,.int .i64 cv,.int .i64 h,.int .i64 s],W3,by simp only[execOp,Act.eval,e7];go_simp,fun L' vs' hu=>H.pure hu (by simp) HSTB.out HKS.out (by intro h;cases h) rfl⟩
  ·have hc:=HC (b8,[.int .i64 m,.bool ba,.bool bj]) (by simp)
   have y0:=hc.cell 0 _ rfl;have y1:=hc.cell 1 _ rfl;have y2:=hc.cell 2 _ rfl
   exact .inl <| .inl ⟨.agg #[.int .i64 m,.bool ba,.bool bj],W3,by simp only[execOp,Act.eval,e8];go_simp,fun L' vs' hu=>H.pure hu (by simp) HSTB.out HKS.out (by intro h;cases h) rfl⟩
  ·exact .inl <| .inl ⟨v9,W3,by simp only[execOp,Act.eval,e9];go_simp,fun L' vs' hu=>H.pure hu (by simp) HSTB.out HKS.out (by intro h;cases h) rfl⟩
  ·exact .inl <| .inl ⟨.pointer (some ⟨g,0,none⟩),W3,by simp only[execOp,Act.eval,e0];go_simp,fun L' vs' hu=>H.pure hu (by simp) HSTB.out HKS.out (by intro h;cases h) rfl⟩
  ·have hc:=HC (b7,[.int .i64 p,.int .i64 cv,.int .i64 h,.int .i64 s]) (by simp)
   have y0:=hc.cell 0 _ rfl;have y1:=hc.cell 1 _ rfl;have y2:=hc.cell 2 _ rfl;have y3:=hc.cell 3 _ rfl
   exact .inl <| .inl ⟨.agg #[.int .i64 p,.int .i64 cv,.int .i64 h,.int .i64 s],W3,by simp only[execOp,Act.eval,e7];go_simp,fun L' vs' hu=>H.pure hu (by simp) HSTB.out HKS.out (by intro h;cases h) rfl⟩
  ·have d0:a'.tmps.getD 20 undef = .pointer (some ⟨g,0,none⟩):=HG 3 (by omega) (by kernel_rfl)
   have d1:a'.tmps.getD 21 undef = .agg #[.int .i64 p,.int .i64 cv,.int .i64 h,.int .i64 s]:=HG 4 (by omega) (by kernel_rfl)
   refine .inl <| .inr ⟨184,#[.pointer (some ⟨g,0,none⟩),.agg #[.int .i64 p,.int .i64 cv,.int .i64 h,.int .i64 s]],by simp only[execOp,Act.eval,d0,d1];go_simp,?_⟩
   refine (cU g C n cc bs p cv h s W3 H.i.1).mono ?_
   rintro e W' ⟨vp,ys,rfl,ho',hl',hs',hf'⟩
   exact⟨_,rfl,fun L' vs' hu=>H.call (g:=g) hu (by simp;omega) HSTB.out HKS.out (by intro h;cases h) (.inl rfl) hf' (HIC.out _ _ H.i hs' hf') (⟨ys,ho'.base H.f.size,hl'⟩)⟩
  ·exact .inl <| .inl ⟨.pointer (some ⟨g,0,none⟩),W3,by simp only[execOp,Act.eval,e0];go_simp,fun L' vs' hu=>H.pure hu (by simp) HSTB.out HKS.out (by intro h;cases h) rfl⟩
  ·have hc:=HC (b8,[.int .i64 m,.bool ba,.bool bj]) (by simp)
   have y0:=hc.cell 0 _ rfl;have y1:=hc.cell 1 _ rfl;have y2:=hc.cell 2 _ rfl
   exact .inl <| .inl ⟨.agg #[.int .i64 m,.bool ba,.bool bj],W3,by simp only[execOp,Act.eval,e8];go_simp,fun L' vs' hu=>H.pure hu (by simp) HSTB.out HKS.out (by intro h;cases h) rfl⟩
  ·have d0:a'.tmps.getD 23 undef = .pointer (some ⟨g,0,none⟩):=HG 6 (by omega) (by kernel_rfl)
   have d1:a'.tmps.getD 24 undef = .agg #[.int .i64 m,.bool ba,.bool bj]:=HG 7 (by omega) (by kernel_rfl)
   refine .inl <| .inr ⟨185,#[.pointer (some ⟨g,0,none⟩),.agg #[.int .i64 m,.bool ba,.bool bj]],by simp only[execOp,Act.eval,d0,d1];go_simp,?_⟩
   refine (l16Draw_any g C n cc bs m ba bj W3 H.i.1).mono ?_
   rintro e W' ⟨qa,qb,rfl,hq,hs',hf'⟩
   exact⟨_,rfl,fun L' vs' hu=>H.call (g:=g) hu (by simp;omega) HSTB.out HKS.out (by intro h;cases h) (.inl rfl) hf' (HIC.out _ _ H.i hs' hf') (⟨qa,qb,rfl,hq⟩)⟩
  ·have d1':a'.tmps.getD 17 undef = .agg #[.int .i64 p,.int .i64 cv,.int .i64 h,.int .i64 s]:=HG 0 (by omega) (by kernel_rfl)
   have hc:Cel W3 (W.heap.size) [.int .i64 0,.int .i64 0,.int .i64 0,.int .i64 0]:=(HTT (W.heap.size,9,[.int .i64 0,.int .i64 0,.int .i64 0,.int .i64 0],(fun cs=>cs=[.int .i64 p,.int .i64 cv,.int .i64 h,.int .i64 s])) (by simp)).1 hun
   have y0:=hc.cell 0 _ rfl;have f0:=hc.froz 0 _ rfl;have y1:=hc.cell 1 _ rfl;have f1:=hc.froz 1 _ rfl;have y2:=hc.cell 2 _ rfl;have f2:=hc.froz 2 _ rfl;have y3:=hc.cell 3 _ rfl;have f3:=hc.froz 3 _ rfl;have yz:=hc.lt
   exact .inr ⟨rfl,((((W3.setCell ⟨W.heap.size,0,none⟩ (.int .i64 p)).setCell ⟨W.heap.size,1,none⟩ (.int .i64 cv)).setCell ⟨W.heap.size,2,none⟩ (.int .i64 h)).setCell ⟨W.heap.size,3,none⟩ (.int .i64 s)),by simp only[execOp,Act.eval,e2,d1'];go_simp,fun L' vs' hu=>H.fill (b:=W.heap.size) (cs:=[.int .i64 p,.int .i64 cv,.int .i64 h,.int .i64 s]) hu (by intro x hx;simp only[List.mem_cons,List.not_mem_nil,or_false]at hx;rcases hx with rfl|rfl|rfl;exact⟨by show (9:Nat)<14;omega,.inl ⟨rfl,rfl,rfl⟩⟩;exact⟨by show (10:Nat)<14;omega,.inr ⟨by show ¬(10:Nat)=9;omega,by show ¬_=_;omega⟩⟩;exact⟨by show (13:Nat)<14;omega,.inr ⟨by show ¬(13:Nat)=9;omega,by show ¬_=_;omega⟩⟩) HSTB.out HKS.out rfl (.inr (.inl rfl)) (kD W3 _ (.int .i64 p) (.int .i64 cv) (.int .i64 h) (.int .i64 s)) (HIS.out _ _ H.i _ (by omega) (kD W3 _ (.int .i64 p) (.int .i64 cv) (.int .i64 h) (.int .i64 s))) (fun _=>trivial) (hc.st4 (.int .i64 p) (.int .i64 cv) (.int .i64 h) (.int .i64 s))⟩
  ·have d1':a'.tmps.getD 18 undef = .agg #[.int .i64 m,.bool ba,.bool bj]:=HG 1 (by omega) (by kernel_rfl)
   have hc:Cel W3 (W.heap.size+1) [.int .i64 0,.bool false,.bool false]:=(HTT (W.heap.size+1,10,[.int .i64 0,.bool false,.bool false],(fun cs=>cs=[.int .i64 m,.bool ba,.bool bj])) (by simp)).1 hun
   have y0:=hc.cell 0 _ rfl;have f0:=hc.froz 0 _ rfl;have y1:=hc.cell 1 _ rfl;have f1:=hc.froz 1 _ rfl;have y2:=hc.cell 2 _ rfl;have f2:=hc.froz 2 _ rfl;have yz:=hc.lt
   exact .inr ⟨rfl,(((W3.setCell ⟨W.heap.size+1,0,none⟩ (.int .i64 m)).setCell ⟨W.heap.size+1,1,none⟩ (.bool ba)).setCell ⟨W.heap.size+1,2,none⟩ (.bool bj)),by simp only[execOp,Act.eval,e3,d1'];go_simp,fun L' vs' hu=>H.fill (b:=W.heap.size+1) (cs:=[.int .i64 m,.bool ba,.bool bj]) hu (by intro x hx;simp only[List.mem_cons,List.not_mem_nil,or_false]at hx;rcases hx with rfl|rfl|rfl;exact⟨by show (9:Nat)<14;omega,.inr ⟨by show ¬(9:Nat)=10;omega,by show ¬_=_;omega⟩⟩;exact⟨by show (10:Nat)<14;omega,.inl ⟨rfl,rfl,rfl⟩⟩;exact⟨by show (13:Nat)<14;omega,.inr ⟨by show ¬(13:Nat)=10;omega,by show ¬_=_;omega⟩⟩) HSTB.out HKS.out rfl (.inr (.inr (.inl rfl))) (fF W3 _ (.int .i64 m) (.bool ba) (.bool bj)) (HIS.out _ _ H.i _ (by omega) (fF W3 _ (.int .i64 m) (.bool ba) (.bool bj))) (fun _=>trivial) (hc.st3 (.int .i64 m) (.bool ba) (.bool bj))⟩
  ·have d1':a'.tmps.getD 19 undef=v9:=HG 2 (by omega) (by kernel_rfl)
   exact .inl <| .inl ⟨v9,W3,by simp only[execOp,Act.eval,d1'];go_simp,fun L' vs' hu=>H.pure hu (by simp) HSTB.out HKS.out (by intro h;cases h) rfl⟩
  ·have d1:(OwP V.heap.size) (a'.tmps.getD 22 undef) W3:=HG 5 (by omega) (by kernel_rfl)
   exact .inl <| .inl ⟨a'.tmps.getD 22 undef,W3,by simp only[execOp,Act.eval];go_simp,fun L' vs' hu=>H.pure hu (by simp) HSTB.out HKS.out (by intro h;cases h) d1⟩
  ·obtain⟨qa,qb,d1',hq⟩:(CuP) (a'.tmps.getD 25 undef) W3:=HG 8 (by omega) (by kernel_rfl)
   have hc:Cel W3 (W.heap.size+1+1) [.int .i64 0,.int .i64 0]:=(HTT (W.heap.size+1+1,13,[.int .i64 0,.int .i64 0],(fun cs=>∃a b,cs=[.int .i64 a,.int .i64 b]/\DrC a b)) (by simp)).1 hun
   have y0:=hc.cell 0 _ rfl;have f0:=hc.froz 0 _ rfl;have y1:=hc.cell 1 _ rfl;have f1:=hc.froz 1 _ rfl;have yz:=hc.lt
   exact .inr ⟨rfl,((W3.setCell ⟨W.heap.size+1+1,0,none⟩ (.int .i64 qa)).setCell ⟨W.heap.size+1+1,1,none⟩ (.int .i64 qb)),by simp only[execOp,Act.eval,e6,d1'];go_simp,fun L' vs' hu=>H.fill (b:=W.heap.size+1+1) (cs:=[.int .i64 qa,.int .i64 qb]) hu (by intro x hx;simp only[List.mem_cons,List.not_mem_nil,or_false]at hx;rcases hx with rfl|rfl|rfl;exact⟨by show (9:Nat)<14;omega,.inr ⟨by show ¬(9:Nat)=13;omega,by show ¬_=_;omega⟩⟩;exact⟨by show (10:Nat)<14;omega,.inr ⟨by show ¬(10:Nat)=13;omega,by show ¬_=_;omega⟩⟩;exact⟨by show (13:Nat)<14;omega,.inl ⟨rfl,rfl,⟨_,_,rfl,hq⟩⟩⟩) HSTB.out HKS.out rfl (.inr (.inr (.inr rfl))) (fG W3 _ (.int .i64 qa) (.int .i64 qb)) (HIS.out _ _ H.i _ (by omega) (fG W3 _ (.int .i64 qa) (.int .i64 qb))) (fun _=>trivial) (hc.st2 (.int .i64 qa) (.int .i64 qb))⟩
 intro L u W2 hL H
 have g0:u 0 = .agg #[.int .i64 p,.int .i64 cv,.int .i64 h,.int .i64 s]:=H.g 0 (by omega) (hL 0 (by omega))
 have g1:u 1 = .agg #[.int .i64 m,.bool ba,.bool bj]:=H.g 1 (by omega) (hL 1 (by omega))
 have g2:u 2=v9:=H.g 2 (by omega) (hL 2 (by omega))
 have g3:u 3 = .pointer (some ⟨g,0,none⟩):=H.g 3 (by omega) (hL 3 (by omega))
 have g4:u 4 = .agg #[.int .i64 p,.int .i64 cv,.int .i64 h,.int .i64 s]:=H.g 4 (by omega) (hL 4 (by omega))
 have g6:u 6 = .pointer (some ⟨g,0,none⟩):=H.g 6 (by omega) (hL 6 (by omega))
 have g7:u 7 = .agg #[.int .i64 m,.bool ba,.bool bj]:=H.g 7 (by omega) (hL 7 (by omega))
 obtain⟨qa,qb,g8,hq⟩:CuP (u 8) W2:=H.g 8 (by omega) (hL 8 (by omega))
 have g11:u 11=v9:=H.g 11 (by omega) (hL 11 (by omega))
 obtain⟨ys,ho12,hl12⟩:OwP V.heap.size (u 12) W2:=H.g 12 (by omega) (hL 12 (by omega))
 obtain⟨_,rfl,hc2⟩:=(H.t (W.heap.size,9,[.int .i64 0,.int .i64 0,.int .i64 0,.int .i64 0],(fun cs=>cs=[.int .i64 p,.int .i64 cv,.int .i64 h,.int .i64 s])) (by simp)).2 (hL 9 (by omega))
 obtain⟨_,rfl,hc3⟩:=(H.t (W.heap.size+1,10,[.int .i64 0,.bool false,.bool false],(fun cs=>cs=[.int .i64 m,.bool ba,.bool bj])) (by simp)).2 (hL 10 (by omega))
 obtain⟨_,⟨a6,o6,rfl,hq6⟩,hc6⟩:=(H.t (W.heap.size+1+1,13,[.int .i64 0,.int .i64 0],(fun cs=>∃a b,cs=[.int .i64 a,.int .i64 b]/\DrC a b)) (by simp)).2 (hL 13 (by omega))
 obtain⟨hsZ,ho9⟩:=H.i;have hfZ:=H.f
 simp only[putO,dsL17,g0,g1,g2,g3,g4,g6,g7,g8,g11,Act.put]
 clear g0 g1 g2 g3 g4 g6 g7 g8 g11 H hL HKS HK0 HT0 HINV HIC HIS HSTB hq;generalize u 5=u5 at *;generalize u 12=v12 at *;have c0:=hc2.cell 0 _ rfl;have c1:=hc2.cell 1 _ rfl;have c2:=hc2.cell 2 _ rfl;have c3:=hc2.cell 3 _ rfl;have d0:=hc3.cell 0 _ rfl;have d1:=hc3.cell 1 _ rfl;have d2:=hc3.cell 2 _ rfl;have e0:=hc6.cell 0 _ rfl;have e1:=hc6.cell 1 _ rfl
 have hFF:Frm (fun j=>j=g) W W2:=by
  have a:=HFV.out.f
  exact⟨hfZ.os.trans a.os,hfZ.tape.trans a.tape,hfZ.output.trans a.output,Nat.le_trans a.size hfZ.size,fun k hk hn=>(hfZ.block k (by have:=a.size;omega) (fun hs=>by rcases hs with h|h|h|h;exact hn h;all_goals omega)).trans (a.block k hk hn)⟩
 go_wp2_with (fail)
 refine bodyPost_ret (v:=.tuple #[.agg #[.int .i64 p,.int .i64 cv,.int .i64 h,.int .i64 s],.agg #[.int .i64 m,.bool ba,.bool bj],v9,v12,.agg #[.int .i64 a6,.int .i64 o6]]) (by simp[results,Tryz.results101,go_sem,c0,c1,c2,c3,d0,d1,d2,e0,e1]) rfl ?_
 exact⟨p,cv,h,s,m,ba,bj,v9,xs9,v12,ys,a6,o6,rfl,HDV.out,HDM.out,hq6,ho9.base (by omega),ho12.base (by omega),HXL.out,hl12,hsZ,hFF⟩
def RetMG (W:World) (e:Ending) (W':World):Prop:=
 ∃ p c h s m ba bj v1 xs v2 ys a b, e = .returned (.tuple #[.agg #[.int .i64 p, .int .i64 c, .int .i64 h, .int .i64 s], .agg #[.int .i64 m, .bool ba, .bool bj], v1, v2, .agg #[.int .i64 a, .int .i64 b]]) ∧ DrV p c h s ∧ DrM m ∧ DrC a b ∧
   OwnS W' W.heap.size 2 v1 xs /\ OwnS W' W.heap.size 2 v2 ys /\ xs.length <= 30 /\ ys.length <= 30 /\ Below W.heap.size W W'
theorem fe {B:Nat} {w w':World} (h:Below B w w') {b i:Nat} (hb:B<=b) (v:Value):Below B w (w'.setCell ⟨b,i,none⟩ v):=h.setCell hb v
theorem gA (C:Option Addr) (n c:Nat) (bs:List Int) (W:World) (h:SBy W C n bs) (hn:n<=4096):
  Calls Tryz.prog 33 #[.slice C n c] W (RetMG W):=by
 have HF0:Hid (Fr W (((W.alloc (.cells #[.int .i64 0,.int .i64 0,.int .i64 0,.int .i64 0] 25)).alloc (.cells #[.int .i64 0,.bool false,.bool false] 53)).alloc (.cells #[.int .i64 0,.int .i64 0] 55)) [[.int .i64 0,.int .i64 0,.int .i64 0,.int .i64 0],[.int .i64 0,.bool false,.bool false],[.int .i64 0,.int .i64 0]]):=(((Fr.start W).allocT (by simp) _ _).allocT (by simp) _ _).allocT (by simp) _ _
 have HS0:=h_ (h.below HF0.out.b);clear h
 go_enter Tryz.func33,Tryz.ntmps33
 go_wp2_with (fail)
 refine (some_from C n c bs _ HS0.out hn).mono ?_
 rintro e w1 ⟨rfl,hs1,hb1⟩
 have HF1:=h_ (HF0.out.below hb1)
 have eg:(((W.alloc (.cells #[.int .i64 0,.int .i64 0,.int .i64 0,.int .i64 0] 25)).alloc (.cells #[.int .i64 0,.bool false,.bool false] 53)).alloc (.cells #[.int .i64 0,.int .i64 0] 55)).heap.size=W.heap.size+3:=by simp
 rw[eg]at hs1;clear eg;have HS1:=h_ hs1;clear hs1 hb1 HF0 HS0
 go_wp2_with (fail)
 refine (iW _ C n c bs w1 HS1.out).mono ?_
 rintro e w2 ⟨p,cv,h,s,m,ba,bj,v1,xs,v2,ys,a,b,rfl,hd1,hd2,hd3,h1,h2,hx,hy,hs2,hf2⟩
 have HF2:Hid (Below W.heap.size W w2):=Frm.belowOwn HF1.out.b hf2 (by omega) (Nat.le_refl _)
 have HX:Hid (FrS (fun _=>False) W w2 [[.int .i64 0,.int .i64 0,.int .i64 0,.int .i64 0],[.int .i64 0,.bool false,.bool false],[.int .i64 0,.int .i64 0]]):=(FrS.of HF1.out (fun _ h=>h.elim)).out hf2 (fun k hk=>by rw[hk];simp)
 have hzw:W.heap.size+3<=w1.heap.size:=by have:=HF1.out.z;simpa using this
 have H1:=h_ h1;have H2:=h_ h2;have HD:=h_ (And.intro hd1 (And.intro hd2 (And.intro hd3 (And.intro hx hy))));clear HF1 HS1 hs2 hf2 h1 h2 hd1 hd2 hd3 hx hy
 have z0:=HX.out.l0 (by simp)
 have c00:=HX.out.c0 0 rfl;have f00:=HX.out.f0 0 rfl;have c01:=HX.out.c0 1 rfl;have f01:=HX.out.f0 1 rfl;have c02:=HX.out.c0 2 rfl;have f02:=HX.out.f0 2 rfl;have c03:=HX.out.c0 3 rfl;have f03:=HX.out.f0 3 rfl
 have z1:=HX.out.l1 (by simp)
 have c10:=HX.out.c1 0 rfl;have f10:=HX.out.f1 0 rfl;have c11:=HX.out.c1 1 rfl;have f11:=HX.out.f1 1 rfl;have c12:=HX.out.c1 2 rfl;have f12:=HX.out.f1 2 rfl
 have z2:=HX.out.l2 (by simp)
 have c20:=HX.out.c2 0 rfl;have f20:=HX.out.f2 0 rfl;have c21:=HX.out.c2 1 rfl;have f21:=HX.out.f2 1 rfl
 go_wp2_with (fail)
 refine bodyPost_ret (v:=.tuple #[.agg #[.int .i64 p,.int .i64 cv,.int .i64 h,.int .i64 s],.agg #[.int .i64 m,.bool ba,.bool bj],v1,v2,.agg #[.int .i64 a,.int .i64 b]]) (by simp[results,Tryz.results33,go_sem,z0,z1,z2,c00,c01,c02,c03,c10,c11,c12,c20,c21]) rfl ?_
 obtain⟨hd1,hd2,hd3,hx,hy⟩:=HD.out
 refine⟨p,cv,h,s,m,ba,bj,v1,xs,v2,ys,a,b,rfl,hd1,hd2,hd3,?_,?_,hx,hy,?_⟩
 ·refine OwnS.base (b:=w1.heap.size) ?_ (by omega)
  repeat (with_reducible first|exact H1.out|refine OwnS.far ?_ (by omega) _)
 ·refine OwnS.base (b:=w1.heap.size) ?_ (by omega)
  repeat (with_reducible first|exact H2.out|refine OwnS.far ?_ (by omega) _)
 ·repeat (with_reducible first|exact HF2.out|refine fe ?_ (by omega) _)
end Go.Proofs.YtkaiilmgemaljaaGreat

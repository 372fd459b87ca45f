/- Part of one proof. There are no conditions. -/
import Derived.Test.YtkaiilmgemaljaaGreatRD19
set_option maxHeartbeats 0
set_option linter.unusedVariables false
set_option linter.unusedSimpArgs false
set_option maxRecDepth 100000
namespace Go.Proofs.YtkaiilmgemaljaaGreat
open Go.RowKit
def RetMGR (W:World) (e:Ending) (W':World):Prop:=
 ∃ p c h s m ba bj v1 xs v2 ys a b ra rb, e = .returned (.tuple #[.agg #[.int .i64 p, .int .i64 c, .int .i64 h, .int .i64 s], .agg #[.int .i64 m, .bool ba, .bool bj], v1, v2, .agg #[.int .i64 a, .int .i64 b], .agg #[.int .i64 ra, .int .i64 rb]]) ∧ DrV p c h s ∧ DrM m ∧ DrC a b ∧
   OwnS W' W.heap.size 2 v1 xs /\ OwnS W' W.heap.size 2 v2 ys /\ xs.length <= 30 /\ ys.length <= 30 /\ Below W.heap.size W W'
def dsB17:Nat->Option Nat
 | 0=>some 24
 | 1=>some 25
 | 2=>some 26
 | 3=>some 27
 | 4=>some 28
 | 5=>some 29
 | 6=>some 30
 | 7=>some 31
 | 8=>none
 | 9=>none
 | 10=>some 4
 | 11=>some 5
 | 12=>none
 | 13=>none
 | _=>none
theorem ed (C:Option Addr) (n cc:Nat) (bs:List Int) (W:World) (hh:SBy W C n bs) (hn:n<=4096):
  Calls Tryz.prog 42 #[.slice C n cc] W (RetMGR W):=by
 have HF0:Hid (Fr W ((((W.alloc (.cells #[.int .i64 0,.int .i64 0,.int .i64 0,.int .i64 0] 25)).alloc (.cells #[.int .i64 0,.bool false,.bool false] 53)).alloc (.cells #[.int .i64 0,.int .i64 0] 55)).alloc (.cells #[.int .i64 0,.int .i64 0] 39)) [[.int .i64 0,.int .i64 0,.int .i64 0,.int .i64 0],[.int .i64 0,.bool false,.bool false],[.int .i64 0,.int .i64 0],[.int .i64 0,.int .i64 0]]):=((((Fr.start W).allocT (by simp) _ _).allocT (by simp) _ _).allocT (by simp) _ _).allocT (by simp) _ _
 have HS0:=h_ (hh.below HF0.out.b);clear hh
 go_enter Tryz.func42,Tryz.ntmps42
 go_wp2_with (fail)
 refine (some_from C n cc bs _ HS0.out hn).mono ?_
 rintro e w1 ⟨rfl,hs1,hb1⟩
 have HF1:=h_ (HF0.out.below hb1)
 have eg:((((W.alloc (.cells #[.int .i64 0,.int .i64 0,.int .i64 0,.int .i64 0] 25)).alloc (.cells #[.int .i64 0,.bool false,.bool false] 53)).alloc (.cells #[.int .i64 0,.int .i64 0] 55)).alloc (.cells #[.int .i64 0,.int .i64 0] 39)).heap.size=W.heap.size+4:=by simp
 rw[eg]at hs1;clear eg;have HS1:=h_ hs1;clear hs1 hb1 HF0 HS0
 go_wp2_with (fail)
 refine (iW _ C n cc bs w1 HS1.out).mono ?_
 rintro e w2 ⟨p,cv,h,s,m,ba,bj,v11,xs,v12,ys,a,b,rfl,hd1,hd2,hd3,h1,h2,hx,hy,hs2,hf2⟩
 have HB2:Hid (Below W.heap.size W w2):=Frm.belowOwn HF1.out.b hf2 (by omega) (Nat.le_refl _)
 have HX2:Hid (FrS (fun _=>False) W w2 [[.int .i64 0,.int .i64 0,.int .i64 0,.int .i64 0],[.int .i64 0,.bool false,.bool false],[.int .i64 0,.int .i64 0],[.int .i64 0,.int .i64 0]]):=(FrS.of HF1.out (fun _ h=>h.elim)).out hf2 (fun k hk=>by rw[hk];simp)
 have hzw:W.heap.size+4<w1.heap.size:=HS1.out.lt;have hs7:s<=7:=hd1.2.2.2.2.2.2.2;obtain⟨lo,hlo⟩:∃lo,lo=w1.heap.size:=⟨_,rfl⟩;obtain⟨g,hgg⟩:∃g,g=W.heap.size+4:=⟨_,rfl⟩;rw[<- hlo]at h1 h2 hzw
 have hlo2:lo<=w2.heap.size:=by rw[hlo];exact hf2.size
 rw[<- hgg]at hs2 hzw ⊢;have HOV:Hid (OwnS (((w2.alloc (.cells #[.int .i64 p,.int .i64 cv,.int .i64 h,.int .i64 s] 25)).alloc (.cells #[.int .i64 m,.bool ba,.bool bj] 53)).alloc (.cells #[.int .i64 a,.int .i64 b] 55)) lo 2 v11 xs/\OwnS (((w2.alloc (.cells #[.int .i64 p,.int .i64 cv,.int .i64 h,.int .i64 s] 25)).alloc (.cells #[.int .i64 m,.bool ba,.bool bj] 53)).alloc (.cells #[.int .i64 a,.int .i64 b] 55)) lo 2 v12 ys):=⟨((h1.alloc _).alloc _).alloc _,((h2.alloc _).alloc _).alloc _⟩;have HSV:Hid (SomG g C n cc bs (((w2.alloc (.cells #[.int .i64 p,.int .i64 cv,.int .i64 h,.int .i64 s] 25)).alloc (.cells #[.int .i64 m,.bool ba,.bool bj] 53)).alloc (.cells #[.int .i64 a,.int .i64 b] 55))):=((hs2.alloc _).alloc _).alloc _
 have HFV:Hid (FrS (fun _=>False) W (((w2.alloc (.cells #[.int .i64 p,.int .i64 cv,.int .i64 h,.int .i64 s] 25)).alloc (.cells #[.int .i64 m,.bool ba,.bool bj] 53)).alloc (.cells #[.int .i64 a,.int .i64 b] 55)) [[.int .i64 0,.int .i64 0,.int .i64 0,.int .i64 0],[.int .i64 0,.bool false,.bool false],[.int .i64 0,.int .i64 0],[.int .i64 0,.int .i64 0]]):=((HX2.out.alloc _).alloc _).alloc _
 have HBV:Hid (Below W.heap.size W (((w2.alloc (.cells #[.int .i64 p,.int .i64 cv,.int .i64 h,.int .i64 s] 25)).alloc (.cells #[.int .i64 m,.bool ba,.bool bj] 53)).alloc (.cells #[.int .i64 a,.int .i64 b] 55))):=((HB2.out.alloc HB2.out.size _).alloc (by have:=HB2.out.size;simp;omega) _).alloc (by have:=HB2.out.size;simp;omega) _
 have HCV:Hid (Cel (((w2.alloc (.cells #[.int .i64 p,.int .i64 cv,.int .i64 h,.int .i64 s] 25)).alloc (.cells #[.int .i64 m,.bool ba,.bool bj] 53)).alloc (.cells #[.int .i64 a,.int .i64 b] 55)) w2.heap.size [.int .i64 p,.int .i64 cv,.int .i64 h,.int .i64 s]/\Cel (((w2.alloc (.cells #[.int .i64 p,.int .i64 cv,.int .i64 h,.int .i64 s] 25)).alloc (.cells #[.int .i64 m,.bool ba,.bool bj] 53)).alloc (.cells #[.int .i64 a,.int .i64 b] 55)) (w2.heap.size+1) [.int .i64 m,.bool ba,.bool bj]/\Cel (((w2.alloc (.cells #[.int .i64 p,.int .i64 cv,.int .i64 h,.int .i64 s] 25)).alloc (.cells #[.int .i64 m,.bool ba,.bool bj] 53)).alloc (.cells #[.int .i64 a,.int .i64 b] 55)) (w2.heap.size+1+1) [.int .i64 a,.int .i64 b]):=⟨((Cel.new w2 #[.int .i64 p,.int .i64 cv,.int .i64 h,.int .i64 s] _).alloc _).alloc _,(Cel.new' _ #[.int .i64 m,.bool ba,.bool bj] _ (by simp)).alloc _,Cel.new' _ #[.int .i64 a,.int .i64 b] _ (by simp)⟩
 have hgl:W.heap.size+4<=g:=by omega
 have HROLL:=h_ fun (X:World) (hs:SomG g C n cc bs X)=>i4 g C n cc bs p cv h s X hs hs7
 have HD:=h_ (And.intro hd1 (And.intro hd2 (And.intro hd3 (And.intro hx hy))));clear h1 h2 hs2 hf2 HF1 HS1 HX2 HB2 hlo hgg hd1 hd2 hd3 hx hy hs7
 go_wp2_with (fail)
 generalize (((w2.alloc (.cells #[.int .i64 p,.int .i64 cv,.int .i64 h,.int .i64 s] 25)).alloc (.cells #[.int .i64 m,.bool ba,.bool bj] 53)).alloc (.cells #[.int .i64 a,.int .i64 b] 55))=V at *;generalize w2.heap.size=k9 at *
 have HKS:Hid (∀x∈([(k9,[.int .i64 p,.int .i64 cv,.int .i64 h,.int .i64 s]),(k9+1,[.int .i64 m,.bool ba,.bool bj]),(k9+1+1,[.int .i64 a,.int .i64 b])]:List (Nat×List Value)),¬(fun j=>j=g\/j=W.heap.size\/j=W.heap.size+1\/j=W.heap.size+1+1\/j=W.heap.size+1+1+1) x.1):=by unfold Hid;simp only[List.mem_cons,List.not_mem_nil,or_false,forall_eq_or_imp,forall_eq];omega
 have HK0:Hid (∀x∈([(k9,[.int .i64 p,.int .i64 cv,.int .i64 h,.int .i64 s]),(k9+1,[.int .i64 m,.bool ba,.bool bj]),(k9+1+1,[.int .i64 a,.int .i64 b])]:List (Nat×List Value)),Cel V x.1 x.2):=by unfold Hid;simp only[List.mem_cons,List.not_mem_nil,or_false,forall_eq_or_imp,forall_eq];exact HCV.out
 have HT0:Hid (∀x∈([(W.heap.size,8,[.int .i64 0,.int .i64 0,.int .i64 0,.int .i64 0],(fun cs=>cs=[.int .i64 p,.int .i64 cv,.int .i64 h,.int .i64 s])),(W.heap.size+1,9,[.int .i64 0,.bool false,.bool false],(fun cs=>cs=[.int .i64 m,.bool ba,.bool bj])),(W.heap.size+1+1,12,[.int .i64 0,.int .i64 0],(fun cs=>cs=[.int .i64 a,.int .i64 b])),(W.heap.size+1+1+1,13,[.int .i64 0,.int .i64 0],(fun cs=>∃x y,cs=[.int .i64 x,.int .i64 y]))]:List (Nat×Nat×List Value×(List Value->Prop))),(((fun _=>false):Nat->Bool) x.2.1=false->Cel V x.1 x.2.2.1)/\(((fun _=>false):Nat->Bool) x.2.1=true->∃cs,x.2.2.2 cs/\Cel V x.1 cs)):=by
  intro x hx
  simp only[List.mem_cons,List.not_mem_nil,or_false]at hx
  rcases hx with rfl|rfl|rfl|rfl
  ·exact⟨fun _=>HFV.out.cel 0 rfl (by simp) (fun j v hv=>hv),fun h=>(by cases h)⟩
  ·exact⟨fun _=>HFV.out.cel 1 rfl (by simp) (fun j v hv=>hv),fun h=>(by cases h)⟩
  ·exact⟨fun _=>HFV.out.cel 2 rfl (by simp) (fun j v hv=>hv),fun h=>(by cases h)⟩
  ·exact⟨fun _=>HFV.out.cel 3 rfl (by simp) (fun j v hv=>hv),fun h=>(by cases h)⟩
 have HINV:Hid (∀X,Frm (fun _=>False) V X->OwnS X lo 2 v11 xs/\OwnS X lo 2 v12 ys):=fun X hf=>⟨hf.own HOV.out.1 (fun _ _ h=>h.elim),hf.own HOV.out.2 fun _ _ h=>h.elim⟩
 have HIC:Hid (∀X X',OwnS X lo 2 v11 xs/\OwnS X lo 2 v12 ys->True->Frm (fun j=>j=g) X X'->OwnS X' lo 2 v11 xs/\OwnS X' lo 2 v12 ys):=fun X X' h _ hf=>⟨hf.own h.1 (fun j hj hjg=>by have:=(h.1.lt j hj).1;omega),hf.own h.2 fun j hj hjg=>by have:=(h.2.lt j hj).1;omega⟩
 have HIS:Hid (∀X X',OwnS X lo 2 v11 xs/\OwnS X lo 2 v12 ys->∀b,(W.heap.size<=b/\b<W.heap.size+4)->Frm (fun j=>j=b) X X'->OwnS X' lo 2 v11 xs/\OwnS X' lo 2 v12 ys):=fun X X' h b hb hf=>⟨hf.own h.1 (fun j hj hjg=>by have:=(h.1.lt j hj).1;omega),hf.own h.2 fun j hj hjg=>by have:=(h.2.lt j hj).1;omega⟩
 have HSTB:Hid (∀k v X X',GL [Eqv (.agg #[.int .i64 p,.int .i64 cv,.int .i64 h,.int .i64 s]),Eqv (.agg #[.int .i64 m,.bool ba,.bool bj]),Eqv v11,Eqv v12,Eqv (.agg #[.int .i64 a,.int .i64 b]),Eqv (.pointer (some ⟨g,0,none⟩)),Eqv (.agg #[.int .i64 p,.int .i64 cv,.int .i64 h,.int .i64 s]),RolP,Any,Any,Eqv v11,Eqv v12,Any,Any] k v X->Frm ((fun j=>j=g\/j=W.heap.size\/j=W.heap.size+1\/j=W.heap.size+1+1\/j=W.heap.size+1+1+1)) X X'->GL [Eqv (.agg #[.int .i64 p,.int .i64 cv,.int .i64 h,.int .i64 s]),Eqv (.agg #[.int .i64 m,.bool ba,.bool bj]),Eqv v11,Eqv v12,Eqv (.agg #[.int .i64 a,.int .i64 b]),Eqv (.pointer (some ⟨g,0,none⟩)),Eqv (.agg #[.int .i64 p,.int .i64 cv,.int .i64 h,.int .i64 s]),RolP,Any,Any,Eqv v11,Eqv v12,Any,Any] k v X'):=GL.stabF (.cons (fun _ _ _ h _=>h) (.cons (fun _ _ _ h _=>h) (.cons (fun _ _ _ h _=>h) (.cons (fun _ _ _ h _=>h) (.cons (fun _ _ _ h _=>h) (.cons (fun _ _ _ h _=>h) (.cons (fun _ _ _ h _=>h) (.cons (fun _ _ _ h _=>h) (.cons (fun _ _ _ h _=>h) (.cons (fun _ _ _ h _=>h) (.cons (fun _ _ _ h _=>h) (.cons (fun _ _ _ h _=>h) (.cons (fun _ _ _ h _=>h) (.cons (fun _ _ _ h _=>h) .nil))))))))))))))
 refine eo 14 dsB17 (fun L vs W'=>JQ 14 (fun j=>j=g\/j=W.heap.size\/j=W.heap.size+1\/j=W.heap.size+1+1\/j=W.heap.size+1+1+1) V (fun X=>OwnS X lo 2 v11 xs/\OwnS X lo 2 v12 ys) [Eqv (.agg #[.int .i64 p,.int .i64 cv,.int .i64 h,.int .i64 s]),Eqv (.agg #[.int .i64 m,.bool ba,.bool bj]),Eqv v11,Eqv v12,Eqv (.agg #[.int .i64 a,.int .i64 b]),Eqv (.pointer (some ⟨g,0,none⟩)),Eqv (.agg #[.int .i64 p,.int .i64 cv,.int .i64 h,.int .i64 s]),RolP,Any,Any,Eqv v11,Eqv v12,Any,Any] [(k9,[.int .i64 p,.int .i64 cv,.int .i64 h,.int .i64 s]),(k9+1,[.int .i64 m,.bool ba,.bool bj]),(k9+1+1,[.int .i64 a,.int .i64 b])] [(W.heap.size,8,[.int .i64 0,.int .i64 0,.int .i64 0,.int .i64 0],(fun cs=>cs=[.int .i64 p,.int .i64 cv,.int .i64 h,.int .i64 s])),(W.heap.size+1,9,[.int .i64 0,.bool false,.bool false],(fun cs=>cs=[.int .i64 m,.bool ba,.bool bj])),(W.heap.size+1+1,12,[.int .i64 0,.int .i64 0],(fun cs=>cs=[.int .i64 a,.int .i64 b])),(W.heap.size+1+1+1,13,[.int .i64 0,.int .i64 0],(fun cs=>∃x y,cs=[.int .i64 x,.int .i64 y]))] L vs W'/\(L 7=false->SomG g C n cc bs W')/\(∀j,8<=j->j<14->L j=true->L 7=true)) rfl rfl (fun i hi=>?_) (by kernel_rfl) (fun vs=>⟨⟨(Frm.refl _ _).drew,HINV.out _ ((Frm.refl _ _).drew),(fun k _ h=>by cases h),(fun x hx=>(HK0.out x hx).drew),(fun x hx=>⟨fun _=>((HT0.out x hx).1 rfl).drew,fun h=>by cases h⟩)⟩,fun _=>HSV.out.frm (O:=fun _=>False) ((Frm.refl _ _).drew) (fun _ h=>h.elim),fun _ _ _ h=>by cases h⟩) ?_ (fun L vs vs' W h H=>⟨JQ.ext h H.1,H.2⟩) ?_
 ·have hi8:i=0\/i=1\/i=2\/i=3\/i=4\/i=5\/i=6\/i=7\/i=8\/i=9\/i=10\/i=11\/i=12\/i=13:=by omega
  rcases hi8 with rfl|rfl|rfl|rfl|rfl|rfl|rfl|rfl|rfl|rfl|rfl|rfl|rfl|rfl<;>rfl
 ·intro i o' hi ho L a' W3 H hun hfar hdep
  have e2:a'.tmps.getD 2 undef = .pointer (some ⟨W.heap.size,0,none⟩):=(hfar 2 (by decide)).trans rfl
  have e3:a'.tmps.getD 3 undef = .pointer (some ⟨W.heap.size+1,0,none⟩):=(hfar 3 (by decide)).trans rfl
  have e6:a'.tmps.getD 6 undef = .pointer (some ⟨W.heap.size+1+1,0,none⟩):=(hfar 6 (by decide)).trans rfl
  have e7:a'.tmps.getD 7 undef = .pointer (some ⟨W.heap.size+1+1+1,0,none⟩):=(hfar 7 (by decide)).trans rfl
  have e8:a'.tmps.getD 8 undef = .pointer (some ⟨g,0,none⟩):=(hfar 8 (by decide)).trans rfl
  have e9:a'.tmps.getD 9 undef = .pointer (some ⟨k9,0,none⟩):=(hfar 9 (by decide)).trans rfl
  have e10:a'.tmps.getD 10 undef = .pointer (some ⟨k9+1,0,none⟩):=(hfar 10 (by decide)).trans rfl
  have e11:a'.tmps.getD 11 undef=v11:=(hfar 11 (by decide)).trans rfl
  have e12:a'.tmps.getD 12 undef=v12:=(hfar 12 (by decide)).trans rfl
  have e13:a'.tmps.getD 13 undef = .pointer (some ⟨k9+1+1,0,none⟩):=(hfar 13 (by decide)).trans rfl
  have HG:∀j,j<14->Region.waitsFor .any _ i j=true->GL [Eqv (.agg #[.int .i64 p,.int .i64 cv,.int .i64 h,.int .i64 s]),Eqv (.agg #[.int .i64 m,.bool ba,.bool bj]),Eqv v11,Eqv v12,Eqv (.agg #[.int .i64 a,.int .i64 b]),Eqv (.pointer (some ⟨g,0,none⟩)),Eqv (.agg #[.int .i64 p,.int .i64 cv,.int .i64 h,.int .i64 s]),RolP,Any,Any,Eqv v11,Eqv v12,Any,Any] j (getO a' dsB17 j) W3:=fun j hj hw=>H.1.g j hj (hdep j hj hw)
  have HC:=H.1.c;have HTT:=H.1.t
  have hi8:i=0\/i=1\/i=2\/i=3\/i=4\/i=5\/i=6\/i=7\/i=8\/i=9\/i=10\/i=11\/i=12\/i=13:=by omega
  clear hfar hi
  rcases hi8 with rfl|rfl|rfl|rfl|rfl|rfl|rfl|rfl|rfl|rfl|rfl|rfl|rfl|rfl
  all_goals (simp at ho;subst ho)
  ·have hc:=HC (k9,[.int .i64 p,.int .i64 cv,.int .i64 h,.int .i64 s]) (by simp)
   have y0:=hc.cell 0 _ rfl;have y1:=hc.cell 1 _ rfl;have y2:=hc.cell 2 _ rfl;have y3:=hc.cell 3 _ rfl
   exact .inl <| .inl ⟨.agg #[.int .i64 p,.int .i64 cv,.int .i64 h,.int .i64 s],W3,by simp only[execOp,Act.eval,e9];go_simp,fun L' vs' hu=>⟨H.1.pure hu (by simp) HSTB.out HKS.out (by intro h;cases h) rfl,fun hh=>H.2.1 (by rw[<- (hu.2.2 7 (by omega) (by omega)).1];exact hh),fun j h8 h14 hj=>by rw[(hu.2.2 7 (by omega) (by omega)).1];exact H.2.2 j h8 h14 (by rw[<- (hu.2.2 j h14 (by omega)).1];exact hj)⟩⟩
  ·have hc:=HC (k9+1,[.int .i64 m,.bool ba,.bool bj]) (by simp)
   have y0:=hc.cell 0 _ rfl;have y1:=hc.cell 1 _ rfl;have y2:=hc.cell 2 _ rfl
   exact .inl <| .inl ⟨.agg #[.int .i64 m,.bool ba,.bool bj],W3,by simp only[execOp,Act.eval,e10];go_simp,fun L' vs' hu=>⟨H.1.pure hu (by simp) HSTB.out HKS.out (by intro h;cases h) rfl,fun hh=>H.2.1 (by rw[<- (hu.2.2 7 (by omega) (by omega)).1];exact hh),fun j h8 h14 hj=>by rw[(hu.2.2 7 (by omega) (by omega)).1];exact H.2.2 j h8 h14 (by rw[<- (hu.2.2 j h14 (by omega)).1];exact hj)⟩⟩
  ·exact .inl <| .inl ⟨v11,W3,by simp only[execOp,Act.eval,e11];go_simp,fun L' vs' hu=>⟨H.1.pure hu (by simp) HSTB.out HKS.out (by intro h;cases h) rfl,fun hh=>H.2.1 (by rw[<- (hu.2.2 7 (by omega) (by omega)).1];exact hh),fun j h8 h14 hj=>by rw[(hu.2.2 7 (by omega) (by omega)).1];exact H.2.2 j h8 h14 (by rw[<- (hu.2.2 j h14 (by omega)).1];exact hj)⟩⟩
  ·exact .inl <| .inl ⟨v12,W3,by simp only[execOp,Act.eval,e12];go_simp,fun L' vs' hu=>⟨H.1.pure hu (by simp) HSTB.out HKS.out (by intro h;cases h) rfl,fun hh=>H.2.1 (by rw[<- (hu.2.2 7 (by omega) (by omega)).1];exact hh),fun j h8 h14 hj=>by rw[(hu.2.2 7 (by omega) (by omega)).1];exact H.2.2 j h8 h14 (by rw[<- (hu.2.2 j h14 (by omega)).1];exact hj)⟩⟩
  ·have hc:=HC (k9+1+1,[.int .i64 a,.int .i64 b]) (by simp)
   have y0:=hc.cell 0 _ rfl;have y1:=hc.cell 1 _ rfl
   exact .inl <| .inl ⟨.agg #[.int .i64 a,.int .i64 b],W3,by simp only[execOp,Act.eval,e13];go_simp,fun L' vs' hu=>⟨H.1.pure hu (by simp) HSTB.out HKS.out (by intro h;cases h) rfl,fun hh=>H.2.1 (by rw[<- (hu.2.2 7 (by omega) (by omega)).1];exact hh),fun j h8 h14 hj=>by rw[(hu.2.2 7 (by omega) (by omega)).1];exact H.2.2 j h8 h14 (by rw[<- (hu.2.2 j h14 (by omega)).1];exact hj)⟩⟩
  ·exact .inl <| .inl ⟨.pointer (some ⟨g,0,none⟩),W3,by simp only[execOp,Act.eval,e8];go_simp,fun L' vs' hu=>⟨H.1.pure hu (by simp) HSTB.out HKS.out (by intro h;cases h) rfl,fun hh=>H.2.1 (by rw[<- (hu.2.2 7 (by omega) (by omega)).1];exact hh),fun j h8 h14 hj=>by rw[(hu.2.2 7 (by omega) (by omega)).1];exact H.2.2 j h8 h14 (by rw[<- (hu.2.2 j h14 (by omega)).1];exact hj)⟩⟩
  ·have hc:=HC (k9,[.int .i64 p,.int .i64 cv,.int .i64 h,.int .i64 s]) (by simp)
   have y0:=hc.cell 0 _ rfl;have y1:=hc.cell 1 _ rfl;have y2:=hc.cell 2 _ rfl;have y3:=hc.cell 3 _ rfl
   exact .inl <| .inl ⟨.agg #[.int .i64 p,.int .i64 cv,.int .i64 h,.int .i64 s],W3,by simp only[execOp,Act.eval,e9];go_simp,fun L' vs' hu=>⟨H.1.pure hu (by simp) HSTB.out HKS.out (by intro h;cases h) rfl,fun hh=>H.2.1 (by rw[<- (hu.2.2 7 (by omega) (by omega)).1];exact hh),fun j h8 h14 hj=>by rw[(hu.2.2 7 (by omega) (by omega)).1];exact H.2.2 j h8 h14 (by rw[<- (hu.2.2 j h14 (by omega)).1];exact hj)⟩⟩
  ·have d0:a'.tmps.getD 29 undef = .pointer (some ⟨g,0,none⟩):=HG 5 (by omega) (by kernel_rfl)
   have d1:a'.tmps.getD 30 undef = .agg #[.int .i64 p,.int .i64 cv,.int .i64 h,.int .i64 s]:=HG 6 (by omega) (by kernel_rfl)
   refine .inl <| .inr ⟨121,#[.pointer (some ⟨g,0,none⟩),.agg #[.int .i64 p,.int .i64 cv,.int .i64 h,.int .i64 s]],by simp only[execOp,Act.eval,d0,d1];go_simp,?_⟩
   refine (HROLL.out W3 (H.2.1 hun)).mono ?_
   rintro e W' ⟨qa,qb,rfl,hs',hf'⟩
   exact⟨_,rfl,fun L' vs' hu=>⟨H.1.call (g:=g) hu (by simp;omega) HSTB.out HKS.out (by intro h;cases h) (.inl rfl) hf' (HIC.out _ _ H.1.i trivial hf') (⟨_,_,rfl⟩),(fun hh=>by rw[hu.1]at hh;cases hh),fun _ _ _ _=>hu.1⟩⟩
  ·have d1':a'.tmps.getD 24 undef = .agg #[.int .i64 p,.int .i64 cv,.int .i64 h,.int .i64 s]:=HG 0 (by omega) (by kernel_rfl)
   have hc:Cel W3 (W.heap.size) [.int .i64 0,.int .i64 0,.int .i64 0,.int .i64 0]:=(HTT (W.heap.size,8,[.int .i64 0,.int .i64 0,.int .i64 0,.int .i64 0],(fun cs=>cs=[.int .i64 p,.int .i64 cv,.int .i64 h,.int .i64 s])) (by simp)).1 hun
   have y0:=hc.cell 0 _ rfl;have f0:=hc.froz 0 _ rfl;have y1:=hc.cell 1 _ rfl;have f1:=hc.froz 1 _ rfl;have y2:=hc.cell 2 _ rfl;have f2:=hc.froz 2 _ rfl;have y3:=hc.cell 3 _ rfl;have f3:=hc.froz 3 _ rfl;have yz:=hc.lt
   exact .inr ⟨rfl,((((W3.setCell ⟨W.heap.size,0,none⟩ (.int .i64 p)).setCell ⟨W.heap.size,1,none⟩ (.int .i64 cv)).setCell ⟨W.heap.size,2,none⟩ (.int .i64 h)).setCell ⟨W.heap.size,3,none⟩ (.int .i64 s)),by simp only[execOp,Act.eval,e2,d1'];go_simp,fun L' vs' hu=>⟨H.1.fill (b:=W.heap.size) (cs:=[.int .i64 p,.int .i64 cv,.int .i64 h,.int .i64 s]) hu (by intro x hx;simp only[List.mem_cons,List.not_mem_nil,or_false]at hx;rcases hx with rfl|rfl|rfl|rfl;exact⟨by show (8:Nat)<14;omega,.inl ⟨rfl,rfl,rfl⟩⟩;exact⟨by show (9:Nat)<14;omega,.inr ⟨by show ¬(9:Nat)=8;omega,by show ¬_=_;omega⟩⟩;exact⟨by show (12:Nat)<14;omega,.inr ⟨by show ¬(12:Nat)=8;omega,by show ¬_=_;omega⟩⟩;exact⟨by show (13:Nat)<14;omega,.inr ⟨by show ¬(13:Nat)=8;omega,by show ¬_=_;omega⟩⟩) HSTB.out HKS.out rfl (.inr (.inl rfl)) (kD W3 _ (.int .i64 p) (.int .i64 cv) (.int .i64 h) (.int .i64 s)) (HIS.out _ _ H.1.i _ (by omega) (kD W3 _ (.int .i64 p) (.int .i64 cv) (.int .i64 h) (.int .i64 s))) (fun _=>trivial) (hc.st4 (.int .i64 p) (.int .i64 cv) (.int .i64 h) (.int .i64 s)),(fun hh=>by rw[(hu.2.2 7 (by omega) (by omega)).1,hdep 7 (by omega) (by kernel_rfl)]at hh;cases hh),fun _ _ _ _=>by rw[(hu.2.2 7 (by omega) (by omega)).1];exact hdep 7 (by omega) (by kernel_rfl)⟩⟩
  ·have d1':a'.tmps.getD 25 undef = .agg #[.int .i64 m,.bool ba,.bool bj]:=HG 1 (by omega) (by kernel_rfl)
   have hc:Cel W3 (W.heap.size+1) [.int .i64 0,.bool false,.bool false]:=(HTT (W.heap.size+1,9,[.int .i64 0,.bool false,.bool false],(fun cs=>cs=[.int .i64 m,.bool ba,.bool bj])) (by simp)).1 hun
   have y0:=hc.cell 0 _ rfl;have f0:=hc.froz 0 _ rfl;have y1:=hc.cell 1 _ rfl;have f1:=hc.froz 1 _ rfl;have y2:=hc.cell 2 _ rfl;have f2:=hc.froz 2 _ rfl;have yz:=hc.lt
   exact .inr ⟨rfl,(((W3.setCell ⟨W.heap.size+1,0,none⟩ (.int .i64 m)).setCell ⟨W.heap.size+1,1,none⟩ (.bool ba)).setCell ⟨W.heap.size+1,2,none⟩ (.bool bj)),by simp only[execOp,Act.eval,e3,d1'];go_simp,fun L' vs' hu=>⟨H.1.fill (b:=W.heap.size+1) (cs:=[.int .i64 m,.bool ba,.bool bj]) hu (by intro x hx;simp only[List.mem_cons,List.not_mem_nil,or_false]at hx;rcases hx with rfl|rfl|rfl|rfl;exact⟨by show (8:Nat)<14;omega,.inr ⟨by show ¬(8:Nat)=9;omega,by show ¬_=_;omega⟩⟩;exact⟨by show (9:Nat)<14;omega,.inl ⟨rfl,rfl,rfl⟩⟩;exact⟨by show (12:Nat)<14;omega,.inr ⟨by show ¬(12:Nat)=9;omega,by show ¬_=_;omega⟩⟩;exact⟨by show (13:Nat)<14;omega,.inr ⟨by show ¬(13:Nat)=9;omega,by show ¬_=_;omega⟩⟩) HSTB.out HKS.out rfl (.inr (.inr (.inl rfl))) (fF W3 _ (.int .i64 m) (.bool ba) (.bool bj)) (HIS.out _ _ H.1.i _ (by omega) (fF W3 _ (.int .i64 m) (.bool ba) (.bool bj))) (fun _=>trivial) (hc.st3 (.int .i64 m) (.bool ba) (.bool bj)),(fun hh=>by rw[(hu.2.2 7 (by omega) (by omega)).1,H.2.2 8 (by omega) (by omega) (hdep 8 (by omega) (by kernel_rfl))]at hh;cases hh),fun _ _ _ _=>by rw[(hu.2.2 7 (by omega) (by omega)).1];exact H.2.2 8 (by omega) (by omega) (hdep 8 (by omega) (by kernel_rfl))⟩⟩
  ·have d1':a'.tmps.getD 26 undef=v11:=HG 2 (by omega) (by kernel_rfl)
   exact .inl <| .inl ⟨v11,W3,by simp only[execOp,Act.eval,d1'];go_simp,fun L' vs' hu=>⟨H.1.pure hu (by simp) HSTB.out HKS.out (by intro h;cases h) rfl,(fun hh=>by rw[(hu.2.2 7 (by omega) (by omega)).1,H.2.2 9 (by omega) (by omega) (hdep 9 (by omega) (by kernel_rfl))]at hh;cases hh),fun _ _ _ _=>by rw[(hu.2.2 7 (by omega) (by omega)).1];exact H.2.2 9 (by omega) (by omega) (hdep 9 (by omega) (by kernel_rfl))⟩⟩
  ·have d1':a'.tmps.getD 27 undef=v12:=HG 3 (by omega) (by kernel_rfl)
   exact .inl <| .inl ⟨v12,W3,by simp only[execOp,Act.eval,d1'];go_simp,fun L' vs' hu=>⟨H.1.pure hu (by simp) HSTB.out HKS.out (by intro h;cases h) rfl,(fun hh=>by rw[(hu.2.2 7 (by omega) (by omega)).1,H.2.2 10 (by omega) (by omega) (hdep 10 (by omega) (by kernel_rfl))]at hh;cases hh),fun _ _ _ _=>by rw[(hu.2.2 7 (by omega) (by omega)).1];exact H.2.2 10 (by omega) (by omega) (hdep 10 (by omega) (by kernel_rfl))⟩⟩
  ·have d1':a'.tmps.getD 28 undef = .agg #[.int .i64 a,.int .i64 b]:=HG 4 (by omega) (by kernel_rfl)
   have hc:Cel W3 (W.heap.size+1+1) [.int .i64 0,.int .i64 0]:=(HTT (W.heap.size+1+1,12,[.int .i64 0,.int .i64 0],(fun cs=>cs=[.int .i64 a,.int .i64 b])) (by simp)).1 hun
   have y0:=hc.cell 0 _ rfl;have f0:=hc.froz 0 _ rfl;have y1:=hc.cell 1 _ rfl;have f1:=hc.froz 1 _ rfl;have yz:=hc.lt
   exact .inr ⟨rfl,((W3.setCell ⟨W.heap.size+1+1,0,none⟩ (.int .i64 a)).setCell ⟨W.heap.size+1+1,1,none⟩ (.int .i64 b)),by simp only[execOp,Act.eval,e6,d1'];go_simp,fun L' vs' hu=>⟨H.1.fill (b:=W.heap.size+1+1) (cs:=[.int .i64 a,.int .i64 b]) hu (by intro x hx;simp only[List.mem_cons,List.not_mem_nil,or_false]at hx;rcases hx with rfl|rfl|rfl|rfl;exact⟨by show (8:Nat)<14;omega,.inr ⟨by show ¬(8:Nat)=12;omega,by show ¬_=_;omega⟩⟩;exact⟨by show (9:Nat)<14;omega,.inr ⟨by show ¬(9:Nat)=12;omega,by show ¬_=_;omega⟩⟩;exact⟨by show (12:Nat)<14;omega,.inl ⟨rfl,rfl,rfl⟩⟩;exact⟨by show (13:Nat)<14;omega,.inr ⟨by show ¬(13:Nat)=12;omega,by show ¬_=_;omega⟩⟩) HSTB.out HKS.out rfl (.inr (.inr (.inr (.inl rfl)))) (fG W3 _ (.int .i64 a) (.int .i64 b)) (HIS.out _ _ H.1.i _ (by omega) (fG W3 _ (.int .i64 a) (.int .i64 b))) (fun _=>trivial) (hc.st2 (.int .i64 a) (.int .i64 b)),(fun hh=>by rw[(hu.2.2 7 (by omega) (by omega)).1,H.2.2 11 (by omega) (by omega) (hdep 11 (by omega) (by kernel_rfl))]at hh;cases hh),fun _ _ _ _=>by rw[(hu.2.2 7 (by omega) (by omega)).1];exact H.2.2 11 (by omega) (by omega) (hdep 11 (by omega) (by kernel_rfl))⟩⟩
  ·obtain⟨qa,qb,d1'⟩:(RolP) (a'.tmps.getD 31 undef) W3:=HG 7 (by omega) (by kernel_rfl)
   have hc:Cel W3 (W.heap.size+1+1+1) [.int .i64 0,.int .i64 0]:=(HTT (W.heap.size+1+1+1,13,[.int .i64 0,.int .i64 0],(fun cs=>∃x y,cs=[.int .i64 x,.int .i64 y])) (by simp)).1 hun
   have y0:=hc.cell 0 _ rfl;have f0:=hc.froz 0 _ rfl;have y1:=hc.cell 1 _ rfl;have f1:=hc.froz 1 _ rfl;have yz:=hc.lt
   exact .inr ⟨rfl,((W3.setCell ⟨W.heap.size+1+1+1,0,none⟩ (.int .i64 qa)).setCell ⟨W.heap.size+1+1+1,1,none⟩ (.int .i64 qb)),by simp only[execOp,Act.eval,e7,d1'];go_simp,fun L' vs' hu=>⟨H.1.fill (b:=W.heap.size+1+1+1) (cs:=[.int .i64 qa,.int .i64 qb]) hu (by intro x hx;simp only[List.mem_cons,List.not_mem_nil,or_false]at hx;rcases hx with rfl|rfl|rfl|rfl;exact⟨by show (8:Nat)<14;omega,.inr ⟨by show ¬(8:Nat)=13;omega,by show ¬_=_;omega⟩⟩;exact⟨by show (9:Nat)<14;omega,.inr ⟨by show ¬(9:Nat)=13;omega,by show ¬_=_;omega⟩⟩;exact⟨by show (12:Nat)<14;omega,.inr ⟨by show ¬(12:Nat)=13;omega,by show ¬_=_;omega⟩⟩;exact⟨by show (13:Nat)<14;omega,.inl ⟨rfl,rfl,⟨_,_,rfl⟩⟩⟩) HSTB.out HKS.out rfl (.inr (.inr (.inr (.inr rfl)))) (fG W3 _ (.int .i64 qa) (.int .i64 qb)) (HIS.out _ _ H.1.i _ (by omega) (fG W3 _ (.int .i64 qa) (.int .i64 qb))) (fun _=>trivial) (hc.st2 (.int .i64 qa) (.int .i64 qb)),(fun hh=>by rw[(hu.2.2 7 (by omega) (by omega)).1,H.2.2 12 (by omega) (by omega) (hdep 12 (by omega) (by kernel_rfl))]at hh;cases hh),fun _ _ _ _=>by rw[(hu.2.2 7 (by omega) (by omega)).1];exact H.2.2 12 (by omega) (by omega) (hdep 12 (by omega) (by kernel_rfl))⟩⟩
 intro L u W2 hL H
 have g0:u 0 = .agg #[.int .i64 p,.int .i64 cv,.int .i64 h,.int .i64 s]:=H.1.g 0 (by omega) (hL 0 (by omega))
 have g1:u 1 = .agg #[.int .i64 m,.bool ba,.bool bj]:=H.1.g 1 (by omega) (hL 1 (by omega))
 have g2:u 2=v11:=H.1.g 2 (by omega) (hL 2 (by omega))
 have g3:u 3=v12:=H.1.g 3 (by omega) (hL 3 (by omega))
 have g4:u 4 = .agg #[.int .i64 a,.int .i64 b]:=H.1.g 4 (by omega) (hL 4 (by omega))
 have g5:u 5 = .pointer (some ⟨g,0,none⟩):=H.1.g 5 (by omega) (hL 5 (by omega))
 have g6:u 6 = .agg #[.int .i64 p,.int .i64 cv,.int .i64 h,.int .i64 s]:=H.1.g 6 (by omega) (hL 6 (by omega))
 obtain⟨qa,qb,g7⟩:RolP (u 7) W2:=H.1.g 7 (by omega) (hL 7 (by omega))
 have g10:u 10=v11:=H.1.g 10 (by omega) (hL 10 (by omega))
 have g11:u 11=v12:=H.1.g 11 (by omega) (hL 11 (by omega))
 obtain⟨_,rfl,hc2⟩:=(H.1.t (W.heap.size,8,[.int .i64 0,.int .i64 0,.int .i64 0,.int .i64 0],(fun cs=>cs=[.int .i64 p,.int .i64 cv,.int .i64 h,.int .i64 s])) (by simp)).2 (hL 8 (by omega))
 obtain⟨_,rfl,hc3⟩:=(H.1.t (W.heap.size+1,9,[.int .i64 0,.bool false,.bool false],(fun cs=>cs=[.int .i64 m,.bool ba,.bool bj])) (by simp)).2 (hL 9 (by omega))
 obtain⟨_,rfl,hc6⟩:=(H.1.t (W.heap.size+1+1,12,[.int .i64 0,.int .i64 0],(fun cs=>cs=[.int .i64 a,.int .i64 b])) (by simp)).2 (hL 12 (by omega))
 obtain⟨_,⟨ra,rb,rfl⟩,hc7⟩:=(H.1.t (W.heap.size+1+1+1,13,[.int .i64 0,.int .i64 0],(fun cs=>∃x y,cs=[.int .i64 x,.int .i64 y])) (by simp)).2 (hL 13 (by omega))
 obtain⟨ho8,ho9⟩:=H.1.i;have hfZ:=H.1.f
 simp only[putO,dsB17,g0,g1,g2,g3,g4,g5,g6,g7,g10,g11,Act.put]
 clear g0 g1 g2 g3 g4 g5 g6 g7 g10 g11 H hL HKS HK0 HT0 HINV HIC HIS HSTB;have c0:=hc2.cell 0 _ rfl;have c1:=hc2.cell 1 _ rfl;have c2:=hc2.cell 2 _ rfl;have c3:=hc2.cell 3 _ rfl;have d0:=hc3.cell 0 _ rfl;have d1:=hc3.cell 1 _ rfl;have d2:=hc3.cell 2 _ rfl;have e0:=hc6.cell 0 _ rfl;have e1:=hc6.cell 1 _ rfl;have f0:=hc7.cell 0 _ rfl;have f1:=hc7.cell 1 _ rfl
 have hFF:Below W.heap.size W W2:=HBV.out.trans (hfZ.below HBV.out.size (fun k hk=>by omega))
 go_wp2_with (fail)
 refine bodyPost_ret (v:=.tuple #[.agg #[.int .i64 p,.int .i64 cv,.int .i64 h,.int .i64 s],.agg #[.int .i64 m,.bool ba,.bool bj],v11,v12,.agg #[.int .i64 a,.int .i64 b],.agg #[.int .i64 ra,.int .i64 rb]]) (by simp[results,Tryz.results42,go_sem,c0,c1,c2,c3,d0,d1,d2,e0,e1,f0,f1]) rfl ?_
 obtain⟨hd1,hd2,hd3,hx,hy⟩:=HD.out
 exact⟨p,cv,h,s,m,ba,bj,v11,xs,v12,ys,a,b,ra,rb,rfl,hd1,hd2,hd3,ho8.base (by omega),ho9.base (by omega),hx,hy,hFF⟩
end Go.Proofs.YtkaiilmgemaljaaGreat

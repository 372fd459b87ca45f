/- Part of one proof. There are no conditions. -/
import Derived.Test.YtkaiilmgemaljaaGreatTD4
import Derived.Test.YtkaiilmgemaljaaGreatTQJ
set_option linter.unusedVariables false
set_option linter.unusedSimpArgs false
namespace Go.Proofs.YtkaiilmgemaljaaGreat
open Go.RowKit
theorem sumZ_bd {xs:List Int} (h:∀x∈xs,-1<=x/\x<=30) (hl:xs.length<=40) (k:Nat) : -2000<=(xs.take k).sum/\(xs.take k).sum<=2000:=by
 have key:∀l:List Int,(∀x∈l,-1<=x/\x<=30)->-(l.length:Int)<=l.sum/\l.sum<=30*(l.length:Int):=by
  intro l
  induction l with
  | nil=>intro _;simp
  | cons a l ih =>
    intro hh
    have h1 := hh a (by simp)
    have h2 := ih fun x hx => hh x (by simp [hx])
    simp only [List.sum_cons, List.length_cons]
    omega
 have h1:=key (xs.take k) fun x hx=>h x (List.mem_of_mem_take hx)
 have h2:(xs.take k).length<=40:=by rw[List.length_take];omega
 omega
theorem fc (A:Option Addr) (n c:Nat) (xs:List Int) (w:World) (h:SL w A n xs) (hx:∀x∈xs,-1<=x/\x<=30) (hn:n<=40):
  Calls Tryz.prog 162 #[.slice A n c] w fun e w'=>e = .returned (.int .i64 xs.sum)/\w=w':=by
 have hlen:=h.1
 have hb:=sumZ_bd hx (by omega)
 have HX:=h_ h;clear h hx
 go_enter Tryz.func162,Tryz.ntmps162
 go_wp2_with (fail)
 go_loop [3,4] (fun s i=>∃k:Nat,k<=n/\i = .int .i64 k/\s = .int .i64 (xs.take k).sum) (fun _ i=>n-(intOf i).toNat)
 case atStart=>exact⟨0,by omega,rfl,rfl⟩
 case round=>
  obtain⟨k,hk,rfl,rfl⟩:=hrel
  by_cases hlt:k<n
  ·have hki:(k:Int)<(n:Int):=by omega
   obtain⟨b,off,rfl,_,hcl⟩:=HX.out.2 (by omega)
   have hcell:=hcl k hlt
   have E:=h_ (bm xs k (by omega))
   have b1:=hb k;have b2:=hb (k+1);rw[E.out]at b2;clear hcl hb;generalize xs.getD k 0=x at *;generalize (xs.take k).sum=S at *
   go_wp2_with (fail)
   go_round
   case rel=>exact⟨k+1,by omega,by go_num,by rw[E.out]⟩
   case measure=>(simp[intOf])<;>omega
  ·have hke:k=n:=by omega
   have E:Hid ((xs.take k).sum=xs.sum):=by unfold Hid;rw[List.take_of_length_le (by omega)]
   generalize (xs.take k).sum=S at *
   go_wp2_with (fail)
   go_ret
   exact⟨by rw[<- E.out];rfl,rfl⟩
theorem dlF_el (bs:List Int) (q0:Int×Nat) {c:Int} (hc:0<=c):∀k,∀x∈(dlF bs q0 c k).1,0<=x/\x<=c
 | 0,x,hx=>by cases hx
 | k + 1, x, hx => by
   obtain ⟨h1, h2, _⟩ := dlF_bd bs q0 hc k; have hb := nx_bd bs (dlF bs q0 c k).2.2 ((dlF bs q0 c k).2.1 + 1)
   have hx' : x ∈ (dlF bs q0 c k).1 ++ [if nx bs (ns bs (dlF bs q0 c k).2.2 ((dlF bs q0 c k).2.1 + 1)) 3 = 0 then 0 else nx bs (dlF bs q0 c k).2.2 ((dlF bs q0 c k).2.1 + 1)] := hx
   rcases List.mem_append.1 hx' with h | h
   · exact dlF_el bs q0 hc k x h
   · rw [List.mem_singleton] at h
     rw [h]
     split <;> omega
theorem drF_el (bs:List Int) (q0:Int×Nat) {c:Int} (hc:0<=c) (hc2:c<=20) (h:Nat):∀x∈(drF bs q0 c h).1,-1<=x/\x<=30:=by
 intro x hx
 have key:=dlF_el bs q0 hc h;unfold drF at hx
 split at hx
 ·rcases List.mem_append.1 hx with h1|h1
  ·have:=key x h1;omega
  ·rw[List.mem_singleton]at h1;omega
 ·split at hx
  ·rcases List.mem_or_eq_of_mem_set hx with h1|h1
   ·have:=key x h1;omega
   ·omega
  ·split at hx
   ·rcases List.mem_or_eq_of_mem_set hx with h1|h1
    ·have:=key x h1;omega
    ·omega
   ·have:=key x hx;omega
def fixL (xs:List Int):List Int:=if xs.sum=0 then xs.set 0 1 else xs
theorem db (xs:List Int):(fixL xs).length=xs.length:=by unfold fixL;split<;>simp
theorem ei {xs:List Int} (h:∀x∈xs,-1<=x/\x<=30):∀x∈fixL xs,-1<=x/\x<=30:=by
 intro x hx
 unfold fixL at hx
 split at hx
 ·rcases List.mem_or_eq_of_mem_set hx with h1|h1
  ·exact h x h1
  ·omega
 ·exact h x hx
def lpF (bs:List Int):Nat->List Int->List Int->(Int×Nat)->List Int×List Int×(Int×Nat)
 | 0,own,other,q=>(own,other,q)
 | f+1,own,other,q=>if 0<nx bs q 8 then lpF bs f (fixL own) (fixL other) (ns bs q 8) else (own,other,ns bs q 8)
def minS (bs:List Int) (q:Int×Nat) (s:Int):Int:=min s (2+nx bs q 2)
def d12F (bs:List Int) (q:Int×Nat):(Int×Int×Int×Int)×(List Int×List Int×(Int×Nat)):=
 (((dvF bs q).1.1, (dvF bs q).1.2.1, (dvF bs q).1.2.2.1, minS bs (dvF bs q).2 (dvF bs q).1.2.2.2),
   lpF bs 2 (drF bs (ns bs (dvF bs q).2 2) (dvF bs q).1.2.1 (dvF bs q).1.2.2.1.toNat).1
     (drF bs (drF bs (ns bs (dvF bs q).2 2) (dvF bs q).1.2.1 (dvF bs q).1.2.2.1.toNat).2 (dvF bs q).1.2.1 (dvF bs q).1.2.2.1.toNat).1
     (drF bs (drF bs (ns bs (dvF bs q).2 2) (dvF bs q).1.2.1 (dvF bs q).1.2.2.1.toNat).2 (dvF bs q).1.2.1 (dvF bs q).1.2.2.1.toNat).2)
def RetD12 (g:Nat) (C:Option Addr) (n c:Nat) (bs:List Int) (W:World) (r:(Int×Int×Int×Int)×(List Int×List Int×(Int×Nat))) (e:Ending) (W':World):Prop:=
 ∃ v1 v2, e = .returned (.tuple #[.agg #[.int .i64 r.1.1, .int .i64 r.1.2.1, .int .i64 r.1.2.2.1, .int .i64 r.1.2.2.2], v1, v2]) ∧
   OwnS W' W.heap.size 2 v1 r.2.1 /\ OwnS W' W.heap.size 2 v2 r.2.2.1 /\ SrcG W' g C n c bs r.2.2.2 /\ Frm (fun j => j = g) W W'
structure JD (V:World) (g:Nat) (C:Option Addr) (n c:Nat) (bs:List Int) (q q':Int×Nat) (ev:Nat->Option Value) (L:Nat->Bool) (vs:Nat->Value) (W:World):Prop where
 f:Frm (fun j=>j=g) V W
 s0:L 3=false->SrcG W g C n c bs q
 s1:L 3=true->SrcG W g C n c bs q'
 eq:∀i y,i<7->L i=true->ev i=some y->vs i=y
theorem JD.pure {V W:World} {g:Nat} {C:Option Addr} {n c:Nat} {bs:List Int} {q q':Int×Nat} {ev:Nat->Option Value} {L L':Nat->Bool} {vs vs':Nat->Value} {i:Nat} {v:Value}
  (H:JD V g C n c bs q q' ev L vs W) (hu:Upd 7 i v L vs L' vs') (h1:i≠3) (hv:∀y,ev i=some y->v=y):JD V g C n c bs q q' ev L' vs' W:=by
 obtain⟨u1,u2,u3⟩:=hu
 have e3:=u3 3 (by omega) (by omega)
 refine⟨H.f,fun h=>H.s0 (by rw[<- e3.1];exact h),fun h=>H.s1 (by rw[<- e3.1];exact h),fun k y hk hl he=>?_⟩
 by_cases ek:k=i
 ·subst ek;rw[u2];exact hv y he
 ·rw[(u3 k hk ek).2];exact H.eq k y hk (by rw[<- (u3 k hk ek).1];exact hl) he
theorem JD.call {V W W':World} {g:Nat} {C:Option Addr} {n c:Nat} {bs:List Int} {q q':Int×Nat} {ev:Nat->Option Value} {L L':Nat->Bool} {vs vs':Nat->Value} {v:Value}
  (H:JD V g C n c bs q q' ev L vs W) (hu:Upd 7 3 v L vs L' vs') (hf:Frm (fun j=>j=g) W W') (hs:SrcG W' g C n c bs q') (hv:∀y,ev 3=some y->v=y):JD V g C n c bs q q' ev L' vs' W':=by
 obtain⟨u1,u2,u3⟩:=hu
 refine⟨H.f.trans hf,fun h=>(by rw[u1]at h;cases h),fun _=>hs,fun k y hk hl he=>?_⟩
 by_cases ek:k=3
 ·subst ek;rw[u2];exact hv y he
 ·rw[(u3 k hk ek).2];exact H.eq k y hk (by rw[<- (u3 k hk ek).1];exact hl) he
def evD (p x y z a m:Value):Nat->Option Value
 | 0=>some p
 | 1=>some x
 | 2=>some y
 | 3=>some z
 | 4=>some a
 | 5=>some m
 | 6=>some p
 | _=>none
theorem OwnS.far {w:World} {base:Nat} {e:TypeId} {v:Value} {xs:List Int} (h:OwnS w base e v xs) {b i:Nat} (hb:b<base) (u:Value):OwnS (w.setCell ⟨b,i,none⟩ u) base e v xs:=
 (Frm.set w b i u).own h fun k hk hs=>by have:=(h.lt k hk).1;omega
theorem Cel.frmN {S:Nat->Prop} {W W':World} {g:Nat} {cs:List Value} (h:Cel W g cs) (hf:Frm S W W') (hn:¬S g):Cel W' g cs:=
 ⟨Nat.lt_of_lt_of_le h.lt hf.size,fun i x hx=>hf.cell' (h.cell i x hx) hn,fun i x hx=>(bE hf h.lt hn).trans (h.froz i x hx)⟩
end Go.Proofs.YtkaiilmgemaljaaGreat

/- Part of one proof. There are no conditions. -/
import Derived.Test.YtkaiilmgemaljaaGreatRD17
set_option maxHeartbeats 0
set_option linter.unusedVariables false
set_option linter.unusedSimpArgs false
set_option maxRecDepth 100000
namespace Go.Proofs.YtkaiilmgemaljaaGreat
open Go.RowKit
theorem l07Pair_any (a b:Int) (W:World):
  Calls Tryz.prog 200 #[.int .i64 a,.int .i64 b] W fun e W'=>e = .returned (.agg #[.int .i64 (max a b),.int .i64 (min a b)])/\Below W.heap.size W W':=by
 go_enter Tryz.func200,Tryz.ntmps200
 go_wp2_with (fail)
 refine bodyPost_ret (v:=.agg #[.int .i64 (max a b),.int .i64 (min a b)]) (by simp[results,Tryz.results200,go_sem]) rfl ⟨rfl,?_⟩
 repeat (with_reducible first|exact Below.refl _ _|refine Below.setCell ?_ (by simp) _|refine Below.alloc ?_ (by simp) _)
def RolP:RP:=fun v _=>∃a b,v = .agg #[.int .i64 a,.int .i64 b]
def RetGO (g:Nat) (C:Option Addr) (n cc:Nat) (bs:List Int) (W:World) (e:Ending) (W':World):Prop:=
 ∃a b,e = .returned (.agg #[.int .i64 a,.int .i64 b])/\SomG g C n cc bs W'/\Frm (fun j=>j=g) W W'
def dsR07:Nat->Nat
 | 0=>13
 | 1=>14
 | 2=>15
 | 3=>16
 | 4=>17
 | 5=>18
 | 6=>19
 | 7=>20
 | 8=>21
 | 9=>22
 | 10=>23
 | _=>0
theorem i4 (g:Nat) (C:Option Addr) (n c:Nat) (bs:List Int) (p cc h s:Int) (W:World) (hs:SomG g C n c bs W) (hs7:s<=7):
  Calls Tryz.prog 121 #[.pointer (some ⟨g,0,none⟩),.agg #[.int .i64 p,.int .i64 cc,.int .i64 h,.int .i64 s]] W (RetGO g C n c bs W):=by
 have hg:=hs.lt
 have HF0:Hid (FrS (fun j=>j=g) W ((W.alloc (.cells #[.int .i64 p,.int .i64 cc,.int .i64 h,.int .i64 s] 25)).alloc (.cells #[.int .i64 0,.int .i64 0] 39)) [[.int .i64 p,.int .i64 cc,.int .i64 h,.int .i64 s],[.int .i64 0,.int .i64 0]]):=((FrS.start W (fun k hk=>by rw[hk];exact hg)).allocT (by simp) _ _).allocT (by simp) _ _
 have HS0:=h_ ((hs.alloc (.cells #[.int .i64 p,.int .i64 cc,.int .i64 h,.int .i64 s] 25)).alloc (.cells #[.int .i64 0,.int .i64 0] 39));clear hs
 go_enter Tryz.func121,Tryz.ntmps121
 go_wp2_with (fail)
 refine (ax HS0.out (k:=20) (by omega)).mono ?_
 rintro e w1 ⟨k0,rfl,lx1,ux1,hs,hf⟩
 have HS1:=h_ hs;have HF1:=h_ (HF0.out.frm hf);clear hs hf HS0 HF0
 by_cases h0:k0=0
 ·have b0:(k0 == 0)=true:=by simp[h0]
  clear h0
  go_wp2_with (fail)
  refine (ax HS1.out (k:=8) (by omega)).mono ?_
  rintro e w2 ⟨ka,rfl,lx2,ux2,hs,hf⟩
  have HS2:=h_ hs;have HF2:=h_ (HF1.out.frm hf);clear hs hf HS1 HF1
  go_wp2_with (fail)
  refine (ax HS2.out (k:=8) (by omega)).mono ?_
  rintro e w3 ⟨kb,rfl,lx3,ux3,hs,hf⟩
  have HSZ:=h_ hs;have HFZ:=h_ (HF2.out.frm hf);clear hs hf HS2 HF2;obtain⟨z0,c00,f00,c01,f01,c02,f02,c03,f03,z1,c10,f10,c11,f11⟩:=HFZ.out.xf0
  go_wp2_with (fail)
  refine bodyPost_ret (v:=.agg #[.int .i64 ka,.int .i64 kb]) (by simp[results,Tryz.results121,go_sem,z1,c10,c11,f10,f11]) rfl ?_
  refine⟨ka,kb,rfl,?_,?_⟩
  ·repeat (with_reducible first|exact HSZ.out|refine SomG.set ?_ (by omega) _)
  ·repeat (with_reducible first|exact HFZ.out.f|refine Frm.ownSet ?_ (by omega) _)
 ·have b0:(k0 == 0)=false:=by simp[h0]
  clear h0
  go_wp2_with (fail)
  generalize w1=V at *;have HSV:=HS1;have hlo:g<V.heap.size:=HS1.out.lt
  refine bM 11 (fun _=>false) dsR07 (Frm (fun j=>j=g)) (SomG g C n c bs) (GL [Eqv (.pointer (some ⟨g,0,none⟩)),Eqv (.pointer (some ⟨W.heap.size,3,none⟩)),Eqv (.int .i64 s),IntP (fun x=>0<=x/\(x<s\/x=0)),IntP (fun x=>1<=x/\x<=8),Eqv (.pointer (some ⟨g,0,none⟩)),Eqv (.pointer (some ⟨W.heap.size,3,none⟩)),Eqv (.int .i64 s),IntP (fun x=>0<=x/\(x<s\/x=0)),IntP (fun x=>1<=x/\x<=8),RolP]) rfl (by kernel_rfl) (fun _ _ _ _ _ h=>h) (fun _ _ _ h1 h2=>h1.trans h2) (fun a=>Frm.refl _ a) (GL.stabG (AllG.cons (fS _ _) (AllG.cons ((fun _ _ _ h _=>h)) (AllG.cons ((fun _ _ _ h _=>h)) (AllG.cons ((fun _ _ _ h _=>h)) (AllG.cons ((fun _ _ _ h _=>h)) (AllG.cons (fS _ _) (AllG.cons ((fun _ _ _ h _=>h)) (AllG.cons ((fun _ _ _ h _=>h)) (AllG.cons ((fun _ _ _ h _=>h)) (AllG.cons ((fun _ _ _ h _=>h)) (AllG.cons ((fun _ _ _ h _=>h)) (AllG.nil))))))))))))) ((Frm.refl _ _).drew) (HSV.out.frm (O:=fun _=>False) ((Frm.refl _ _).drew) (fun _ h=>h.elim)) (fun i o' _ hX=>by cases hX) ?_ ?_
  ·intro i o' hi _ ho a' W3 hW hIW hfar hdep
   have e0:a'.tmps.getD 0 undef = .pointer (some ⟨g,0,none⟩):=(hfar 0 (by decide)).trans rfl
   have e3:a'.tmps.getD 3 undef = .pointer (some ⟨W.heap.size,0,none⟩):=(hfar 3 (by decide)).trans rfl
   have dep:∀j,j<11->Region.waitsFor .any _ i j=true->GL [Eqv (.pointer (some ⟨g,0,none⟩)),Eqv (.pointer (some ⟨W.heap.size,3,none⟩)),Eqv (.int .i64 s),IntP (fun x=>0<=x/\(x<s\/x=0)),IntP (fun x=>1<=x/\x<=8),Eqv (.pointer (some ⟨g,0,none⟩)),Eqv (.pointer (some ⟨W.heap.size,3,none⟩)),Eqv (.int .i64 s),IntP (fun x=>0<=x/\(x<s\/x=0)),IntP (fun x=>1<=x/\x<=8),RolP] j (a'.tmps.getD (dsR07 j) undef) W3:=hdep
   have hVW:V.heap.size<=W3.heap.size:=hW.size
   have hi8:i=0\/i=1\/i=2\/i=3\/i=4\/i=5\/i=6\/i=7\/i=8\/i=9\/i=10:=by omega
   clear hfar hdep hi
   rcases hi8 with rfl|rfl|rfl|rfl|rfl|rfl|rfl|rfl|rfl|rfl|rfl
   all_goals (simp at ho;subst ho)
   ·exact .inl ⟨.pointer (some ⟨g,0,none⟩),W3,by simp only[execOp,Act.eval,e0];go_simp,Frm.refl _ _,hIW,rfl⟩
   ·exact .inl ⟨.pointer (some ⟨W.heap.size,3,none⟩),W3,by simp only[execOp,Act.eval,e3];go_simp,Frm.refl _ _,hIW,rfl⟩
   ·have d1:a'.tmps.getD 14 undef = .pointer (some ⟨W.heap.size,3,none⟩):=dep 1 (by omega) (by kernel_rfl)
    have zz:=HF1.out.frm hW;have y3:=zz.c0 3 rfl
    exact .inl ⟨.int .i64 s,W3,by simp only[execOp,Act.eval,d1];go_simp,Frm.refl _ _,hIW,rfl⟩
   ·have d1:a'.tmps.getD 13 undef = .pointer (some ⟨g,0,none⟩):=dep 0 (by omega) (by kernel_rfl)
    have d2:a'.tmps.getD 15 undef = .int .i64 s:=dep 2 (by omega) (by kernel_rfl)
    refine .inr ⟨154,#[.pointer (some ⟨g,0,none⟩),.int .i64 s],by simp only[execOp,Act.eval,d1,d2];go_simp,?_⟩
    refine (ax hIW (k:=s) (by omega)).mono ?_
    rintro e W' ⟨x,rfl,hx1,hx2,hs',hf'⟩
    exact⟨_,rfl,hf',hs',⟨x,rfl,hx1,hx2⟩⟩
   ·obtain⟨x,d1,hx1,hx2⟩:(IntP (fun x=>0<=x/\(x<s\/x=0))) (a'.tmps.getD 16 undef) W3:=dep 3 (by omega) (by kernel_rfl)
    exact .inl ⟨.int .i64 (1+x),W3,by simp only[execOp,Act.eval,d1];go_simp;exact IntWalk.i64_in _ (by omega),Frm.refl _ _,hIW,⟨_,rfl,by omega,by omega⟩⟩
   ·exact .inl ⟨.pointer (some ⟨g,0,none⟩),W3,by simp only[execOp,Act.eval,e0];go_simp,Frm.refl _ _,hIW,rfl⟩
   ·exact .inl ⟨.pointer (some ⟨W.heap.size,3,none⟩),W3,by simp only[execOp,Act.eval,e3];go_simp,Frm.refl _ _,hIW,rfl⟩
   ·have d1:a'.tmps.getD 19 undef = .pointer (some ⟨W.heap.size,3,none⟩):=dep 6 (by omega) (by kernel_rfl)
    have zz:=HF1.out.frm hW;have y3:=zz.c0 3 rfl
    exact .inl ⟨.int .i64 s,W3,by simp only[execOp,Act.eval,d1];go_simp,Frm.refl _ _,hIW,rfl⟩
   ·have d1:a'.tmps.getD 18 undef = .pointer (some ⟨g,0,none⟩):=dep 5 (by omega) (by kernel_rfl)
    have d2:a'.tmps.getD 20 undef = .int .i64 s:=dep 7 (by omega) (by kernel_rfl)
    refine .inr ⟨154,#[.pointer (some ⟨g,0,none⟩),.int .i64 s],by simp only[execOp,Act.eval,d1,d2];go_simp,?_⟩
    refine (ax hIW (k:=s) (by omega)).mono ?_
    rintro e W' ⟨x,rfl,hx1,hx2,hs',hf'⟩
    exact⟨_,rfl,hf',hs',⟨x,rfl,hx1,hx2⟩⟩
   ·obtain⟨x,d1,hx1,hx2⟩:(IntP (fun x=>0<=x/\(x<s\/x=0))) (a'.tmps.getD 21 undef) W3:=dep 8 (by omega) (by kernel_rfl)
    exact .inl ⟨.int .i64 (1+x),W3,by simp only[execOp,Act.eval,d1];go_simp;exact IntWalk.i64_in _ (by omega),Frm.refl _ _,hIW,⟨_,rfl,by omega,by omega⟩⟩
   ·obtain⟨x,d1,hx1,hx2⟩:(IntP (fun x=>1<=x/\x<=8)) (a'.tmps.getD 17 undef) W3:=dep 4 (by omega) (by kernel_rfl)
    obtain⟨y,d2,hy1,hy2⟩:(IntP (fun x=>1<=x/\x<=8)) (a'.tmps.getD 22 undef) W3:=dep 9 (by omega) (by kernel_rfl)
    refine .inr ⟨200,#[.int .i64 x,.int .i64 y],by simp only[execOp,Act.eval,d1,d2];go_simp,?_⟩
    refine (l07Pair_any x y W3).mono ?_
    rintro e W' ⟨rfl,hb'⟩
    exact⟨_,rfl,Frm.of_below' _ hb',hIW.below hb',⟨_,_,rfl⟩⟩
  intro u W2 hW hIW hg
  have g0:u 0 = .pointer (some ⟨g,0,none⟩):=hg 0 (by omega)
  have g1:u 1 = .pointer (some ⟨W.heap.size,3,none⟩):=hg 1 (by omega)
  have g2:u 2 = .int .i64 s:=hg 2 (by omega)
  obtain⟨x3,g3,_⟩:(IntP (fun x=>0<=x/\(x<s\/x=0))) (u 3) W2:=hg 3 (by omega)
  obtain⟨x4,g4,_⟩:(IntP (fun x=>1<=x/\x<=8)) (u 4) W2:=hg 4 (by omega)
  have g5:u 5 = .pointer (some ⟨g,0,none⟩):=hg 5 (by omega)
  have g6:u 6 = .pointer (some ⟨W.heap.size,3,none⟩):=hg 6 (by omega)
  have g7:u 7 = .int .i64 s:=hg 7 (by omega)
  obtain⟨x8,g8,_⟩:(IntP (fun x=>0<=x/\(x<s\/x=0))) (u 8) W2:=hg 8 (by omega)
  obtain⟨x9,g9,_⟩:(IntP (fun x=>1<=x/\x<=8)) (u 9) W2:=hg 9 (by omega)
  obtain⟨qa,qb,g10⟩:(RolP) (u 10) W2:=hg 10 (by omega)
  simp only[List.drop_succ_cons,List.drop_zero,putV,dsR07,g0,g1,g2,g3,g4,g5,g6,g7,g8,g9,g10,Act.put]
  clear g0 g1 g2 g3 g4 g5 g6 g7 g8 g9 g10 hg;have HFZ:=h_ (HF1.out.frm hW);have HSZ:=h_ hIW;clear hW hIW HF1 HS1 HSV;obtain⟨z0,c00,f00,c01,f01,c02,f02,c03,f03,z1,c10,f10,c11,f11⟩:=HFZ.out.xf0
  go_wp2_with (fail)
  refine bodyPost_ret (v:=.agg #[.int .i64 qa,.int .i64 qb]) (by simp[results,Tryz.results121,go_sem,z1,c10,c11,f10,f11]) rfl ?_
  refine⟨qa,qb,rfl,?_,?_⟩
  ·repeat (with_reducible first|exact HSZ.out|refine SomG.set ?_ (by omega) _)
  ·repeat (with_reducible first|exact HFZ.out.f|refine Frm.ownSet ?_ (by omega) _)
end Go.Proofs.YtkaiilmgemaljaaGreat

/- Part of one proof. There are no conditions. -/
import Derived.Test.YtkaiilmgemaljaaGreatRD12
set_option maxHeartbeats 0
set_option linter.unusedVariables false
set_option linter.unusedSimpArgs false
set_option maxRecDepth 100000
namespace Go.Proofs.YtkaiilmgemaljaaGreat
open Go.RowKit
def RulP:RP:=fun v _=>∃m b j,v = .agg #[.int .i64 m,.bool b,.bool j]/\1<=m/\m<=1024
def dsR16:Nat->Nat
 | 0=>4
 | 1=>5
 | 2=>6
 | 3=>7
 | 4=>8
 | 5=>9
 | 6=>10
 | 7=>11
 | 8=>12
 | 9=>13
 | 10=>14
 | 11=>15
 | 12=>3
 | _=>0
def dsR17:Nat->Nat
 | 0=>8
 | 1=>9
 | 2=>10
 | 3=>11
 | 4=>12
 | 5=>13
 | 6=>14
 | 7=>15
 | 8=>16
 | _=>0
theorem io (g:Nat) (C:Option Addr) (n c:Nat) (bs:List Int) (W:World) (hs:SomG g C n c bs W):
  Calls Tryz.prog 227 #[.pointer (some ⟨g,0,none⟩)] W (RetGR g C n c bs W):=by
 have hg:=hs.lt
 have HF0:Hid (FrS (fun j=>j=g) W (W.alloc (.cells #[.int .i64 0,.bool false,.bool false] 53)) [[.int .i64 0,.bool false,.bool false]]):=(FrS.start W (fun k hk=>by rw[hk];exact hg)).allocT (by simp) _ _
 have HS0:=h_ (hs.alloc (.cells #[.int .i64 0,.bool false,.bool false] 53));clear hs
 go_enter Tryz.func227,Tryz.ntmps227
 go_wp2_with (fail)
 generalize hV:W.alloc (.cells #[.int .i64 0,.bool false,.bool false] 53)=V at *
 have hVz:V.heap.size=W.heap.size+1:=by rw[<- hV];simp
 clear hV;have HSV:=HS0
 have hlo:g<V.heap.size:=by omega
 refine bM 13 (fun _=>false) dsR16 (Frm (fun j=>j=g)) (SomG g C n c bs) (GL [SliP V.heap.size 7 [1,2,4,8,16,64,1024],Eqv (.pointer (some ⟨g,0,none⟩)),IntP (fun x=>0<=x/\(x<7\/x=0)),AdrP V.heap.size [1,2,4,8,16,64,1024],IntP (fun x=>1<=x/\x<=1024),Eqv (.pointer (some ⟨g,0,none⟩)),IntP (fun x=>0<=x/\(x<2\/x=0)),BooP,Eqv (.pointer (some ⟨g,0,none⟩)),IntP (fun x=>0<=x/\(x<2\/x=0)),BooP,RulP,Alc V.heap.size [.int .i64 0,.bool false,.bool false]]) rfl (by kernel_rfl) (fun _ _ _ _ _ h=>h) (fun _ _ _ h1 h2=>h1.trans h2) (fun a=>Frm.refl _ a) (GL.stabG (AllG.cons (stg_sli hlo _ _) (AllG.cons (fS _ _) (AllG.cons (cQ _ _) (AllG.cons (stg_adr hlo _) (AllG.cons (cQ _ _) (AllG.cons (fS _ _) (AllG.cons (cQ _ _) (AllG.cons (stg_boo _) (AllG.cons (fS _ _) (AllG.cons (cQ _ _) (AllG.cons (stg_boo _) (AllG.cons ((fun _ _ _ h _=>h)) (AllG.cons (stg_alc hlo _) (AllG.nil))))))))))))))) ((Frm.refl _ _).drew) (HSV.out.frm (O:=fun _=>False) ((Frm.refl _ _).drew) (fun _ h=>h.elim)) (fun i o' _ hX=>by cases hX) ?_ ?_
 ·intro i o' hi _ ho a' W3 hW hIW hfar hdep
  have e0:a'.tmps.getD 0 undef = .pointer (some ⟨g,0,none⟩):=(hfar 0 (by decide)).trans rfl
  have dep:∀j,j<13->Region.waitsFor .any _ i j=true->GL [SliP V.heap.size 7 [1,2,4,8,16,64,1024],Eqv (.pointer (some ⟨g,0,none⟩)),IntP (fun x=>0<=x/\(x<7\/x=0)),AdrP V.heap.size [1,2,4,8,16,64,1024],IntP (fun x=>1<=x/\x<=1024),Eqv (.pointer (some ⟨g,0,none⟩)),IntP (fun x=>0<=x/\(x<2\/x=0)),BooP,Eqv (.pointer (some ⟨g,0,none⟩)),IntP (fun x=>0<=x/\(x<2\/x=0)),BooP,RulP,Alc V.heap.size [.int .i64 0,.bool false,.bool false]] j (a'.tmps.getD (dsR16 j) undef) W3:=hdep
  have hVW:V.heap.size<=W3.heap.size:=hW.size
  have hi8:i=0\/i=1\/i=2\/i=3\/i=4\/i=5\/i=6\/i=7\/i=8\/i=9\/i=10\/i=11\/i=12:=by omega
  clear hfar hdep hi
  rcases hi8 with rfl|rfl|rfl|rfl|rfl|rfl|rfl|rfl|rfl|rfl|rfl|rfl|rfl
  all_goals (simp at ho;subst ho)
  ·exact .inl ⟨.slice (some ⟨W3.heap.size,0,none⟩) 7 7,W3.alloc (.cells #[.int .i64 (1),.int .i64 (2),.int .i64 (4),.int .i64 (8),.int .i64 (16),.int .i64 (64),.int .i64 (1024)] 2),by kernel_rfl,(Frm.refl _ _).alloc _,hIW.alloc _,⟨_,rfl,hVW,Cel.new W3 #[.int .i64 (1),.int .i64 (2),.int .i64 (4),.int .i64 (8),.int .i64 (16),.int .i64 (64),.int .i64 (1024)] _⟩⟩
  ·exact .inl ⟨.pointer (some ⟨g,0,none⟩),W3,by simp only[execOp,Act.eval,e0];go_simp,Frm.refl _ _,hIW,rfl⟩
  ·have d1:a'.tmps.getD 5 undef = .pointer (some ⟨g,0,none⟩):=dep 1 (by omega) (by kernel_rfl)
   refine .inr ⟨154,#[.pointer (some ⟨g,0,none⟩),.int .i64 7],by simp only[execOp,Act.eval,d1];go_simp,?_⟩
   refine (ax hIW (k:=7) (by omega)).mono ?_
   rintro e W' ⟨x,rfl,hx1,hx2,hs',hf'⟩
   exact⟨_,rfl,hf',hs',⟨x,rfl,hx1,hx2⟩⟩
  ·obtain⟨b,d1,hb,hc⟩:SliP V.heap.size 7 [1,2,4,8,16,64,1024] (a'.tmps.getD 4 undef) W3:=dep 0 (by omega) (by kernel_rfl)
   obtain⟨x,d2,hx1,hx2⟩:IntP (fun x=>0<=x/\(x<7\/x=0)) (a'.tmps.getD 6 undef) W3:=dep 2 (by omega) (by kernel_rfl)
   have hxx:x=0\/x=1\/x=2\/x=3\/x=4\/x=5\/x=6:=by omega
   rcases hxx with rfl|rfl|rfl|rfl|rfl|rfl|rfl
   ·exact .inl ⟨.pointer (some ⟨b,0,none⟩),W3,by simp only[execOp,Act.eval,d1,d2];go_simp,Frm.refl _ _,hIW,⟨b,0,rfl,hb,by decide,hc⟩⟩
   ·exact .inl ⟨.pointer (some ⟨b,1,none⟩),W3,by simp only[execOp,Act.eval,d1,d2];go_simp,Frm.refl _ _,hIW,⟨b,1,rfl,hb,by decide,hc⟩⟩
   ·exact .inl ⟨.pointer (some ⟨b,2,none⟩),W3,by simp only[execOp,Act.eval,d1,d2];go_simp,Frm.refl _ _,hIW,⟨b,2,rfl,hb,by decide,hc⟩⟩
   ·exact .inl ⟨.pointer (some ⟨b,3,none⟩),W3,by simp only[execOp,Act.eval,d1,d2];go_simp,Frm.refl _ _,hIW,⟨b,3,rfl,hb,by decide,hc⟩⟩
   ·exact .inl ⟨.pointer (some ⟨b,4,none⟩),W3,by simp only[execOp,Act.eval,d1,d2];go_simp,Frm.refl _ _,hIW,⟨b,4,rfl,hb,by decide,hc⟩⟩
   ·exact .inl ⟨.pointer (some ⟨b,5,none⟩),W3,by simp only[execOp,Act.eval,d1,d2];go_simp,Frm.refl _ _,hIW,⟨b,5,rfl,hb,by decide,hc⟩⟩
   ·exact .inl ⟨.pointer (some ⟨b,6,none⟩),W3,by simp only[execOp,Act.eval,d1,d2];go_simp,Frm.refl _ _,hIW,⟨b,6,rfl,hb,by decide,hc⟩⟩
  ·obtain⟨b,j,d1,hb,hj,hc⟩:AdrP V.heap.size [1,2,4,8,16,64,1024] (a'.tmps.getD 7 undef) W3:=dep 3 (by omega) (by kernel_rfl)
   have hjj:j=0\/j=1\/j=2\/j=3\/j=4\/j=5\/j=6:=by simp only[List.length_cons,List.length_nil]at hj;omega
   rcases hjj with rfl|rfl|rfl|rfl|rfl|rfl|rfl
   ·have y0:W3.cell? ⟨b,0,none⟩=some (.int .i64 (1)):=hc.cell 0 _ rfl
    exact .inl ⟨.int .i64 (1),W3,by simp only[execOp,Act.eval,d1];go_simp,Frm.refl _ _,hIW,⟨_,rfl,by decide⟩⟩
   ·have y0:W3.cell? ⟨b,1,none⟩=some (.int .i64 (2)):=hc.cell 1 _ rfl
    exact .inl ⟨.int .i64 (2),W3,by simp only[execOp,Act.eval,d1];go_simp,Frm.refl _ _,hIW,⟨_,rfl,by decide⟩⟩
   ·have y0:W3.cell? ⟨b,2,none⟩=some (.int .i64 (4)):=hc.cell 2 _ rfl
    exact .inl ⟨.int .i64 (4),W3,by simp only[execOp,Act.eval,d1];go_simp,Frm.refl _ _,hIW,⟨_,rfl,by decide⟩⟩
   ·have y0:W3.cell? ⟨b,3,none⟩=some (.int .i64 (8)):=hc.cell 3 _ rfl
    exact .inl ⟨.int .i64 (8),W3,by simp only[execOp,Act.eval,d1];go_simp,Frm.refl _ _,hIW,⟨_,rfl,by decide⟩⟩
   ·have y0:W3.cell? ⟨b,4,none⟩=some (.int .i64 (16)):=hc.cell 4 _ rfl
    exact .inl ⟨.int .i64 (16),W3,by simp only[execOp,Act.eval,d1];go_simp,Frm.refl _ _,hIW,⟨_,rfl,by decide⟩⟩
   ·have y0:W3.cell? ⟨b,5,none⟩=some (.int .i64 (64)):=hc.cell 5 _ rfl
    exact .inl ⟨.int .i64 (64),W3,by simp only[execOp,Act.eval,d1];go_simp,Frm.refl _ _,hIW,⟨_,rfl,by decide⟩⟩
   ·have y0:W3.cell? ⟨b,6,none⟩=some (.int .i64 (1024)):=hc.cell 6 _ rfl
    exact .inl ⟨.int .i64 (1024),W3,by simp only[execOp,Act.eval,d1];go_simp,Frm.refl _ _,hIW,⟨_,rfl,by decide⟩⟩
  ·exact .inl ⟨.pointer (some ⟨g,0,none⟩),W3,by simp only[execOp,Act.eval,e0];go_simp,Frm.refl _ _,hIW,rfl⟩
  ·have d1:a'.tmps.getD 9 undef = .pointer (some ⟨g,0,none⟩):=dep 5 (by omega) (by kernel_rfl)
   refine .inr ⟨154,#[.pointer (some ⟨g,0,none⟩),.int .i64 2],by simp only[execOp,Act.eval,d1];go_simp,?_⟩
   refine (ax hIW (k:=2) (by omega)).mono ?_
   rintro e W' ⟨x,rfl,hx1,hx2,hs',hf'⟩
   exact⟨_,rfl,hf',hs',⟨x,rfl,hx1,hx2⟩⟩
  ·obtain⟨x,d1,hx1,hx2⟩:IntP (fun x=>0<=x/\(x<2\/x=0)) (a'.tmps.getD 10 undef) W3:=dep 6 (by omega) (by kernel_rfl)
   exact .inl ⟨.bool (x == 0),W3,by simp only[execOp,Act.eval,d1];go_simp,Frm.refl _ _,hIW,⟨_,rfl⟩⟩
  ·exact .inl ⟨.pointer (some ⟨g,0,none⟩),W3,by simp only[execOp,Act.eval,e0];go_simp,Frm.refl _ _,hIW,rfl⟩
  ·have d1:a'.tmps.getD 12 undef = .pointer (some ⟨g,0,none⟩):=dep 8 (by omega) (by kernel_rfl)
   refine .inr ⟨154,#[.pointer (some ⟨g,0,none⟩),.int .i64 2],by simp only[execOp,Act.eval,d1];go_simp,?_⟩
   refine (ax hIW (k:=2) (by omega)).mono ?_
   rintro e W' ⟨x,rfl,hx1,hx2,hs',hf'⟩
   exact⟨_,rfl,hf',hs',⟨x,rfl,hx1,hx2⟩⟩
  ·obtain⟨x,d1,hx1,hx2⟩:IntP (fun x=>0<=x/\(x<2\/x=0)) (a'.tmps.getD 13 undef) W3:=dep 9 (by omega) (by kernel_rfl)
   exact .inl ⟨.bool (x == 0),W3,by simp only[execOp,Act.eval,d1];go_simp,Frm.refl _ _,hIW,⟨_,rfl⟩⟩
  ·obtain⟨x,d1,hx1,hx2⟩:IntP (fun x=>1<=x/\x<=1024) (a'.tmps.getD 8 undef) W3:=dep 4 (by omega) (by kernel_rfl)
   obtain⟨y,d2⟩:BooP (a'.tmps.getD 11 undef) W3:=dep 7 (by omega) (by kernel_rfl)
   obtain⟨z,d3⟩:BooP (a'.tmps.getD 14 undef) W3:=dep 10 (by omega) (by kernel_rfl)
   exact .inl ⟨.agg #[.int .i64 x,.bool y,.bool z],W3,by (simp only[execOp,Act.eval,d1,d2,d3];simp only[Array.getD_eq_getD_getElem?]at d1 d2 d3;go_simp),Frm.refl _ _,hIW,⟨x,y,z,rfl,by omega,by omega⟩⟩
  ·exact .inl ⟨.pointer (some ⟨W3.heap.size,0,none⟩),W3.alloc (.cells #[.int .i64 0,.bool false,.bool false] 53),by kernel_rfl,(Frm.refl _ _).alloc _,hIW.alloc _,alc_new _ _ _ hVW⟩
 intro u W2 hW hIW hg
 obtain⟨b0,g0,_,_⟩:SliP V.heap.size 7 [1,2,4,8,16,64,1024] (u 0) W2:=hg 0 (by omega)
 have g1:u 1 = .pointer (some ⟨g,0,none⟩):=hg 1 (by omega)
 obtain⟨x2,g2,_⟩:IntP (fun x=>0<=x/\(x<7\/x=0)) (u 2) W2:=hg 2 (by omega)
 obtain⟨b3,j3,g3,_⟩:AdrP V.heap.size [1,2,4,8,16,64,1024] (u 3) W2:=hg 3 (by omega)
 obtain⟨x4,g4,_⟩:IntP (fun x=>1<=x/\x<=1024) (u 4) W2:=hg 4 (by omega)
 have g5:u 5 = .pointer (some ⟨g,0,none⟩):=hg 5 (by omega)
 obtain⟨x6,g6,_⟩:IntP (fun x=>0<=x/\(x<2\/x=0)) (u 6) W2:=hg 6 (by omega)
 obtain⟨y7,g7⟩:BooP (u 7) W2:=hg 7 (by omega)
 have g8:u 8 = .pointer (some ⟨g,0,none⟩):=hg 8 (by omega)
 obtain⟨x9,g9,_⟩:IntP (fun x=>0<=x/\(x<2\/x=0)) (u 9) W2:=hg 9 (by omega)
 obtain⟨y10,g10⟩:BooP (u 10) W2:=hg 10 (by omega)
 obtain⟨m,ba,bj,g11,hm1,hm2⟩:(RulP) (u 11) W2:=hg 11 (by omega)
 obtain⟨gz,g12,gl,AL⟩:Alc V.heap.size [.int .i64 0,.bool false,.bool false] (u 12) W2:=hg 12 (by omega)
 simp only[List.drop_succ_cons,List.drop_zero,putV,dsR16,g0,g1,g2,g3,g4,g5,g6,g7,g8,g9,g10,g11,g12,Act.put]
 clear g0 g1 g2 g3 g4 g5 g6 g7 g8 g9 g10 g11 g12 hg;have HF1:=h_ (HF0.out.frm hW);have HS1:=h_ hIW;clear hW hIW HF0 HS0 HSV;have yc0:=AL.cell 0 _ rfl;have yc1:=AL.cell 1 _ rfl;have yc2:=AL.cell 2 _ rfl;have yf0:=AL.froz 0 _ rfl;have yf1:=AL.froz 1 _ rfl;have yf2:=AL.froz 2 _ rfl;have yz:=AL.lt;have HAL:=h_ AL;clear AL
 go_wp2_with (fail)
 have HFA:=h_ (HF1.out.out (fF W2 gz (.int .i64 m) (.bool ba) (.bool bj)) (fun k hk=>by rw[hk];simp;omega))
 have HSA:=h_ (HS1.out.frm (fF W2 gz (.int .i64 m) (.bool ba) (.bool bj)) (fun k hk=>by rw[hk];omega))
 have HCA:Hid (Cel (((W2.setCell ⟨gz,0,none⟩ (.int .i64 m)).setCell ⟨gz,1,none⟩ (.bool ba)).setCell ⟨gz,2,none⟩ (.bool bj)) gz [.int .i64 m,.bool ba,.bool bj]):=HAL.out.st3 _ _ _;clear HF1 HS1 HAL yc0 yc1 yc2 yf0 yf1 yf2 yz;generalize ((W2.setCell ⟨gz,0,none⟩ (.int .i64 m)).setCell ⟨gz,1,none⟩ (.bool ba)).setCell ⟨gz,2,none⟩ (.bool bj)=W5 at *
 refine (ax HSA.out (k:=24) (by omega)).mono ?_
 rintro e w6 ⟨k4,rfl,lk4,uk4,hs,hf⟩
 have HS6:=h_ hs;have HF6:=h_ (HFA.out.frm hf)
 have HC6:=h_ (HCA.out.frmN hf (by omega))
 clear hs hf HSA HFA HCA
 have hn1:¬W.heap.size=gz:=by omega
 have hn2:¬gz=W.heap.size:=by omega
 by_cases h0:k4=0
 ·subst h0
  go_wp2_with (fail)
  have HS7:=h_ (HS6.out.alloc (.cells (ivs [0,3,2048,-4]).toArray 2));have HF7:=h_ (HF6.out.alloc (.cells (ivs [0,3,2048,-4]).toArray 2));have HC7:=h_ (HC6.out.alloc (.cells (ivs [0,3,2048,-4]).toArray 2));have HL7:Hid (Cel (w6.alloc (.cells (ivs [0,3,2048,-4]).toArray 2)) w6.heap.size (ivs [0,3,2048,-4])):=Cel.new w6 (ivs [0,3,2048,-4]).toArray _;have hgs:gz<w6.heap.size:=HC6.out.lt
  simp only[ivs,List.map_cons,List.map_nil]at HS7 HF7 HC7 HL7
  clear HS6 HF6 HC6;generalize w6.alloc (.cells #[.int .i64 0,.int .i64 3,.int .i64 2048,.int .i64 (-4)] 2)=w7 at *;generalize w6.heap.size=gs at *
  refine (ax HS7.out (k:=4) (by omega)).mono ?_
  rintro e w8 ⟨x5,rfl,lx5,ux5,hs,hf⟩
  have HS8:=h_ hs;have HF8:=h_ (HF7.out.frm hf)
  have HC8:=h_ (HC7.out.frmN hf (by omega))
  have HL8:=h_ (HL7.out.frmN hf (by omega))
  clear hs hf HS7 HF7 HC7 HL7
  obtain⟨k,rfl⟩:∃k:Nat,x5=k:=⟨x5.toNat,by omega⟩
  have hk3:(k:Int)<4:=by omega
  obtain⟨y,hy,yc⟩:∃y:Int,(-4<=y/\y<=2048)/\w8.cell? ⟨gs,k,none⟩=some (.int .i64 y):=by
   have hk:k=0\/k=1\/k=2\/k=3:=by omega
   rcases hk with rfl|rfl|rfl|rfl
   all_goals exact⟨_,by decide,HL8.out.cell _ _ rfl⟩
  have hs8:gs<w8.heap.size:=HL8.out.lt;have HFZ:=HF8;have HSZ:=HS8
  have hn3:¬gs=gz:=by omega
  have hn4:¬gz=gs:=by omega
  have hn5:¬gs=W.heap.size:=by omega
  have hn6:¬W.heap.size=gs:=by omega
  have z0:=HFZ.out.l0 (by simp)
  have c00:=HFZ.out.c0 0 rfl;have f00:=HFZ.out.f0 0 rfl;have c01:=HFZ.out.c0 1 rfl;have f01:=HFZ.out.f0 1 rfl;have c02:=HFZ.out.c0 2 rfl;have f02:=HFZ.out.f0 2 rfl;have v0:=HC8.out.cell 0 _ rfl;have v1:=HC8.out.cell 1 _ rfl;have v2:=HC8.out.cell 2 _ rfl;have vf0:=HC8.out.froz 0 _ rfl;have vf1:=HC8.out.froz 1 _ rfl;have vf2:=HC8.out.froz 2 _ rfl;have vz:=HC8.out.lt
  go_wp2_with (fail)
  refine bodyPost_ret (v:=.agg #[.int .i64 y,.bool ba,.bool bj]) (by simp[results,Tryz.results227,go_sem,z0,c00,c01,c02,f00,f01,f02]) rfl ?_
  refine⟨y,ba,bj,rfl,⟨by omega,by omega⟩,?_,?_⟩
  ·repeat (with_reducible first|exact HSZ.out|refine SomG.set ?_ (by omega) _)
  ·repeat (with_reducible first|exact HFZ.out.f|refine Frm.ownSet ?_ (by omega) _)
 ·have b0:(k4 == 0)=false:=by simp[h0]
  have HFZ:=HF6;have HSZ:=HS6
  have z0:=HFZ.out.l0 (by simp)
  have c00:=HFZ.out.c0 0 rfl;have f00:=HFZ.out.f0 0 rfl;have c01:=HFZ.out.c0 1 rfl;have f01:=HFZ.out.f0 1 rfl;have c02:=HFZ.out.c0 2 rfl;have f02:=HFZ.out.f0 2 rfl;have v0:=HC6.out.cell 0 _ rfl;have v1:=HC6.out.cell 1 _ rfl;have v2:=HC6.out.cell 2 _ rfl;have vf0:=HC6.out.froz 0 _ rfl;have vf1:=HC6.out.froz 1 _ rfl;have vf2:=HC6.out.froz 2 _ rfl;have vz:=HC6.out.lt
  go_wp2_with (fail)
  refine bodyPost_ret (v:=.agg #[.int .i64 m,.bool ba,.bool bj]) (by simp[results,Tryz.results227,go_sem,z0,c00,c01,c02,f00,f01,f02]) rfl ?_
  refine⟨m,ba,bj,rfl,⟨by omega,by omega⟩,?_,?_⟩
  ·repeat (with_reducible first|exact HSZ.out|refine SomG.set ?_ (by omega) _)
  ·repeat (with_reducible first|exact HFZ.out.f|refine Frm.ownSet ?_ (by omega) _)
theorem im (g:Nat) (C:Option Addr) (n c:Nat) (bs:List Int) (W:World) (hs:SomG g C n c bs W):
  Calls Tryz.prog 183 #[.pointer (some ⟨g,0,none⟩)] W (RetGR g C n c bs W):=by
 have hg:=hs.lt
 have HF0:Hid (FrS (fun j=>j=g) W (W.alloc (.cells #[.int .i64 0,.bool false,.bool false] 53)) [[.int .i64 0,.bool false,.bool false]]):=(FrS.start W (fun k hk=>by rw[hk];exact hg)).allocT (by simp) _ _
 have HS0:=h_ (hs.alloc (.cells #[.int .i64 0,.bool false,.bool false] 53));clear hs
 go_enter Tryz.func183,Tryz.ntmps183
 go_wp2_with (fail)
 generalize hV:W.alloc (.cells #[.int .i64 0,.bool false,.bool false] 53)=V at *
 have hVz:V.heap.size=W.heap.size+1:=by rw[<- hV];simp
 clear hV
 refine (ax HS0.out (k:=30) (by omega)).mono ?_
 rintro e w1 ⟨k4,rfl,lk4,uk4,hs,hf⟩
 have HS1:=h_ hs;have HF1:=h_ (HF0.out.frm hf);clear hs hf HS0 HF0
 by_cases h0:k4=0
 focus
  subst h0
  go_wp2_with (fail)
  refine (io g C n c bs _ HS1.out).mono ?_
  rintro e w2 ⟨m,ba,bj,rfl,hm,hs,hf⟩
  have HSZ:=h_ hs;have HFZ:=h_ (HF1.out.frm hf);clear hs hf HS1 HF1;obtain⟨hm1,hm2⟩:=hm
  refine ?zb
 rotate_left
 focus
  have b0:(k4 == 0)=false:=by simp[h0]
  go_wp2_with (fail)
  generalize w1=V at *;have HSV:=HS1;have hlo:g<V.heap.size:=HS1.out.lt
  refine bM 9 (fun _=>false) dsR17 (Frm (fun j=>j=g)) (SomG g C n c bs) (GL [SliP V.heap.size 4 [1,2,4,8],Eqv (.pointer (some ⟨g,0,none⟩)),IntP (fun x=>0<=x/\(x<4\/x=0)),AdrP V.heap.size [1,2,4,8],IntP (fun x=>1<=x/\x<=8),Eqv (.pointer (some ⟨g,0,none⟩)),IntP (fun x=>0<=x/\(x<2\/x=0)),BooP,RulP]) rfl (by kernel_rfl) (fun _ _ _ _ _ h=>h) (fun _ _ _ h1 h2=>h1.trans h2) (fun a=>Frm.refl _ a) (GL.stabG (AllG.cons (stg_sli hlo _ _) (AllG.cons (fS _ _) (AllG.cons (cQ _ _) (AllG.cons (stg_adr hlo _) (AllG.cons (cQ _ _) (AllG.cons (fS _ _) (AllG.cons (cQ _ _) (AllG.cons (stg_boo _) (AllG.cons ((fun _ _ _ h _=>h)) (AllG.nil))))))))))) ((Frm.refl _ _).drew) (HSV.out.frm (O:=fun _=>False) ((Frm.refl _ _).drew) (fun _ h=>h.elim)) (fun i o' _ hX=>by cases hX) ?_ ?_
  ·intro i o' hi _ ho a' W3 hW hIW hfar hdep
   have e0:a'.tmps.getD 0 undef = .pointer (some ⟨g,0,none⟩):=(hfar 0 (by decide)).trans rfl
   have dep:∀j,j<9->Region.waitsFor .any _ i j=true->GL [SliP V.heap.size 4 [1,2,4,8],Eqv (.pointer (some ⟨g,0,none⟩)),IntP (fun x=>0<=x/\(x<4\/x=0)),AdrP V.heap.size [1,2,4,8],IntP (fun x=>1<=x/\x<=8),Eqv (.pointer (some ⟨g,0,none⟩)),IntP (fun x=>0<=x/\(x<2\/x=0)),BooP,RulP] j (a'.tmps.getD (dsR17 j) undef) W3:=hdep
   have hVW:V.heap.size<=W3.heap.size:=hW.size
   have hi8:i=0\/i=1\/i=2\/i=3\/i=4\/i=5\/i=6\/i=7\/i=8:=by omega
   clear hfar hdep hi
   rcases hi8 with rfl|rfl|rfl|rfl|rfl|rfl|rfl|rfl|rfl
   all_goals (simp at ho;subst ho)
   ·exact .inl ⟨.slice (some ⟨W3.heap.size,0,none⟩) 4 4,W3.alloc (.cells #[.int .i64 (1),.int .i64 (2),.int .i64 (4),.int .i64 (8)] 2),by kernel_rfl,(Frm.refl _ _).alloc _,hIW.alloc _,⟨_,rfl,hVW,Cel.new W3 #[.int .i64 (1),.int .i64 (2),.int .i64 (4),.int .i64 (8)] _⟩⟩
   ·exact .inl ⟨.pointer (some ⟨g,0,none⟩),W3,by simp only[execOp,Act.eval,e0];go_simp,Frm.refl _ _,hIW,rfl⟩
   ·have d1:a'.tmps.getD 9 undef = .pointer (some ⟨g,0,none⟩):=dep 1 (by omega) (by kernel_rfl)
    refine .inr ⟨154,#[.pointer (some ⟨g,0,none⟩),.int .i64 4],by simp only[execOp,Act.eval,d1];go_simp,?_⟩
    refine (ax hIW (k:=4) (by omega)).mono ?_
    rintro e W' ⟨x,rfl,hx1,hx2,hs',hf'⟩
    exact⟨_,rfl,hf',hs',⟨x,rfl,hx1,hx2⟩⟩
   ·obtain⟨b,d1,hb,hc⟩:SliP V.heap.size 4 [1,2,4,8] (a'.tmps.getD 8 undef) W3:=dep 0 (by omega) (by kernel_rfl)
    obtain⟨x,d2,hx1,hx2⟩:IntP (fun x=>0<=x/\(x<4\/x=0)) (a'.tmps.getD 10 undef) W3:=dep 2 (by omega) (by kernel_rfl)
    have hxx:x=0\/x=1\/x=2\/x=3:=by omega
    rcases hxx with rfl|rfl|rfl|rfl
    ·exact .inl ⟨.pointer (some ⟨b,0,none⟩),W3,by simp only[execOp,Act.eval,d1,d2];go_simp,Frm.refl _ _,hIW,⟨b,0,rfl,hb,by decide,hc⟩⟩
    ·exact .inl ⟨.pointer (some ⟨b,1,none⟩),W3,by simp only[execOp,Act.eval,d1,d2];go_simp,Frm.refl _ _,hIW,⟨b,1,rfl,hb,by decide,hc⟩⟩
    ·exact .inl ⟨.pointer (some ⟨b,2,none⟩),W3,by simp only[execOp,Act.eval,d1,d2];go_simp,Frm.refl _ _,hIW,⟨b,2,rfl,hb,by decide,hc⟩⟩
    ·exact .inl ⟨.pointer (some ⟨b,3,none⟩),W3,by simp only[execOp,Act.eval,d1,d2];go_simp,Frm.refl _ _,hIW,⟨b,3,rfl,hb,by decide,hc⟩⟩
   ·obtain⟨b,j,d1,hb,hj,hc⟩:AdrP V.heap.size [1,2,4,8] (a'.tmps.getD 11 undef) W3:=dep 3 (by omega) (by kernel_rfl)
    have hjj:j=0\/j=1\/j=2\/j=3:=by simp only[List.length_cons,List.length_nil]at hj;omega
    rcases hjj with rfl|rfl|rfl|rfl
    ·have y0:W3.cell? ⟨b,0,none⟩=some (.int .i64 (1)):=hc.cell 0 _ rfl
     exact .inl ⟨.int .i64 (1),W3,by simp only[execOp,Act.eval,d1];go_simp,Frm.refl _ _,hIW,⟨_,rfl,by decide⟩⟩
    ·have y0:W3.cell? ⟨b,1,none⟩=some (.int .i64 (2)):=hc.cell 1 _ rfl
     exact .inl ⟨.int .i64 (2),W3,by simp only[execOp,Act.eval,d1];go_simp,Frm.refl _ _,hIW,⟨_,rfl,by decide⟩⟩
    ·have y0:W3.cell? ⟨b,2,none⟩=some (.int .i64 (4)):=hc.cell 2 _ rfl
     exact .inl ⟨.int .i64 (4),W3,by simp only[execOp,Act.eval,d1];go_simp,Frm.refl _ _,hIW,⟨_,rfl,by decide⟩⟩
    ·have y0:W3.cell? ⟨b,3,none⟩=some (.int .i64 (8)):=hc.cell 3 _ rfl
     exact .inl ⟨.int .i64 (8),W3,by simp only[execOp,Act.eval,d1];go_simp,Frm.refl _ _,hIW,⟨_,rfl,by decide⟩⟩
   ·exact .inl ⟨.pointer (some ⟨g,0,none⟩),W3,by simp only[execOp,Act.eval,e0];go_simp,Frm.refl _ _,hIW,rfl⟩
   ·have d1:a'.tmps.getD 13 undef = .pointer (some ⟨g,0,none⟩):=dep 5 (by omega) (by kernel_rfl)
    refine .inr ⟨154,#[.pointer (some ⟨g,0,none⟩),.int .i64 2],by simp only[execOp,Act.eval,d1];go_simp,?_⟩
    refine (ax hIW (k:=2) (by omega)).mono ?_
    rintro e W' ⟨x,rfl,hx1,hx2,hs',hf'⟩
    exact⟨_,rfl,hf',hs',⟨x,rfl,hx1,hx2⟩⟩
   ·obtain⟨x,d1,hx1,hx2⟩:IntP (fun x=>0<=x/\(x<2\/x=0)) (a'.tmps.getD 14 undef) W3:=dep 6 (by omega) (by kernel_rfl)
    exact .inl ⟨.bool (x == 0),W3,by simp only[execOp,Act.eval,d1];go_simp,Frm.refl _ _,hIW,⟨_,rfl⟩⟩
   ·obtain⟨x,d1,hx1,hx2⟩:IntP (fun x=>1<=x/\x<=8) (a'.tmps.getD 12 undef) W3:=dep 4 (by omega) (by kernel_rfl)
    obtain⟨y,d2⟩:BooP (a'.tmps.getD 15 undef) W3:=dep 7 (by omega) (by kernel_rfl)
    exact .inl ⟨.agg #[.int .i64 x,.bool y,.bool false],W3,by (simp only[execOp,Act.eval,d1,d2];simp only[Array.getD_eq_getD_getElem?]at d1 d2;go_simp),Frm.refl _ _,hIW,⟨x,y,false,rfl,by omega,by omega⟩⟩
  intro u W2 hW hIW hg
  obtain⟨b0,g0,_,_⟩:SliP V.heap.size 4 [1,2,4,8] (u 0) W2:=hg 0 (by omega)
  have g1:u 1 = .pointer (some ⟨g,0,none⟩):=hg 1 (by omega)
  obtain⟨x2,g2,_⟩:IntP (fun x=>0<=x/\(x<4\/x=0)) (u 2) W2:=hg 2 (by omega)
  obtain⟨b3,j3,g3,_⟩:AdrP V.heap.size [1,2,4,8] (u 3) W2:=hg 3 (by omega)
  obtain⟨x4,g4,_⟩:IntP (fun x=>1<=x/\x<=8) (u 4) W2:=hg 4 (by omega)
  have g5:u 5 = .pointer (some ⟨g,0,none⟩):=hg 5 (by omega)
  obtain⟨x6,g6,_⟩:IntP (fun x=>0<=x/\(x<2\/x=0)) (u 6) W2:=hg 6 (by omega)
  obtain⟨y7,g7⟩:BooP (u 7) W2:=hg 7 (by omega)
  obtain⟨m,ba,bj,g8,hm1,hm2⟩:(RulP) (u 8) W2:=hg 8 (by omega)
  simp only[List.drop_succ_cons,List.drop_zero,putV,dsR17,g0,g1,g2,g3,g4,g5,g6,g7,g8,Act.put]
  clear g0 g1 g2 g3 g4 g5 g6 g7 g8 hg;have HFZ:=h_ (HF1.out.frm hW);have HSZ:=h_ hIW;clear hW hIW HF1 HS1 HSV
  refine ?za
 rotate_left
 case za|zb=>
  have z0:=HFZ.out.l0 (by simp)
  have c00:=HFZ.out.c0 0 rfl;have f00:=HFZ.out.f0 0 rfl;have c01:=HFZ.out.c0 1 rfl;have f01:=HFZ.out.f0 1 rfl;have c02:=HFZ.out.c0 2 rfl;have f02:=HFZ.out.f0 2 rfl
  go_wp2_with (fail)
  refine bodyPost_ret (v:=.agg #[.int .i64 m,.bool ba,.bool bj]) (by simp[results,Tryz.results183,go_sem,z0,c00,c01,c02,f00,f01,f02]) rfl ?_
  refine⟨m,ba,bj,rfl,⟨by omega,by omega⟩,?_,?_⟩
  ·repeat (with_reducible first|exact HSZ.out|refine SomG.set ?_ (by omega) _)
  ·repeat (with_reducible first|exact HFZ.out.f|refine Frm.ownSet ?_ (by omega) _)
end Go.Proofs.YtkaiilmgemaljaaGreat
